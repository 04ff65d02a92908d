/- Layer 9: what a parse uses up. No program in sight. · Layer 9: a parse adds nodes. No program in sight. · Layers 7, 9: what the lexer and the parser can yield. No program in sight. -/
import Derived.Laws.CopyOwn
import Derived.Test.YtamcgggmfghljaaGreatDoorB24
set_option maxRecDepth 100000
set_option maxHeartbeats 8000000
namespace Go.Proofs.YtamcgggmfghljaaGreatDoor

theorem thenS_ok {r : PRes} {f : PSt → PRes} {st' : PSt} (h : thenS r f = .ok st') : ∃ st1, r = .ok st1 ∧ f st1 = .ok st' := by
  cases r with
  | error e => cases h
  | ok st1 => exact ⟨st1, rfl, h⟩
theorem skip_len (st : PSt) : (skipS st).1.length = st.1.length - 1 := by simp [skipS]
theorem skip_two (st : PSt) : (skipS st).2 = st.2 := rfl
theorem put_one (n : Nod) (st : PSt) : (putS n st).1 = st.1 := rfl
theorem put_len (n : Nod) (st : PSt) : (putS n st).2.length = st.2.length + 1 := by simp [putS]
theorem head_pos {e : Int} {st : PSt} (h : (headS e st).kind ≠ 0) : 1 ≤ st.1.length := List.length_pos_iff.2 (head_ne h)
theorem isOp_pos {e : Int} {st : PSt} {op : Int} (h : isOpS e st op = true) : 1 ≤ st.1.length := by
  refine head_pos (e := e) ?_
  unfold isOpS at h
  rw [Bool.and_eq_true, decide_eq_true_eq, decide_eq_true_eq] at h
  omega
/-- At least one token is used. -/
def usesS : Stg → Nat
  | .loop _ => 0
  | .pctl => 0
  | _ => 1
theorem want_ok {e k : Int} {st st' : PSt} (hk : k ≠ 0) (h : wantK e k st = .ok st') : st' = skipS st ∧ 1 ≤ st.1.length := by
  unfold wantK at h
  split at h
  · cases h
  · rename_i hh
    cases h
    exact ⟨rfl, head_pos (e := e) (by omega)⟩
theorem done_ok {e : Int} {name : Tok} {fn n : Nat} {st st' : PSt} (h : doneS e name fn n st = .ok st') : st'.1.length + 1 ≤ st.1.length ∧ st'.1.length + st'.2.length ≤ st.1.length + st.2.length := by
  unfold doneS at h
  split at h
  · cases h
  · rename_i hk
    have hp := head_pos (e := e) (st := st) (by omega)
    split at h
    · cases h
    · split at h
      · cases h
      · cases h
        rw [put_one, put_len, skip_len, skip_two]
        omega
/-- Tokens and nodes together do not grow. -/
theorem par_len (e : Int) : ∀ (f : Nat) (g : Stg) (st st' : PSt), parS e f g st = .ok st' → st'.1.length + usesS g ≤ st.1.length ∧ st'.1.length + st'.2.length ≤ st.1.length + st.2.length
  | 0, g, st, st', h => by cases g <;> simp [parS] at h
  | f + 1, .level k, st, st', h => by
    unfold parS at h
    obtain ⟨s1, h1, h2⟩ := thenS_ok h
    have a := par_len e f _ _ _ h1
    have b := par_len e f _ _ _ h2
    have c : usesS (if k < 4 then .level (k + 1) else .sign) = 1 := by split <;> rfl
    rw [c] at a
    simp only [usesS] at b ⊢
    omega
  | f + 1, .loop k, st, st', h => by
    unfold parS at h
    split at h
    · cases h
      simp [usesS]
    · rename_i hk
      have hp := head_pos (e := e) (st := st) (by omega)
      obtain ⟨s1, h1, h2⟩ := thenS_ok h
      have a := par_len e f _ _ _ h1
      have b := par_len e f _ _ _ h2
      rw [put_one, put_len] at b
      rw [skip_len, skip_two] at a
      simp only [usesS] at b ⊢
      omega
  | f + 1, .sign, st, st', h => by
    unfold parS at h
    split at h
    · rename_i hk
      have hp := isOp_pos hk
      obtain ⟨s1, h1, h2⟩ := thenS_ok h
      have a := par_len e f _ _ _ h1
      rw [skip_len, skip_two] at a
      cases h2
      rw [put_one, put_len]
      simp only [usesS] at a ⊢
      omega
    · obtain ⟨s1, h1, h2⟩ := thenS_ok h
      have a := par_len e f _ _ _ h1
      split at h2
      · rename_i hk
        have hp := isOp_pos hk
        obtain ⟨s2, h3, h4⟩ := thenS_ok h2
        have b := par_len e f _ _ _ h3
        rw [skip_len, skip_two] at b
        cases h4
        rw [put_one, put_len]
        simp only [usesS] at a b ⊢
        omega
      · cases h2
        exact a
  | f + 1, .pct, st, st', h => by
    unfold parS at h
    obtain ⟨s1, h1, h2⟩ := thenS_ok h
    have a := par_len e f _ _ _ h1
    have b := par_len e f _ _ _ h2
    simp only [usesS] at a b ⊢
    omega
  | f + 1, .pctl, st, st', h => by
    unfold parS at h
    split at h
    · rename_i hk
      have hp := isOp_pos hk
      have a := par_len e f _ _ _ h
      rw [put_one, put_len, skip_len, skip_two] at a
      simp only [usesS] at a ⊢
      omega
    · cases h
      simp [usesS]
  | f + 1, .prim, st, st', h => by
    unfold parS at h
    simp only [usesS]
    have leaf : ∀ n : Nod, (headS e st).kind ≠ 0 → (putS n (skipS st)).1.length + 1 ≤ st.1.length ∧ (putS n (skipS st)).1.length + (putS n (skipS st)).2.length ≤ st.1.length + st.2.length := fun n hk => by
      have hp := head_pos hk
      rw [put_one, put_len, skip_len, skip_two]
      omega
    simp only at h
    split at h
    · cases h; exact leaf _ (by omega)
    split at h
    · cases h; exact leaf _ (by omega)
    split at h
    · cases h; exact leaf _ (by omega)
    split at h
    · cases h; exact leaf _ (by omega)
    split at h
    · cases h; exact leaf _ (by omega)
    split at h
    · rename_i hk
      have hp := head_pos (e := e) (st := st) (by omega)
      obtain ⟨s1, h1, h2⟩ := thenS_ok h
      have a := par_len e f _ _ _ h1
      obtain ⟨rfl, hq⟩ := want_ok (by omega) h2
      rw [skip_len, skip_two] at a ⊢
      simp only [usesS] at a
      omega
    split at h
    · have a := par_len e f _ _ _ h
      simp only [usesS] at a
      exact a
    · cases h
  | f + 1, .call name, st, st', h => by
    unfold parS at h
    split at h
    · cases h
    · obtain ⟨s1, h1, h2⟩ := thenS_ok h
      obtain ⟨rfl, hq⟩ := want_ok (by omega) h1
      split at h2
      · have a := done_ok h2
        rw [skip_len, skip_two, skip_len, skip_two] at a
        simp only [usesS]
        omega
      · have a := par_len e f _ _ _ h2
        rw [skip_len, skip_two, skip_len, skip_two] at a
        simp only [usesS] at a ⊢
        omega
  | f + 1, .args name fn n, st, st', h => by
    unfold parS at h
    obtain ⟨s1, h1, h2⟩ := thenS_ok h
    have a := par_len e f _ _ _ h1
    split at h2
    · rename_i hk
      have hp := head_pos (e := e) (st := s1) (by omega)
      have b := par_len e f _ _ _ h2
      rw [skip_len, skip_two] at b
      simp only [usesS] at a b ⊢
      omega
    · have b := done_ok h2
      simp only [usesS] at a b ⊢
      omega
  | f + 1, .arg fn n, st, st', h => by
    unfold parS at h
    split at h
    · have a := par_len e f _ _ _ h
      simp only [usesS] at a ⊢
      exact a
    · rename_i hk
      have hp := head_pos (e := e) (st := st) (by omega)
      split at h
      · cases h
      · cases h
        rw [put_one, put_len, skip_len, skip_two]
        simp only [usesS]
        omega
theorem done_grow {e : Int} {name : Tok} {fn n : Nat} {st st' : PSt} (h : doneS e name fn n st = .ok st') : st.2.length + 1 ≤ st'.2.length := by
  unfold doneS at h
  split at h
  · cases h
  · split at h
    · cases h
    · split at h
      · cases h
      · cases h
        rw [put_len, skip_two]
        omega
/-- Nodes are added. -/
theorem par_grow (e : Int) : ∀ (f : Nat) (g : Stg) (st st' : PSt), parS e f g st = .ok st' → st.2.length + usesS g ≤ st'.2.length
  | 0, g, st, st', h => by cases g <;> simp [parS] at h
  | f + 1, .level k, st, st', h => by
    unfold parS at h
    obtain ⟨s1, h1, h2⟩ := thenS_ok h
    have a := par_grow e f _ _ _ h1
    have b := par_grow e f _ _ _ h2
    have c : usesS (if k < 4 then .level (k + 1) else .sign) = 1 := by split <;> rfl
    rw [c] at a
    simp only [usesS] at b ⊢
    omega
  | f + 1, .loop k, st, st', h => by
    unfold parS at h
    split at h
    · cases h
      simp [usesS]
    · rename_i hk
      have hp := head_pos (e := e) (st := st) (by omega)
      obtain ⟨s1, h1, h2⟩ := thenS_ok h
      have a := par_grow e f _ _ _ h1
      have b := par_grow e f _ _ _ h2
      rw [put_len] at b
      rw [skip_two] at a
      simp only [usesS] at b ⊢
      omega
  | f + 1, .sign, st, st', h => by
    unfold parS at h
    split at h
    · rename_i hk
      have hp := isOp_pos hk
      obtain ⟨s1, h1, h2⟩ := thenS_ok h
      have a := par_grow e f _ _ _ h1
      rw [skip_two] at a
      cases h2
      rw [put_len]
      simp only [usesS] at a ⊢
      omega
    · obtain ⟨s1, h1, h2⟩ := thenS_ok h
      have a := par_grow e f _ _ _ h1
      split at h2
      · rename_i hk
        have hp := isOp_pos hk
        obtain ⟨s2, h3, h4⟩ := thenS_ok h2
        have b := par_grow e f _ _ _ h3
        rw [skip_two] at b
        cases h4
        rw [put_len]
        simp only [usesS] at a b ⊢
        omega
      · cases h2
        exact a
  | f + 1, .pct, st, st', h => by
    unfold parS at h
    obtain ⟨s1, h1, h2⟩ := thenS_ok h
    have a := par_grow e f _ _ _ h1
    have b := par_grow e f _ _ _ h2
    simp only [usesS] at a b ⊢
    omega
  | f + 1, .pctl, st, st', h => by
    unfold parS at h
    split at h
    · rename_i hk
      have hp := isOp_pos hk
      have a := par_grow e f _ _ _ h
      rw [put_len, skip_two] at a
      simp only [usesS] at a ⊢
      omega
    · cases h
      simp [usesS]
  | f + 1, .prim, st, st', h => by
    unfold parS at h
    simp only [usesS]
    have leaf : ∀ n : Nod, (headS e st).kind ≠ 0 → st.2.length + 1 ≤ (putS n (skipS st)).2.length := fun n hk => by
      have hp := head_pos hk
      rw [put_len, skip_two]
      omega
    simp only at h
    split at h
    · cases h; exact leaf _ (by omega)
    split at h
    · cases h; exact leaf _ (by omega)
    split at h
    · cases h; exact leaf _ (by omega)
    split at h
    · cases h; exact leaf _ (by omega)
    split at h
    · cases h; exact leaf _ (by omega)
    split at h
    · rename_i hk
      have hp := head_pos (e := e) (st := st) (by omega)
      obtain ⟨s1, h1, h2⟩ := thenS_ok h
      have a := par_grow e f _ _ _ h1
      obtain ⟨rfl, hq⟩ := want_ok (by omega) h2
      rw [skip_two] at a ⊢
      simp only [usesS] at a
      omega
    split at h
    · have a := par_grow e f _ _ _ h
      simp only [usesS] at a
      exact a
    · cases h
  | f + 1, .call name, st, st', h => by
    unfold parS at h
    split at h
    · cases h
    · obtain ⟨s1, h1, h2⟩ := thenS_ok h
      obtain ⟨rfl, hq⟩ := want_ok (by omega) h1
      split at h2
      · have a := done_grow h2
        rw [skip_two, skip_two] at a
        simp only [usesS]
        omega
      · have a := par_grow e f _ _ _ h2
        rw [skip_two, skip_two] at a
        simp only [usesS] at a ⊢
        omega
  | f + 1, .args name fn n, st, st', h => by
    unfold parS at h
    obtain ⟨s1, h1, h2⟩ := thenS_ok h
    have a := par_grow e f _ _ _ h1
    split at h2
    · rename_i hk
      have hp := head_pos (e := e) (st := s1) (by omega)
      have b := par_grow e f _ _ _ h2
      rw [skip_two] at b
      simp only [usesS] at a b ⊢
      omega
    · have b := done_grow h2
      simp only [usesS] at a b ⊢
      omega
  | f + 1, .arg fn n, st, st', h => by
    unfold parS at h
    split at h
    · have a := par_grow e f _ _ _ h
      simp only [usesS] at a ⊢
      exact a
    · rename_i hk
      have hp := head_pos (e := e) (st := st) (by omega)
      split at h
      · cases h
      · cases h
        rw [put_len, skip_two]
        simp only [usesS]
        omega
inductive TokOk : Tok → Prop where
  | num (v : Int) (i : Int) (h : 0 ≤ v) : TokOk ⟨1, v, [], z4, i⟩
  | text (x : Bytes) (i : Int) (h : txtE x = 0) : TokOk ⟨2, 0, x, z4, i⟩
  | bool (v : Int) (i : Int) (h : v = 0 ∨ v = 1) : TokOk ⟨3, v, [], z4, i⟩
  | err (v : Int) (i : Int) (h1 : 1 ≤ v) (h2 : v ≤ 5) : TokOk ⟨4, v, [], z4, i⟩
  | ref (r : Rct) (i : Int) (h1 : rctB r = true) (h2 : oneRB r = true) : TokOk ⟨5, 0, [], r, i⟩
  | range (r : Rct) (i : Int) (h1 : rctB r = true) (h2 : oneRB r = false) : TokOk ⟨6, 0, [], r, i⟩
  | name (x : Bytes) (i : Int) : TokOk ⟨7, 0, x, z4, i⟩
  | op (v : Int) (i : Int) (h1 : 1 ≤ v) (h2 : v ≤ 13) : TokOk ⟨8, v, [], z4, i⟩
  | sign (k : Int) (i : Int) (h : 9 ≤ k) : TokOk ⟨k, 0, [], z4, i⟩
inductive NodOk : Nod → Prop where
  | num (v : Int) (h : 0 ≤ v) : NodOk { nod0 1 with vk := 1, vn := v }
  | text (x : Bytes) (h : txtE x = 0) : NodOk { nod0 1 with vk := 3, vt := x }
  | bool (v : Int) (h : v = 0 ∨ v = 1) : NodOk { nod0 1 with vk := 2, vn := v }
  | err (v : Int) (h1 : 1 ≤ v) (h2 : v ≤ 5) : NodOk { nod0 1 with vk := 4, vn := v }
  | ref (r : Rct) (h1 : rctB r = true) (h2 : oneRB r = true) : NodOk { nod0 2 with rect := r }
  | range (r : Rct) (h1 : rctB r = true) (h2 : oneRB r = false) : NodOk { nod0 3 with rect := r }
  | neg : NodOk (nod0 4)
  | pct : NodOk (nod0 5)
  | binary (v : Int) (h1 : 1 ≤ v) (h2 : v ≤ 12) : NodOk { nod0 6 with op := v }
  | call (fn n : Nat) (h1 : 1 ≤ fn) (h2 : fn ≤ 50) (h3 : (arityS fn).1 ≤ n) (h4 : (n : Int) ≤ (arityS fn).2.1) : NodOk { nod0 7 with fn := fn, n := n }
theorem parseD_pos {s : Bytes} (h : negB s = false) : 0 ≤ (parseD s).1 := by
  unfold parseD
  split
  · simp
  · split
    · simp
    · split
      · simp
      · rw [if_neg (by rw [h]; simp)]
        simp
theorem prB_pltB (x : Bytes) (h : pltB x = true) : prB x = true := by
  unfold pltB at h
  unfold prB
  simpa using h
theorem unqL_all (p : UInt8 → Bool) : ∀ (n : Nat) (s o : Bytes), s.length ≤ n → s.all p = true → unqL s = some o → o.all p = true
  | _, [], o, _, _, h => by simp [unqL] at h; subst h; rfl
  | n + 1, [c], o, hn, hs, h => by
    unfold unqL at h
    split at h
    · cases h
    · cases h; exact hs
  | n + 1, c :: d :: t, o, hn, hs, h => by
    unfold unqL at h
    rw [List.all_cons, List.all_cons, Bool.and_eq_true, Bool.and_eq_true] at hs
    split at h
    · split at h
      · obtain ⟨o2, h2, rfl⟩ := Option.map_eq_some_iff.1 h
        have := unqL_all p n t o2 (by simp at hn; omega) hs.2.2 h2
        rw [List.all_cons, Bool.and_eq_true]
        rename_i hc _
        subst hc
        exact ⟨hs.1, this⟩
      · cases h
    · obtain ⟨o2, h2, rfl⟩ := Option.map_eq_some_iff.1 h
      have := unqL_all p n (d :: t) o2 (by simp at hn ⊢; omega) (by rw [List.all_cons, Bool.and_eq_true]; exact hs.2) h2
      rw [List.all_cons, Bool.and_eq_true]
      exact ⟨hs.1, this⟩
theorem unqB_ok {s : Bytes} (h : (unqB s).2 = 0) : txtE (unqB s).1 = 0 := by
  unfold unqB at h ⊢
  split
  · rename_i hc; rw [if_pos hc] at h; simp at h
  · rename_i hc
    rw [if_neg hc] at h
    split
    · rename_i hx; rw [hx] at h; simp at h
    · rename_i o hx
      rw [hx] at h
      simp only at h ⊢
      split
      · rename_i hl; rw [if_pos hl] at h; simp at h
      · rename_i hl
        unfold txtE
        rw [if_neg hl, if_pos]
        refine prB_pltB _ (unqL_all _ _ _ _ (Nat.le_refl _) ?_ hx)
        have hp : pltB s = true := by
          rw [not_or, not_or, not_or] at hc
          simpa using hc.2.2.2
        unfold pltB at hp
        rw [List.all_eq_true] at hp ⊢
        intro c hcm
        exact hp c (List.mem_of_mem_drop (List.mem_of_mem_take hcm))
theorem valid_of {s : Bytes} (h : (parA s).2 = 0) : validB (parA s).1.col (parA s).1.row = true := by
  unfold parA at h ⊢
  split
  · rename_i hc; rw [if_pos hc] at h; simp at h
  · rename_i hc
    rw [if_neg hc] at h
    split
    · assumption
    · rename_i hv; rw [if_neg hv] at h; simp at h
theorem rct_of {c1 r1 c2 r2 : Int} (h : 1 ≤ c1 ∧ c1 ≤ c2 ∧ c2 ≤ 1024 ∧ 1 ≤ r1 ∧ r1 ≤ r2 ∧ r2 ≤ 1024) : rctB ⟨c1, r1, c2, r2⟩ = true := by
  simp only [rctB, validB, Bool.and_eq_true, decide_eq_true_eq]
  omega
theorem hull_ok {a b : Ref} (ha : validB a.col a.row = true) (hb : validB b.col b.row = true) : rctB (hullR a b) = true := by
  simp only [validB, Bool.and_eq_true, decide_eq_true_eq] at ha hb
  exact rct_of (by omega)
theorem hull_one (a b : Ref) : oneRB (hullR a b) = decide (a = b) := by
  obtain ⟨a1, a2⟩ := a
  obtain ⟨b1, b2⟩ := b
  have e1 : min a1 b1 = max a1 b1 ↔ a1 = b1 := by omega
  have e2 : min a2 b2 = max a2 b2 ↔ a2 = b2 := by omega
  show (decide (min a1 b1 = max a1 b1) && decide (min a2 b2 = max a2 b2)) = _
  rw [show decide (min a1 b1 = max a1 b1) = decide (a1 = b1) from decide_eq_decide.2 e1, show decide (min a2 b2 = max a2 b2) = decide (a2 = b2) from decide_eq_decide.2 e2, Bool.eq_iff_iff]
  simp only [Bool.and_eq_true, decide_eq_true_eq, Ref.mk.injEq]
theorem neg_dig (s : Bytes) (i n : Nat) (h : lenB digB s i ≠ 0) (hn : 0 < n) : negB ((s.drop i).take n) = false := by
  unfold lenB at h
  unfold negB
  cases hd : s.drop i with
  | nil => rw [hd] at h; simp at h
  | cons c t =>
    rw [hd] at h
    obtain ⟨n, rfl⟩ : ∃ m, n = m + 1 := ⟨n - 1, by omega⟩
    rw [List.take_succ_cons, List.head?_cons]
    have hc : digB c = true := by
      cases hq : digB c with
      | true => rfl
      | false => rw [List.takeWhile_cons, hq] at h; simp at h
    have : c ≠ 45 := by
      rintro rfl
      simp [digB] at hc
    simpa using this
theorem rule_ok (s : Bytes) (i : Nat) (h : (ruleS s i).2 ≠ 0) : TokOk (ruleS s i).1 := by
  unfold ruleS at h ⊢
  split
  · rename_i hp
    clear h
    unfold numberS at hp ⊢
    split
    · rename_i hc; rw [if_pos hc] at hp; simp at hp
    · rename_i hc
      rw [if_neg hc] at hp
      split
      · rename_i hc2; rw [if_pos hc2] at hp; simp at hp
      · rename_i hc2
        rw [if_neg hc2] at hp
        split
        · rename_i hc3; rw [if_pos hc3] at hp; simp at hp
        · rename_i hc3
          rw [if_neg hc3] at hp
          exact TokOk.num _ _ (parseD_pos (neg_dig s i _ hc hp))
  · rename_i hn
    rw [if_neg hn] at h
    split
    · rename_i hp
      clear h
      unfold textS at hp ⊢
      split
      · rename_i hc; rw [if_pos hc] at hp; simp at hp
      · rename_i hc
        rw [if_neg hc] at hp
        split
        · rename_i hx; rw [hx] at hp; simp at hp
        · rename_i k hx
          rw [hx] at hp
          simp only at hp ⊢
          split
          · rename_i hc2; rw [if_pos hc2] at hp; simp at hp
          · rename_i hc2
            exact TokOk.text _ _ (unqB_ok (by simpa using hc2))
    · rename_i hn2
      rw [if_neg hn2] at h
      split
      · rename_i hp
        clear h
        unfold wordS at hp ⊢
        split
        · rename_i hc; rw [if_pos hc] at hp; simp at hp
        · rename_i hc
          rw [if_neg hc] at hp
          split
          · exact TokOk.name _ _
          · split
            · exact TokOk.bool _ _ (.inr rfl)
            · split
              · exact TokOk.bool _ _ (.inl rfl)
              · split
                · rename_i h1 h2 h3 h4; rw [if_neg h1, if_neg h2, if_neg h3, if_pos h4] at hp; simp at hp
                · rename_i h4
                  have hv := valid_of (by simpa using h4)
                  split
                  · rename_i h5
                    unfold twoB at h5
                    simp only [Bool.and_eq_true, decide_eq_true_eq] at h5
                    have hv2 := valid_of h5.1.2
                    split
                    · rename_i he
                      exact TokOk.ref _ _ (hull_ok hv hv2) (by rw [hull_one]; simpa using he)
                    · rename_i he
                      exact TokOk.range _ _ (hull_ok hv hv2) (by rw [hull_one]; simpa using he)
                  · refine TokOk.ref _ _ ?_ (by simp [oneRB])
                    simp [rctB, hv]
      · rename_i hn3
        rw [if_neg hn3] at h
        split
        · rename_i hp
          clear h
          unfold failS at hp ⊢
          have : ∀ (l : List Bytes) (c : Int), 1 ≤ c → c + l.length ≤ 6 → 0 < (failL s i c l).2 → TokOk (failL s i c l).1 := by
            intro l
            induction l with
            | nil => intro c _ _ h; simp [failL] at h
            | cons x l ih =>
              intro c hc hl h
              unfold failL at h ⊢
              split
              · exact TokOk.err _ _ hc (by simp at hl; omega)
              · rename_i hx
                rw [if_neg hx] at h
                exact ih (c + 1) (by omega) (by simp at hl; omega) h
          exact this _ 1 (by omega) (by decide) hp
        · rename_i hn4
          rw [if_neg hn4] at h
          unfold signS at h ⊢
          split
          · rename_i r hr
            have : ∀ (l : List (Bytes × Int)), (∀ q ∈ l, 1 ≤ q.2 ∧ q.2 ≤ 13) → opsL s i l = some r → TokOk r.1 := by
              intro l
              induction l with
              | nil => intro _ h; simp [opsL] at h
              | cons x l ih =>
                intro hb h
                obtain ⟨x, n⟩ := x
                unfold opsL at h
                split at h
                · cases h
                  have := hb (x, n) (by simp)
                  exact TokOk.op _ _ this.1 this.2
                · exact ih (fun q hq => hb q (by simp [hq])) h
            exact this opsW (by decide) hr
          · rename_i hr
            rw [hr] at h
            simp only at h
            split
            · exact TokOk.sign 9 _ (by omega)
            · split
              · exact TokOk.sign 10 _ (by omega)
              · split
                · exact TokOk.sign 11 _ (by omega)
                · rename_i h1 h2 h3
                  rw [if_neg h1, if_neg h2, if_neg h3] at h
                  simp at h
theorem toksL_ok (s : Bytes) : ∀ (f i : Nat) (l : List Tok), toksL s f i = some l → ∀ t ∈ l, TokOk t
  | 0, i, l, h => by simp [toksL] at h
  | f + 1, i, l, h => by
    unfold toksL at h
    split at h
    · cases h; intro t ht; simp at ht
    · split at h
      · exact toksL_ok s f _ l h
      · split at h
        · cases h
        · rename_i hr
          obtain ⟨l2, h2, rfl⟩ := Option.map_eq_some_iff.1 h
          intro t ht
          rcases List.mem_cons.1 ht with rfl | ht
          · exact rule_ok s i hr
          · exact toksL_ok s f _ l2 h2 t ht
theorem toks_ok (s : Bytes) : ∀ t ∈ (tokensS s).1, TokOk t := by
  unfold tokensS
  split
  · intro t h; simp at h
  · split
    · intro t h; simp at h
    · split
      · intro t h; simp at h
      · rename_i l hl
        exact toksL_ok s _ _ l hl
/-! ### The parser -/
structure POk (st : PSt) : Prop where
  toks : ∀ t ∈ st.1, TokOk t
  nods : ∀ n ∈ st.2, NodOk n
theorem POk.skip {st : PSt} (h : POk st) : POk (skipS st) := ⟨fun t ht => h.toks t (List.mem_of_mem_tail ht), h.nods⟩
theorem POk.put {st : PSt} {n : Nod} (h : POk st) (hn : NodOk n) : POk (putS n st) := ⟨h.toks, fun m hm => by
  unfold putS at hm
  rcases List.mem_append.1 hm with hm | hm
  · exact h.nods m hm
  · simp at hm; subst hm; exact hn⟩
theorem POk.head {e : Int} {st : PSt} (h : POk st) (hk : (headS e st).kind ≠ 0) : TokOk (headS e st) := by
  have hne := head_ne hk
  unfold headS at hk ⊢
  cases hl : st.1 with
  | nil => exact absurd hl hne
  | cons t l => rw [List.head?_cons, Option.getD_some]; exact h.toks t (by rw [hl]; simp)
theorem tok_num {t : Tok} (h : TokOk t) (hk : t.kind = 1) : 0 ≤ t.num := by cases h <;> simp_all <;> omega
theorem tok_text {t : Tok} (h : TokOk t) (hk : t.kind = 2) : txtE t.text = 0 := by cases h <;> simp_all <;> omega
theorem tok_bool {t : Tok} (h : TokOk t) (hk : t.kind = 3) : t.num = 0 ∨ t.num = 1 := by cases h <;> simp_all <;> omega
theorem tok_err {t : Tok} (h : TokOk t) (hk : t.kind = 4) : 1 ≤ t.num ∧ t.num ≤ 5 := by cases h <;> simp_all <;> omega
theorem tok_ref {t : Tok} (h : TokOk t) (hk : t.kind = 5) : rctB t.rect = true ∧ oneRB t.rect = true := by cases h <;> simp_all <;> omega
theorem tok_range {t : Tok} (h : TokOk t) (hk : t.kind = 6) : rctB t.rect = true ∧ oneRB t.rect = false := by cases h <;> simp_all <;> omega
def stgOk : Stg → Prop
  | .level k => k ≤ 4
  | .loop k => 1 ≤ k ∧ k ≤ 4
  | .args _ fn _ => 1 ≤ fn ∧ fn ≤ 50
  | _ => True
theorem binds_op {op : Int} {k : Nat} (h : bindsS op = k) (h1 : 1 ≤ k) (h4 : k ≤ 4) : 1 ≤ op ∧ op ≤ 12 := by
  unfold bindsS at h
  repeat' split at h
  all_goals omega
theorem fn_rng (s : Bytes) (h : fnOf s ≠ 0) : 1 ≤ fnOf s ∧ fnOf s ≤ 50 := by
  unfold fnOf at h ⊢
  split
  · rename_i hc
    have := List.idxOf_lt_length_of_mem (l := fnNames) (a := s) (by simpa using hc)
    have e : fnNames.length = 50 := rfl
    omega
  · rename_i hc; rw [if_neg hc] at h; simp at h
theorem done_pok {e : Int} {name : Tok} {fn n : Nat} {st st' : PSt} (h1 : 1 ≤ fn) (h2 : fn ≤ 50) (hp : POk st) (h : doneS e name fn n st = .ok st') : POk st' := by
  unfold doneS at h
  split at h
  · cases h
  · split at h
    · cases h
    · rename_i ha
      split at h
      · cases h
      · cases h
        exact hp.skip.put (NodOk.call fn n h1 h2 (by omega) (by omega))
theorem want_pok {e k : Int} {st st' : PSt} (hp : POk st) (h : wantK e k st = .ok st') : POk st' := by
  unfold wantK at h
  split at h
  · cases h
  · cases h; exact hp.skip
theorem par_ok (e : Int) : ∀ (f : Nat) (g : Stg) (st st' : PSt), stgOk g → (∀ k, g = .level k → 1 ≤ k) → POk st → parS e f g st = .ok st' → POk st'
  | 0, g, st, st', _, _, _, h => by cases g <;> simp [parS] at h
  | f + 1, .level k, st, st', hg, hk1, hp, h => by
    unfold parS at h
    obtain ⟨s1, h1, h2⟩ := thenS_ok h
    have k1 := hk1 k rfl
    have hk4 : k ≤ 4 := hg
    refine par_ok e f (.loop k) s1 st' ⟨k1, hk4⟩ (fun _ e => by cases e) (par_ok e f _ st s1 ?_ ?_ hp h1) h2
    · split
      · show k + 1 ≤ 4; omega
      · trivial
    · intro k' e
      split at e
      · cases e; omega
      · cases e
  | f + 1, .loop k, st, st', hg, _, hp, h => by
    unfold parS at h
    split at h
    · cases h; exact hp
    · rename_i hc
      rw [not_or, Classical.not_not, Classical.not_not] at hc
      obtain ⟨s1, h1, h2⟩ := thenS_ok h
      have hb := binds_op hc.2 hg.1 hg.2
      refine par_ok e f (.loop k) _ st' hg (fun _ e => by cases e) ((par_ok e f _ _ s1 ?_ ?_ hp.skip h1).put (NodOk.binary _ hb.1 hb.2)) h2
      · split
        · show k + 1 ≤ 4; omega
        · trivial
      · intro k' e
        split at e
        · cases e; omega
        · cases e
  | f + 1, .sign, st, st', _, _, hp, h => by
    unfold parS at h
    split at h
    · obtain ⟨s1, h1, h2⟩ := thenS_ok h
      cases h2
      exact (par_ok e f .sign _ _ trivial (fun _ e => by cases e) hp.skip h1).put NodOk.neg
    · obtain ⟨s1, h1, h2⟩ := thenS_ok h
      have a := par_ok e f .pct _ _ trivial (fun _ e => by cases e) hp h1
      split at h2
      · obtain ⟨s2, h3, h4⟩ := thenS_ok h2
        cases h4
        exact (par_ok e f .sign _ _ trivial (fun _ e => by cases e) a.skip h3).put (NodOk.binary 5 (by omega) (by omega))
      · cases h2; exact a
  | f + 1, .pct, st, st', _, _, hp, h => by
    unfold parS at h
    obtain ⟨s1, h1, h2⟩ := thenS_ok h
    exact par_ok e f .pctl _ _ trivial (fun _ e => by cases e) (par_ok e f .prim _ _ trivial (fun _ e => by cases e) hp h1) h2
  | f + 1, .pctl, st, st', _, _, hp, h => by
    unfold parS at h
    split at h
    · exact par_ok e f .pctl _ _ trivial (fun _ e => by cases e) (hp.skip.put NodOk.pct) h
    · cases h; exact hp
  | f + 1, .prim, st, st', _, _, hp, h => by
    unfold parS at h
    simp only at h
    split at h
    · rename_i hk
      cases h; exact hp.skip.put (NodOk.num _ (tok_num (hp.head (by omega)) hk))
    split at h
    · rename_i hk
      cases h; exact hp.skip.put (NodOk.text _ (tok_text (hp.head (by omega)) hk))
    split at h
    · rename_i hk
      cases h; exact hp.skip.put (NodOk.bool _ (tok_bool (hp.head (by omega)) hk))
    split at h
    · rename_i hk
      cases h; exact hp.skip.put (NodOk.err _ (tok_err (hp.head (by omega)) hk).1 (tok_err (hp.head (by omega)) hk).2)
    split at h
    · rename_i hk
      cases h; exact hp.skip.put (NodOk.ref _ (tok_ref (hp.head (by omega)) hk).1 (tok_ref (hp.head (by omega)) hk).2)
    split at h
    · obtain ⟨s1, h1, h2⟩ := thenS_ok h
      exact want_pok (par_ok e f (.level 1) _ _ (show 1 ≤ 4 by omega) (fun k e => by cases e; omega) hp.skip h1) h2
    split at h
    · exact par_ok e f (.call _) _ _ trivial (fun _ e => by cases e) hp h
    · cases h
  | f + 1, .call name, st, st', _, _, hp, h => by
    unfold parS at h
    split at h
    · cases h
    · rename_i hf
      have hr := fn_rng _ hf
      obtain ⟨s1, h1, h2⟩ := thenS_ok h
      have a := want_pok hp.skip h1
      split at h2
      · exact done_pok hr.1 hr.2 a h2
      · exact par_ok e f (.args _ _ _) _ _ hr (fun _ e => by cases e) a h2
  | f + 1, .args name fn n, st, st', hg, _, hp, h => by
    unfold parS at h
    obtain ⟨s1, h1, h2⟩ := thenS_ok h
    have a := par_ok e f (.arg fn n) _ _ trivial (fun _ e => by cases e) hp h1
    split at h2
    · exact par_ok e f (.args _ _ _) _ _ (show 1 ≤ fn ∧ fn ≤ 50 from hg) (fun _ e => by cases e) a.skip h2
    · exact done_pok hg.1 hg.2 a h2
  | f + 1, .arg fn n, st, st', _, _, hp, h => by
    unfold parS at h
    split at h
    · exact par_ok e f (.level 1) _ _ (show 1 ≤ 4 by omega) (fun k e => by cases e; omega) hp h
    · rename_i hk
      split at h
      · cases h
      · cases h
        have hk6 : (headS e st).kind = 6 := by omega
        exact hp.skip.put (NodOk.range _ (tok_range (hp.head (by omega)) hk6).1 (tok_range (hp.head (by omega)) hk6).2)
end Go.Proofs.YtamcgggmfghljaaGreatDoor
