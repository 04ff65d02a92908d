/- Layers 7, 9: what the lexer and the parser can yield. No program in sight. · Layer 5 (program): texts as bools. · Layer 8 (program): released, Wide (printed by tools/gen_pari.py). -/
import Derived.Deep.QuietTactic
import Derived.BigQuiet
import Derived.ChangeMaps4
import Derived.Deep.RegionHeld3
import Derived.Test.YtamcgggmfghljaaGreatDoorC19
set_option maxRecDepth 100000
set_option maxHeartbeats 8000000
namespace Go.Proofs.YtamcgggmfghljaaGreatDoor
open Go.RowKit
inductive TokOk : Tok → Prop where
  | num (v : Int) (i : Int) (h : 0 ≤ v) : TokOk ⟨1, v, [], z4, i⟩
  | text (x : Bytes) (i : Int) (h : txtE x = 0) : TokOk ⟨2, 0, x, z4, i⟩
  | bool (v : Int) (i : Int) (h : v = 0 ∨ v = 1) : TokOk ⟨3, v, [], z4, i⟩
  | err (v : Int) (i : Int) (h1 : 1 ≤ v) (h2 : v ≤ 5) : TokOk ⟨4, v, [], z4, i⟩
  | ref (r : Rct) (i : Int) (h1 : rctB r = true) (h2 : oneRB r = true) : TokOk ⟨5, 0, [], r, i⟩
  | range (r : Rct) (i : Int) (h1 : rctB r = true) (h2 : oneRB r = false) : TokOk ⟨6, 0, [], r, i⟩
  | name (x : Bytes) (i : Int) : TokOk ⟨7, 0, x, z4, i⟩
  | op (v : Int) (i : Int) (h1 : 1 ≤ v) (h2 : v ≤ 13) : TokOk ⟨8, v, [], z4, i⟩
  | sign (k : Int) (i : Int) (h : 9 ≤ k) : TokOk ⟨k, 0, [], z4, i⟩
inductive NodOk : Nod → Prop where
  | num (v : Int) (h : 0 ≤ v) : NodOk { nod0 1 with vk := 1, vn := v }
  | text (x : Bytes) (h : txtE x = 0) : NodOk { nod0 1 with vk := 3, vt := x }
  | bool (v : Int) (h : v = 0 ∨ v = 1) : NodOk { nod0 1 with vk := 2, vn := v }
  | err (v : Int) (h1 : 1 ≤ v) (h2 : v ≤ 5) : NodOk { nod0 1 with vk := 4, vn := v }
  | ref (r : Rct) (h1 : rctB r = true) (h2 : oneRB r = true) : NodOk { nod0 2 with rect := r }
  | range (r : Rct) (h1 : rctB r = true) (h2 : oneRB r = false) : NodOk { nod0 3 with rect := r }
  | neg : NodOk (nod0 4)
  | pct : NodOk (nod0 5)
  | binary (v : Int) (h1 : 1 ≤ v) (h2 : v ≤ 12) : NodOk { nod0 6 with op := v }
  | call (fn n : Nat) (h1 : 1 ≤ fn) (h2 : fn ≤ 50) (h3 : (arityS fn).1 ≤ n) (h4 : (n : Int) ≤ (arityS fn).2.1) : NodOk { nod0 7 with fn := fn, n := n }
theorem parseD_pos {s : Bytes} (h : negB s = false) : 0 ≤ (parseD s).1 := by
  unfold parseD
  split
  · simp
  · split
    · simp
    · split
      · simp
      · rw [if_neg (by rw [h]; simp)]
        simp
theorem prB_pltB (x : Bytes) (h : pltB x = true) : prB x = true := by
  unfold pltB at h
  unfold prB
  simpa using h
theorem unqL_all (p : UInt8 → Bool) : ∀ (n : Nat) (s o : Bytes), s.length ≤ n → s.all p = true → unqL s = some o → o.all p = true
  | _, [], o, _, _, h => by simp [unqL] at h; subst h; rfl
  | n + 1, [c], o, hn, hs, h => by
    unfold unqL at h
    split at h
    · cases h
    · cases h; exact hs
  | n + 1, c :: d :: t, o, hn, hs, h => by
    unfold unqL at h
    rw [List.all_cons, List.all_cons, Bool.and_eq_true, Bool.and_eq_true] at hs
    split at h
    · split at h
      · obtain ⟨o2, h2, rfl⟩ := Option.map_eq_some_iff.1 h
        have := unqL_all p n t o2 (by simp at hn; omega) hs.2.2 h2
        rw [List.all_cons, Bool.and_eq_true]
        rename_i hc _
        subst hc
        exact ⟨hs.1, this⟩
      · cases h
    · obtain ⟨o2, h2, rfl⟩ := Option.map_eq_some_iff.1 h
      have := unqL_all p n (d :: t) o2 (by simp at hn ⊢; omega) (by rw [List.all_cons, Bool.and_eq_true]; exact hs.2) h2
      rw [List.all_cons, Bool.and_eq_true]
      exact ⟨hs.1, this⟩
theorem unqB_ok {s : Bytes} (h : (unqB s).2 = 0) : txtE (unqB s).1 = 0 := by
  unfold unqB at h ⊢
  split
  · rename_i hc; rw [if_pos hc] at h; simp at h
  · rename_i hc
    rw [if_neg hc] at h
    split
    · rename_i hx; rw [hx] at h; simp at h
    · rename_i o hx
      rw [hx] at h
      simp only at h ⊢
      split
      · rename_i hl; rw [if_pos hl] at h; simp at h
      · rename_i hl
        unfold txtE
        rw [if_neg hl, if_pos]
        refine prB_pltB _ (unqL_all _ _ _ _ (Nat.le_refl _) ?_ hx)
        have hp : pltB s = true := by
          rw [not_or, not_or, not_or] at hc
          simpa using hc.2.2.2
        unfold pltB at hp
        rw [List.all_eq_true] at hp ⊢
        intro c hcm
        exact hp c (List.mem_of_mem_drop (List.mem_of_mem_take hcm))
theorem valid_of {s : Bytes} (h : (parA s).2 = 0) : validB (parA s).1.col (parA s).1.row = true := by
  unfold parA at h ⊢
  split
  · rename_i hc; rw [if_pos hc] at h; simp at h
  · rename_i hc
    rw [if_neg hc] at h
    split
    · assumption
    · rename_i hv; rw [if_neg hv] at h; simp at h
theorem rct_of {c1 r1 c2 r2 : Int} (h : 1 ≤ c1 ∧ c1 ≤ c2 ∧ c2 ≤ 1024 ∧ 1 ≤ r1 ∧ r1 ≤ r2 ∧ r2 ≤ 1024) : rctB ⟨c1, r1, c2, r2⟩ = true := by
  simp only [rctB, validB, Bool.and_eq_true, decide_eq_true_eq]
  omega
theorem hull_ok {a b : Ref} (ha : validB a.col a.row = true) (hb : validB b.col b.row = true) : rctB (hullR a b) = true := by
  simp only [validB, Bool.and_eq_true, decide_eq_true_eq] at ha hb
  exact rct_of (by omega)
theorem hull_one (a b : Ref) : oneRB (hullR a b) = decide (a = b) := by
  obtain ⟨a1, a2⟩ := a
  obtain ⟨b1, b2⟩ := b
  have e1 : min a1 b1 = max a1 b1 ↔ a1 = b1 := by omega
  have e2 : min a2 b2 = max a2 b2 ↔ a2 = b2 := by omega
  show (decide (min a1 b1 = max a1 b1) && decide (min a2 b2 = max a2 b2)) = _
  rw [show decide (min a1 b1 = max a1 b1) = decide (a1 = b1) from decide_eq_decide.2 e1, show decide (min a2 b2 = max a2 b2) = decide (a2 = b2) from decide_eq_decide.2 e2, Bool.eq_iff_iff]
  simp only [Bool.and_eq_true, decide_eq_true_eq, Ref.mk.injEq]
theorem neg_dig (s : Bytes) (i n : Nat) (h : lenB digB s i ≠ 0) (hn : 0 < n) : negB ((s.drop i).take n) = false := by
  unfold lenB at h
  unfold negB
  cases hd : s.drop i with
  | nil => rw [hd] at h; simp at h
  | cons c t =>
    rw [hd] at h
    obtain ⟨n, rfl⟩ : ∃ m, n = m + 1 := ⟨n - 1, by omega⟩
    rw [List.take_succ_cons, List.head?_cons]
    have hc : digB c = true := by
      cases hq : digB c with
      | true => rfl
      | false => rw [List.takeWhile_cons, hq] at h; simp at h
    have : c ≠ 45 := by
      rintro rfl
      simp [digB] at hc
    simpa using this
theorem rule_ok (s : Bytes) (i : Nat) (h : (ruleS s i).2 ≠ 0) : TokOk (ruleS s i).1 := by
  unfold ruleS at h ⊢
  split
  · rename_i hp
    clear h
    unfold numberS at hp ⊢
    split
    · rename_i hc; rw [if_pos hc] at hp; simp at hp
    · rename_i hc
      rw [if_neg hc] at hp
      split
      · rename_i hc2; rw [if_pos hc2] at hp; simp at hp
      · rename_i hc2
        rw [if_neg hc2] at hp
        split
        · rename_i hc3; rw [if_pos hc3] at hp; simp at hp
        · rename_i hc3
          rw [if_neg hc3] at hp
          exact TokOk.num _ _ (parseD_pos (neg_dig s i _ hc hp))
  · rename_i hn
    rw [if_neg hn] at h
    split
    · rename_i hp
      clear h
      unfold textS at hp ⊢
      split
      · rename_i hc; rw [if_pos hc] at hp; simp at hp
      · rename_i hc
        rw [if_neg hc] at hp
        split
        · rename_i hx; rw [hx] at hp; simp at hp
        · rename_i k hx
          rw [hx] at hp
          simp only at hp ⊢
          split
          · rename_i hc2; rw [if_pos hc2] at hp; simp at hp
          · rename_i hc2
            exact TokOk.text _ _ (unqB_ok (by simpa using hc2))
    · rename_i hn2
      rw [if_neg hn2] at h
      split
      · rename_i hp
        clear h
        unfold wordS at hp ⊢
        split
        · rename_i hc; rw [if_pos hc] at hp; simp at hp
        · rename_i hc
          rw [if_neg hc] at hp
          split
          · exact TokOk.name _ _
          · split
            · exact TokOk.bool _ _ (.inr rfl)
            · split
              · exact TokOk.bool _ _ (.inl rfl)
              · split
                · rename_i h1 h2 h3 h4; rw [if_neg h1, if_neg h2, if_neg h3, if_pos h4] at hp; simp at hp
                · rename_i h4
                  have hv := valid_of (by simpa using h4)
                  split
                  · rename_i h5
                    unfold twoB at h5
                    simp only [Bool.and_eq_true, decide_eq_true_eq] at h5
                    have hv2 := valid_of h5.1.2
                    split
                    · rename_i he
                      exact TokOk.ref _ _ (hull_ok hv hv2) (by rw [hull_one]; simpa using he)
                    · rename_i he
                      exact TokOk.range _ _ (hull_ok hv hv2) (by rw [hull_one]; simpa using he)
                  · refine TokOk.ref _ _ ?_ (by simp [oneRB])
                    simp [rctB, hv]
      · rename_i hn3
        rw [if_neg hn3] at h
        split
        · rename_i hp
          clear h
          unfold failS at hp ⊢
          have : ∀ (l : List Bytes) (c : Int), 1 ≤ c → c + l.length ≤ 6 → 0 < (failL s i c l).2 → TokOk (failL s i c l).1 := by
            intro l
            induction l with
            | nil => intro c _ _ h; simp [failL] at h
            | cons x l ih =>
              intro c hc hl h
              unfold failL at h ⊢
              split
              · exact TokOk.err _ _ hc (by simp at hl; omega)
              · rename_i hx
                rw [if_neg hx] at h
                exact ih (c + 1) (by omega) (by simp at hl; omega) h
          exact this _ 1 (by omega) (by decide) hp
        · rename_i hn4
          rw [if_neg hn4] at h
          unfold signS at h ⊢
          split
          · rename_i r hr
            have : ∀ (l : List (Bytes × Int)), (∀ q ∈ l, 1 ≤ q.2 ∧ q.2 ≤ 13) → opsL s i l = some r → TokOk r.1 := by
              intro l
              induction l with
              | nil => intro _ h; simp [opsL] at h
              | cons x l ih =>
                intro hb h
                obtain ⟨x, n⟩ := x
                unfold opsL at h
                split at h
                · cases h
                  have := hb (x, n) (by simp)
                  exact TokOk.op _ _ this.1 this.2
                · exact ih (fun q hq => hb q (by simp [hq])) h
            exact this opsW (by decide) hr
          · rename_i hr
            rw [hr] at h
            simp only at h
            split
            · exact TokOk.sign 9 _ (by omega)
            · split
              · exact TokOk.sign 10 _ (by omega)
              · split
                · exact TokOk.sign 11 _ (by omega)
                · rename_i h1 h2 h3
                  rw [if_neg h1, if_neg h2, if_neg h3] at h
                  simp at h
theorem toksL_ok (s : Bytes) : ∀ (f i : Nat) (l : List Tok), toksL s f i = some l → ∀ t ∈ l, TokOk t
  | 0, i, l, h => by simp [toksL] at h
  | f + 1, i, l, h => by
    unfold toksL at h
    split at h
    · cases h; intro t ht; simp at ht
    · split at h
      · exact toksL_ok s f _ l h
      · split at h
        · cases h
        · rename_i hr
          obtain ⟨l2, h2, rfl⟩ := Option.map_eq_some_iff.1 h
          intro t ht
          rcases List.mem_cons.1 ht with rfl | ht
          · exact rule_ok s i hr
          · exact toksL_ok s f _ l2 h2 t ht
theorem toks_ok (s : Bytes) : ∀ t ∈ (tokensS s).1, TokOk t := by
  unfold tokensS
  split
  · intro t h; simp at h
  · split
    · intro t h; simp at h
    · split
      · intro t h; simp at h
      · rename_i l hl
        exact toksL_ok s _ _ l hl
/-! ### The parser -/
structure POk (st : PSt) : Prop where
  toks : ∀ t ∈ st.1, TokOk t
  nods : ∀ n ∈ st.2, NodOk n
theorem POk.skip {st : PSt} (h : POk st) : POk (skipS st) := ⟨fun t ht => h.toks t (List.mem_of_mem_tail ht), h.nods⟩
theorem POk.put {st : PSt} {n : Nod} (h : POk st) (hn : NodOk n) : POk (putS n st) := ⟨h.toks, fun m hm => by
  unfold putS at hm
  rcases List.mem_append.1 hm with hm | hm
  · exact h.nods m hm
  · simp at hm; subst hm; exact hn⟩
theorem POk.head {e : Int} {st : PSt} (h : POk st) (hk : (headS e st).kind ≠ 0) : TokOk (headS e st) := by
  have hne := head_ne hk
  unfold headS at hk ⊢
  cases hl : st.1 with
  | nil => exact absurd hl hne
  | cons t l => rw [List.head?_cons, Option.getD_some]; exact h.toks t (by rw [hl]; simp)
theorem tok_num {t : Tok} (h : TokOk t) (hk : t.kind = 1) : 0 ≤ t.num := by cases h <;> simp_all <;> omega
theorem tok_text {t : Tok} (h : TokOk t) (hk : t.kind = 2) : txtE t.text = 0 := by cases h <;> simp_all <;> omega
theorem tok_bool {t : Tok} (h : TokOk t) (hk : t.kind = 3) : t.num = 0 ∨ t.num = 1 := by cases h <;> simp_all <;> omega
theorem tok_err {t : Tok} (h : TokOk t) (hk : t.kind = 4) : 1 ≤ t.num ∧ t.num ≤ 5 := by cases h <;> simp_all <;> omega
theorem tok_ref {t : Tok} (h : TokOk t) (hk : t.kind = 5) : rctB t.rect = true ∧ oneRB t.rect = true := by cases h <;> simp_all <;> omega
theorem tok_range {t : Tok} (h : TokOk t) (hk : t.kind = 6) : rctB t.rect = true ∧ oneRB t.rect = false := by cases h <;> simp_all <;> omega
def stgOk : Stg → Prop
  | .level k => k ≤ 4
  | .loop k => 1 ≤ k ∧ k ≤ 4
  | .args _ fn _ => 1 ≤ fn ∧ fn ≤ 50
  | _ => True
theorem binds_op {op : Int} {k : Nat} (h : bindsS op = k) (h1 : 1 ≤ k) (h4 : k ≤ 4) : 1 ≤ op ∧ op ≤ 12 := by
  unfold bindsS at h
  repeat' split at h
  all_goals omega
theorem fn_rng (s : Bytes) (h : fnOf s ≠ 0) : 1 ≤ fnOf s ∧ fnOf s ≤ 50 := by
  unfold fnOf at h ⊢
  split
  · rename_i hc
    have := List.idxOf_lt_length_of_mem (l := fnNames) (a := s) (by simpa using hc)
    have e : fnNames.length = 50 := rfl
    omega
  · rename_i hc; rw [if_neg hc] at h; simp at h
theorem done_pok {e : Int} {name : Tok} {fn n : Nat} {st st' : PSt} (h1 : 1 ≤ fn) (h2 : fn ≤ 50) (hp : POk st) (h : doneS e name fn n st = .ok st') : POk st' := by
  unfold doneS at h
  split at h
  · cases h
  · split at h
    · cases h
    · rename_i ha
      split at h
      · cases h
      · cases h
        exact hp.skip.put (NodOk.call fn n h1 h2 (by omega) (by omega))
theorem want_pok {e k : Int} {st st' : PSt} (hp : POk st) (h : wantK e k st = .ok st') : POk st' := by
  unfold wantK at h
  split at h
  · cases h
  · cases h; exact hp.skip
theorem par_ok (e : Int) : ∀ (f : Nat) (g : Stg) (st st' : PSt), stgOk g → (∀ k, g = .level k → 1 ≤ k) → POk st → parS e f g st = .ok st' → POk st'
  | 0, g, st, st', _, _, _, h => by cases g <;> simp [parS] at h
  | f + 1, .level k, st, st', hg, hk1, hp, h => by
    unfold parS at h
    obtain ⟨s1, h1, h2⟩ := thenS_ok h
    have k1 := hk1 k rfl
    have hk4 : k ≤ 4 := hg
    refine par_ok e f (.loop k) s1 st' ⟨k1, hk4⟩ (fun _ e => by cases e) (par_ok e f _ st s1 ?_ ?_ hp h1) h2
    · split
      · show k + 1 ≤ 4; omega
      · trivial
    · intro k' e
      split at e
      · cases e; omega
      · cases e
  | f + 1, .loop k, st, st', hg, _, hp, h => by
    unfold parS at h
    split at h
    · cases h; exact hp
    · rename_i hc
      rw [not_or, Classical.not_not, Classical.not_not] at hc
      obtain ⟨s1, h1, h2⟩ := thenS_ok h
      have hb := binds_op hc.2 hg.1 hg.2
      refine par_ok e f (.loop k) _ st' hg (fun _ e => by cases e) ((par_ok e f _ _ s1 ?_ ?_ hp.skip h1).put (NodOk.binary _ hb.1 hb.2)) h2
      · split
        · show k + 1 ≤ 4; omega
        · trivial
      · intro k' e
        split at e
        · cases e; omega
        · cases e
  | f + 1, .sign, st, st', _, _, hp, h => by
    unfold parS at h
    split at h
    · obtain ⟨s1, h1, h2⟩ := thenS_ok h
      cases h2
      exact (par_ok e f .sign _ _ trivial (fun _ e => by cases e) hp.skip h1).put NodOk.neg
    · obtain ⟨s1, h1, h2⟩ := thenS_ok h
      have a := par_ok e f .pct _ _ trivial (fun _ e => by cases e) hp h1
      split at h2
      · obtain ⟨s2, h3, h4⟩ := thenS_ok h2
        cases h4
        exact (par_ok e f .sign _ _ trivial (fun _ e => by cases e) a.skip h3).put (NodOk.binary 5 (by omega) (by omega))
      · cases h2; exact a
  | f + 1, .pct, st, st', _, _, hp, h => by
    unfold parS at h
    obtain ⟨s1, h1, h2⟩ := thenS_ok h
    exact par_ok e f .pctl _ _ trivial (fun _ e => by cases e) (par_ok e f .prim _ _ trivial (fun _ e => by cases e) hp h1) h2
  | f + 1, .pctl, st, st', _, _, hp, h => by
    unfold parS at h
    split at h
    · exact par_ok e f .pctl _ _ trivial (fun _ e => by cases e) (hp.skip.put NodOk.pct) h
    · cases h; exact hp
  | f + 1, .prim, st, st', _, _, hp, h => by
    unfold parS at h
    simp only at h
    split at h
    · rename_i hk
      cases h; exact hp.skip.put (NodOk.num _ (tok_num (hp.head (by omega)) hk))
    split at h
    · rename_i hk
      cases h; exact hp.skip.put (NodOk.text _ (tok_text (hp.head (by omega)) hk))
    split at h
    · rename_i hk
      cases h; exact hp.skip.put (NodOk.bool _ (tok_bool (hp.head (by omega)) hk))
    split at h
    · rename_i hk
      cases h; exact hp.skip.put (NodOk.err _ (tok_err (hp.head (by omega)) hk).1 (tok_err (hp.head (by omega)) hk).2)
    split at h
    · rename_i hk
      cases h; exact hp.skip.put (NodOk.ref _ (tok_ref (hp.head (by omega)) hk).1 (tok_ref (hp.head (by omega)) hk).2)
    split at h
    · obtain ⟨s1, h1, h2⟩ := thenS_ok h
      exact want_pok (par_ok e f (.level 1) _ _ (show 1 ≤ 4 by omega) (fun k e => by cases e; omega) hp.skip h1) h2
    split at h
    · exact par_ok e f (.call _) _ _ trivial (fun _ e => by cases e) hp h
    · cases h
  | f + 1, .call name, st, st', _, _, hp, h => by
    unfold parS at h
    split at h
    · cases h
    · rename_i hf
      have hr := fn_rng _ hf
      obtain ⟨s1, h1, h2⟩ := thenS_ok h
      have a := want_pok hp.skip h1
      split at h2
      · exact done_pok hr.1 hr.2 a h2
      · exact par_ok e f (.args _ _ _) _ _ hr (fun _ e => by cases e) a h2
  | f + 1, .args name fn n, st, st', hg, _, hp, h => by
    unfold parS at h
    obtain ⟨s1, h1, h2⟩ := thenS_ok h
    have a := par_ok e f (.arg fn n) _ _ trivial (fun _ e => by cases e) hp h1
    split at h2
    · exact par_ok e f (.args _ _ _) _ _ (show 1 ≤ fn ∧ fn ≤ 50 from hg) (fun _ e => by cases e) a.skip h2
    · exact done_pok hg.1 hg.2 a h2
  | f + 1, .arg fn n, st, st', _, _, hp, h => by
    unfold parS at h
    split at h
    · exact par_ok e f (.level 1) _ _ (show 1 ≤ 4 by omega) (fun k e => by cases e; omega) hp h
    · rename_i hk
      split at h
      · cases h
      · cases h
        have hk6 : (headS e st).kind = 6 := by omega
        exact hp.skip.put (NodOk.range _ (tok_range (hp.head (by omega)) hk6).1 (tok_range (hp.head (by omega)) hk6).2)
abbrev vVal (k n : Int) (s : Bytes) : Value := .agg #[.int .u8 k, .int .i64 n, str s]
/-- No entry has this key. -/
def freeKey (k : Int) (es : Array MapEntry) : Bool := es.toList.all fun x => match x.key with
  | .int .u8 a => !decide (k = a)
  | _ => false
theorem findNow_free (k : Int) : ∀ (l : List MapEntry) (i : Nat), (l.all fun x => match x.key with | .int .u8 a => !decide (k = a) | _ => false) = true → Instr.findNow (.int .u8) (.int .u8 k) l i = some none
  | [], _, _ => rfl
  | x :: l, i, h => by
    rw [List.all_cons, Bool.and_eq_true] at h
    obtain ⟨h1, h2⟩ := h
    obtain ⟨key, val, born⟩ := x
    have ih := findNow_free k l (i + 1) h2
    match key, h1 with
    | .int .u8 a, h1 =>
      have hne : (k == a) = false := by simpa using h1
      simp [Instr.findNow, Instr.sameNow, hne, ih]
theorem run_store_free {P : Program} (t kt e : TypeId) (ht : P.underlying t = some (.map kt e)) (hk : P.underlying kt = some (.int .u8)) (W : World) (n : Nat) (hn : n = W.heap.size) (es : Array MapEntry) (c : Nat) (k : Int) (v : Value) (h : freeKey k es = true) :
    (Instr.mapUpdate t (.map (some n)) (.int .u8 k) v).run P (W.alloc (.map es c)) = .ok () (W.alloc (.map (es.push ⟨.int .u8 k, v, c⟩) (c + 1))) := by
  subst hn
  have hf := findNow_free k es.toList 0 h
  have hb : (W.alloc (.map es c)).heap[W.heap.size]? = some (.map es c) := heap_alloc_new W _
  have hs : ∀ o : Obj, ({ W.alloc (.map es c) with heap := (W.alloc (.map es c)).heap.setIfInBounds W.heap.size o } : World) = W.alloc o := fun o => by
    have he : (W.heap.push (.map es c)).setIfInBounds W.heap.size o = W.heap.push o := by
      apply Array.ext'
      simp [Array.setIfInBounds, Array.toList_push]
    exact congrArg (fun H => World.mk H W.tape W.drawn W.os W.output) he
  have hkey : MapKept.IsKey (.int .u8) (.int .u8 k) := rfl
  simp [Instr.mapUpdate, run_underlying ht, MapKept.run_getObj_map hb, MapKept.run_checkKey hk hkey, MapKept.run_findKey hk hf, MapKept.run_setObj_map _ hb, Result.andThen]
  exact hs _
theorem run_look_at {P : Program} (t kt e : TypeId) (ht : P.underlying t = some (.map kt e)) (hk : P.underlying kt = some (.int .u8)) (W : World) (n : Nat) (es : Array MapEntry) (c : Nat) (k : Int) (i : Nat) (v : Value) (hb : W.heap[n]? = some (.map es c))
    (hf : Instr.findNow (.int .u8) (.int .u8 k) es.toList 0 = some (some (i, v))) :
    (Instr.lookup t (.map (some n)) (.int .u8 k) true).run P W = .ok (.tuple #[v, .bool true]) W := by
  have hkey : MapKept.IsKey (.int .u8) (.int .u8 k) := rfl
  simp [Instr.lookup, run_underlying ht, MapKept.run_getObj_map hb, MapKept.run_checkKey hk hkey, MapKept.run_findKey hk hf, Result.andThen]
theorem val_check (s : Bytes) (w : World) (hs : txtE s = 0) (hl : s.length ≤ 1000000) :
    Calls Tryz.prog 270 #[vVal 3 0 s] w fun u w' => u = .returned (.int .i64 0) ∧ Below w.heap.size w w' := by
  have HS := Lib.hid hs
  clear hs
  go_enter Tryz.func270, Tryz.ntmps270
  go_wp2_with fail
  refine (glyph_check s _ (by omega)).mono ?_
  rintro e w1 ⟨rfl, hb⟩
  rw [HS.out]
  have HB := Lib.hid (show Below w.heap.size w w1 from Below.next (by go_grown) hb (by simp))
  clear hb
  go_wp2
  go_ret
  exact ⟨rfl, HB.out⟩
/-- What a text may be converted by. -/
def boolMap (s : Bytes) : Array MapEntry := #[⟨.int .u8 0, .func (.func 240) #[vVal 3 0 s] #[], 0⟩, ⟨.int .u8 1, .func (.func 240) #[vVal 3 0 s] #[], 1⟩, ⟨.int .u8 2, .func (.func 241) #[vVal 3 0 s] #[], 2⟩, ⟨.int .u8 3, .func (.func 242) #[vVal 3 0 s] #[], 3⟩, ⟨.int .u8 4, .func (.func 241) #[vVal 3 0 s] #[], 4⟩]
theorem tobool_1 (s : Bytes) (w : World) :
    Calls Tryz.prog 239 #[vVal 3 0 s] w fun u w' => ∃ n, u = .returned (.map (some n)) ∧ w'.heap[n]? = some (.map (boolMap s) 5) ∧ Below w.heap.size w w' := by
  have hmk : ∀ w : World, (Instr.makeMap 253 none).run Tryz.prog w = .ok (.map (some w.heap.size)) (w.alloc (.map #[] 0)) := fun w => by rfl
  have hw : (w.alloc (.cells #[.int .u8 3, .int .i64 0, str s] 252)).heap.size = w.heap.size + 1 := by simp
  have s0 : (Instr.mapUpdate 253 (.map (some (w.heap.size + 1))) (.int .u8 0) (.func (.func 240) #[vVal 3 0 s] #[])).run Tryz.prog ((w.alloc (.cells #[.int .u8 3, .int .i64 0, str s] 252)).alloc (.map #[] 0)) = .ok () ((w.alloc (.cells #[.int .u8 3, .int .i64 0, str s] 252)).alloc (.map #[⟨.int .u8 0, .func (.func 240) #[vVal 3 0 s] #[], 0⟩] 1)) :=
    run_store_free _ _ _ Tryz.underlying253 Tryz.underlying5 _ _ hw.symm _ _ _ _ rfl
  have s1 : (Instr.mapUpdate 253 (.map (some (w.heap.size + 1))) (.int .u8 1) (.func (.func 240) #[vVal 3 0 s] #[])).run Tryz.prog ((w.alloc (.cells #[.int .u8 3, .int .i64 0, str s] 252)).alloc (.map #[⟨.int .u8 0, .func (.func 240) #[vVal 3 0 s] #[], 0⟩] 1)) = .ok () ((w.alloc (.cells #[.int .u8 3, .int .i64 0, str s] 252)).alloc (.map #[⟨.int .u8 0, .func (.func 240) #[vVal 3 0 s] #[], 0⟩, ⟨.int .u8 1, .func (.func 240) #[vVal 3 0 s] #[], 1⟩] 2)) :=
    run_store_free _ _ _ Tryz.underlying253 Tryz.underlying5 _ _ hw.symm _ _ _ _ rfl
  have s2 : (Instr.mapUpdate 253 (.map (some (w.heap.size + 1))) (.int .u8 2) (.func (.func 241) #[vVal 3 0 s] #[])).run Tryz.prog ((w.alloc (.cells #[.int .u8 3, .int .i64 0, str s] 252)).alloc (.map #[⟨.int .u8 0, .func (.func 240) #[vVal 3 0 s] #[], 0⟩, ⟨.int .u8 1, .func (.func 240) #[vVal 3 0 s] #[], 1⟩] 2)) = .ok () ((w.alloc (.cells #[.int .u8 3, .int .i64 0, str s] 252)).alloc (.map #[⟨.int .u8 0, .func (.func 240) #[vVal 3 0 s] #[], 0⟩, ⟨.int .u8 1, .func (.func 240) #[vVal 3 0 s] #[], 1⟩, ⟨.int .u8 2, .func (.func 241) #[vVal 3 0 s] #[], 2⟩] 3)) :=
    run_store_free _ _ _ Tryz.underlying253 Tryz.underlying5 _ _ hw.symm _ _ _ _ rfl
  have s3 : (Instr.mapUpdate 253 (.map (some (w.heap.size + 1))) (.int .u8 3) (.func (.func 242) #[vVal 3 0 s] #[])).run Tryz.prog ((w.alloc (.cells #[.int .u8 3, .int .i64 0, str s] 252)).alloc (.map #[⟨.int .u8 0, .func (.func 240) #[vVal 3 0 s] #[], 0⟩, ⟨.int .u8 1, .func (.func 240) #[vVal 3 0 s] #[], 1⟩, ⟨.int .u8 2, .func (.func 241) #[vVal 3 0 s] #[], 2⟩] 3)) = .ok () ((w.alloc (.cells #[.int .u8 3, .int .i64 0, str s] 252)).alloc (.map #[⟨.int .u8 0, .func (.func 240) #[vVal 3 0 s] #[], 0⟩, ⟨.int .u8 1, .func (.func 240) #[vVal 3 0 s] #[], 1⟩, ⟨.int .u8 2, .func (.func 241) #[vVal 3 0 s] #[], 2⟩, ⟨.int .u8 3, .func (.func 242) #[vVal 3 0 s] #[], 3⟩] 4)) :=
    run_store_free _ _ _ Tryz.underlying253 Tryz.underlying5 _ _ hw.symm _ _ _ _ rfl
  have s4 : (Instr.mapUpdate 253 (.map (some (w.heap.size + 1))) (.int .u8 4) (.func (.func 241) #[vVal 3 0 s] #[])).run Tryz.prog ((w.alloc (.cells #[.int .u8 3, .int .i64 0, str s] 252)).alloc (.map #[⟨.int .u8 0, .func (.func 240) #[vVal 3 0 s] #[], 0⟩, ⟨.int .u8 1, .func (.func 240) #[vVal 3 0 s] #[], 1⟩, ⟨.int .u8 2, .func (.func 241) #[vVal 3 0 s] #[], 2⟩, ⟨.int .u8 3, .func (.func 242) #[vVal 3 0 s] #[], 3⟩] 4)) = .ok () ((w.alloc (.cells #[.int .u8 3, .int .i64 0, str s] 252)).alloc (.map #[⟨.int .u8 0, .func (.func 240) #[vVal 3 0 s] #[], 0⟩, ⟨.int .u8 1, .func (.func 240) #[vVal 3 0 s] #[], 1⟩, ⟨.int .u8 2, .func (.func 241) #[vVal 3 0 s] #[], 2⟩, ⟨.int .u8 3, .func (.func 242) #[vVal 3 0 s] #[], 3⟩, ⟨.int .u8 4, .func (.func 241) #[vVal 3 0 s] #[], 4⟩] 5)) :=
    run_store_free _ _ _ Tryz.underlying253 Tryz.underlying5 _ _ hw.symm _ _ _ _ rfl
  go_enter Tryz.func239, Tryz.ntmps239
  go_wp2
  go_ret
  refine ⟨_, rfl, ?_, by go_grown⟩
  have := heap_alloc_new (w.alloc (.cells #[.int .u8 3, .int .i64 0, str s] 252)) (.map (boolMap s) 5)
  rw [hw] at this
  exact this
def tT : Bytes := [84, 82, 85, 69]
def tF : Bytes := [70, 65, 76, 83, 69]
/-- A text as a bool, or #VALUE!. -/
def boolV (s : Bytes) : Value := if upB s = tT then vVal 2 1 [] else if upB s = tF then vVal 2 0 [] else vVal 4 2 []
theorem named_any (s : Bytes) (w : World) (hl : s.length ≤ 1000000) :
    Calls Tryz.prog 242 #[vVal 3 0 s] w fun u w' => u = .returned (boolV s) ∧ Below w.heap.size w w' := by
  by_cases c1 : upB s = tT
  · have H := Lib.hid (show boolV s = vVal 2 1 [] by unfold boolV; rw [if_pos c1])
    have t1 : (upB s == [84, 82, 85, 69]) = true := by rw [c1]; rfl
    clear c1
    go_enter Tryz.func242, Tryz.ntmps242
    go_wp2_with fail
    refine (upper_any s _ hl).mono ?_
    rintro e w1 ⟨rfl, hb1⟩
    have hz1 := hb1.size
    try simp at hz1
    have hB1 : Below w.heap.size w w1 := Below.next (by go_grown) hb1 (by first | (simp; done) | (simp; omega) | omega)
    have hc1_0 : ∀ o, w1.cell? ⟨w.heap.size, o, none⟩ = _ := fun o => hb1.cell (p := ⟨w.heap.size, o, none⟩) (by first | (simp; done) | (simp; omega) | omega)
    have hl1_0 : w.heap.size < w1.heap.size := by omega
    have hm1_0 : w.heap.size ≤ w1.heap.size := by omega
    have hn1_0 : w.heap.size ≤ w1.heap.size + 1 := by omega
    have ho1_0 : w.heap.size ≤ w1.heap.size + 1 + 1 := by omega
    have hf1_0 : ∀ o, w1.frozen? ⟨w.heap.size, o, none⟩ = _ := fun o => hb1.frozen (p := ⟨w.heap.size, o, none⟩) (by first | (simp; done) | (simp; omega) | omega)
    have hc1_1 : ∀ o, w1.cell? ⟨w.heap.size + 1, o, none⟩ = _ := fun o => hb1.cell (p := ⟨w.heap.size + 1, o, none⟩) (by first | (simp; done) | (simp; omega) | omega)
    have hl1_1 : w.heap.size + 1 < w1.heap.size := by omega
    have hm1_1 : w.heap.size + 1 ≤ w1.heap.size := by omega
    have hn1_1 : w.heap.size + 1 ≤ w1.heap.size + 1 := by omega
    have ho1_1 : w.heap.size + 1 ≤ w1.heap.size + 1 + 1 := by omega
    have hf1_1 : ∀ o, w1.frozen? ⟨w.heap.size + 1, o, none⟩ = _ := fun o => hb1.frozen (p := ⟨w.heap.size + 1, o, none⟩) (by first | (simp; done) | (simp; omega) | omega)
    go_wp2
    refine bodyPost_ret (v := .agg #[.int .u8 2, .int .i64 1, str []]) (by simp (maxDischargeDepth := 9) [results, Tryz.results242, go_sem, hc1_1, hl1_1]) rfl ?_
    exact ⟨by rw [H.out], by go_grown⟩
  · have t1 : (upB s == [84, 82, 85, 69]) = false := by rw [beq_eq_false_iff_ne]; exact c1
    by_cases c2 : upB s = tF
    · have H := Lib.hid (show boolV s = vVal 2 0 [] by unfold boolV; rw [if_neg c1, if_pos c2])
      have t2 : (upB s == [70, 65, 76, 83, 69]) = true := by rw [c2]; rfl
      clear c1 c2
      go_enter Tryz.func242, Tryz.ntmps242
      go_wp2_with fail
      refine (upper_any s _ hl).mono ?_
      rintro e w1 ⟨rfl, hb1⟩
      have hz1 := hb1.size
      try simp at hz1
      have hB1 : Below w.heap.size w w1 := Below.next (by go_grown) hb1 (by first | (simp; done) | (simp; omega) | omega)
      have hc1_0 : ∀ o, w1.cell? ⟨w.heap.size, o, none⟩ = _ := fun o => hb1.cell (p := ⟨w.heap.size, o, none⟩) (by first | (simp; done) | (simp; omega) | omega)
      have hl1_0 : w.heap.size < w1.heap.size := by omega
      have hm1_0 : w.heap.size ≤ w1.heap.size := by omega
      have hn1_0 : w.heap.size ≤ w1.heap.size + 1 := by omega
      have ho1_0 : w.heap.size ≤ w1.heap.size + 1 + 1 := by omega
      have hf1_0 : ∀ o, w1.frozen? ⟨w.heap.size, o, none⟩ = _ := fun o => hb1.frozen (p := ⟨w.heap.size, o, none⟩) (by first | (simp; done) | (simp; omega) | omega)
      have hc1_1 : ∀ o, w1.cell? ⟨w.heap.size + 1, o, none⟩ = _ := fun o => hb1.cell (p := ⟨w.heap.size + 1, o, none⟩) (by first | (simp; done) | (simp; omega) | omega)
      have hl1_1 : w.heap.size + 1 < w1.heap.size := by omega
      have hm1_1 : w.heap.size + 1 ≤ w1.heap.size := by omega
      have hn1_1 : w.heap.size + 1 ≤ w1.heap.size + 1 := by omega
      have ho1_1 : w.heap.size + 1 ≤ w1.heap.size + 1 + 1 := by omega
      have hf1_1 : ∀ o, w1.frozen? ⟨w.heap.size + 1, o, none⟩ = _ := fun o => hb1.frozen (p := ⟨w.heap.size + 1, o, none⟩) (by first | (simp; done) | (simp; omega) | omega)
      go_wp2
      refine bodyPost_ret (v := .agg #[.int .u8 2, .int .i64 0, str []]) (by simp (maxDischargeDepth := 9) [results, Tryz.results242, go_sem, hc1_1, hl1_1]) rfl ?_
      exact ⟨by rw [H.out], by go_grown⟩
    · have H := Lib.hid (show boolV s = vVal 4 2 [] by unfold boolV; rw [if_neg c1, if_neg c2])
      have t2 : (upB s == [70, 65, 76, 83, 69]) = false := by rw [beq_eq_false_iff_ne]; exact c2
      clear c1 c2
      go_enter Tryz.func242, Tryz.ntmps242
      go_wp2_with fail
      refine (upper_any s _ hl).mono ?_
      rintro e w1 ⟨rfl, hb1⟩
      have hz1 := hb1.size
      try simp at hz1
      have hB1 : Below w.heap.size w w1 := Below.next (by go_grown) hb1 (by first | (simp; done) | (simp; omega) | omega)
      have hc1_0 : ∀ o, w1.cell? ⟨w.heap.size, o, none⟩ = _ := fun o => hb1.cell (p := ⟨w.heap.size, o, none⟩) (by first | (simp; done) | (simp; omega) | omega)
      have hl1_0 : w.heap.size < w1.heap.size := by omega
      have hm1_0 : w.heap.size ≤ w1.heap.size := by omega
      have hn1_0 : w.heap.size ≤ w1.heap.size + 1 := by omega
      have ho1_0 : w.heap.size ≤ w1.heap.size + 1 + 1 := by omega
      have hf1_0 : ∀ o, w1.frozen? ⟨w.heap.size, o, none⟩ = _ := fun o => hb1.frozen (p := ⟨w.heap.size, o, none⟩) (by first | (simp; done) | (simp; omega) | omega)
      have hc1_1 : ∀ o, w1.cell? ⟨w.heap.size + 1, o, none⟩ = _ := fun o => hb1.cell (p := ⟨w.heap.size + 1, o, none⟩) (by first | (simp; done) | (simp; omega) | omega)
      have hl1_1 : w.heap.size + 1 < w1.heap.size := by omega
      have hm1_1 : w.heap.size + 1 ≤ w1.heap.size := by omega
      have hn1_1 : w.heap.size + 1 ≤ w1.heap.size + 1 := by omega
      have ho1_1 : w.heap.size + 1 ≤ w1.heap.size + 1 + 1 := by omega
      have hf1_1 : ∀ o, w1.frozen? ⟨w.heap.size + 1, o, none⟩ = _ := fun o => hb1.frozen (p := ⟨w.heap.size + 1, o, none⟩) (by first | (simp; done) | (simp; omega) | omega)
      go_wp2
      refine bodyPost_ret (v := .agg #[.int .u8 4, .int .i64 2, str []]) (by simp (maxDischargeDepth := 9) [results, Tryz.results242, go_sem, hc1_1, hl1_1]) rfl ?_
      exact ⟨by rw [H.out], by go_grown⟩
theorem tree_released (fn : Nat) (W : World) : Calls Tryz.prog 328 #[.int .u8 fn] W fun u W' => u = .returned (.bool (relB fn)) ∧ W = W' := by
  by_cases h1 : 46 ≤ fn
  · have a1 : (46 : Int) ≤ (fn : Int) := by omega
    by_cases h2 : fn ≤ 50
    · have a2 : (fn : Int) ≤ 50 := by omega
      have HE := Lib.hid (show relB fn = true by unfold relB; simp; omega)
      go_enter Tryz.func328, Tryz.ntmps328
      go_wp2
      go_ret
      exact ⟨by rw [HE.out]; rfl, rfl⟩
    · have a2 : ¬ (fn : Int) ≤ 50 := by omega
      have HE := Lib.hid (show relB fn = false by unfold relB; simp; omega)
      go_enter Tryz.func328, Tryz.ntmps328
      go_wp2
      go_ret
      exact ⟨by rw [HE.out]; rfl, rfl⟩
  · have a1 : ¬ (46 : Int) ≤ (fn : Int) := by omega
    have HE := Lib.hid (show relB fn = false by unfold relB; simp; omega)
    go_enter Tryz.func328, Tryz.ntmps328
    go_wp2
    go_ret
    exact ⟨by rw [HE.out]; rfl, rfl⟩
theorem arity_ok (fn : Nat) (h1 : 1 ≤ fn) (h2 : fn ≤ 50) : (arityS fn).2.2 = 0 := by
  unfold arityS
  repeat' split
  all_goals first | rfl | omega
theorem wide_lt (fn i : Int) (ha : (arityS fn).2.2 = 0) (h0 : 0 ≤ i) (h : i < (arityS fn).2.1) :
    wideS fn i = if fn = 9 ∨ fn = 10 ∨ fn = 11 ∨ fn = 12 ∨ fn = 14 ∨ fn = 15 ∨ fn = 16 ∨ fn = 17 then (true, 0)
    else if fn = 44 then (decide (i = 1), 0)
    else if fn = 18 ∨ fn = 19 ∨ fn = 45 ∨ fn = 43 ∨ fn = 13 then (decide (i = 0), 0)
    else (relB fn, 0) := by
  unfold wideS
  rw [if_neg (by simpa using ha), if_neg (by omega)]
theorem wide_ge (fn i : Int) (ha : (arityS fn).2.2 = 0) (h : (arityS fn).2.1 ≤ i) : wideS fn i = (false, 3) := by
  unfold wideS
  rw [if_neg (by simpa using ha), if_pos (.inr h)]
theorem tree_wide (fn i : Nat) (h1 : 1 ≤ fn) (h2 : fn ≤ 50) (hi : i ≤ 2000) (W : World) :
    Calls Tryz.prog 327 #[.int .u8 fn, .int .i64 i] W fun u W' => u = .returned (.tuple #[.bool (wideS fn i).1, .int .i64 (wideS fn i).2]) ∧ W = W' := by
  have ha := arity_ok fn h1 h2
  have HA := Lib.hid (tree_arity fn h1 h2 W)
  have i0 : (0 : Int) ≤ (i : Int) := by omega
  have HL := Lib.hid (wide_lt fn i ha i0)
  have HG := Lib.hid (wide_ge fn i ha)
  rw [ha] at HA
  clear ha
  generalize wideS fn i = w at HL HG ⊢
  generalize (arityS fn).1 = m0 at *
  generalize (arityS fn).2.1 = m1 at *
  by_cases hm : (i : Int) < m1
  · have HE := Lib.hid (HL.out hm)
    clear HL HG
    have hm' : ¬ m1 ≤ (i : Int) := by omega
    by_cases c9 : fn = 9
    · subst c9
      have HE2 := Lib.hid (HE.out.trans (by simp; rfl))
      clear HE
      go_enter Tryz.func327, Tryz.ntmps327
      go_wp2_with fail
      refine HA.out.mono ?_
      rintro u w1 ⟨rfl, rfl⟩
      go_wp2
      go_ret2
      exact ⟨by rw [HE2.out]; rfl, rfl⟩
    by_cases c10 : fn = 10
    · subst c10
      have HE2 := Lib.hid (HE.out.trans (by simp; rfl))
      clear HE
      go_enter Tryz.func327, Tryz.ntmps327
      go_wp2_with fail
      refine HA.out.mono ?_
      rintro u w1 ⟨rfl, rfl⟩
      go_wp2
      go_ret2
      exact ⟨by rw [HE2.out]; rfl, rfl⟩
    by_cases c11 : fn = 11
    · subst c11
      have HE2 := Lib.hid (HE.out.trans (by simp; rfl))
      clear HE
      go_enter Tryz.func327, Tryz.ntmps327
      go_wp2_with fail
      refine HA.out.mono ?_
      rintro u w1 ⟨rfl, rfl⟩
      go_wp2
      go_ret2
      exact ⟨by rw [HE2.out]; rfl, rfl⟩
    by_cases c12 : fn = 12
    · subst c12
      have HE2 := Lib.hid (HE.out.trans (by simp; rfl))
      clear HE
      go_enter Tryz.func327, Tryz.ntmps327
      go_wp2_with fail
      refine HA.out.mono ?_
      rintro u w1 ⟨rfl, rfl⟩
      go_wp2
      go_ret2
      exact ⟨by rw [HE2.out]; rfl, rfl⟩
    by_cases c14 : fn = 14
    · subst c14
      have HE2 := Lib.hid (HE.out.trans (by simp; rfl))
      clear HE
      go_enter Tryz.func327, Tryz.ntmps327
      go_wp2_with fail
      refine HA.out.mono ?_
      rintro u w1 ⟨rfl, rfl⟩
      go_wp2
      go_ret2
      exact ⟨by rw [HE2.out]; rfl, rfl⟩
    by_cases c15 : fn = 15
    · subst c15
      have HE2 := Lib.hid (HE.out.trans (by simp; rfl))
      clear HE
      go_enter Tryz.func327, Tryz.ntmps327
      go_wp2_with fail
      refine HA.out.mono ?_
      rintro u w1 ⟨rfl, rfl⟩
      go_wp2
      go_ret2
      exact ⟨by rw [HE2.out]; rfl, rfl⟩
    by_cases c16 : fn = 16
    · subst c16
      have HE2 := Lib.hid (HE.out.trans (by simp; rfl))
      clear HE
      go_enter Tryz.func327, Tryz.ntmps327
      go_wp2_with fail
      refine HA.out.mono ?_
      rintro u w1 ⟨rfl, rfl⟩
      go_wp2
      go_ret2
      exact ⟨by rw [HE2.out]; rfl, rfl⟩
    by_cases c17 : fn = 17
    · subst c17
      have HE2 := Lib.hid (HE.out.trans (by simp; rfl))
      clear HE
      go_enter Tryz.func327, Tryz.ntmps327
      go_wp2_with fail
      refine HA.out.mono ?_
      rintro u w1 ⟨rfl, rfl⟩
      go_wp2
      go_ret2
      exact ⟨by rw [HE2.out]; rfl, rfl⟩
    by_cases c44 : fn = 44
    · subst c44
      have HE2 := Lib.hid (HE.out.trans (by simp; rfl))
      clear HE
      go_enter Tryz.func327, Tryz.ntmps327
      go_wp2_with fail
      refine HA.out.mono ?_
      rintro u w1 ⟨rfl, rfl⟩
      go_wp2
      go_ret2
      exact ⟨by rw [HE2.out]; rfl, rfl⟩
    by_cases c18 : fn = 18
    · subst c18
      have HE2 := Lib.hid (HE.out.trans (show _ = (decide ((i : Int) = 0), (0 : Int)) by simp))
      clear HE
      go_enter Tryz.func327, Tryz.ntmps327
      go_wp2_with fail
      refine HA.out.mono ?_
      rintro u w1 ⟨rfl, rfl⟩
      go_wp2
      go_ret2
      exact ⟨by rw [HE2.out]; rfl, rfl⟩
    by_cases c19 : fn = 19
    · subst c19
      have HE2 := Lib.hid (HE.out.trans (show _ = (decide ((i : Int) = 0), (0 : Int)) by simp))
      clear HE
      go_enter Tryz.func327, Tryz.ntmps327
      go_wp2_with fail
      refine HA.out.mono ?_
      rintro u w1 ⟨rfl, rfl⟩
      go_wp2
      go_ret2
      exact ⟨by rw [HE2.out]; rfl, rfl⟩
    by_cases c45 : fn = 45
    · subst c45
      have HE2 := Lib.hid (HE.out.trans (show _ = (decide ((i : Int) = 0), (0 : Int)) by simp))
      clear HE
      go_enter Tryz.func327, Tryz.ntmps327
      go_wp2_with fail
      refine HA.out.mono ?_
      rintro u w1 ⟨rfl, rfl⟩
      go_wp2
      go_ret2
      exact ⟨by rw [HE2.out]; rfl, rfl⟩
    by_cases c43 : fn = 43
    · subst c43
      have HE2 := Lib.hid (HE.out.trans (show _ = (decide ((i : Int) = 0), (0 : Int)) by simp))
      clear HE
      go_enter Tryz.func327, Tryz.ntmps327
      go_wp2_with fail
      refine HA.out.mono ?_
      rintro u w1 ⟨rfl, rfl⟩
      go_wp2
      go_ret2
      exact ⟨by rw [HE2.out]; rfl, rfl⟩
    by_cases c13 : fn = 13
    · subst c13
      have HE2 := Lib.hid (HE.out.trans (show _ = (decide ((i : Int) = 0), (0 : Int)) by simp))
      clear HE
      go_enter Tryz.func327, Tryz.ntmps327
      go_wp2_with fail
      refine HA.out.mono ?_
      rintro u w1 ⟨rfl, rfl⟩
      go_wp2
      go_ret2
      exact ⟨by rw [HE2.out]; rfl, rfl⟩
    have HE2 := Lib.hid (HE.out.trans (show _ = (relB fn, (0 : Int)) by rw [if_neg (by omega), if_neg (by omega), if_neg (by omega)]))
    clear HE
    have b9 : ((fn : Int) == 9) = false := by simp; omega
    have b10 : ((fn : Int) == 10) = false := by simp; omega
    have b11 : ((fn : Int) == 11) = false := by simp; omega
    have b12 : ((fn : Int) == 12) = false := by simp; omega
    have b14 : ((fn : Int) == 14) = false := by simp; omega
    have b15 : ((fn : Int) == 15) = false := by simp; omega
    have b16 : ((fn : Int) == 16) = false := by simp; omega
    have b17 : ((fn : Int) == 17) = false := by simp; omega
    have b44 : ((fn : Int) == 44) = false := by simp; omega
    have b18 : ((fn : Int) == 18) = false := by simp; omega
    have b19 : ((fn : Int) == 19) = false := by simp; omega
    have b45 : ((fn : Int) == 45) = false := by simp; omega
    have b43 : ((fn : Int) == 43) = false := by simp; omega
    have b13 : ((fn : Int) == 13) = false := by simp; omega
    clear c9 c10 c11 c12 c14 c15 c16 c17 c44 c18 c19 c45 c43 c13
    go_enter Tryz.func327, Tryz.ntmps327
    go_wp2_with fail
    refine HA.out.mono ?_
    rintro u w1 ⟨rfl, rfl⟩
    go_wp2_with fail
    refine (tree_released fn _).mono ?_
    rintro u w2 ⟨rfl, rfl⟩
    go_wp2
    go_ret2
    exact ⟨by rw [HE2.out]; rfl, rfl⟩
  · have HE := Lib.hid (HG.out (by omega))
    clear HL HG
    have hm' : m1 ≤ (i : Int) := by omega
    go_enter Tryz.func327, Tryz.ntmps327
    go_wp2_with fail
    refine HA.out.mono ?_
    rintro u w1 ⟨rfl, rfl⟩
    go_wp2
    go_ret2
    exact ⟨by rw [HE.out]; rfl, rfl⟩
end Go.Proofs.YtamcgggmfghljaaGreatDoor
