/- Layer 8 (program): walk (printed by tools/gen_treec.py). -/
import Derived.Deep.QuietTactic
import Derived.BigQuiet
import Derived.Test.YtamcgggmfghljaaGreatDoorC21
set_option maxRecDepth 100000
set_option maxHeartbeats 8000000
namespace Go.Proofs.YtamcgggmfghljaaGreatDoor
open Go.RowKit
theorem tree_nothing (a b c : Value) (w : World) : Calls Tryz.prog 253 #[a, b, c] w fun u w' => u = .returned (.tuple #[]) ∧ w = w' := by
  go_enter Tryz.func253, Tryz.ntmps253
  go_wp2
  refine bodyPost_end (results_none rfl _ _ _) rfl ?_
  exact ⟨rfl, rfl⟩
theorem walkS_drop (t : List Nod) {k : Nat} {n : Nod} (st : List Part) (h : t[k]? = some n) : walkS t k (t.drop k) st = match nodeS t k n st with
    | .error e => e
    | .ok st => walkS t (k + 1) (t.drop (k + 1)) st := by
  have hk := (List.getElem?_eq_some_iff.1 h).1
  rw [List.drop_eq_getElem_cons hk]
  have : t[k] = n := by rw [List.getElem?_eq_getElem hk] at h; simpa using h
  rw [this]
  rfl
theorem txt_parts {x : Bytes} (h : txtE x = 0) : x.length ≤ 256 ∧ pltB x = true := by
  unfold txtE at h
  split at h
  · simp at h
  · split at h
    · rename_i h1 h2
      refine ⟨by omega, ?_⟩
      unfold prB at h2
      unfold pltB
      simpa using h2
    · simp at h
theorem fields_zero {n : Nod} (h : NodOk n) : fieldsE n = 0 := by
  cases h with
  | num v h => simp [fieldsE, nodOk, wantS, nod0, valE]; omega
  | text x h => simp [fieldsE, nodOk, wantS, nod0, valE, (txt_parts h).1, (txt_parts h).2]
  | bool v h => rcases h with rfl | rfl <;> simp [fieldsE, nodOk, wantS, nod0, valE]
  | err v h1 h2 => simp [fieldsE, nodOk, wantS, nod0, valE]; omega
  | ref r h1 h2 => simp [fieldsE, nodOk, wantS, nod0, h1, h2]
  | range r h1 h2 => simp [fieldsE, nodOk, wantS, nod0, h1, h2]
  | neg => simp [fieldsE, nodOk, wantS, nod0]
  | pct => simp [fieldsE, nodOk, wantS, nod0]
  | binary v h1 h2 => simp [fieldsE, nodOk, wantS, nod0, h1, h2]
  | call fn n h1 h2 h3 h4 =>
    have ha := arity_ok fn h1 h2
    simp [fieldsE, nodOk, wantS, nod0, ha]
    omega
/-- What a node does to the stack. -/
theorem nodeS_ok (t : List Nod) (i : Nat) {n : Nod} (h : NodOk n) (st : List Part) : nodeS t i n st =
    if st.length < belowN n ∨ fitsS t n 0 (st.drop (st.length - belowN n)) = false then .error 4
    else if 32 < depthS (st.drop (st.length - belowN n)) then .error 9
    else .ok (st.take (st.length - belowN n) ++ [⟨i, depthS (st.drop (st.length - belowN n)), decide (n.kind = 3)⟩]) := by
  unfold nodeS
  rw [fields_zero h, if_neg (by simp), belowS_N n h, Int.toNat_natCast]
  have e : ((st.length : Int) < (belowN n : Int)) ↔ st.length < belowN n := by omega
  simp only [e]
theorem Own.take {α : Type} {c : α → List Value} {e : TypeId} {k : Nat} {w : World} {g cap n : Nat} {l : List α} (hk : ∀ x, (c x).length = k) (h : Own c e k w (.slice (some ⟨g, 0, none⟩) n cap) l) {j : Nat} (hj : j ≤ l.length) : Own c e k w (.slice (some ⟨g, 0, none⟩) j cap) (l.take j) := by
  obtain ⟨hx, h2⟩ := h
  have e1 : (l.take j).length = j := by simp; omega
  have e2 : (l.take j).flatMap c = (l.flatMap c).take (j * k) := (flat_take hk l j).symm
  unfold Own
  rw [e1, e2]
  rcases h2 with ⟨h0, _⟩ | ⟨g', cap', cur, hv, hg, hh, hn, hcap, hsz, htake⟩
  · cases h0
  · cases hv
    refine ⟨by rw [List.length_take, hx, Nat.min_eq_left (Nat.mul_le_mul_right _ hj)], .inr ⟨g, cap, cur, rfl, hg, hh, by omega, hcap, hsz, ?_⟩⟩
    rw [← htake, List.take_take, Nat.min_eq_left (Nat.mul_le_mul_right _ hj)]
theorem Sls.drop {α : Type} {c : α → List Value} {k : Nat} {w : World} {B : Nat} {A : Option Addr} {n cap : Nat} {l : List α} (hk : ∀ x, (c x).length = k) (h : Sls c w B (.slice A n cap) l) (m : Nat) (hm : m ≤ n) : Sls c w B (.slice (if cap = m then A else A.map (·.add (m * k))) (n - m) (cap - m)) (l.drop m) := by
  obtain ⟨A', cap', e, h1, h2, h3⟩ := h
  injection e with e1 e2 e3
  subst e1 e2 e3
  refine ⟨_, _, by rw [List.length_drop], by rw [List.length_drop]; omega, by rw [List.length_drop]; omega, fun hp => ?_⟩
  rw [List.length_drop] at hp
  obtain ⟨b, o, rfl, hb, hr⟩ := h3 (by omega)
  refine ⟨b, o + m * k, ?_, hb, ?_⟩
  · rw [if_neg (by omega)]
    simp [Addr.add]
  · rw [← flat_drop hk l m]
    intro j v hj
    rw [List.getElem?_drop] at hj
    have := hr (m * k + j) v hj
    rwa [← Nat.add_assoc] at this
theorem Own.head {α : Type} {c : α → List Value} {e : TypeId} {k : Nat} {w : World} {A : Option Addr} {cap n : Nat} {l : List α} (hk : ∀ x, (c x).length = k) (h : Own c e k w (.slice A n cap) l) {j : Nat} (hj : j ≤ l.length) : Own c e k w (.slice A j cap) (l.take j) := by
  rcases id h.2 with ⟨hv, he⟩ | ⟨g, cap', cur, hv, _⟩
  · injection hv with h1 h2 h3
    subst h1 h3
    have hl : l.length = 0 := he
    obtain rfl : j = 0 := by omega
    rw [List.take_zero]
    exact Own.nil _ _ _ _
  · injection hv with h1 h2 h3
    subst h1
    exact Own.take hk h hj
theorem add_zero (A : Option Addr) : Option.map (fun x : Addr => x.add 0) A = A := by
  cases A with
  | none => rfl
  | some a =>
    obtain ⟨b, o, q⟩ := a
    cases q <;> simp [Addr.add]
def cInt (x : Int) : List Value := [.int .i64 x]
theorem cInt_len (x : Int) : (cInt x).length = 1 := rfl
theorem cInt_one (x : Int) : ∀ u ∈ cInt x, u.oneCell' = true := by
  intro u hu
  simp only [cInt, List.mem_cons, List.not_mem_nil, or_false] at hu
  subst hu; rfl
theorem cPart_one (x : Part) : ∀ u ∈ cPart x, u.oneCell' = true := by
  intro u hu
  simp only [cPart, List.mem_cons, List.not_mem_nil, or_false] at hu
  rcases hu with rfl | rfl | rfl <;> rfl
theorem info_part : ∃ i, Tryz.prog.info? 325 = some i ∧ i.zero = some (.agg #[.int .i64 0, .int .i64 0, .bool false]) ∧ i.size = 3 ∧ i.bytes = 24 :=
  info_parts (show (Tryz.prog.info? 325).map (fun i => (i.zero, i.size, i.bytes)) = some (some (.agg #[.int .i64 0, .int .i64 0, .bool false]), 3, 24) by kernel_rfl)
theorem info_int : ∃ i, Tryz.prog.info? 3 = some i ∧ i.zero = some (.int .i64 0) ∧ i.size = 1 ∧ i.bytes = 8 :=
  info_parts (show (Tryz.prog.info? 3).map (fun i => (i.zero, i.size, i.bytes)) = some (some (.int .i64 0), 1, 8) by kernel_rfl)
theorem depthS_snoc (l : List Part) {j : Nat} {x : Part} (h : l[j]? = some x) : depthS (l.take (j + 1)) = max (depthS (l.take j)) (x.depth + 1) := by
  have hj := (List.getElem?_eq_some_iff.1 h).1
  rw [List.take_succ_eq_append_getElem hj]
  have : l[j] = x := by rw [List.getElem?_eq_getElem hj] at h; simpa using h
  rw [this]
  unfold depthS
  rw [List.foldl_append]
  rfl
theorem depthS_bd : ∀ (l : List Part), (∀ p ∈ l, p.depth ≤ 32) → ∀ d : Int, 1 ≤ d → d ≤ 33 → 1 ≤ l.foldl (fun d x => max d (x.depth + 1)) d ∧ l.foldl (fun d x => max d (x.depth + 1)) d ≤ 33
  | [], _, d, h1, h2 => ⟨h1, h2⟩
  | x :: l, h, d, h1, h2 => by
    have hx := h x (by simp)
    exact depthS_bd l (fun p hp => h p (by simp [hp])) (max d (x.depth + 1)) (by omega) (by omega)
theorem own_len (A : Option Addr) (n m c : Nat) : (Value.slice A n c).ownBlock = (Value.slice A m c).ownBlock := by cases A <;> rfl
def FitsOk (n : Nod) : Prop := ∀ (tv lv : Value) (t : List Nod) (l : List Part) (B : Nat) (w : World), B ≤ w.heap.size → Sls cNod w B tv t → Sls cPart w B lv l → t.length ≤ 2000 → l.length ≤ 2000 → (∀ p ∈ l, p.root < t.length) →
    Calls Tryz.prog 310 #[tv, .agg (cNod n).toArray, lv] w fun u w' => u = .returned (.bool (fitsS t n 0 l)) ∧ Below w.heap.size w w'
theorem fits_ok {n : Nod} (h : NodOk n) : FitsOk n := by
  intro tv lv t l B w hB ht hl htl hll hr
  by_cases h7 : n.kind = 7
  · cases h with
    | call fn n h1 h2 h3 h4 => exact fits_call fn n h1 h2 tv lv t l B w hB ht hl htl hll hr
    | _ => exact absurd h7 (by simp [nod0])
  · exact fits_other n h7 tv lv t l B w hB ht hl htl hll hr
theorem tree_walk (tv : Value) (t : List Nod) (B : Nat) (w : World) (hB : B ≤ w.heap.size) (ht : Sls cNod w B tv t) (htl : t.length ≤ 2000) (hn : ∀ n ∈ t, NodOk n) :
    Calls Tryz.prog 289 #[tv, .func (.func 253) #[] #[]] w fun u w' => u = .returned (.int .i64 (walkS t 0 t [])) ∧ Below w.heap.size w w' := by
  obtain ⟨A, cap, rfl, hc1, hm1, ha1⟩ := id ht
  have HT := Lib.hid ht
  have HN := Lib.hid hn
  obtain ⟨ip, ip0, ip1, ip2, ip3⟩ := info_part
  obtain ⟨ii, ii0, ii1, ii2, ii3⟩ := info_int
  clear ht hn ha1
  unfold maxLen at hm1
  go_enter Tryz.func289, Tryz.ntmps289
  go_wp2_with fail
  go_loopw [5, 16] (fun sv i wr => ∃ (k : Nat) (st : List Part), k ≤ t.length ∧ i = .int .i64 k ∧ Own cPart 325 3 wr sv st ∧ (∀ q, sv.ownBlock = some q → w.heap.size ≤ q) ∧ Below w.heap.size w wr ∧ walkS t 0 t [] = walkS t k (t.drop k) st ∧ st.length ≤ k ∧ (∀ p ∈ st, p.root < t.length ∧ 1 ≤ p.depth ∧ p.depth ≤ 32)) (fun _ i _ => t.length - (intOf i).toNat)
  case atStart => exact ⟨0, [], by omega, rfl, Own.nil _ _ _ _, fun q hq => by simp [Value.ownBlock] at hq, Below.refl _ _, by simp, by simp, by simp⟩
  case round =>
    rename World => w0
    obtain ⟨k, st, hk, rfl, how, hob, hbw, hwk, hsl, hrt⟩ := hrel
    have HW := Lib.hid hwk
    have HBW := Lib.hid hbw
    have HOW := Lib.hid how
    have HOB := Lib.hid hob
    have HRT := Lib.hid hrt
    clear hwk hob hrt
    obtain ⟨A2, cap2, rfl, hc2, _, _⟩ := id (how.sls (by unfold maxLen; omega))
    clear how
    by_cases hlt : k < t.length
    rotate_left
    · have HE := Lib.hid (show walkS t 0 t [] = if st.length = 1 then 0 else 4 by rw [HW.out, List.drop_eq_nil_of_le (by omega)]; rfl)
      by_cases h1 : st.length = 1
      · have b1 : ((st.length : Int) != 1) = false := by simp [h1]
        have HE2 := Lib.hid (HE.out.trans (if_pos h1))
        clear h1
        go_wp2
        go_ret
        exact ⟨by rw [HE2.out]; rfl, HBW.out⟩
      · have b1 : ((st.length : Int) != 1) = true := by simp; omega
        have HE2 := Lib.hid (HE.out.trans (if_neg h1))
        clear h1
        go_wp2
        go_ret
        exact ⟨by rw [HE2.out]; rfl, HBW.out⟩
    have hy : t[k]? = some t[k] := List.getElem?_eq_getElem hlt
    obtain ⟨b, o, hA, hb2, r⟩ := (HT.out.below (hbw.mono hB)).get 11 cNod_len hy
    have HNK := Lib.hid (HN.out t[k] (List.getElem_mem hlt))
    have HD := Lib.hid (walkS_drop t st hy)
    generalize t[k] = y at *
    rw [nodeS_ok t k HNK.out st] at HD
    subst hA
    have HNF : RowKit.Hid (∀ w : World, Calls Tryz.prog 308 #[.agg #[.int .u8 y.kind, .int .u8 y.vk, .int .i64 y.vn, str y.vt, .int .i64 y.rect.c1, .int .i64 y.rect.r1, .int .i64 y.rect.c2, .int .i64 y.rect.r2, .int .i64 y.op, .int .u8 y.fn, .int .i64 y.n]] w fun u w' => u = .returned (.int .i64 0) ∧ Below w.heap.size w w') := Lib.hid (fields_ok y HNK.out)
    have HNB : RowKit.Hid (∀ w : World, Calls Tryz.prog 309 #[.agg #[.int .u8 y.kind, .int .u8 y.vk, .int .i64 y.vn, str y.vt, .int .i64 y.rect.c1, .int .i64 y.rect.r1, .int .i64 y.rect.c2, .int .i64 y.rect.r2, .int .i64 y.op, .int .u8 y.fn, .int .i64 y.n]] w fun u w' => u = .returned (.int .i64 (belowN y)) ∧ Below w.heap.size w w') := Lib.hid (below_any y HNK.out)
    have HFI := Lib.hid (fits_ok HNK.out)
    have rr0 : w0.cell? ⟨b, o + k * 11, none⟩ = some (.int .u8 y.kind) := r 0 _ rfl
    have rr1 : w0.cell? ⟨b, o + k * 11 + 1, none⟩ = some (.int .u8 y.vk) := r 1 _ rfl
    have rr2 : w0.cell? ⟨b, o + k * 11 + 2, none⟩ = some (.int .i64 y.vn) := r 2 _ rfl
    have rr3 : w0.cell? ⟨b, o + k * 11 + 3, none⟩ = some (str y.vt) := r 3 _ rfl
    have rr4 : w0.cell? ⟨b, o + k * 11 + 4, none⟩ = some (.int .i64 y.rect.c1) := r 4 _ rfl
    have rr5 : w0.cell? ⟨b, o + k * 11 + 5, none⟩ = some (.int .i64 y.rect.r1) := r 5 _ rfl
    have rr6 : w0.cell? ⟨b, o + k * 11 + 6, none⟩ = some (.int .i64 y.rect.c2) := r 6 _ rfl
    have rr7 : w0.cell? ⟨b, o + k * 11 + 7, none⟩ = some (.int .i64 y.rect.r2) := r 7 _ rfl
    have rr8 : w0.cell? ⟨b, o + k * 11 + 8, none⟩ = some (.int .i64 y.op) := r 8 _ rfl
    have rr9 : w0.cell? ⟨b, o + k * 11 + 9, none⟩ = some (.int .u8 y.fn) := r 9 _ rfl
    have rr10 : w0.cell? ⟨b, o + k * 11 + 10, none⟩ = some (.int .i64 y.n) := r 10 _ rfl
    have K0 := Lib.hid (Blk.new w0 297 #[.int .u8 y.kind, .int .u8 y.vk, .int .i64 y.vn, str y.vt, .int .i64 y.rect.c1, .int .i64 y.rect.r1, .int .i64 y.rect.c2, .int .i64 y.rect.r2, .int .i64 y.op, .int .u8 y.fn, .int .i64 y.n])
    have HB0 := Lib.hid (show Below w0.heap.size w0 (w0.alloc (.cells #[.int .u8 y.kind, .int .u8 y.vk, .int .i64 y.vn, str y.vt, .int .i64 y.rect.c1, .int .i64 y.rect.r1, .int .i64 y.rect.c2, .int .i64 y.rect.r2, .int .i64 y.op, .int .u8 y.fn, .int .i64 y.n] 297)) from by go_grown)
    have hi0 : (0 : Int) ≤ (k : Int) := Int.natCast_nonneg _
    have hi1 : (k : Int) < (t.length : Int) := by omega
    clear hy hbw r
    go_upto_region 5 with (fail)
    obtain ⟨W1, hW1⟩ : ∃ W1, w0.alloc (.cells #[.int .u8 y.kind, .int .u8 y.vk, .int .i64 y.vn, str y.vt, .int .i64 y.rect.c1, .int .i64 y.rect.r1, .int .i64 y.rect.c2, .int .i64 y.rect.r2, .int .i64 y.op, .int .u8 y.fn, .int .i64 y.n] 297) = W1 := ⟨_, rfl⟩
    rw [hW1] at K0 HB0 ⊢
    clear hW1 rr0 rr1 rr2 rr3 rr4 rr5 rr6 rr7 rr8 rr9 rr10
    have x1_0 : W1.cell? ⟨w0.heap.size, 0, none⟩ = some (.int .u8 y.kind) := K0.out.cell 0
    have x1_1 : W1.cell? ⟨w0.heap.size, 1, none⟩ = some (.int .u8 y.vk) := K0.out.cell 1
    have x1_2 : W1.cell? ⟨w0.heap.size, 2, none⟩ = some (.int .i64 y.vn) := K0.out.cell 2
    have x1_3 : W1.cell? ⟨w0.heap.size, 3, none⟩ = some (str y.vt) := K0.out.cell 3
    have x1_4 : W1.cell? ⟨w0.heap.size, 4, none⟩ = some (.int .i64 y.rect.c1) := K0.out.cell 4
    have x1_5 : W1.cell? ⟨w0.heap.size, 5, none⟩ = some (.int .i64 y.rect.r1) := K0.out.cell 5
    have x1_6 : W1.cell? ⟨w0.heap.size, 6, none⟩ = some (.int .i64 y.rect.c2) := K0.out.cell 6
    have x1_7 : W1.cell? ⟨w0.heap.size, 7, none⟩ = some (.int .i64 y.rect.r2) := K0.out.cell 7
    have x1_8 : W1.cell? ⟨w0.heap.size, 8, none⟩ = some (.int .i64 y.op) := K0.out.cell 8
    have x1_9 : W1.cell? ⟨w0.heap.size, 9, none⟩ = some (.int .u8 y.fn) := K0.out.cell 9
    have x1_10 : W1.cell? ⟨w0.heap.size, 10, none⟩ = some (.int .i64 y.n) := K0.out.cell 10
    go_wp2_with fail
    refine (HNF.out _).mono ?_
    rintro u w2 ⟨rfl, hb2⟩
    have K2 := Lib.hid (K0.out.below_ hb2)
    have HB2 := Lib.hid (Below.next_ HB0.out hb2)
    clear hb2 x1_0 x1_1 x1_2 x1_3 x1_4 x1_5 x1_6 x1_7 x1_8 x1_9 x1_10
    have x2_0 : w2.cell? ⟨w0.heap.size, 0, none⟩ = some (.int .u8 y.kind) := K2.out.cell 0
    have x2_1 : w2.cell? ⟨w0.heap.size, 1, none⟩ = some (.int .u8 y.vk) := K2.out.cell 1
    have x2_2 : w2.cell? ⟨w0.heap.size, 2, none⟩ = some (.int .i64 y.vn) := K2.out.cell 2
    have x2_3 : w2.cell? ⟨w0.heap.size, 3, none⟩ = some (str y.vt) := K2.out.cell 3
    have x2_4 : w2.cell? ⟨w0.heap.size, 4, none⟩ = some (.int .i64 y.rect.c1) := K2.out.cell 4
    have x2_5 : w2.cell? ⟨w0.heap.size, 5, none⟩ = some (.int .i64 y.rect.r1) := K2.out.cell 5
    have x2_6 : w2.cell? ⟨w0.heap.size, 6, none⟩ = some (.int .i64 y.rect.c2) := K2.out.cell 6
    have x2_7 : w2.cell? ⟨w0.heap.size, 7, none⟩ = some (.int .i64 y.rect.r2) := K2.out.cell 7
    have x2_8 : w2.cell? ⟨w0.heap.size, 8, none⟩ = some (.int .i64 y.op) := K2.out.cell 8
    have x2_9 : w2.cell? ⟨w0.heap.size, 9, none⟩ = some (.int .u8 y.fn) := K2.out.cell 9
    have x2_10 : w2.cell? ⟨w0.heap.size, 10, none⟩ = some (.int .i64 y.n) := K2.out.cell 10
    go_wp2_with fail
    refine (HNB.out _).mono ?_
    rintro u w3 ⟨rfl, hb3⟩
    have K3 := Lib.hid (K2.out.below_ hb3)
    have HB3 := Lib.hid (Below.next_ HB2.out hb3)
    clear hb3 x2_0 x2_1 x2_2 x2_3 x2_4 x2_5 x2_6 x2_7 x2_8 x2_9 x2_10
    have x3_0 : w3.cell? ⟨w0.heap.size, 0, none⟩ = some (.int .u8 y.kind) := K3.out.cell 0
    have x3_1 : w3.cell? ⟨w0.heap.size, 1, none⟩ = some (.int .u8 y.vk) := K3.out.cell 1
    have x3_2 : w3.cell? ⟨w0.heap.size, 2, none⟩ = some (.int .i64 y.vn) := K3.out.cell 2
    have x3_3 : w3.cell? ⟨w0.heap.size, 3, none⟩ = some (str y.vt) := K3.out.cell 3
    have x3_4 : w3.cell? ⟨w0.heap.size, 4, none⟩ = some (.int .i64 y.rect.c1) := K3.out.cell 4
    have x3_5 : w3.cell? ⟨w0.heap.size, 5, none⟩ = some (.int .i64 y.rect.r1) := K3.out.cell 5
    have x3_6 : w3.cell? ⟨w0.heap.size, 6, none⟩ = some (.int .i64 y.rect.c2) := K3.out.cell 6
    have x3_7 : w3.cell? ⟨w0.heap.size, 7, none⟩ = some (.int .i64 y.rect.r2) := K3.out.cell 7
    have x3_8 : w3.cell? ⟨w0.heap.size, 8, none⟩ = some (.int .i64 y.op) := K3.out.cell 8
    have x3_9 : w3.cell? ⟨w0.heap.size, 9, none⟩ = some (.int .u8 y.fn) := K3.out.cell 9
    have x3_10 : w3.cell? ⟨w0.heap.size, 10, none⟩ = some (.int .i64 y.n) := K3.out.cell 10
    generalize hkb : belowN y = kb at HD ⊢
    clear hkb
    have kb0 : (0 : Int) ≤ (kb : Int) := Int.natCast_nonneg _
    by_cases hlb : st.length < kb
    · have HE := Lib.hid (show walkS t 0 t [] = 4 by rw [HW.out, HD.out, if_pos (.inl hlb)])
      have lb : (st.length : Int) < (kb : Int) := by omega
      clear hlb
      go_upto_region 9 with (fail)
      go_quiet (fail)
      go_wp2
      go_ret
      exact ⟨by rw [HE.out]; rfl, Below.drewN_ (Below.next HBW.out HB3.out HBW.out.size) _⟩
    have lb : ¬ (st.length : Int) < (kb : Int) := by omega
    obtain ⟨m, hm⟩ : ∃ m, st.length = m + kb := ⟨st.length - kb, by omega⟩
    have hmi : (st.length : Int) - (kb : Int) = (m : Int) := by omega
    have hmz : (0 : Int) ≤ (m : Int) := Int.natCast_nonneg _
    have hsu : (st.length : Int) ≤ 2000 := by omega
    have hwm : IntKind.i64.wrap ((st.length : Int) - (kb : Int)) = (m : Int) := by rw [IntKind.wrap_i64]; omega
    have hdn : decide (st.length < kb) = false := by rw [decide_eq_false_iff_not]; exact hlb
    have hml : (m : Int) ≤ (st.length : Int) := by omega
    have HMN := Lib.hid hm
    rw [show st.length - kb = m by omega] at HD
    have hlbn : ¬ st.length < kb := hlb
    clear hm hlb
    have HHS := Lib.hid (show w0.heap.size < w3.heap.size from K3.out.lt)
    have HT3 := Lib.hid ((HT.out.below (HBW.out.mono hB)).below (HB3.out.mono (Nat.le_trans hB HBW.out.size)))
    have HO3 := Lib.hid (HOW.out.below HB3.out)
    obtain ⟨A3, hA3⟩ : ∃ A3, (if cap2 = m then A2 else Option.map (fun x => x.add (m * 3)) A2) = A3 := ⟨_, rfl⟩
    have hlm : st.length - m = kb := by have := HMN.out; omega
    have hs3 := (Sls.drop cPart_len (HOW.out.sls (by unfold maxLen; have := hsl; omega)) m (by have := HMN.out; omega))
    rw [hA3, hlm] at hs3
    have HS3 := Lib.hid hs3
    clear hs3
    have HDR := Lib.hid (show ∀ p ∈ st.drop m, p.root < t.length from fun p hp => (HRT.out p (List.mem_of_mem_drop hp)).1)
    have hsl2 : (st.drop m).length ≤ 2000 := by rw [List.length_drop]; omega
    have LN := Lib.hid (show ∀ W : World, Below w3.heap.size w3 W → W.rangeAt w0.heap.size 0 (cNod y) from fun W h => (K3.out.below_ h).range (l := cNod y) (o := 0) (by intro j v hj; rw [Nat.zero_add]; exact List.getElem?_toArray.trans hj))
    go_upto_region 9 with (fail)
    refine wp_region_noPanic ?_
    refine wp_region_held_drew (S := fun W => Below w3.heap.size w3 W) (by kernel_rfl) (Below.refl _ _).drew (fun hHeld => ?_)
    refine wpAnyH_take (i := 0) (oi := ⟨some 28, .move (.tmp 5), 320, _, _, none⟩) (v := .slice A2 st.length cap2) rfl (by kernel_rfl) (by kernel_rfl) (by kernel_rfl) (fun c d e h => NoPanic.put h) (Or.inl ⟨by rfl, by intro W hW; go_simp⟩) hHeld ?_
    try simp only [Act.put, List.setIfInBounds_toArray, List.set_cons_zero, List.set_cons_succ]
    refine wpAnyH_take (i := 1) (oi := ⟨some 29, .call { callee := .builtin .len, args := #[.tmp 28], argTypes := #[320] }, 3, _, _, none⟩) (v := .int .i64 st.length) rfl (by kernel_rfl) (by kernel_rfl) (by kernel_rfl) (fun c d e h => NoPanic.put h) (Or.inl ⟨by rfl, by intro W hW; go_simp⟩) hHeld ?_
    try simp only [Act.put, List.setIfInBounds_toArray, List.set_cons_zero, List.set_cons_succ]
    refine wpAnyH_take (i := 2) (oi := ⟨some 30, .move (.tmp 9), 3, _, _, none⟩) (v := .int .i64 kb) rfl (by kernel_rfl) (by kernel_rfl) (by kernel_rfl) (fun c d e h => NoPanic.put h) (Or.inl ⟨by rfl, by intro W hW; go_simp⟩) hHeld ?_
    try simp only [Act.put, List.setIfInBounds_toArray, List.set_cons_zero, List.set_cons_succ]
    refine wpAnyH_take (i := 3) (oi := ⟨some 31, .binOp .lss 3 (.tmp 29) (.tmp 30) 3, 4, _, _, none⟩) (v := .bool false) rfl (by kernel_rfl) (by kernel_rfl) (by kernel_rfl) (fun c d e h => NoPanic.put h) (Or.inl ⟨by rfl, by intro W hW; go_simp⟩) hHeld ?_
    try simp only [Act.put, List.setIfInBounds_toArray, List.set_cons_zero, List.set_cons_succ]
    refine wpAnyH_take (i := 4) (oi := ⟨some 32, .move (.tmp 31), 4, _, _, none⟩) (v := .bool false) rfl (by kernel_rfl) (by kernel_rfl) (by kernel_rfl) (fun c d e h => NoPanic.put h) (Or.inl ⟨by rfl, by intro W hW; go_simp⟩) hHeld ?_
    try simp only [Act.put, List.setIfInBounds_toArray, List.set_cons_zero, List.set_cons_succ]
    refine wpAnyH_take (i := 5) (oi := ⟨some 33, .move (.tmp 0), 190, _, _, some (4, false)⟩) (v := .slice (some ⟨b, o, none⟩) t.length cap) rfl (by kernel_rfl) (by kernel_rfl) (by kernel_rfl) (fun c d e h => NoPanic.put h) (Or.inl ⟨by rfl, by intro W hW; go_simp⟩) hHeld ?_
    try simp only [Act.put, List.setIfInBounds_toArray, List.set_cons_zero, List.set_cons_succ]
    refine wpAnyH_take (i := 6) (oi := ⟨some 34, .load 297 (.tmp 7), 297, _, _, some (4, false)⟩) (v := .agg _) rfl (by kernel_rfl) (by kernel_rfl) (by kernel_rfl) (fun c d e h => NoPanic.put h) (yieldsIf_load_mid rfl _ _ rfl (w0.heap.size) (0) rfl _ _ LN.out rfl rfl (by kernel_rfl)) hHeld ?_
    try simp only [Act.put, List.setIfInBounds_toArray, List.set_cons_zero, List.set_cons_succ]
    refine wpAnyH_take (i := 7) (oi := ⟨some 35, .move (.tmp 5), 320, _, _, some (4, false)⟩) (v := .slice A2 st.length cap2) rfl (by kernel_rfl) (by kernel_rfl) (by kernel_rfl) (fun c d e h => NoPanic.put h) (Or.inl ⟨by rfl, by intro W hW; go_simp⟩) hHeld ?_
    try simp only [Act.put, List.setIfInBounds_toArray, List.set_cons_zero, List.set_cons_succ]
    refine wpAnyH_take (i := 8) (oi := ⟨some 36, .move (.tmp 5), 320, _, _, some (4, false)⟩) (v := .slice A2 st.length cap2) rfl (by kernel_rfl) (by kernel_rfl) (by kernel_rfl) (fun c d e h => NoPanic.put h) (Or.inl ⟨by rfl, by intro W hW; go_simp⟩) hHeld ?_
    try simp only [Act.put, List.setIfInBounds_toArray, List.set_cons_zero, List.set_cons_succ]
    refine wpAnyH_take (i := 9) (oi := ⟨some 37, .call { callee := .builtin .len, args := #[.tmp 36], argTypes := #[320] }, 3, _, _, some (4, false)⟩) (v := .int .i64 st.length) rfl (by kernel_rfl) (by kernel_rfl) (by kernel_rfl) (fun c d e h => NoPanic.put h) (Or.inl ⟨by rfl, by intro W hW; go_simp⟩) hHeld ?_
    try simp only [Act.put, List.setIfInBounds_toArray, List.set_cons_zero, List.set_cons_succ]
    refine wpAnyH_take (i := 10) (oi := ⟨some 38, .move (.tmp 9), 3, _, _, some (4, false)⟩) (v := .int .i64 kb) rfl (by kernel_rfl) (by kernel_rfl) (by kernel_rfl) (fun c d e h => NoPanic.put h) (Or.inl ⟨by rfl, by intro W hW; go_simp⟩) hHeld ?_
    try simp only [Act.put, List.setIfInBounds_toArray, List.set_cons_zero, List.set_cons_succ]
    refine wpAnyH_take (i := 11) (oi := ⟨some 39, .binOp .sub 3 (.tmp 37) (.tmp 38) 3, 3, _, _, some (4, false)⟩) (v := .int .i64 m) rfl (by kernel_rfl) (by kernel_rfl) (by kernel_rfl) (fun c d e h => NoPanic.put h) (Or.inl ⟨by rfl, by intro W hW; go_simp; rw [IntKind.wrap_i64]; omega⟩) hHeld ?_
    try simp only [Act.put, List.setIfInBounds_toArray, List.set_cons_zero, List.set_cons_succ]
    refine wpAnyH_take (i := 12) (oi := ⟨some 40, .slice 320 (.tmp 35) (some (.tmp 39)) none none, 320, _, _, some (4, false)⟩) (v := .slice A3 kb (cap2 - m)) rfl (by kernel_rfl) (by kernel_rfl) (by kernel_rfl) (fun c d e h => NoPanic.put h) (Or.inl ⟨by rfl, by intro W hW; go_simp⟩) hHeld ?_
    try simp only [Act.put, List.setIfInBounds_toArray, List.set_cons_zero, List.set_cons_succ]
    refine wpAnyH_ready (rs := [13]) (by kernel_rfl) (by simp) ?_
    refine AllReadyH.cons (o := ⟨some 41, .call { callee := .value (.func 310), args := #[.tmp 33, .tmp 34, .tmp 40], argTypes := #[190, 297, 320] }, 4, _, _, some (4, false)⟩) rfl (fun K hK => ?_) AllReadyH.nil
    go_simp
    go_at_call 310
    refine (HFI.out _ _ t (st.drop m) w0.heap.size _ (Nat.le_trans HB3.out.size hHeld.size) ((HT3.out.below (hHeld.mono (Nat.le_trans hB (Nat.le_trans HBW.out.size HB3.out.size)))).more (Nat.le_trans hB HBW.out.size)) ((HS3.out.below HB3.out).below (hHeld.mono HB3.out.size)) htl hsl2 HDR.out).mono ?_
    rintro u w4 ⟨rfl, hb4⟩
    refine hK.out _ _ (Below.next hHeld hb4 hHeld.size) (fun hHeld => ?_)
    clear hK K
    try simp only [Act.put, List.setIfInBounds_toArray, List.set_cons_zero, List.set_cons_succ]
    have HB4 := Lib.hid (Below.next_ HB3.out hHeld)
    have K4 := Lib.hid (K3.out.below_ hHeld)
    clear LN x3_0 x3_1 x3_2 x3_3 x3_4 x3_5 x3_6 x3_7 x3_8 x3_9 x3_10
    cases hft : fitsS t y 0 (st.drop m) with
    | false =>
      have HE := Lib.hid (show walkS t 0 t [] = 4 by rw [HW.out, HD.out, if_pos (.inr hft)])
      clear hft
      refine wpAnyH_take (i := 14) (oi := ⟨some 42, .unOp .not 4 (.tmp 41), 4, _, _, some (4, false)⟩) (v := .bool true) rfl (by kernel_rfl) (by kernel_rfl) (by kernel_rfl) (fun c d e h => NoPanic.put h) (Or.inl ⟨by rfl, by intro W hW; go_simp⟩) hHeld ?_
      try simp only [Act.put, List.setIfInBounds_toArray, List.set_cons_zero, List.set_cons_succ]
      refine wpAnyH_take (i := 15) (oi := ⟨some 43, .pick (.tmp 32) (.const (.bool true)) (.tmp 42), 4, _, _, none⟩) (v := .bool true) rfl (by kernel_rfl) (by kernel_rfl) (by kernel_rfl) (fun c d e h => NoPanic.put h) (Or.inl ⟨by rfl, by intro W hW; go_simp⟩) hHeld ?_
      try simp only [Act.put, List.setIfInBounds_toArray, List.set_cons_zero, List.set_cons_succ]
      refine wpAnyH_done (by kernel_rfl) ?_ _
      refine NoPanic.normal ?_
      clear hHeld
      go_wp2
      go_ret
      exact ⟨by rw [HE.out]; rfl, Below.next HBW.out HB4.out HBW.out.size⟩
    | true =>
    refine wpAnyH_take (i := 14) (oi := ⟨some 42, .unOp .not 4 (.tmp 41), 4, _, _, some (4, false)⟩) (v := .bool false) rfl (by kernel_rfl) (by kernel_rfl) (by kernel_rfl) (fun c d e h => NoPanic.put h) (Or.inl ⟨by rfl, by intro W hW; go_simp⟩) hHeld ?_
    try simp only [Act.put, List.setIfInBounds_toArray, List.set_cons_zero, List.set_cons_succ]
    refine wpAnyH_take (i := 15) (oi := ⟨some 43, .pick (.tmp 32) (.const (.bool true)) (.tmp 42), 4, _, _, none⟩) (v := .bool false) rfl (by kernel_rfl) (by kernel_rfl) (by kernel_rfl) (fun c d e h => NoPanic.put h) (Or.inl ⟨by rfl, by intro W hW; go_simp⟩) hHeld ?_
    try simp only [Act.put, List.setIfInBounds_toArray, List.set_cons_zero, List.set_cons_succ]
    refine wpAnyH_done (by kernel_rfl) ?_ _
    refine NoPanic.normal ?_
    clear hHeld
    have HD2 := Lib.hid (show walkS t 0 t [] = match (if 32 < depthS (st.drop m) then (.error 9 : Except Int (List Part)) else .ok (st.take m ++ [⟨k, depthS (st.drop m), decide (y.kind = 3)⟩])) with
        | .error e => e
        | .ok st => walkS t (k + 1) (t.drop (k + 1)) st by
      rw [HW.out, HD.out, if_neg (by rw [hft]; simpa using hlbn)])
    clear HD HW hft
    have x4_0 : w4.cell? ⟨w0.heap.size, 0, none⟩ = some (.int .u8 y.kind) := K4.out.cell 0
    have hkd : decide (y.kind = 3) = (y.kind == 3) := rfl
    rw [hkd] at HD2
    obtain ⟨wd, hwd⟩ : ∃ wd, (y.kind == 3) = wd := ⟨_, rfl⟩
    rw [hwd] at HD2
    have HDB := Lib.hid (depthS_bd (st.drop m) (fun p hp => (HRT.out p (List.mem_of_mem_drop hp)).2.2) 1 (by omega) (by omega))
    have KP := Lib.hid (Blk.new w4 325 #[.int .i64 k, .int .i64 1, .bool wd])
    have HB5 := Lib.hid (show Below w0.heap.size w0 (w4.alloc (.cells #[.int .i64 k, .int .i64 1, .bool wd] 325)) from HB4.out.alloc HB4.out.size _)
    have HPB := Lib.hid (show w0.heap.size ≤ w4.heap.size from HB4.out.size)
    clear lb hsu hwm
    go_upto_region 12 with (fail)
    obtain ⟨W5, hW5⟩ : ∃ W5, w4.alloc (.cells #[.int .i64 k, .int .i64 1, .bool wd] 325) = W5 := ⟨_, rfl⟩
    rw [hW5] at KP HB5
    obtain ⟨pb, hpb⟩ : ∃ pb, w4.heap.size = pb := ⟨_, rfl⟩
    rw [hpb] at KP HPB
    rw [hW5, hpb]
    clear hW5 hpb hwd x4_0 K4 HB4
    have hsu : (st.length : Int) ≤ 2000 := by omega
    have hwi : IntKind.i64.wrap (m : Int) = (m : Int) := by rw [IntKind.wrap_i64]; omega
    have HKB := Lib.hid (show (st.drop m).length = kb by rw [List.length_drop]; have := HMN.out; omega)
    have hkbu : (kb : Int) ≤ 2000 := by have := HKB.out; omega
    clear hkd
    go_wp2_with fail
    go_loopw [11, 56] (fun kv jv w6 => ∃ (j : Nat) (ks : List Int), j ≤ kb ∧ jv = .int .i64 j ∧ ks.length = j ∧ Own cInt 3 1 w6 kv ks ∧ (∀ q, kv.ownBlock = some q → pb < q) ∧ Blk w6 pb 325 #[.int .i64 k, .int .i64 (depthS ((st.drop m).take j)), .bool wd] ∧ Below w0.heap.size w0 w6) (fun _ jv _ => kb - (intOf jv).toNat)
    case atStart => exact ⟨0, [], by omega, rfl, rfl, Own.nil _ _ _ _, fun q hq => by simp [Value.ownBlock] at hq, KP.out, HB5.out⟩
    case round =>
      rename World => w6
      obtain ⟨j, ks, hj, rfl, hkl, hko, hkq, hkp, hb6⟩ := hrel
      have HKO := Lib.hid hko
      have HKQ := Lib.hid hkq
      have KP6 := Lib.hid hkp
      have HB6 := Lib.hid hb6
      clear hko hkq hkp
      have hj0 : (0 : Int) ≤ (j : Int) := Int.natCast_nonneg _
      have hdb := depthS_bd ((st.drop m).take j) (fun p hp => (HRT.out p (List.mem_of_mem_drop (List.mem_of_mem_take hp))).2.2) 1 (by omega) (by omega)
      rw [show ((st.drop m).take j).foldl (fun d x => max d (x.depth + 1)) 1 = depthS ((st.drop m).take j) from rfl] at hdb
      by_cases hjl : j < kb
      · have hy : (st.drop m)[j]? = some ((st.drop m)[j]'(by rw [HKB.out]; exact hjl)) := List.getElem?_eq_getElem _
        obtain ⟨b3, o3, hA, hb3, r⟩ := (HS3.out.below hb6).get 3 cPart_len hy
        have hxd := (HRT.out _ (List.mem_of_mem_drop (List.mem_of_getElem? hy))).2
        have HDS := Lib.hid (depthS_snoc (st.drop m) hy)
        generalize (st.drop m)[j]'(by rw [HKB.out]; exact hjl) = x at *
        subst hA
        have q0 : w6.cell? ⟨b3, o3 + j * 3, none⟩ = some (.int .i64 x.root) := r 0 _ rfl
        have q1 : w6.cell? ⟨b3, o3 + j * 3 + 1, none⟩ = some (.int .i64 x.depth) := r 1 _ rfl
        have q2 : w6.cell? ⟨b3, o3 + j * 3 + 2, none⟩ = some (.bool x.wide) := r 2 _ rfl
        generalize depthS ((st.drop m).take j) = d at *
        have hjlt : (j : Int) < (kb : Int) := by omega
        have hd1 : 1 ≤ d := hdb.1
        have hd2 : d ≤ 33 := hdb.2
        have hx1 : 1 ≤ x.depth := hxd.1
        have hx2 : x.depth ≤ 32 := hxd.2
        have hmx : ∀ x y : Int, (if x < y then y else x) = max x y := fun x y => by rw [Int.max_def]; split <;> split <;> omega
        have HLT6 := Lib.hid (show pb < w6.heap.size from KP6.out.lt)
        have p1 : (w6.alloc (.cells #[.int .i64 x.root, .int .i64 x.depth, .bool x.wide] 325)).cell? ⟨pb, 1, none⟩ = some (.int .i64 d) := (KP6.out.alloc _).cell 1
        have pf := (KP6.out.alloc (.cells #[.int .i64 x.root, .int .i64 x.depth, .bool x.wide] 325)).frozen 1
        clear r hy hdb hxd hb6
        go_upto_region 17 with (fail)
        have KP7 := Lib.hid (show Blk ((w6.alloc (.cells #[.int .i64 x.root, .int .i64 x.depth, .bool x.wide] 325)).setCell ⟨pb, 1, none⟩ (.int .i64 (max d (x.depth + 1)))) pb 325 #[.int .i64 k, .int .i64 (max d (x.depth + 1)), .bool wd] from (KP6.out.alloc _).set_ 1 _)
        have KX7 := Lib.hid (show Blk ((w6.alloc (.cells #[.int .i64 x.root, .int .i64 x.depth, .bool x.wide] 325)).setCell ⟨pb, 1, none⟩ (.int .i64 (max d (x.depth + 1)))) w6.heap.size 325 #[.int .i64 x.root, .int .i64 x.depth, .bool x.wide] from (Blk.new _ _ _).far (by have := HLT6.out; show w6.heap.size ≠ pb; omega) _)
        have HC7 := Lib.hid (show Chg (fun q => q = pb) (w6.alloc (.cells #[.int .i64 x.root, .int .i64 x.depth, .bool x.wide] 325)) ((w6.alloc (.cells #[.int .i64 x.root, .int .i64 x.depth, .bool x.wide] 325)).setCell ⟨pb, 1, none⟩ (.int .i64 (max d (x.depth + 1)))) from (Chg.refl (fun q => q = pb) _).setCell (p := ⟨pb, 1, none⟩) (.inl rfl) _)
        have HKO7 := Lib.hid ((HKO.out.alloc (.cells #[.int .i64 x.root, .int .i64 x.depth, .bool x.wide] 325)).chg HC7.out (fun q hq e => by have := HKQ.out q hq; omega))
        have HB7 := Lib.hid (Below.trans (HB6.out.alloc HB6.out.size (.cells #[.int .i64 x.root, .int .i64 x.depth, .bool x.wide] 325)) (HC7.out.to_below (B := w0.heap.size) (by have := HB6.out.size; simp; omega) (fun q hq e => by have := HPB.out; omega)))
        clear HC7 p1 pf q0 q1 q2
        obtain ⟨W7, hW7⟩ : ∃ W7, (w6.alloc (.cells #[.int .i64 x.root, .int .i64 x.depth, .bool x.wide] 325)).setCell ⟨pb, 1, none⟩ (.int .i64 (max d (x.depth + 1))) = W7 := ⟨_, rfl⟩
        rw [hW7] at KP7 KX7 HKO7 HB7 ⊢
        have HS67 := Lib.hid (show w6.heap.size < W7.heap.size from KX7.out.lt)
        clear hW7 HKO KP6
        have z0 : W7.cell? ⟨w6.heap.size, 0, none⟩ = some (.int .i64 x.root) := KX7.out.cell 0
        go_wp2_with (at_builtin; refine RowKit.Hid.out ?_)
        refine Lib.hid ?_
        refine wpList_more cInt rfl _ _ 182 rfl 3 ii _ 1 8 Tryz.underlying182 ii0 ii1 ii2 ii3 rfl (by omega) u11 ks rfl (HKO7.out.alloc _) _ _ [(x.root : Int)] rfl (Sls.one (x := (x.root : Int)) (Blk.new _ _ _) rfl) cInt_len cInt_one (by simp; omega) (by omega) ?_
        intro v8 w8 o8 t8
        have KP8 := Lib.hid ((KP7.out.alloc _).outTo t8 (fun e => by have := HKQ.out _ e; omega))
        have HB8 := Lib.hid (Below.trans (HB7.out.alloc HB7.out.size _) (t8.old (B := w0.heap.size) (by have := HB7.out.size; simp; omega) (fun q hq => by have := HKQ.out q hq; have := HPB.out; omega)))
        have HQ8 := Lib.hid (show ∀ q, v8.ownBlock = some q → pb < q from fun q hq => by
          rcases t8.own q hq with e | e
          · exact HKQ.out q e
          · have := HS67.out
            have := HLT6.out
            simp at e
            omega)
        have O8 := Lib.hid o8
        clear o8 t8 z0
        go_wp2
        exact ⟨⟨j + 1, ks ++ [(x.root : Int)], by omega, by go_num, by simp; omega, O8.out, HQ8.out, by rw [HDS.out]; exact KP8.out, HB8.out⟩, by simp [intOf]; omega⟩
      · obtain rfl : j = kb := by omega
        have HTK := Lib.hid (show (st.drop m).take j = st.drop m by rw [List.take_of_length_le (by rw [HKB.out]; exact Nat.le_refl _)])
        rw [HTK.out] at KP6 hdb
        have HOS := Lib.hid (HOW.out.below HB6.out)
        have HRN := Lib.hid (show ∀ q, (Value.slice A2 st.length cap2).ownBlock = some q → q < w0.heap.size from fun q hq => HOW.out.lt q hq)
        generalize hdd : depthS (st.drop m) = d at *
        clear hdd
        have p0 : w6.cell? ⟨pb, 0, none⟩ = some (.int .i64 k) := KP6.out.cell 0
        have p1 : w6.cell? ⟨pb, 1, none⟩ = some (.int .i64 d) := KP6.out.cell 1
        have p2 : w6.cell? ⟨pb, 2, none⟩ = some (.bool wd) := KP6.out.cell 2
        by_cases hd32 : 32 < d
        · have HE := Lib.hid (show walkS t 0 t [] = 9 by rw [HD2.out, if_pos hd32])
          go_wp2
          go_ret
          exact ⟨by rw [HE.out]; rfl, Below.next HBW.out HB6.out HBW.out.size⟩
        have HE := Lib.hid (show walkS t 0 t [] = walkS t (k + 1) (t.drop (k + 1)) (st.take m ++ [⟨k, d, wd⟩]) by rw [HD2.out, if_neg hd32])
        have hd32' : ¬ 32 < d := hd32
        clear HD2 hd32
        have hmc : (m : Int) ≤ (cap2 : Int) := by omega
        have ha0 := add_zero A2
        have HOT := Lib.hid (Own.head cPart_len HOS.out (j := m) (by have := HMN.out; omega))
        have KP7 := Lib.hid (KP6.out.alloc (.cells (cPart ⟨k, d, wd⟩).toArray 325)).drew
        have KN7 := Lib.hid (show Blk (w6.alloc (.cells (cPart ⟨k, d, wd⟩).toArray 325)).drew w6.heap.size 325 (cPart ⟨k, d, wd⟩).toArray from (Blk.new w6 325 (cPart ⟨k, d, wd⟩).toArray).drew)
        have HO7 := Lib.hid (show Own cPart 325 3 (w6.alloc (.cells (cPart ⟨k, d, wd⟩).toArray 325)).drew (.slice A2 m cap2) (st.take m) from (HOT.out.alloc _).drew)
        have HB7 := Lib.hid (show Below w.heap.size w (w6.alloc (.cells (cPart ⟨k, d, wd⟩).toArray 325)).drew from ((Below.next HBW.out HB6.out HBW.out.size).alloc (by have := HBW.out.size; have := HB6.out.size; omega) _).drew)
        have HS67 := Lib.hid (show w0.heap.size ≤ w6.heap.size from HB6.out.size)
        go_upto_region 21 with (fail)
        clear p0 p1 p2
        refine wp_region_noPanic ?_
        refine wp_region_U (fun W' => Blk W' pb 325 #[.int .i64 k, .int .i64 d, .bool wd]) 9 (by kernel_rfl) ?_
        have hHeld : (fun W' => Blk W' pb 325 #[.int .i64 k, .int .i64 d, .bool wd]) _ := KP6.out.drew
        refine wpAnyU_take0 0 (oi := ⟨some 76, .move (.tmp 5), _, _, _, none⟩) (v := .slice A2 st.length cap2) rfl (by kernel_rfl) (by kernel_rfl) (by kernel_rfl) (by decide) (fun c d e h => NoPanic.put h) (Or.inl ⟨by rfl, by intro W hW; go_simp⟩) (fun _ => hHeld) ?_
        try simp only [Act.put, List.setIfInBounds_toArray, List.set_cons_zero, List.set_cons_succ]
        refine wpAnyU_take0 1 (oi := ⟨some 77, .move (.tmp 5), _, _, _, none⟩) (v := .slice A2 st.length cap2) rfl (by kernel_rfl) (by kernel_rfl) (by kernel_rfl) (by decide) (fun c d e h => NoPanic.put h) (Or.inl ⟨by rfl, by intro W hW; go_simp⟩) (fun _ => hHeld) ?_
        try simp only [Act.put, List.setIfInBounds_toArray, List.set_cons_zero, List.set_cons_succ]
        refine wpAnyU_take0 2 (oi := ⟨some 78, .call { callee := .builtin .len, args := #[.tmp 77], argTypes := #[320] }, _, _, _, none⟩) (v := .int .i64 st.length) rfl (by kernel_rfl) (by kernel_rfl) (by kernel_rfl) (by decide) (fun c d e h => NoPanic.put h) (Or.inl ⟨by rfl, by intro W hW; go_simp⟩) (fun _ => hHeld) ?_
        try simp only [Act.put, List.setIfInBounds_toArray, List.set_cons_zero, List.set_cons_succ]
        refine wpAnyU_take0 3 (oi := ⟨some 79, .move (.tmp 9), _, _, _, none⟩) (v := .int .i64 j) rfl (by kernel_rfl) (by kernel_rfl) (by kernel_rfl) (by decide) (fun c d e h => NoPanic.put h) (Or.inl ⟨by rfl, by intro W hW; go_simp⟩) (fun _ => hHeld) ?_
        try simp only [Act.put, List.setIfInBounds_toArray, List.set_cons_zero, List.set_cons_succ]
        refine wpAnyU_take0 4 (oi := ⟨some 80, .binOp .sub 3 (.tmp 78) (.tmp 79) 3, _, _, _, none⟩) (v := .int .i64 m) rfl (by kernel_rfl) (by kernel_rfl) (by kernel_rfl) (by decide) (fun c d e h => NoPanic.put h) (Or.inl ⟨by rfl, by intro W hW; go_simp⟩) (fun _ => hHeld) ?_
        try simp only [Act.put, List.setIfInBounds_toArray, List.set_cons_zero, List.set_cons_succ]
        refine wpAnyU_take0 5 (oi := ⟨some 81, .slice 320 (.tmp 76) none (some (.tmp 80)) none, _, _, _, none⟩) (v := .slice A2 m cap2) rfl (by kernel_rfl) (by kernel_rfl) (by kernel_rfl) (by decide) (fun c d e h => NoPanic.put h) (Or.inl ⟨by rfl, by intro W hW; go_simp⟩) (fun _ => hHeld) ?_
        try simp only [Act.put, List.setIfInBounds_toArray, List.set_cons_zero, List.set_cons_succ]
        refine wpAnyU_take 6 (oi := ⟨some 82, .load 325 (.tmp 10), 325, _, _, none⟩) (v := .agg _) rfl (by kernel_rfl) (by kernel_rfl) (by kernel_rfl) (by kernel_rfl) (by decide) (by kernel_rfl) (fun c d e h => NoPanic.put h) (yieldsIf_load_mid rfl _ _ rfl (pb) (0) rfl _ _ (fun W' h => h.range (l := cPart ⟨k, d, wd⟩) (o := 0) (by intro j v hj; rw [Nat.zero_add]; exact List.getElem?_toArray.trans hj)) rfl rfl (by kernel_rfl)) hHeld ?_
        try simp only [Act.put, List.setIfInBounds_toArray, List.set_cons_zero, List.set_cons_succ]
        refine wpAnyU_step 7 (o := ⟨some 83, .buildSlice 320 1 #[(0, .tmp 82)], 320, _, _, none⟩) (by kernel_rfl) rfl rfl (fun K hK => ?_)
        go_simp
        refine hK.out _ _ (fun _ => KP7.out) ?_
        have hHeld : (fun W' => Blk W' pb 325 #[.int .i64 k, .int .i64 d, .bool wd]) _ := KP7.out
        clear hK K
        try simp only [Act.put, List.setIfInBounds_toArray, List.set_cons_zero, List.set_cons_succ]
        obtain ⟨r9, w9, hr9, o9, t9⟩ := run_more (P := Tryz.prog) _ cPart 320 320 325 ip _ 3 24 Tryz.underlying320 ip0 ip1 ip2 ip3 rfl (by omega) (.slice A2 m cap2) (st.take m) HO7.out _ _ [(⟨k, d, wd⟩ : Part)] (Sls.one (x := (⟨k, d, wd⟩ : Part)) KN7.out rfl) cPart_len cPart_one (by simp; omega) (by omega)
        have hB9 := KP7.out.outTo t9 (fun e => by have h1 := HRN.out pb (by rw [own_len A2 st.length m]; exact e); have := HPB.out; omega)
        refine wpAnyU_step 8 (o := ⟨some 84, .call { callee := .builtin .append, args := #[.tmp 81, .tmp 83], argTypes := #[320, 320] }, 320, _, _, none⟩) (by kernel_rfl) rfl rfl (fun K hK => ?_)
        refine wp_append_eq (.tmp 81) (.tmp 83) _ _ rfl _ _ _ _ rfl rfl hr9 ?_
        refine hK.out _ _ (fun _ => hB9) ?_
        have hHeld : (fun W' => Blk W' pb 325 #[.int .i64 k, .int .i64 d, .bool wd]) _ := hB9
        clear hK K
        try simp only [Act.put, List.setIfInBounds_toArray, List.set_cons_zero, List.set_cons_succ]
        refine wpAnyU_step 9 (o := ⟨some 5, .assign (.tmp 84), 320, _, _, none⟩) (by kernel_rfl) rfl rfl (fun K hK => ?_)
        go_simp
        refine hK.out _ _ (fun h => absurd h (by decide)) ?_
        clear hK K
        try simp only [Act.put, List.setIfInBounds_toArray, List.set_cons_zero, List.set_cons_succ]
        refine wpAnyU_done (by kernel_rfl) ?_
        refine NoPanic.normal ?_
        have HB9 := Lib.hid (Below.trans HB7.out (t9.old (B := w.heap.size) HB7.out.size (fun q hq => HOB.out q (by rw [own_len A2 st.length m]; exact hq))))
        have HQ9 := Lib.hid (show ∀ q, r9.ownBlock = some q → w.heap.size ≤ q from t9.newer HB7.out.size (fun q hq => HOB.out q (by rw [own_len A2 st.length m]; exact hq)))
        have O9 := Lib.hid o9
        have p1 : w9.cell? ⟨pb, 1, none⟩ = some (.int .i64 d) := hB9.cell 1
        have HR9 := Lib.hid (show ∀ p ∈ st.take m ++ [(⟨k, d, wd⟩ : Part)], p.root < t.length ∧ 1 ≤ p.depth ∧ p.depth ≤ 32 from fun p hp => by
          rcases List.mem_append.1 hp with hp | hp
          · exact HRT.out p (List.mem_of_mem_take hp)
          · rw [List.mem_singleton] at hp
            subst hp
            exact ⟨hlt, hdb.1, by show d ≤ 32; omega⟩)
        clear hHeld hB9 o9 t9 hr9
        go_wp2_with fail
        refine (tree_nothing _ _ _ _).mono ?_
        rintro u w10 ⟨rfl, rfl⟩
        go_wp2
        exact ⟨⟨k + 1, st.take m ++ [⟨k, d, wd⟩], by omega, by go_num, O9.out, HQ9.out, HB9.out, HE.out, by simp; omega, HR9.out⟩, by simp [intOf]; omega⟩
end Go.Proofs.YtamcgggmfghljaaGreatDoor
