/- A script that came in, opened: its cells, its six lists. · A script that came in: how long its lists may be (the form's own reach). · Layer 41: what a script's bytes are. No program in sight. -/
import Derived.ProofKit
import Derived.Deep.Slices
import Derived.ChangeSame
import Derived.Test.YtamcgggmfghljaaGreatDoorB3
set_option maxRecDepth 100000
set_option maxHeartbeats 8000000
namespace Go.Proofs.YtamcgggmfghljaaGreatDoor
open Go.ChangeShapes Go.WideShapes Go.Deep Go.RowKit
/-! ### A struct's cells, one type a cell -/
def flat (P : Program) : Nat → TypeId → List TypeId
  | 0, t => [t]
  | n + 1, t => match P.underlying t with
    | some (.struct fs) => fs.toList.flatMap fun f => flat P n f.type
    | _ => [t]
def flatOk (P : Program) : Nat → TypeId → Bool
  | 0, t => P.cellsOf t == 1
  | n + 1, t => match P.underlying t with
    | some (.struct fs) => P.cellsOf t == (fs.toList.flatMap fun f => flat P n f.type).length && (List.range fs.toList.length).all fun i => match fs.toList[i]? with
        | some f => f.offset == ((fs.toList.take i).flatMap fun f => flat P n f.type).length && P.cellsOf f.type == (flat P n f.type).length && flatOk P n f.type
        | none => true
    | _ => P.cellsOf t == 1
theorem flatMap_index {α β : Type} (g : α → List β) : ∀ (l : List α) (j : Nat) (b : β), (l.flatMap g)[j]? = some b →
    ∃ i f k, l[i]? = some f ∧ (g f)[k]? = some b ∧ j = ((l.take i).flatMap g).length + k ∧ ((l.take i).flatMap g).length + (g f).length ≤ (l.flatMap g).length
  | [], j, b, h => by simp at h
  | a :: l, j, b, h => by
    rw [List.flatMap_cons] at h
    by_cases hj : j < (g a).length
    · rw [List.getElem?_append_left hj] at h
      exact ⟨0, a, j, rfl, h, by simp, by simp⟩
    · rw [List.getElem?_append_right (by omega)] at h
      obtain ⟨i, f, k, h1, h2, h3, h4⟩ := flatMap_index g l _ b h
      refine ⟨i + 1, f, k, by simpa using h1, h2, ?_, ?_⟩
      · rw [List.take_succ_cons, List.flatMap_cons, List.length_append]; omega
      · rw [List.take_succ_cons, List.flatMap_cons, List.length_append, List.flatMap_cons, List.length_append]; omega
section
variable {H : Type} {enc : TypeId × Value → H} {P : Program} {w : World} {base : Nat} {spare : Nat → Bool} {held : Bool}
/-- Each cell of what reads at a type reads at its own type. -/
theorem flat_open : ∀ (n : Nat) (t : TypeId) (fuel : Nat) (cs : List Value) (x : DataW H × List MemPlace), flatOk P n t = true → cs.length = P.cellsOf t → DataW.trod enc P w base spare held fuel t cs = some x →
    ∀ (j : Nat) (tl : TypeId), (flat P n t)[j]? = some tl → ∃ v y m, cs[j]? = some v ∧ DataW.trod enc P w base spare held m tl [v] = some y := by
  intro n
  induction n with
  | zero =>
    intro t fuel cs x hok hl h j tl hj
    simp only [flatOk, beq_iff_eq] at hok
    simp only [flat] at hj
    obtain ⟨v, rfl⟩ := List.length_eq_one_iff.1 (hl.trans hok)
    have hj0 : j = 0 := by have := (List.getElem?_eq_some_iff.1 hj).1; simpa using this
    subst hj0
    simp at hj
    subst hj
    exact ⟨v, x, fuel, rfl, h⟩
  | succ n ih =>
    intro t fuel cs x hok hl h j tl hj
    have leaf : P.cellsOf t = 1 → (flat P (n + 1) t) = [t] → ∃ v y m, cs[j]? = some v ∧ DataW.trod enc P w base spare held m tl [v] = some y := by
      intro h1 h2
      rw [h2] at hj
      obtain ⟨v, rfl⟩ := List.length_eq_one_iff.1 (hl.trans h1)
      have hj0 : j = 0 := by have := (List.getElem?_eq_some_iff.1 hj).1; simpa using this
      subst hj0
      simp at hj
      subst hj
      exact ⟨v, x, fuel, rfl, h⟩
    by_cases hs : ∃ fs, P.underlying t = some (.struct fs)
    · obtain ⟨fs, ht⟩ := hs
      simp only [flat, ht] at hj
      simp only [flatOk, ht, Bool.and_eq_true, beq_iff_eq] at hok
      obtain ⟨hc, hall⟩ := hok
      obtain ⟨i, f, k, h1, h2, h3, h4⟩ := flatMap_index _ _ j tl hj
      have hi := (List.getElem?_eq_some_iff.1 h1).1
      have hall' := List.all_eq_true.1 hall i (List.mem_range.2 hi)
      simp only [h1, Bool.and_eq_true, beq_iff_eq] at hall'
      obtain ⟨⟨ho, hcf⟩, hf⟩ := hall'
      obtain ⟨ys, n', hn', hy, hlen, hyl, hfs⟩ := DataW.trod_struct ht h
      have hk := (List.getElem?_eq_some_iff.1 h2).1
      have hrd := hfs i f (by rw [← Array.getElem?_toList]; exact h1)
      have hys : ys[i]? = some (ys[i]'(by rw [hyl]; simpa using hi)) := List.getElem?_eq_getElem _
      rw [hys] at hrd
      obtain ⟨v, y, m, hv, hm⟩ := ih f.type n' _ _ hf (by rw [List.length_take, List.length_drop]; omega) hrd k tl h2
      refine ⟨v, y, m, ?_, hm⟩
      rw [List.getElem?_take, if_pos (by omega), List.getElem?_drop] at hv
      rw [h3, ← ho]
      exact hv
    · have hleaf : flat P (n + 1) t = [t] := by
        simp only [flat]
        split
        · rename_i fs ht; exact absurd ⟨fs, ht⟩ hs
        · rfl
      refine leaf ?_ hleaf
      simp only [flatOk] at hok
      split at hok
      · rename_i fs ht; exact absurd ⟨fs, ht⟩ hs
      · simpa using hok
theorem list_of {α : Type} {p : Nat → α → Prop} : ∀ (n : Nat), (∀ i, i < n → ∃ x, p i x) → ∃ l : List α, l.length = n ∧ ∀ i x, l[i]? = some x → p i x
  | 0, _ => ⟨[], rfl, fun i x h => by simp at h⟩
  | n + 1, h => by
    obtain ⟨l, hl, hp⟩ := list_of n fun i hi => h i (by omega)
    obtain ⟨x, hx⟩ := h n (by omega)
    refine ⟨l ++ [x], by simp [hl], fun i y hy => ?_⟩
    by_cases hi : i < n
    · rw [List.getElem?_append_left (by omega)] at hy
      exact hp i y hy
    · rw [List.getElem?_append_right (by omega)] at hy
      have hi2 : i = n := by have := (List.getElem?_eq_some_iff.1 hy).1; simp at this; omega
      subst hi2
      simp [hl] at hy
      subst hy
      exact hx
theorem addr_add (b o n : Nat) : (⟨b, o, none⟩ : Addr).add n = ⟨b, o + n, none⟩ := by unfold Addr.add; split <;> simp_all
theorem addr_of_cell {a : Addr} {v : Value} (h : w.cell? a = some v) : a = ⟨a.block, a.off, none⟩ := by
  obtain ⟨b, o, s⟩ := a
  cases s with
  | none => rfl
  | some s => simp only [World.cell?] at h; split at h <;> simp at h
/-- A slice of structs reads as a list. -/
theorem open_list {α : Type} (c : α → List Value) (good : α → Prop) (n : Nat) {t e : TypeId} {fuel : Nat} {v : Value} {x : DataW H × List MemPlace} (k : Nat) (hk : ∀ a, (c a).length = k) (hk0 : 0 < k) (ht : P.underlying t = some (.slice e)) (hok : flatOk P n e = true) (hce : P.cellsOf e = k)
    (dec : ∀ cs : List Value, cs.length = k → (∀ (j : Nat) (tl : TypeId), (flat P n e)[j]? = some tl → ∃ v y m, cs[j]? = some v ∧ DataW.trod enc P w base spare held m tl [v] = some y) → ∃ a, cs = c a ∧ good a)
    (h : DataW.trod enc P w base spare held fuel t [v] = some x) : ∃ l : List α, Sls c w w.heap.size v l ∧ ∀ a ∈ l, good a := by
  rcases open_slice ht h with ⟨hcs, _⟩ | ⟨a, len, cap, m, n', D, Pl, hcs, _, hl, hm, hmm, _, hi⟩
  · simp at hcs
    subst hcs
    exact ⟨[], Sls.nil _ _ _ _ _, by simp⟩
  · simp at hcs
    subst hcs
    have hlm : len ≤ m := by rw [hmm]; split <;> omega
    obtain ⟨l, hll, hp⟩ := list_of (α := α) (p := fun i z => w.rangeAt a.block (a.off + i * k) (c z) ∧ a = ⟨a.block, a.off, none⟩ ∧ a.block < w.heap.size ∧ good z) len fun i hlt => by
      obtain ⟨cs', hc, hr⟩ := hi i (by omega)
      rw [hce] at hc
      obtain ⟨_, hcl, hat⟩ := World.cells?_some hc
      obtain ⟨z, rfl, hg⟩ := dec cs' hcl (flat_open n e n' cs' _ hok (by rw [hcl, hce]) hr)
      have h0 := hat 0 hk0
      rw [List.getElem?_eq_getElem (by omega)] at h0
      have h0' : w.cell? (a.add (i * k)) = some (c z)[0] := by
        rw [Go.Deep.add_add] at h0
        exact h0
      have hblk : (a.add (i * k)).block = a.block := by unfold Addr.add; split <;> rfl
      have hb := block_lt_of_cell h0'
      rw [hblk] at hb
      have ha : a = ⟨a.block, a.off, none⟩ := by
        obtain ⟨cs0, hc0, _⟩ := hi 0 (by omega)
        rw [hce] at hc0
        obtain ⟨_, hcl0, hat0⟩ := World.cells?_some hc0
        have h1 := hat0 0 hk0
        rw [List.getElem?_eq_getElem (by omega), Go.Deep.add_add, Nat.zero_mul] at h1
        exact addr_of_cell (a := a) h1
      refine ⟨z, fun j u hu => ?_, ha, hb, hg⟩
      have hjk : j < k := by have := (List.getElem?_eq_some_iff.1 hu).1; omega
      have h2 := hat j hjk
      rw [Go.Deep.add_add, ha, addr_add, hu] at h2
      rw [← h2, Nat.add_assoc]
    refine ⟨l, ⟨some a, cap, by rw [hll], by omega, by omega, fun hpos => ?_⟩, fun z hz => ?_⟩
    · have hx0 : l[0]? = some l[0] := List.getElem?_eq_getElem hpos
      obtain ⟨_, ha, hb, _⟩ := hp 0 _ hx0
      refine ⟨a.block, a.off, by rw [← ha], hb, fun j u hu => ?_⟩
      obtain ⟨i, z, q, h1, h2, h3, _⟩ := flatMap_index c l j u hu
      have hr := (hp i z h1).1 q u h2
      have hil := (List.getElem?_eq_some_iff.1 h1).1
      rw [flatMap_length c k hk, List.length_take, Nat.min_eq_left (by omega)] at h3
      rw [h3, ← Nat.add_assoc]
      exact hr
    · obtain ⟨i, hi2, rfl⟩ := List.getElem_of_mem hz
      exact (hp i _ (List.getElem?_eq_getElem hi2)).2.2.2
end
/-- What a cell's number may be. -/
def okV (v : Value) : Prop := match v with
  | .int k n => (Lit.int k n).wf = true
  | .string s => s.size ≤ maxLen
  | _ => True
theorem str_of (s : ByteArray) : Value.string s = str s.data.toList := by
  show Value.string s = Value.string ⟨s.data.toList.toArray⟩
  rw [Array.toArray_toList]
section
variable {H : Type} {enc : TypeId × Value → H} {w : World} {base : Nat} {spare : Nat → Bool} {held : Bool}
theorem leaf_int {k : IntKind} {t : TypeId} (ht : Tryz.prog.underlying t = some (.int k)) {cs : List Value} {j : Nat} (h : ∃ v y m, cs[j]? = some v ∧ DataW.trod enc Tryz.prog w base spare held m t [v] = some y) : ∃ n, cs[j]? = some (.int k n) ∧ okV (.int k n) := by
  obtain ⟨v, y, m, h1, h2⟩ := h
  obtain ⟨n, e, _, hw⟩ := DataW.trod_int ht h2
  simp at e
  subst e
  exact ⟨n, h1, hw⟩
theorem leaf_str {t : TypeId} (ht : Tryz.prog.underlying t = some .string) {cs : List Value} {j : Nat} (h : ∃ v y m, cs[j]? = some v ∧ DataW.trod enc Tryz.prog w base spare held m t [v] = some y) : ∃ s : Bytes, cs[j]? = some (str s) ∧ okV (str s) := by
  obtain ⟨v, y, m, h1, h2⟩ := h
  obtain ⟨s, e, _, hw⟩ := DataW.trod_string ht h2
  simp at e
  subst e
  exact ⟨s.data.toList, by rw [h1, str_of], by rw [← str_of]; exact hw⟩
theorem leaf_bool {t : TypeId} (ht : Tryz.prog.underlying t = some .bool) {cs : List Value} {j : Nat} (h : ∃ v y m, cs[j]? = some v ∧ DataW.trod enc Tryz.prog w base spare held m t [v] = some y) : ∃ b, cs[j]? = some (.bool b) := by
  obtain ⟨v, y, m, h1, h2⟩ := h
  obtain ⟨b, e, _⟩ := DataW.trod_bool ht h2
  simp at e
  subst e
  exact ⟨b, h1⟩
theorem open_ent {fuel : Nat} {v : Value} {x : DataW H × List MemPlace} (h : DataW.trod enc Tryz.prog w base spare held fuel 22 [v] = some x) : ∃ l : List Ent, Sls cEnt w w.heap.size v l ∧ ∀ a ∈ l, ∀ u ∈ cEnt a, okV u := by
  have hfl : flat Tryz.prog 3 58 = [3, 3, 9] := by kernel_rfl
  refine open_list cEnt (fun a => ∀ u ∈ cEnt a, okV u) 3 3 cEnt_len (by decide) Tryz.underlying22 (by kernel_rfl) (by kernel_rfl) (fun cs hl key => ?_) h
  rw [hfl] at key
  obtain ⟨a0, e0, g0⟩ := leaf_int Tryz.underlying3 (key 0 _ rfl)
  obtain ⟨a1, e1, g1⟩ := leaf_int Tryz.underlying3 (key 1 _ rfl)
  obtain ⟨a2, e2, g2⟩ := leaf_str Tryz.underlying9 (key 2 _ rfl)
  have hcs : cs = cEnt ⟨⟨a0, a1⟩, a2⟩ := by
    apply List.ext_getElem?
    intro i
    match i with
    | 0 => exact e0
    | 1 => exact e1
    | 2 => exact e2
    | i + 3 => rw [List.getElem?_eq_none (by omega), List.getElem?_eq_none (by rw [cEnt_len]; omega)]
  refine ⟨⟨⟨a0, a1⟩, a2⟩, hcs, ?_⟩
  intro u hu
  simp only [cEnt, List.mem_cons, List.not_mem_nil, or_false] at hu
  rcases hu with rfl | rfl | rfl
  · exact g0
  · exact g1
  · exact g2
theorem open_rul {fuel : Nat} {v : Value} {x : DataW H × List MemPlace} (h : DataW.trod enc Tryz.prog w base spare held fuel 23 [v] = some x) : ∃ l : List Rul, Sls cRul w w.heap.size v l ∧ ∀ a ∈ l, ∀ u ∈ cRul a, okV u := by
  have hfl : flat Tryz.prog 3 79 = [3, 3, 3, 3, 44, 44, 44] := by kernel_rfl
  refine open_list cRul (fun a => ∀ u ∈ cRul a, okV u) 3 7 cRul_len (by decide) Tryz.underlying23 (by kernel_rfl) (by kernel_rfl) (fun cs hl key => ?_) h
  rw [hfl] at key
  obtain ⟨a0, e0, g0⟩ := leaf_int Tryz.underlying3 (key 0 _ rfl)
  obtain ⟨a1, e1, g1⟩ := leaf_int Tryz.underlying3 (key 1 _ rfl)
  obtain ⟨a2, e2, g2⟩ := leaf_int Tryz.underlying3 (key 2 _ rfl)
  obtain ⟨a3, e3, g3⟩ := leaf_int Tryz.underlying3 (key 3 _ rfl)
  obtain ⟨a4, e4, g4⟩ := leaf_int Tryz.underlying44 (key 4 _ rfl)
  obtain ⟨a5, e5, g5⟩ := leaf_int Tryz.underlying44 (key 5 _ rfl)
  obtain ⟨a6, e6, g6⟩ := leaf_int Tryz.underlying44 (key 6 _ rfl)
  have hcs : cs = cRul ⟨⟨a0, a1, a2, a3⟩, ⟨a4, a5, a6⟩⟩ := by
    apply List.ext_getElem?
    intro i
    match i with
    | 0 => exact e0
    | 1 => exact e1
    | 2 => exact e2
    | 3 => exact e3
    | 4 => exact e4
    | 5 => exact e5
    | 6 => exact e6
    | i + 7 => rw [List.getElem?_eq_none (by omega), List.getElem?_eq_none (by rw [cRul_len]; omega)]
  refine ⟨⟨⟨a0, a1, a2, a3⟩, ⟨a4, a5, a6⟩⟩, hcs, ?_⟩
  intro u hu
  simp only [cRul, List.mem_cons, List.not_mem_nil, or_false] at hu
  rcases hu with rfl | rfl | rfl | rfl | rfl | rfl | rfl
  · exact g0
  · exact g1
  · exact g2
  · exact g3
  · exact g4
  · exact g5
  · exact g6
theorem open_grt {fuel : Nat} {v : Value} {x : DataW H × List MemPlace} (h : DataW.trod enc Tryz.prog w base spare held fuel 24 [v] = some x) : ∃ l : List Grt, Sls cGrt w w.heap.size v l ∧ ∀ a ∈ l, ∀ u ∈ cGrt a, okV u := by
  have hfl : flat Tryz.prog 3 85 = [3, 3, 3, 3, 5, 44, 3, 4] := by kernel_rfl
  refine open_list cGrt (fun a => ∀ u ∈ cGrt a, okV u) 3 8 cGrt_len (by decide) Tryz.underlying24 (by kernel_rfl) (by kernel_rfl) (fun cs hl key => ?_) h
  rw [hfl] at key
  obtain ⟨a0, e0, g0⟩ := leaf_int Tryz.underlying3 (key 0 _ rfl)
  obtain ⟨a1, e1, g1⟩ := leaf_int Tryz.underlying3 (key 1 _ rfl)
  obtain ⟨a2, e2, g2⟩ := leaf_int Tryz.underlying3 (key 2 _ rfl)
  obtain ⟨a3, e3, g3⟩ := leaf_int Tryz.underlying3 (key 3 _ rfl)
  obtain ⟨a4, e4, g4⟩ := leaf_int Tryz.underlying5 (key 4 _ rfl)
  obtain ⟨a5, e5, g5⟩ := leaf_int Tryz.underlying44 (key 5 _ rfl)
  obtain ⟨a6, e6, g6⟩ := leaf_int Tryz.underlying3 (key 6 _ rfl)
  obtain ⟨a7, e7⟩ := leaf_bool Tryz.underlying4 (key 7 _ rfl)
  have g7 : okV (.bool a7) := trivial
  have hcs : cs = cGrt ⟨⟨a0, a1, a2, a3⟩, a4, a5, a6, a7⟩ := by
    apply List.ext_getElem?
    intro i
    match i with
    | 0 => exact e0
    | 1 => exact e1
    | 2 => exact e2
    | 3 => exact e3
    | 4 => exact e4
    | 5 => exact e5
    | 6 => exact e6
    | 7 => exact e7
    | i + 8 => rw [List.getElem?_eq_none (by omega), List.getElem?_eq_none (by rw [cGrt_len]; omega)]
  refine ⟨⟨⟨a0, a1, a2, a3⟩, a4, a5, a6, a7⟩, hcs, ?_⟩
  intro u hu
  simp only [cGrt, List.mem_cons, List.not_mem_nil, or_false] at hu
  rcases hu with rfl | rfl | rfl | rfl | rfl | rfl | rfl | rfl
  · exact g0
  · exact g1
  · exact g2
  · exact g3
  · exact g4
  · exact g5
  · exact g6
  · exact g7
theorem open_evt {fuel : Nat} {v : Value} {x : DataW H × List MemPlace} (h : DataW.trod enc Tryz.prog w base spare held fuel 25 [v] = some x) : ∃ l : List Evt, Sls cEvt w w.heap.size v l ∧ ∀ a ∈ l, ∀ u ∈ cEvt a, okV u := by
  have hfl : flat Tryz.prog 3 110 = [3, 3, 5, 3, 3, 3, 3, 4, 44] := by kernel_rfl
  refine open_list cEvt (fun a => ∀ u ∈ cEvt a, okV u) 3 9 cEvt_len (by decide) Tryz.underlying25 (by kernel_rfl) (by kernel_rfl) (fun cs hl key => ?_) h
  rw [hfl] at key
  obtain ⟨a0, e0, g0⟩ := leaf_int Tryz.underlying3 (key 0 _ rfl)
  obtain ⟨a1, e1, g1⟩ := leaf_int Tryz.underlying3 (key 1 _ rfl)
  obtain ⟨a2, e2, g2⟩ := leaf_int Tryz.underlying5 (key 2 _ rfl)
  obtain ⟨a3, e3, g3⟩ := leaf_int Tryz.underlying3 (key 3 _ rfl)
  obtain ⟨a4, e4, g4⟩ := leaf_int Tryz.underlying3 (key 4 _ rfl)
  obtain ⟨a5, e5, g5⟩ := leaf_int Tryz.underlying3 (key 5 _ rfl)
  obtain ⟨a6, e6, g6⟩ := leaf_int Tryz.underlying3 (key 6 _ rfl)
  obtain ⟨a7, e7⟩ := leaf_bool Tryz.underlying4 (key 7 _ rfl)
  have g7 : okV (.bool a7) := trivial
  obtain ⟨a8, e8, g8⟩ := leaf_int Tryz.underlying44 (key 8 _ rfl)
  have hcs : cs = cEvt ⟨a0, a1, a2, ⟨a3, a4, a5, a6⟩, a7, a8⟩ := by
    apply List.ext_getElem?
    intro i
    match i with
    | 0 => exact e0
    | 1 => exact e1
    | 2 => exact e2
    | 3 => exact e3
    | 4 => exact e4
    | 5 => exact e5
    | 6 => exact e6
    | 7 => exact e7
    | 8 => exact e8
    | i + 9 => rw [List.getElem?_eq_none (by omega), List.getElem?_eq_none (by rw [cEvt_len]; omega)]
  refine ⟨⟨a0, a1, a2, ⟨a3, a4, a5, a6⟩, a7, a8⟩, hcs, ?_⟩
  intro u hu
  simp only [cEvt, List.mem_cons, List.not_mem_nil, or_false] at hu
  rcases hu with rfl | rfl | rfl | rfl | rfl | rfl | rfl | rfl | rfl
  · exact g0
  · exact g1
  · exact g2
  · exact g3
  · exact g4
  · exact g5
  · exact g6
  · exact g7
  · exact g8
theorem open_rls {fuel : Nat} {v : Value} {x : DataW H × List MemPlace} (h : DataW.trod enc Tryz.prog w base spare held fuel 26 [v] = some x) : ∃ l : List Rls, Sls cRls w w.heap.size v l ∧ ∀ a ∈ l, ∀ u ∈ cRls a, okV u := by
  have hfl : flat Tryz.prog 3 116 = [3, 3, 3, 3, 5, 3, 3, 3, 3, 3, 44] := by kernel_rfl
  refine open_list cRls (fun a => ∀ u ∈ cRls a, okV u) 3 11 cRls_len (by decide) Tryz.underlying26 (by kernel_rfl) (by kernel_rfl) (fun cs hl key => ?_) h
  rw [hfl] at key
  obtain ⟨a0, e0, g0⟩ := leaf_int Tryz.underlying3 (key 0 _ rfl)
  obtain ⟨a1, e1, g1⟩ := leaf_int Tryz.underlying3 (key 1 _ rfl)
  obtain ⟨a2, e2, g2⟩ := leaf_int Tryz.underlying3 (key 2 _ rfl)
  obtain ⟨a3, e3, g3⟩ := leaf_int Tryz.underlying3 (key 3 _ rfl)
  obtain ⟨a4, e4, g4⟩ := leaf_int Tryz.underlying5 (key 4 _ rfl)
  obtain ⟨a5, e5, g5⟩ := leaf_int Tryz.underlying3 (key 5 _ rfl)
  obtain ⟨a6, e6, g6⟩ := leaf_int Tryz.underlying3 (key 6 _ rfl)
  obtain ⟨a7, e7, g7⟩ := leaf_int Tryz.underlying3 (key 7 _ rfl)
  obtain ⟨a8, e8, g8⟩ := leaf_int Tryz.underlying3 (key 8 _ rfl)
  obtain ⟨a9, e9, g9⟩ := leaf_int Tryz.underlying3 (key 9 _ rfl)
  obtain ⟨a10, e10, g10⟩ := leaf_int Tryz.underlying44 (key 10 _ rfl)
  have hcs : cs = cRls ⟨a0, ⟨a1, a2⟩, a3, a4, ⟨a5, a6, a7, a8⟩, a9, a10⟩ := by
    apply List.ext_getElem?
    intro i
    match i with
    | 0 => exact e0
    | 1 => exact e1
    | 2 => exact e2
    | 3 => exact e3
    | 4 => exact e4
    | 5 => exact e5
    | 6 => exact e6
    | 7 => exact e7
    | 8 => exact e8
    | 9 => exact e9
    | 10 => exact e10
    | i + 11 => rw [List.getElem?_eq_none (by omega), List.getElem?_eq_none (by rw [cRls_len]; omega)]
  refine ⟨⟨a0, ⟨a1, a2⟩, a3, a4, ⟨a5, a6, a7, a8⟩, a9, a10⟩, hcs, ?_⟩
  intro u hu
  simp only [cRls, List.mem_cons, List.not_mem_nil, or_false] at hu
  rcases hu with rfl | rfl | rfl | rfl | rfl | rfl | rfl | rfl | rfl | rfl | rfl
  · exact g0
  · exact g1
  · exact g2
  · exact g3
  · exact g4
  · exact g5
  · exact g6
  · exact g7
  · exact g8
  · exact g9
  · exact g10
theorem open_opr {fuel : Nat} {v : Value} {x : DataW H × List MemPlace} (h : DataW.trod enc Tryz.prog w base spare held fuel 29 [v] = some x) : ∃ l : List Opr, Sls cOpr w w.heap.size v l ∧ ∀ a ∈ l, ∀ u ∈ cOpr a, okV u := by
  have hfl : flat Tryz.prog 3 48 = [5, 3, 3, 3, 3, 3, 9, 44, 44, 44, 5, 44, 3] := by kernel_rfl
  refine open_list cOpr (fun a => ∀ u ∈ cOpr a, okV u) 3 13 cOpr_len (by decide) Tryz.underlying29 (by kernel_rfl) (by kernel_rfl) (fun cs hl key => ?_) h
  rw [hfl] at key
  obtain ⟨a0, e0, g0⟩ := leaf_int Tryz.underlying5 (key 0 _ rfl)
  obtain ⟨a1, e1, g1⟩ := leaf_int Tryz.underlying3 (key 1 _ rfl)
  obtain ⟨a2, e2, g2⟩ := leaf_int Tryz.underlying3 (key 2 _ rfl)
  obtain ⟨a3, e3, g3⟩ := leaf_int Tryz.underlying3 (key 3 _ rfl)
  obtain ⟨a4, e4, g4⟩ := leaf_int Tryz.underlying3 (key 4 _ rfl)
  obtain ⟨a5, e5, g5⟩ := leaf_int Tryz.underlying3 (key 5 _ rfl)
  obtain ⟨a6, e6, g6⟩ := leaf_str Tryz.underlying9 (key 6 _ rfl)
  obtain ⟨a7, e7, g7⟩ := leaf_int Tryz.underlying44 (key 7 _ rfl)
  obtain ⟨a8, e8, g8⟩ := leaf_int Tryz.underlying44 (key 8 _ rfl)
  obtain ⟨a9, e9, g9⟩ := leaf_int Tryz.underlying44 (key 9 _ rfl)
  obtain ⟨a10, e10, g10⟩ := leaf_int Tryz.underlying5 (key 10 _ rfl)
  obtain ⟨a11, e11, g11⟩ := leaf_int Tryz.underlying44 (key 11 _ rfl)
  obtain ⟨a12, e12, g12⟩ := leaf_int Tryz.underlying3 (key 12 _ rfl)
  have hcs : cs = cOpr ⟨a0, a1, ⟨a2, a3, a4, a5⟩, a6, ⟨a7, a8, a9⟩, a10, a11, a12⟩ := by
    apply List.ext_getElem?
    intro i
    match i with
    | 0 => exact e0
    | 1 => exact e1
    | 2 => exact e2
    | 3 => exact e3
    | 4 => exact e4
    | 5 => exact e5
    | 6 => exact e6
    | 7 => exact e7
    | 8 => exact e8
    | 9 => exact e9
    | 10 => exact e10
    | 11 => exact e11
    | 12 => exact e12
    | i + 13 => rw [List.getElem?_eq_none (by omega), List.getElem?_eq_none (by rw [cOpr_len]; omega)]
  refine ⟨⟨a0, a1, ⟨a2, a3, a4, a5⟩, a6, ⟨a7, a8, a9⟩, a10, a11, a12⟩, hcs, ?_⟩
  intro u hu
  simp only [cOpr, List.mem_cons, List.not_mem_nil, or_false] at hu
  rcases hu with rfl | rfl | rfl | rfl | rfl | rfl | rfl | rfl | rfl | rfl | rfl | rfl | rfl
  · exact g0
  · exact g1
  · exact g2
  · exact g3
  · exact g4
  · exact g5
  · exact g6
  · exact g7
  · exact g8
  · exact g9
  · exact g10
  · exact g11
  · exact g12
end
/-- A script whose numbers are what their types allow. -/
structure okS (s : Scp) : Prop where
  users : okV (.int .i64 s.book.users)
  step : okV (.int .i64 s.book.step)
  ents : ∀ x ∈ s.book.entries, ∀ u ∈ cEnt x, okV u
  ruls : ∀ x ∈ s.book.rules, ∀ u ∈ cRul x, okV u
  grts : ∀ x ∈ s.book.grants, ∀ u ∈ cGrt x, okV u
  evts : ∀ x ∈ s.book.log, ∀ u ∈ cEvt x, okV u
  rlss : ∀ x ∈ s.book.releases, ∀ u ∈ cRls x, okV u
  oprs : ∀ x ∈ s.ops, ∀ u ∈ cOpr x, okV u
theorem open_script {H : Type} {enc : TypeId × Value → H} {W : World} {base : Nat} {v : Value} {d : DataW H} {p : List MemPlace}
    (o : Value.okWide Tryz.prog W .any base 31 v) (h : DataW.Trod enc Tryz.prog W 0 (fun _ => true) true 31 v d p) :
    ∃ s e r g l x q, v = vScp s e r g l x q ∧ RdScp W W.heap.size s e r g l x q ∧ okS s := by
  have hfl : flat Tryz.prog 4 31 = [3, 22, 23, 24, 25, 26, 3, 29] := by kernel_rfl
  have hcl : Tryz.prog.cellsOf 31 = 8 := by kernel_rfl
  obtain ⟨cs, rfl, hsz⟩ := okWide_struct Tryz.underlying31 o
  obtain ⟨fuel, hf⟩ := h
  have key := flat_open 4 31 fuel _ _ (by kernel_rfl) (by simp [Value.cells, hsz]) hf
  rw [hfl] at key
  simp only [Value.cells] at key
  obtain ⟨n0, c0, g0⟩ := leaf_int Tryz.underlying3 (key 0 _ rfl)
  obtain ⟨v1, y1, m1, c1, t1⟩ := key 1 _ rfl
  obtain ⟨v2, y2, m2, c2, t2⟩ := key 2 _ rfl
  obtain ⟨v3, y3, m3, c3, t3⟩ := key 3 _ rfl
  obtain ⟨v4, y4, m4, c4, t4⟩ := key 4 _ rfl
  obtain ⟨v5, y5, m5, c5, t5⟩ := key 5 _ rfl
  obtain ⟨n6, c6, g6⟩ := leaf_int Tryz.underlying3 (key 6 _ rfl)
  obtain ⟨v7, y7, m7, c7, t7⟩ := key 7 _ rfl
  obtain ⟨l1, s1, k1⟩ := open_ent t1
  obtain ⟨l2, s2, k2⟩ := open_rul t2
  obtain ⟨l3, s3, k3⟩ := open_grt t3
  obtain ⟨l4, s4, k4⟩ := open_evt t4
  obtain ⟨l5, s5, k5⟩ := open_rls t5
  obtain ⟨l7, s7, k7⟩ := open_opr t7
  refine ⟨⟨⟨n0, l1, l2, l3, l4, l5, n6⟩, l7⟩, v1, v2, v3, v4, v5, v7, ?_, ⟨⟨s1, s2, s3, s4, s5⟩, s7⟩, ⟨g0, g6, k1, k2, k3, k4, k5, k7⟩⟩
  show Value.agg cs = Value.agg _
  congr 1
  apply Array.ext'
  apply List.ext_getElem?
  intro i
  match i with
  | 0 => exact c0
  | 1 => exact c1
  | 2 => exact c2
  | 3 => exact c3
  | 4 => exact c4
  | 5 => exact c5
  | 6 => exact c6
  | 7 => exact c7
  | i + 8 =>
    rw [List.getElem?_eq_none (by simp [hsz, hcl]), List.getElem?_eq_none (by simp)]
section
variable {H : Type} {enc : TypeId × Value → H} {P : Program} {w : World} {base : Nat} {spare : Nat → Bool} {held : Bool}
theorem weigh_each : ∀ (ts : List TypeId) (ds : List (DataW H)) (i : Nat) (t : TypeId) (d : DataW H), ts[i]? = some t → ds[i]? = some d → ∀ q ∈ d.weights P t, q ∈ DataW.weightsEach P ts ds
  | [], ds, i, t, d, h, _ => by simp at h
  | t' :: ts, [], i, t, d, _, h => by simp at h
  | t' :: ts, d' :: ds, 0, t, d, h1, h2 => by
    simp at h1 h2
    subst h1 h2
    intro q hq
    simp only [DataW.weightsEach, List.mem_append]
    exact .inl hq
  | t' :: ts, d' :: ds, i + 1, t, d, h1, h2 => by
    intro q hq
    simp only [DataW.weightsEach, List.mem_append]
    exact .inr (weigh_each ts ds i t d (by simpa using h1) (by simpa using h2) q hq)
/-- Each cell of what reads at a type reads at its own type, and weighs what the whole weighs. -/
theorem flat_weigh : ∀ (n : Nat) (t : TypeId) (fuel : Nat) (cs : List Value) (x : DataW H × List MemPlace), flatOk P n t = true → cs.length = P.cellsOf t → DataW.trod enc P w base spare held fuel t cs = some x →
    ∀ (j : Nat) (tl : TypeId), (flat P n t)[j]? = some tl → ∃ v y m, cs[j]? = some v ∧ DataW.trod enc P w base spare held m tl [v] = some y ∧ ∀ q ∈ y.1.weights P tl, q ∈ x.1.weights P t := by
  intro n
  induction n with
  | zero =>
    intro t fuel cs x hok hl h j tl hj
    simp only [flatOk, beq_iff_eq] at hok
    simp only [flat] at hj
    obtain ⟨v, rfl⟩ := List.length_eq_one_iff.1 (hl.trans hok)
    have hj0 : j = 0 := by have := (List.getElem?_eq_some_iff.1 hj).1; simpa using this
    subst hj0
    simp at hj
    subst hj
    exact ⟨v, x, fuel, rfl, h, fun q hq => hq⟩
  | succ n ih =>
    intro t fuel cs x hok hl h j tl hj
    have leaf : P.cellsOf t = 1 → (flat P (n + 1) t) = [t] → ∃ v y m, cs[j]? = some v ∧ DataW.trod enc P w base spare held m tl [v] = some y ∧ ∀ q ∈ y.1.weights P tl, q ∈ x.1.weights P t := by
      intro h1 h2
      rw [h2] at hj
      obtain ⟨v, rfl⟩ := List.length_eq_one_iff.1 (hl.trans h1)
      have hj0 : j = 0 := by have := (List.getElem?_eq_some_iff.1 hj).1; simpa using this
      subst hj0
      simp at hj
      subst hj
      exact ⟨v, x, fuel, rfl, h, fun q hq => hq⟩
    by_cases hs : ∃ fs, P.underlying t = some (.struct fs)
    · obtain ⟨fs, ht⟩ := hs
      simp only [flat, ht] at hj
      simp only [flatOk, ht, Bool.and_eq_true, beq_iff_eq] at hok
      obtain ⟨hc, hall⟩ := hok
      obtain ⟨i, f, k, h1, h2, h3, h4⟩ := flatMap_index _ _ j tl hj
      have hi := (List.getElem?_eq_some_iff.1 h1).1
      have hall' := List.all_eq_true.1 hall i (List.mem_range.2 hi)
      simp only [h1, Bool.and_eq_true, beq_iff_eq] at hall'
      obtain ⟨⟨ho, hcf⟩, hf⟩ := hall'
      obtain ⟨ys, n', hn', hy, hlen, hyl, hfs⟩ := DataW.trod_struct ht h
      have hk := (List.getElem?_eq_some_iff.1 h2).1
      have hrd := hfs i f (by rw [← Array.getElem?_toList]; exact h1)
      have hys : ys[i]? = some (ys[i]'(by rw [hyl]; simpa using hi)) := List.getElem?_eq_getElem _
      rw [hys] at hrd
      obtain ⟨v, y, m, hv, hm, hq⟩ := ih f.type n' _ _ hf (by rw [List.length_take, List.length_drop]; omega) hrd k tl h2
      refine ⟨v, y, m, ?_, hm, fun q hqq => ?_⟩
      · rw [List.getElem?_take, if_pos (by omega), List.getElem?_drop] at hv
        rw [h3, ← ho]
        exact hv
      · subst hy
        simp only [DataW.weights, ht]
        exact weigh_each _ _ i f.type _ (by rw [List.getElem?_map, h1]; rfl) (by rw [List.getElem?_map, hys]; rfl) q (hq q hqq)
    · have hleaf : flat P (n + 1) t = [t] := by
        simp only [flat]
        split
        · rename_i fs ht; exact absurd ⟨fs, ht⟩ hs
        · rfl
      refine leaf ?_ hleaf
      simp only [flatOk] at hok
      split at hok
      · rename_i fs ht; exact absurd ⟨fs, ht⟩ hs
      · simpa using hok
/-- How long a slice is that reads within the reach. -/
theorem slice_reach {t e : TypeId} {fuel : Nat} {v : Value} {x : DataW H × List MemPlace} (ht : P.underlying t = some (.slice e)) (hb : 0 < P.bytesOf e) (h : DataW.trod enc P w base spare held fuel t [v] = some x) (hq : ∀ q ∈ x.1.weights P t, q ≤ reachBytes) :
    ∃ A n cap, v = .slice A n cap ∧ n ≤ reachBytes := by
  rcases open_slice ht h with ⟨hcs, _⟩ | ⟨a, len, cap, m, n', D, Pl, hcs, _, hl, hm, hmm, hx, hi⟩
  · simp at hcs
    exact ⟨_, _, _, hcs, Nat.zero_le _⟩
  · simp at hcs
    refine ⟨_, _, _, hcs, ?_⟩
    subst hx
    have := hq ((((List.range len).map D).length + ((List.range (m - len)).map fun j => D (len + j)).length) * P.bytesOf e) (by simp [DataW.weights, ht])
    rw [List.length_map, List.length_range] at this
    exact Nat.le_trans (Nat.le_trans (Nat.le_add_right len _) (Nat.le_mul_of_pos_right _ hb)) this
end
/-- A script's lists are no longer than the form's reach. -/
structure Reach (s : Scp) : Prop where
  n1 : s.book.entries.length ≤ reachBytes
  n2 : s.book.rules.length ≤ reachBytes
  n3 : s.book.grants.length ≤ reachBytes
  n4 : s.book.log.length ≤ reachBytes
  n5 : s.book.releases.length ≤ reachBytes
  n6 : s.ops.length ≤ reachBytes
theorem sls_reach {α : Type} {c : α → List Value} {w : World} {B : Nat} {v : Value} {l : List α} (h : Sls c w B v l) (hr : ∃ A n cap, v = .slice A n cap ∧ n ≤ reachBytes) : l.length ≤ reachBytes := by
  obtain ⟨A, n, cap, rfl, hn⟩ := hr
  have := h.len
  omega
theorem open_reach {H : Type} {enc : TypeId × Value → H} {W : World} {base : Nat} {s : Scp} {e r g l x q : Value} {d : DataW H} {p : List MemPlace}
    (_o : Value.okWide Tryz.prog W .any base 31 (vScp s e r g l x q)) (h : DataW.Trod enc Tryz.prog W 0 (fun _ => true) true 31 (vScp s e r g l x q) d p) (hb : RdScp W W.heap.size s e r g l x q)
    (hw : ∀ n ∈ d.weights Tryz.prog 31, n ≤ reachBytes) : Reach s := by
  have hfl : flat Tryz.prog 4 31 = [3, 22, 23, 24, 25, 26, 3, 29] := by kernel_rfl
  have hcl : Tryz.prog.cellsOf 31 = 8 := by kernel_rfl
  obtain ⟨fuel, hf⟩ := h
  have key := flat_weigh 4 31 fuel _ _ (by kernel_rfl) (by rw [hcl]; rfl) hf
  rw [hfl] at key
  obtain ⟨v1, y1, m1, c1, t1, q1⟩ := key 1 _ rfl
  obtain ⟨v2, y2, m2, c2, t2, q2⟩ := key 2 _ rfl
  obtain ⟨v3, y3, m3, c3, t3, q3⟩ := key 3 _ rfl
  obtain ⟨v4, y4, m4, c4, t4, q4⟩ := key 4 _ rfl
  obtain ⟨v5, y5, m5, c5, t5, q5⟩ := key 5 _ rfl
  obtain ⟨v7, y7, m7, c7, t7, q7⟩ := key 7 _ rfl
  simp [Value.cells] at c1 c2 c3 c4 c5 c7
  subst c1 c2 c3 c4 c5 c7
  exact ⟨sls_reach hb.book.ents (slice_reach Tryz.underlying22 (by decide +kernel) t1 fun n hn => hw n (q1 n hn)),
    sls_reach hb.book.ruls (slice_reach Tryz.underlying23 (by decide +kernel) t2 fun n hn => hw n (q2 n hn)),
    sls_reach hb.book.grts (slice_reach Tryz.underlying24 (by decide +kernel) t3 fun n hn => hw n (q3 n hn)),
    sls_reach hb.book.evts (slice_reach Tryz.underlying25 (by decide +kernel) t4 fun n hn => hw n (q4 n hn)),
    sls_reach hb.book.rlss (slice_reach Tryz.underlying26 (by decide +kernel) t5 fun n hn => hw n (q5 n hn)),
    sls_reach hb.ops (slice_reach Tryz.underlying29 (by decide +kernel) t7 fun n hn => hw n (q7 n hn))⟩
/-- The bytes of a number, the greatest first. -/
def beB (n : Nat) : Bytes := if _h : n = 0 then [] else beB (n / 256) ++ [UInt8.ofNat (n % 256)]
termination_by n
decreasing_by omega
def numB (n : Nat) : Bytes := UInt8.ofNat (beB n).length :: beB n
def numI (n : Int) : Bytes := numB (n % 18446744073709551616).toNat
theorem beB_zero : beB 0 = [] := by rw [beB]; simp
theorem beB_pos {n : Nat} (h : n ≠ 0) : beB n = beB (n / 256) ++ [UInt8.ofNat (n % 256)] := by rw [beB]; simp [h]
theorem beB_pos_len {n : Nat} (h : n ≠ 0) : (beB n).length = (beB (n / 256)).length + 1 := by rw [beB_pos h]; simp
theorem beB_le : ∀ (k n : Nat), n < 256 ^ k → (beB n).length ≤ k
  | 0, n, h => by
    have : n = 0 := by simpa using h
    subst this
    simp [beB_zero]
  | k + 1, n, h => by
    by_cases h0 : n = 0
    · subst h0; simp [beB_zero]
    · rw [beB_pos_len h0]
      have := beB_le k (n / 256) (by rw [Nat.pow_succ] at h; exact Nat.div_lt_of_lt_mul (by omega))
      omega
theorem beB_le8 {n : Nat} (h : n < 18446744073709551616) : (beB n).length ≤ 8 := beB_le 8 n (by simpa using h)
theorem beB_at : ∀ (n i : Nat), i < (beB n).length → (beB n)[(beB n).length - 1 - i]? = some (UInt8.ofNat (n / 256 ^ i % 256)) := by
  intro n
  induction n using Nat.strongRecOn with
  | _ n ih =>
    intro i hi
    by_cases h0 : n = 0
    · subst h0; simp [beB_zero] at hi
    · have hl := beB_pos_len h0
      rw [beB_pos h0] at hi ⊢
      rw [List.length_append, List.length_singleton] at hi ⊢
      rcases i with _ | i
      · rw [List.getElem?_append_right (by omega)]
        simp
      · rw [List.getElem?_append_left (by omega)]
        have h := ih (n / 256) (by omega) i (by omega)
        rw [show (beB (n / 256)).length + 1 - 1 - (i + 1) = (beB (n / 256)).length - 1 - i by omega, h, Nat.div_div_eq_div_mul, Nat.pow_succ, Nat.mul_comm]
theorem beB_take {n j : Nat} (h : j < (beB n).length) : (beB n).take (j + 1) = (beB n).take j ++ [UInt8.ofNat (n / 256 ^ ((beB n).length - 1 - j) % 256)] := by
  have h2 := beB_at n ((beB n).length - 1 - j) (by omega)
  rw [show (beB n).length - 1 - ((beB n).length - 1 - j) = j by omega] at h2
  rw [List.take_add_one, h2]
  rfl
theorem beB_byte (m i : Nat) : ((m : Int) / 2 ^ (8 * i) % 256).toNat = m / 256 ^ i % 256 := by
  have e : ((m : Int) / 2 ^ (8 * i) % 256) = ((m / 2 ^ (8 * i) % 256 : Nat) : Int) := by simp
  rw [e, Nat.pow_mul]
  rfl
theorem numB_le {n : Nat} (h : n < 18446744073709551616) : (numB n).length ≤ 9 := by have := beB_le8 h; simp [numB]; omega
theorem numI_le (n : Int) : (numI n).length ≤ 9 := numB_le (by omega)
/-! ### A script's bytes -/
def flagB (b : Bool) : Bytes := numI (if b then 1 else 0)
def textB (s : Bytes) : Bytes := numI s.length ++ s
def placeB (r : Ref) : Bytes := numI r.col ++ numI r.row
def cornB (r : Rct) : Bytes := numI r.c1 ++ numI r.r1 ++ numI r.c2 ++ numI r.r2
def setsB (r : Rts) : Bytes := numI r.rd ++ numI r.wr ++ numI r.ow
def entB (x : Ent) : Bytes := placeB x.at_ ++ textB x.input
def rulB (x : Rul) : Bytes := cornB x.rect ++ setsB x.rights
def grtB (x : Grt) : Bytes := cornB x.rect ++ numI x.fns ++ numI x.to_ ++ numI x.by_ ++ flagB x.revoked
def evtB (x : Evt) : Bytes := numI x.step ++ numI x.user ++ numI x.kind ++ cornB x.rect ++ flagB x.done_ ++ numI x.to_
def rlsB (x : Rls) : Bytes := numI x.step ++ placeB x.at_ ++ numI x.node ++ numI x.fn ++ cornB x.rect ++ numI x.grant ++ numI x.to_
def oprF (x : Opr) : List (Bool × Bytes) :=
  [(decide (x.user ≠ 0), numI x.user), (decide (x.rect ≠ ⟨0, 0, 0, 0⟩), cornB x.rect), (decide (x.input ≠ []), textB x.input), (decide (x.rights ≠ ⟨0, 0, 0⟩), setsB x.rights),
   (decide (x.fns ≠ 0), numI x.fns), (decide (x.to_ ≠ 0), numI x.to_), (decide (x.index ≠ 0), numI x.index)]
def maskN : List (Bool × Bytes) → Int
  | [] => 0
  | (b, _) :: l => (if b then 1 else 0) + 2 * maskN l
def oprB (x : Opr) : Bytes := numI x.kind ++ numI (maskN (oprF x)) ++ (oprF x).flatMap fun p => if p.1 then p.2 else []
def listB {α : Type} (f : α → Bytes) (l : List α) : Bytes := numI l.length ++ l.flatMap f
def scpB (s : Scp) : Bytes :=
  numI s.book.users ++ listB entB s.book.entries ++ listB rulB s.book.rules ++ listB grtB s.book.grants ++ listB evtB s.book.log ++ listB rlsB s.book.releases ++ numI s.book.step ++ listB oprB s.ops
end Go.Proofs.YtamcgggmfghljaaGreatDoor
