/- A slice of deeds that came in, opened. -/
import Derived.Test.YtkemmjbaohoomaaC
import Derived.ProofKit
import Derived.Deep.Slices
import Derived.Deep.Fields
import Derived.ChangeSame
namespace Go.Proofs.Ytkemmjbaohoomaa
open Go.ChangeShapes Go.WideShapes Go.Deep Go.RowKit

section
variable {H : Type} {enc : TypeId × Value → H} {P : Program} {w : World} {base : Nat} {spare : Nat → Bool} {held : Bool}
theorem open_slice_fields {t e : TypeId} {fs : Array Field} {fuel : Nat} {cs : List Value} {x : DataW H × List MemPlace} (ht : P.underlying t = some (.slice e)) (he : P.underlying e = some (.struct fs))
    (hone : oneCellFields P fs = true) (hC : P.cellsOf e = fs.size) (h : DataW.trod enc P w base spare held fuel t cs = some x) :
    (cs = [.slice none 0 0] ∧ x = (.nil, [])) ∨
    ∃ (a : Addr) (len cap m : Nat) (D : Nat → DataW H) (Pl : Nat → List MemPlace), cs = [.slice (some a) len cap] ∧ base ≤ a.block ∧ len ≤ cap ∧ cap ≤ maxLen ∧ m = (if spare a.block then cap else len) ∧
      x = (.slice ((List.range len).map D) ((List.range (m - len)).map fun j => D (len + j)), MemPlace.row a (m * fs.size) ++ (List.range m).flatMap Pl) ∧
      ∀ i, i < m → ∃ (ys : List (DataW H × List MemPlace)) (n : Nat), D i = .agg (ys.map (·.1)) ∧ Pl i = ys.flatMap (·.2) ∧ ys.length = fs.size ∧
        ∀ (j : Nat) (f : Field), fs[j]? = some f → ∃ (v : Value) (y : DataW H × List MemPlace), w.cell? (a.add (i * fs.size + j)) = some v ∧ ys[j]? = some y ∧ DataW.trod enc P w base spare held n f.type [v] = some y := by
  rcases open_slice ht h with h0 | ⟨a, len, cap, m, n, D, Pl, hcs, hb, hl, hm, hmm, hx, hi⟩
  · exact .inl h0
  · refine .inr ⟨a, len, cap, m, D, Pl, hcs, hb, hl, hm, hmm, by rw [hC] at hx; exact hx, fun i him => ?_⟩
    obtain ⟨cs', hc, ht'⟩ := hi i him
    rw [hC] at hc
    obtain ⟨ys, n', hn', hy, hlen, hyl, hf⟩ := DataW.trod_struct he ht'
    obtain ⟨_, hcl, hat⟩ := World.cells?_some hc
    simp only [Prod.mk.injEq] at hy
    refine ⟨ys, n', hy.1, hy.2, hyl, fun j f hj => ?_⟩
    obtain ⟨ho, hk⟩ := hone_of hone j f hj
    have hjl : j < fs.size := (Array.getElem?_eq_some_iff.1 hj).1
    have hcell := hat j hjl
    have hv : cs'[j]? = some (cs'[j]'(by omega)) := List.getElem?_eq_getElem (by omega)
    have h1 := hf j f hj
    rw [ho, hk] at h1
    have hone' : (cs'.drop j).take 1 = [cs'[j]'(by omega)] := by
      rw [List.drop_eq_getElem_cons (by omega)]
      rfl
    rw [hone'] at h1
    have hys : ys[j]? = some (ys[j]'(by omega)) := List.getElem?_eq_getElem (by omega)
    refine ⟨_, _, ?_, hys, h1.trans hys⟩
    rw [← Go.Deep.add_add, hcell, hv]
end

theorem addr_of_cell {w : World} {a : Addr} {v : Value} (h : w.cell? a = some v) : a = ⟨a.block, a.off, none⟩ := by
  obtain ⟨b, o, s⟩ := a
  cases s with
  | none => rfl
  | some s => simp only [World.cell?] at h; split at h <;> simp at h

theorem addr_add (b o n : Nat) : (⟨b, o, none⟩ : Addr).add n = ⟨b, o + n, none⟩ := by unfold Addr.add; split <;> simp_all

theorem bounds_i64 {n : Int} (h : (Lit.int .i64 n).wf = true) : -9223372036854775808 ≤ n ∧ n ≤ 9223372036854775807 := by
  have e1 : IntKind.i64.min = -9223372036854775808 := by decide
  have e2 : IntKind.i64.max = 9223372036854775807 := by decide
  simp [Lit.wf] at h
  omega

theorem open_deeds {H : Type} {enc : TypeId × Value → H} {W : World} {base : Nat} {v : Value} {d : DataW H} {p : List MemPlace}
    (o : Value.okWide Try.prog W .any base 22 v) (h : DataW.Trod enc Try.prog W 0 (fun _ => true) true 22 v d p) :
    ∃ A len cap us os, v = .slice A len cap ∧ Deeds W A len us os := by
  obtain ⟨A, len, cap, rfl⟩ := okWide_slice Try.underlying22 o
  obtain ⟨fuel, hf⟩ := h
  rcases open_slice_fields Try.underlying22 Try.underlying30 (by kernel_rfl) (by kernel_rfl) hf with ⟨hcs, _⟩ | ⟨a, len', cap', m, D, Pl, hcs, _, hl, hm, hmm, _, hi⟩
  · simp [Value.cells] at hcs
    obtain ⟨rfl, rfl, rfl⟩ := hcs
    exact ⟨none, 0, 0, fun _ => 0, fun _ => false, rfl, fun i hi => by omega⟩
  · simp [Value.cells] at hcs
    obtain ⟨rfl, rfl, rfl⟩ := hcs
    have key : ∀ i, ∃ u b, i < len → ∃ bl off, a = ⟨bl, off, none⟩ ∧ bl < W.heap.size ∧ W.cell? ⟨bl, off + i * 2, none⟩ = some (.int .i64 u) ∧ W.cell? ⟨bl, off + i * 2 + 1, none⟩ = some (.bool b) ∧
        -9223372036854775808 ≤ u ∧ u ≤ 9223372036854775807 := by
      intro i
      by_cases hil : i < len
      · obtain ⟨ys, n, _, _, _, hfs⟩ := hi i (by rw [hmm]; simp; omega)
        obtain ⟨v0, y0, c0, _, t0⟩ := hfs 0 _ rfl
        obtain ⟨v1, y1, c1, _, t1⟩ := hfs 1 _ rfl
        obtain ⟨u, e0, _, w0⟩ := DataW.trod_int Try.underlying3 t0
        obtain ⟨b, e1, _⟩ := DataW.trod_bool Try.underlying4 t1
        simp at e0 e1
        subst e0 e1
        obtain ⟨ys0, n0, _, _, _, hfs0⟩ := hi 0 (by rw [hmm]; simp; omega)
        obtain ⟨v00, _, c00, _, _⟩ := hfs0 0 _ rfl
        simp [Addr.add] at c00
        have ha := addr_of_cell c00
        have hb := block_lt_of_cell c00
        have hw := bounds_i64 w0
        refine ⟨u, b, fun _ => ⟨a.block, a.off, ha, hb, ?_, ?_, hw.1, hw.2⟩⟩
        · rw [ha] at c0
          have e : (⟨a.block, a.off, none⟩ : Addr).add (i * 2 + 0) = ⟨a.block, a.off + i * 2, none⟩ := addr_add _ _ _
          rw [← e]; exact c0
        · rw [ha] at c1
          have e : (⟨a.block, a.off, none⟩ : Addr).add (i * 2 + 1) = ⟨a.block, a.off + i * 2 + 1, none⟩ := addr_add _ _ _
          rw [← e]; exact c1
      · exact ⟨0, false, fun h => absurd h hil⟩
    refine ⟨some a, len, cap, fun i => (key i).choose, fun i => (key i).choose_spec.choose, rfl, fun i hil => ?_⟩
    obtain ⟨bl, off, rfl, hb, c0, c1, hw⟩ := (key i).choose_spec.choose_spec hil
    exact ⟨bl, off, rfl, hb, c0, c1, hw⟩

end Go.Proofs.Ytkemmjbaohoomaa
