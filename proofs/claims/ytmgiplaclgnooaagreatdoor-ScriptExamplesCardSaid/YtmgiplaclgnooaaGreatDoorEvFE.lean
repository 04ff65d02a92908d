/- A law without arguments: the fast machine's run is the model's call. -/
import Derived.Test.YtmgiplaclgnooaaGreatDoorEvFD
import Derived.Below
set_option maxRecDepth 10000
namespace Go.Proofs.YtmgiplaclgnooaaGreatDoor
namespace Ev
noncomputable section
open Go.RowKit
variable {P : Program}
def txt (l : List UInt8) : Value := .string ⟨⟨l⟩⟩
/-- The texts of the errors. -/
def wordsV : List Value := [txt [], txt [35, 68, 73, 86, 47, 48, 33], txt [35, 86, 65, 76, 85, 69, 33], txt [35, 78, 85, 77, 33], txt [35, 78, 47, 65], txt [35, 82, 69, 70, 33], txt [35, 67, 89, 67, 76, 69, 33], txt [35, 68, 69, 78, 73, 69, 68]]
/-- Memory at the start: variable number 1 holds the texts of the errors. -/
def H0 : H := { t := T.set (.cells 8 .e wordsV 1) .e 3, k := 2, lo := 4, g := 2 }
def r0 : Ren := fun x => if x = 0 then some ⟨0, 0, 0, 0⟩ else if x = 2 then some ⟨1, 0, 8, 0⟩ else none
theorem H0_get (x : Nat) (b : Blk) (h : H0.get x = some b) : x = 2 ∧ b = .cells 8 .e wordsV 1 := by
  have : H0.get x = if x + 1 = 3 then some (.cells 8 .e wordsV 1) else T.e.get (x + 1) := by
    show (T.set (Blk.cells 8 .e wordsV 1) T.e 3).get (x + 1) = _
    exact T.set_get _ _ _ _ (by omega)
  rw [this] at h
  split at h
  · cases h; exact ⟨by omega, rfl⟩
  · rw [T.get_e] at h; cases h
theorem HR0 {W : World} (hW : ∃ t fz, W.heap[1]? = some (.cells wordsV.toArray t fz)) : HR r0 H0 W := by
  obtain ⟨t, fz, hW⟩ := hW
  have hlt : 1 < W.heap.size := (Array.getElem?_eq_some_iff.1 hW).1
  refine ⟨fun x b hx => ?_, fun x y b c e f hx _ _ _ hlo => ?_, fun x hx => ?_, by decide, fun i hi => ?_, fun x e hx => ?_⟩
  · obtain ⟨rfl, rfl⟩ := H0_get x b hx
    refine ⟨⟨1, 0, 8, 0⟩, rfl, hlt, wordsV.toArray, t, fz, hW, rfl, fun i hi => ?_, fun q => (by cases q), by simp⟩
    have hl : wordsV.length = 8 := rfl
    have hi' : i < wordsV.length := by omega
    refine ⟨wordsV[i], wordsV[i], ?_, ?_, VR.of_plain _ _ ?_⟩
    · simp only [cg, T.get_e, hl, Nat.mod_eq_of_lt hi]
      exact List.getElem?_eq_getElem hi'
    · simp [hi']
    · have hall : ∀ v ∈ wordsV, plain v = true := by
        intro v hv
        simp only [wordsV, List.mem_cons, List.mem_nil_iff, or_false] at hv
        rcases hv with rfl | rfl | rfl | rfl | rfl | rfl | rfl | rfl <;> rfl
      exact hall _ (List.getElem_mem hi')
  · obtain ⟨rfl, _⟩ := H0_get x b hx
    have hlo : 4 ≤ 2 := hlo
    omega
  · have hx : 4 ≤ x := hx
    simp [r0, show x ≠ 0 by omega, show x ≠ 2 by omega]
  · have hi : i < 2 := hi
    rcases (show i = 0 ∨ i = 1 by omega) with rfl | rfl
    · exact ⟨_, rfl, rfl, rfl⟩
    · exact ⟨_, rfl, rfl, rfl⟩
  · unfold r0 at hx
    split at hx
    · cases hx; show 0 < _; omega
    · split at hx
      · cases hx; exact hlt
      · cases hx
theorem noNG_of (h : (P.funcs.toList.all fun fn => !(fn.name == "runtime.NumGoroutine")) = true) : NoNG P := by
  intro g fn hg
  have := List.all_eq_true.1 h fn (by rw [← Array.getElem?_toList] at hg; exact List.mem_of_getElem? hg)
  simpa using this
theorem closed_ok (hm : P.follows .mixedOrders = true) (hng : NoNG P) {W : World} (hW : ∃ t fz, W.heap[1]? = some (.cells wordsV.toArray t fz)) {f k : Nat} {h' : H}
    (hrun : callFF P (mkT P.funcs.toList 1 .e) (fast P (mkT P.funcs.toList 1 .e) k) f [] H0 = some (.bool true, h')) :
    Calls P f #[] W fun e w' => e = .returned (.bool true) ∧ Below W.heap.size W w' := by
  have hcf := callFF_ok (mkT_tab P) hng (fast_ok hm hng (mkT_tab P) k)
  obtain ⟨_, hcall⟩ := hcf r0 H0 W f [] [] _ h' (HR0 hW) .nil hrun
  refine Calls.mono hcall fun e w' he => ?_
  cases e with
  | returned v =>
    obtain ⟨r', s, hv⟩ := he
    cases hv
    refine ⟨rfl, s.os, s.tape, s.output, s.size, fun j hj => (s.old j hj ?_).1⟩
    rintro ⟨x, b, e, h1, h2, _⟩
    obtain ⟨rfl, _⟩ := H0_get x b h1
    have h2 : 4 ≤ 2 := h2
    omega
  | panicked c => exact he.elim
  | outgrown => exact he.elim
/-- Is it true? -/
def yes (x : Option (Value × H)) : Bool :=
  Option.rec (motive := fun _ => Bool) false (fun p => Prod.rec (motive := fun _ => Bool) (fun v _ => vBool v false fun q => q) p) x
theorem yes_ok {x : Option (Value × H)} (h : yes x = true) : ∃ h', x = some (.bool true, h') := by
  cases x with
  | none => cases h
  | some p =>
    obtain ⟨v, h'⟩ := p
    change vBool v false (fun q => q) = true at h
    rw [vBool_eq] at h
    split at h
    · rename_i q; subst h; exact ⟨h', rfl⟩
    · cases h
end
end Ev
end Go.Proofs.YtmgiplaclgnooaaGreatDoor
