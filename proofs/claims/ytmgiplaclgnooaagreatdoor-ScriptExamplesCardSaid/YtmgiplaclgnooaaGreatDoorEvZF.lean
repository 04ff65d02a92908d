/- One operation of our own machine, and the temporaries. -/
import Derived.Test.YtmgiplaclgnooaaGreatDoorEvZE
set_option maxRecDepth 10000
namespace Go.Proofs.YtmgiplaclgnooaaGreatDoor
namespace Ev
variable {P : Program} {r : Ren} {h : H} {w : World} {n : Nat} {t : T Value} {a : Act} {o : Oper}
theorem step1_ok (hr : HR r h w) (ha : AR r h n t a) {cf yf : CallF} (hcf : CfOk P cf) (hyf : YfOk P yf) {v : Value} {h' : H} (hv : step1 P cf yf o t h = some (v, h')) : OpX P (Kt r h w v h') ((execOp a.eval o).run P w) := by
  unfold step1 at hv
  split at hv
  · split at hv
    · rename_i u hu
      simp only [Option.some.injEq, Prod.mk.injEq] at hv
      obtain ⟨rfl, rfl⟩ := hv
      obtain ⟨v', q1, q2⟩ := rd_ok hr ha hu
      rw [q2]
      exact ⟨r, Step.refl hr, q1⟩
    · cases hv
  · split at hv
    · rename_i b q mk hu
      simp only [Option.some.injEq, Prod.mk.injEq] at hv
      obtain ⟨rfl, rfl⟩ := hv
      exact (al_ok hr ha hu).op
    · cases hv
  · exact ef_ok hr ha hcf hyf hv
theorem AR.ext {r' : Ren} {h' : H} (hx : Ext r r') (ha : AR r h n t a) : AR r' h' n t a := ⟨ha.t.ext hx, ha.n⟩
theorem AR.put (ha : AR r h n t a) (d : Option Tmp) {v v' : Value} (hv : VR r v v') : AR r h n (put n d v t) (a.put d v') := by
  cases d with
  | none => exact ha
  | some d =>
    refine ⟨fun i => ?_, by simp [Act.put, ha.n]⟩
    have h1 := ha.t i
    unfold Ev.put
    simp only [Act.put]
    cases hd : Nat.blt d n with
    | false =>
      have : ¬ d < a.tmps.size := fun q => by rw [ha.n] at q; rw [Nat.blt, Nat.ble_eq_true_of_le q] at hd; cases hd
      simp only [cond_false]
      rw [Array.setIfInBounds_eq_of_size_le (Nat.le_of_not_lt this)]
      exact h1
    | true =>
      have hlt : d < a.tmps.size := by rw [ha.n]; exact Nat.le_of_ble_eq_true hd
      simp only [cond_true]
      rw [T.set_get _ _ _ _ (by omega)]
      by_cases q : i = d
      · subst q
        simp [hlt, hv]
      · rw [if_neg (by omega)]
        simpa [Array.getD_eq_getD_getElem?, Array.getElem?_setIfInBounds, Ne.symm q] using h1
end Ev
end Go.Proofs.YtmgiplaclgnooaaGreatDoor
