/- Our own machine's calls, and one operation that does more. -/
import Derived.Test.YtmgiplaclgnooaaGreatDoorEvZCA
set_option maxRecDepth 10000
namespace Go.Proofs.YtmgiplaclgnooaaGreatDoor
namespace Ev
noncomputable section
variable {P : Program} {r : Ren} {h : H} {w : World} {n : Nat} {t : T Value} {a : Act} {o : Oper}
/-- What stands for a value and memory of ours. -/
def Kt (r : Ren) (h : H) (w : World) (v : Value) (h' : H) : Value → World → Prop := fun v' w' => ∃ r', Step r h w r' h' w' ∧ VR r' v v'
def CfOk (P : Program) (cf : CallF) : Prop := ∀ (r : Ren) (h : H) (w : World) (g : Nat) (args args' : List Value) (v : Value) (h' : H), HR r h w → VRL r args args' → cf g args h = some (v, h') →
  (∃ fn, P.funcs[g]? = some fn ∧ fn.body.isNone = false ∧ (fn.name == "runtime.NumGoroutine") = false) ∧ Calls P g args'.toArray w (RC (Kt r h w v h'))
def YfOk (P : Program) (yf : CallF) : Prop := ∀ (r : Ren) (h : H) (w : World) (l : Nat) (e : E) (args args' : List Value) (v : Value) (h' : H), HR r h w → r l = some e → VRL r args args' → yf l args h = some (v, h') →
  OpX P (Kt r h w v h') ((Instr.yield e.blk args'.toArray).run P w)
theorem StOk.op {v : Value} {h' : H} (hs : StOk P r h w o a v h') : OpX P (Kt r h w v h') ((execOp a.eval o).run P w) := by
  obtain ⟨r', v', w', q1, q2, q3 | ⟨q3, q4⟩⟩ := hs
  · rw [q3]; exact ⟨r', q1, q2⟩
  · rw [q3]; subst q4; exact ⟨r', q1, q2⟩
theorem ef_call (hr : HR r h w) (ha : AR r h n t a) {cf : CallF} (hcf : CfOk P cf) {f : Operand} {args : Array Operand} {tys : Array TypeId} (ho : o.op = .call { callee := .value f, args, argTypes := tys }) {g : Nat} {fi ca vs : List Value}
    (hf : evO h.g t f = some (.func (.func g) ⟨fi⟩ ⟨ca⟩)) (hx : evL h.g t args.toList = some vs) {v : Value} {h' : H} (hc : cf g (fi ++ vs ++ ca) h = some (v, h')) : OpX P (Kt r h w v h') ((execOp a.eval o).run P w) := by
  have h1 := evO_ok hr ha hf
  have h2 := evL_ok hr ha hx
  generalize hq : a.eval f = z at h1
  cases h1 with
  | func _ g1 g2 =>
    rename_i f' c' _
    obtain ⟨⟨fn, k1, k2, k3⟩, k4⟩ := hcf r h w g _ _ v h' hr ((g1.append h2).append g2) hc
    have hrun : (execOp a.eval o).run P w = .ok (.enter g (f' ++ args.toList.map a.eval ++ c').toArray) w := by
      have k3' : fn.name ≠ "runtime.NumGoroutine" := by simpa using k3
      have k2' : fn.body ≠ none := by intro e; rw [e] at k2; cases k2
      simp [execOp, ho, resolve, Deferred.ofValue, invoke, callFunc, hq, k1, k2', k3']
    rw [hrun]; exact k4
theorem ef_yield (hr : HR r h w) (ha : AR r h n t a) {yf : CallF} (hyf : YfOk P yf) {f : Operand} {args : Array Operand} {tys : Array TypeId} (ho : o.op = .call { callee := .value f, args, argTypes := tys }) {l : Nat} {vs : List Value}
    (hf : evO h.g t f = some (.func (.yield l) ⟨[]⟩ ⟨[]⟩)) (hx : evL h.g t args.toList = some vs) {v : Value} {h' : H} (hc : yf l vs h = some (v, h')) : OpX P (Kt r h w v h') ((execOp a.eval o).run P w) := by
  have h1 := evO_ok hr ha hf
  have h2 := evL_ok hr ha hx
  generalize hq : a.eval f = z at h1
  cases h1 with
  | func hn _ _ => exact absurd rfl (hn l)
  | yield he =>
    rename_i e
    have k := hyf r h w l e _ _ v h' hr he h2 hc
    have hrun : (execOp a.eval o).run P w = (Instr.yield e.blk (args.toList.map a.eval).toArray).run P w := by
      have : (args.toList.map a.eval).toArray = args.map a.eval := by rw [← Array.toList_map, Array.toArray_toList]
      rw [this]
      simp [execOp, ho, resolve, Deferred.ofValue, invoke, hq]
    rw [hrun]; exact k
end
end Ev
end Go.Proofs.YtmgiplaclgnooaaGreatDoor
