/- What our own machine's run of code stands for; the simple kinds of code. -/
import Derived.Test.YtmgiplaclgnooaaGreatDoorEvZG
set_option maxRecDepth 10000
namespace Go.Proofs.YtmgiplaclgnooaaGreatDoor
namespace Ev
noncomputable section
variable {P : Program} {r : Ren} {h : H} {w : World} {n : Nat} {t : T Value} {a : Act}
/-- The marks of ranges over functions. -/
inductive DR (r : Ren) : List Nat → List Deferred → Prop
  | nil : DR r [] []
  | cons {x : Nat} {e : E} {D : List Nat} {ds : List Deferred} (h : r x = some e) (t : DR r D ds) : DR r (x :: D) ({ target := .collected e.blk, args := #[] } :: ds)
theorem DR.ext {r' : Ren} (hx : Ext r r') {D : List Nat} {ds : List Deferred} (hd : DR r D ds) : DR r' D ds := by
  induction hd with
  | nil => exact .nil
  | cons h _ ih => exact .cons (hx _ _ h) ih
/-- The round in which the code stands. -/
def RoR (r : Ren) : Option Nat → Option Nat → Prop
  | none, none => True
  | some l, some k => ∃ e, r l = some e ∧ e.blk = k
  | _, _ => False
theorem RoR.ext {r' : Ren} (hx : Ext r r') {ro ro' : Option Nat} (h : RoR r ro ro') : RoR r' ro ro' := by
  cases ro <;> cases ro' <;> first | exact h | (obtain ⟨e, q1, q2⟩ := h; exact ⟨e, hx _ _ q1, q2⟩)
/-- Where our run ends, the model's does. -/
def At (r : Ren) (h : H) (w : World) (n : Nat) (x : Ex) (t' : T Value) (D' : List Nat) (h' : H) (x' : Ex) (a' : Act) (w' : World) : Prop :=
  x' = x ∧ ∃ r', Step r h w r' h' w' ∧ AR r' h' n t' a' ∧ DR r' D' a'.defers
/-- A run of code; a loop stands in its round. -/
def RunsX (P : Program) (ro : Option Nat) (c : Code) (a : Act) (w : World) (Q : Ex → Act → World → Prop) : Prop :=
  match c with
  | .loop c => LoopRuns P ro c a w Q
  | c => Runs P ro c a w Q
theorem RunsX.runs {ro : Option Nat} {c : Code} {Q : Ex → Act → World → Prop} (h : RunsX P ro c a w Q) : Runs P ro c a w Q := by
  cases c <;> first | exact h | exact loop_runs h
def ExOk (P : Program) (ex : CodeF) : Prop := ∀ (ro : Option Nat) (n : Nat) (c : Code) (t : T Value) (D : List Nat) (h : H) (x : Ex) (t' : T Value) (D' : List Nat) (h' : H), ex ro n c t D h = .ok x t' D' h' →
  ∀ (r : Ren) (w : World) (a : Act) (ro' : Option Nat), HR r h w → AR r h n t a → DR r D a.defers → RoR r ro ro' → RunsX P ro' c a w (At r h w n x t' D' h')
theorem At.step {r1 : Ren} {h1 : H} {w1 : World} (hs : Step r h w r1 h1 w1) {x : Ex} {t' : T Value} {D' : List Nat} {h' : H} {x' : Ex} {a' : Act} {w' : World} (ha : At r1 h1 w1 n x t' D' h' x' a' w') : At r h w n x t' D' h' x' a' w' := by
  obtain ⟨e, r2, q1, q2, q3⟩ := ha
  exact ⟨e, r2, hs.trans q1, q2, q3⟩
end
end Ev
end Go.Proofs.YtmgiplaclgnooaaGreatDoor
