/- Our own machine's calls are the model's. -/
import Derived.Test.YtmgiplaclgnooaaGreatDoorEvZI
import Derived.RangeFuncLeaves
import Derived.RangeFuncRecord
set_option maxRecDepth 10000
namespace Go.Proofs.YtmgiplaclgnooaaGreatDoor
namespace Ev
noncomputable section
variable {P : Program} {r : Ren} {h : H} {w : World} {n : Nat} {t : T Value} {a : Act} {ex : CodeF}
/-- A block of ours is given up, whatever becomes of the model's. -/
theorem Step.kill (hr : HR r h w) {x : Nat} {b : Blk} {e : E} (hx : h.get x = some b) (he : r x = some e) (hlo : h.lo ≤ x) {w' : World} (hsz : w'.heap.size = w.heap.size)
    (hw : ∀ k, k ≠ e.blk → w'.heap[k]? = w.heap[k]?) (hos : w'.os = w.os ∧ w'.tape = w.tape ∧ w'.output = w.output) : Step r h w r (h.del x) w' := by
  have hget : ∀ y c, (h.del x).get y = some c → y ≠ x ∧ h.get y = some c := fun y c hy => by
    rw [H.get_del] at hy
    split at hy
    · cases hy
    · rename_i q; exact ⟨q, hy⟩
  refine ⟨Ext.refl r, fun _ _ => rfl, ⟨?_, fun y z c d f g hy hz => hr.inj y z c d f g (hget y c hy).2 (hget z d hz).2, hr.new, hr.lo, hr.gl, fun x e hx => by have := hr.bnd x e hx; omega⟩, Nat.le_refl _, rfl, rfl, by omega, ?_, hos.1, hos.2.1, hos.2.2⟩
  · intro y c hy
    obtain ⟨q1, q2⟩ := hget y c hy
    obtain ⟨f, h1, h2, h3⟩ := hr.blk y c q2
    exact ⟨f, h1, by omega, h3.same (Ext.refl r) (hw _ fun q => hr.inj x y b c e f hx q2 he h1 hlo (fun s => q1 s.symm) q.symm)⟩
  · intro k hk ho
    refine ⟨hw k fun q => ho ⟨x, b, e, hx, hlo, he, q.symm⟩, fun ⟨y, c, f, h1, h2, h3, h4⟩ => ho ⟨y, c, f, (hget y c h1).2, h2, h3, h4⟩⟩
theorem undefer_ok : ∀ (D : List Nat) (h : H) (w : World) (ds : List Deferred) (h' : H), undefer D h = some h' → HR r h w → DR r D ds → ∀ (fr : Frame) (cs : List Frame), fr.mode = .returning → fr.defers = ds →
    ∃ w', Step r h w r h' w' ∧ Steps P (lone fr cs w) (lone { fr with defers := [] } cs w') := by
  intro D
  induction D with
  | nil =>
    intro h w ds h' hu hr hd fr cs hm hf
    cases hd
    simp only [undefer, Option.some.injEq] at hu
    subst hu
    refine ⟨w, Step.refl hr, ?_⟩
    rw [← hf]
    exact .refl _ _
  | cons d D ih =>
    intro h w ds h' hu hr hd fr cs hm hf
    cases hd with
    | cons he ht =>
      rename_i e ds'
      simp only [undefer] at hu
      split at hu
      · rename_i hq
        obtain ⟨hlo, hu⟩ := bif_some hu
        have hlo := Nat.le_of_ble_eq_true hlo
        obtain ⟨e', h1, h2, h3⟩ := hr.blk d _ hq
        rw [he] at h1; cases h1
        have h3 : w.heap[e.blk]? = some (.deferred (some [])) := h3
        have hk := run_takeDeferred (P := P) h3
        have hs1 := step_collected (P := P) (cs := cs) (fr := fr) (by rw [hm]; simp) hf rfl hk
        have hst : Step r h w r (h.del d) (w.putObj e.blk (.deferred none)) := by
          refine Step.kill hr hq he hlo ?_ ?_ ⟨rfl, rfl, rfl⟩
          · simp [World.putObj]
          · intro k hne
            simp [World.putObj, Array.getElem?_setIfInBounds, Ne.symm hne]
        obtain ⟨w', q1, q2⟩ := ih (h.del d) _ ds' h' hu hst.hr ht { fr with defers := [] ++ ds' } cs hm rfl
        exact ⟨w', hst.trans q1, .head hs1 q2⟩
      · cases hu
/-- A result. -/
def resOf (tmps : Array Value) : ResultVar → Sem Value
  | .tmp t => pure (tmps.getD t undef)
  | .cell a t => do loadVar t (← asAddr (tmps.getD a undef))
theorem results_eq (fn : Func) (tmps : Array Value) : results fn tmps = (fn.results.mapM (resOf tmps)) >>= fun vs => pure (if h : vs.size = 1 then vs[0] else .tuple vs) := by
  unfold results resOf
  rfl
theorem resL_ok {tm : Array Value} (hr : HR r h w) (ha : TR r t tm) : ∀ (l : List ResultVar) (vs : List Value), resL P t h l = some vs → ∃ vs', VRL r vs vs' ∧ (l.mapM (resOf tm)).run P w = .ok vs' w := by
  intro l
  induction l with
  | nil =>
    intro vs hv
    simp only [resL, Option.some.injEq] at hv
    subst hv
    exact ⟨[], .nil, by simp [Sem.run]⟩
  | cons x l ih =>
    intro vs hv
    cases x with
    | tmp i =>
      simp only [resL] at hv
      split at hv
      · rename_i us hu
        simp only [Option.some.injEq] at hv
        subst hv
        obtain ⟨vs', q1, q2⟩ := ih us hu
        refine ⟨_, .cons (ha i) q1, ?_⟩
        simp [resOf, Sem.run_bind, q2, Result.andThen]
      · cases hv
    | cell i ty =>
      simp only [resL] at hv
      split at hv
      · rename_i b f hp
        split at hv
        · rename_i v us hl hu
          simp only [Option.some.injEq] at hv
          subst hv
          obtain ⟨vs', q1, q2⟩ := ih us hu
          have h1 := ha i
          rw [hp] at h1
          generalize hA : tm.getD i undef = A at h1
          cases h1 with
          | ptr he =>
            obtain ⟨v', q3, q4⟩ := ldv_ok hr he hl
            refine ⟨_, .cons q3 q1, ?_⟩
            simp [resOf, hA, asAddr, Sem.run_bind, q2, q4, Result.andThen]
        · cases hv
      · cases hv
theorem results_ok {tm : Array Value} (hr : HR r h w) (ha : TR r t tm) {fn : Func} {vs : List Value} (hv : resL P t h fn.results.toList = some vs) :
    ∃ v', VR r (match vs with | [v] => v | vs => .tuple ⟨vs⟩) v' ∧ (results fn tm).run P w = .ok v' w := by
  obtain ⟨vs', q1, q2⟩ := resL_ok hr ha _ _ hv
  have hm : (fn.results.mapM (resOf tm)).run P w = .ok vs'.toArray w := by
    rw [Array.mapM_eq_mapM_toList, Sem.run_map, q2]
    rfl
  refine ⟨if h : vs'.toArray.size = 1 then vs'.toArray[0] else .tuple vs'.toArray, ?_, ?_⟩
  · have hl := q1.length
    match vs, vs', q1, hl with
    | [], [], _, _ => exact .tuple .nil
    | [v], [v'], .cons q _, _ => exact q
    | v :: u :: vs, v' :: u' :: vs', q, _ => exact .tuple q
  · rw [results_eq, Sem.run_bind, hm]
    rfl
theorem argsT_ok : ∀ (args args' : List Value) (k : Nat) (t : T Value) (l' : List Value), VRL r args args' → TR r t l'.toArray → k = l'.length + 1 → TR r (argsT args k t) (l' ++ args').toArray := by
  intro args
  induction args with
  | nil =>
    intro args' k t l' h ht hk
    cases h
    simpa [argsT] using ht
  | cons v args ih =>
    intro args' k t l' h ht hk
    cases h with
    | cons hv hl =>
      rename_i v' args'
      have := ih args' (k + 1) (t.set v k) (l' ++ [v']) hl (fun i => ?_) (by simp [hk])
      · simpa [argsT] using this
      · subst hk
        rw [T.set_get _ _ _ _ (by omega)]
        by_cases hi : i = l'.length
        · subst hi
          simpa using hv
        · rw [if_neg (by omega)]
          have h1 := ht i
          simp only [Array.getD_eq_getD_getElem?, List.getElem?_toArray] at h1 ⊢
          rcases Nat.lt_or_ge i l'.length with q | q
          · rw [List.getElem?_append_left q]; exact h1
          · rw [List.getElem?_eq_none (by omega)] at h1
            rw [List.getElem?_eq_none (by simp; omega)]
            exact h1
theorem TR.fill {a : Array Value} (ht : TR r t a) (m : Nat) : TR r t (a ++ Array.replicate m undef) := by
  intro i
  have h1 := ht i
  rcases Nat.lt_or_ge i a.size with q | q
  · simpa [Array.getD_eq_getD_getElem?, Array.getElem?_append, q] using h1
  · have e1 : a.getD i undef = undef := by simp [Array.getD_eq_getD_getElem?, Array.getElem?_eq_none q]
    have e2 : (a ++ Array.replicate m undef).getD i undef = undef := by
      rw [Array.getD_eq_getD_getElem?, Array.getElem?_append_right q]
      rcases Nat.lt_or_ge (i - a.size) m with p | p
      · simp [p]
      · rw [Array.getElem?_eq_none (by simpa using p)]; rfl
    rw [e1] at h1
    rw [e2]
    exact h1
/-- No function of the program is the one whose calls the model answers by itself. -/
def NoNG (P : Program) : Prop := ∀ (g : Nat) (fn : Func), P.funcs[g]? = some fn → (fn.name == "runtime.NumGoroutine") = false
theorem callF_ok (hng : NoNG P) (hex : ExOk P ex) : CfOk P (callF P ex) := by
  intro r h w g args args' v h' hr hl hv
  unfold callF at hv
  split at hv
  · rename_i fn hfn
    split at hv
    · rename_i c hc
      refine ⟨⟨fn, hfn, by rw [hc]; rfl, hng g fn hfn⟩, fun cs => ?_⟩
      split at hv
      · rename_i x t D h1 hx
        let b : Frame := { (default : Frame) with fn := g, kind := .normal, roundOf := none }
        have hent : Frame.enter P g args'.toArray .normal = b.atR { tmps := args'.toArray ++ Array.replicate (fn.ntmps - args'.length) undef, defers := [] } [.code c] := by
          simp [Frame.enter, Frame.atR, hfn, hc, b]
        have hA : AR r h (args.length + (fn.ntmps - args.length)) (argsT args 1 .e) { tmps := args'.toArray ++ Array.replicate (fn.ntmps - args'.length) undef, defers := [] } := by
          refine ⟨TR.fill ?_ _, ?_⟩
          · have := argsT_ok args args' 1 .e [] hl (fun i => by simpa [T.get_e] using VR.of_plain r undef rfl) rfl
            simpa using this
          · simp [hl.length]
        have hgo := (hex _ _ _ _ _ _ _ _ _ _ hx r w _ none hr hA .nil trivial).runs b [] cs rfl rfl
        rw [← hent] at hgo
        rcases hgo with hgo | ⟨x', a', w', ⟨rfl, r1, s1, a1, d1⟩, harr⟩
        · exact hgo.elim
        have hret : ∃ a'' k, Steps P (lone (Frame.enter P g args'.toArray .normal) cs w) (lone { b.atR a' k with mode := .returning } cs w') ∧ a'' = a' := by
          cases x' with
          | normal => exact ⟨a', [], Steps.trans harr (.one (stepR_end rfl)), rfl⟩
          | ret => obtain ⟨k, hk⟩ := harr; exact ⟨a', _, Steps.trans hk (.one (stepR_ret rfl)), rfl⟩
          | exit id => simp at hv
        obtain ⟨_, k, hst, _⟩ := hret
        have hv' : (match undefer D h1 with
            | some h2 => match resL P t h2 fn.results.toList with
              | some [v] => some (v, h2)
              | some vs => some (.tuple ⟨vs⟩, h2)
              | none => none
            | none => none) = some (v, h') := by
          cases x' with
          | normal => exact hv
          | ret => exact hv
          | exit id => simp at hv
        split at hv'
        · rename_i h2 hu
          obtain ⟨w2, q1, q2⟩ := undefer_ok (P := P) D h1 w' _ h2 hu s1.hr d1 { b.atR a' k with mode := .returning } cs rfl rfl
          have key : ∀ vs, resL P t h2 fn.results.toList = some vs → h2 = h' → v = (match vs with | [v] => v | vs => .tuple ⟨vs⟩) →
              ∃ e w' fr, RC (Kt r h w v h') e w' ∧ Comes P (lone (Frame.enter P g args'.toArray .normal) cs w) (lone fr cs w') e ∧ fr.fn = g ∧ fr.leaving P w' e := by
            intro vs hvs h2e hve
            obtain ⟨v', p1, p2⟩ := results_ok (P := P) q1.hr a1.t hvs
            refine ⟨.returned v', w2, { ({ b.atR a' k with mode := .returning } : Frame) with defers := [] }, ⟨r1, ?_, ?_⟩, Steps.trans hst q2, rfl, rfl, rfl, rfl, fn, hfn, p2⟩
            · subst h2e; exact s1.trans q1
            · subst hve; exact p1
          split at hv'
          · rename_i u hvs
            simp only [Option.some.injEq, Prod.mk.injEq] at hv'
            exact key _ hvs hv'.2 hv'.1.symm
          · rename_i vs hne hvs
            simp only [Option.some.injEq, Prod.mk.injEq] at hv'
            refine key _ hvs hv'.2 ?_
            rw [← hv'.1]
            match vs, hne with
            | [], _ => rfl
            | [u], hne => exact absurd rfl (hne u)
            | u :: u' :: us, _ => rfl
          · cases hv'
        · cases hv'
      · cases hv
    · cases hv
  · cases hv
end
end Ev
end Go.Proofs.YtmgiplaclgnooaaGreatDoor
