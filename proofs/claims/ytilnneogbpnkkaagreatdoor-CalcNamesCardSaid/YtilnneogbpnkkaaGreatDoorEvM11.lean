/- The simple kinds of code. -/
import Derived.Test.YtilnneogbpnkkaaGreatDoorEvM10
import Derived.RangeFuncLeaves
import Derived.RangeFuncRecord
import Derived.RangeFuncNested
set_option maxRecDepth 10000
namespace Go.Proofs.YtilnneogbpnkkaaGreatDoor
namespace Ev
variable {P : Program} {B : List Deferred} {r : Ren} {h : H} {w : World} {n : Nat} {t : T Value} {a : Act} {ex : CodeF} {ro ro' : Option Nat} {x : Ex} {t' : T Value} {D D' : List Nat} {h' : H}
theorem body_seq (hex : ExOk P ex) {c d : Code} (hv : body P ex ro n (.seq c d) t D h = .ok x t' D' h') (hr : HR r h w) (ha : AR r h n t a) (hd : DR r B D a.defers) (ho : RoR r ro ro') : Runs P ro' (.seq c d) a w (At B r h w n x t' D' h') := by
  simp only [body] at hv
  refine runs_seq ?_
  cases hq : ex ro n c t D h with
  | bad => rw [hq] at hv; cases hv
  | ok x1 t1 D1 h1 =>
    rw [hq] at hv
    refine ((hex _ _ _ _ _ _ _ _ _ _ hq r w a ro' hr ha hd ho).runs).mono fun y a1 w1 hy => ?_
    have hy' := hy
    obtain ⟨rfl, r1, s1, a1', d1⟩ := hy
    cases y with
    | normal =>
      simp only [] at hv
      exact ((hex _ _ _ _ _ _ _ _ _ _ hv r1 w1 a1 ro' s1.hr a1' d1 (ho.ext s1.ext)).runs).mono fun _ _ _ q => q.step s1
    | exit i => simp only [R.ok.injEq] at hv; obtain ⟨rfl, rfl, rfl, rfl⟩ := hv; exact hy'
    | ret => simp only [R.ok.injEq] at hv; obtain ⟨rfl, rfl, rfl, rfl⟩ := hv; exact hy'
theorem body_block (hex : ExOk P ex) {id : Nat} {c : Code} (hv : body P ex ro n (.block id c) t D h = .ok x t' D' h') (hr : HR r h w) (ha : AR r h n t a) (hd : DR r B D a.defers) (ho : RoR r ro ro') : Runs P ro' (.block id c) a w (At B r h w n x t' D' h') := by
  simp only [body] at hv
  refine runs_block ?_
  cases hq : ex ro n c t D h with
  | bad => rw [hq] at hv; cases hv
  | ok x1 t1 D1 h1 =>
    rw [hq] at hv
    refine ((hex _ _ _ _ _ _ _ _ _ _ hq r w a ro' hr ha hd ho).runs).mono fun y a1 w1 hy => ?_
    have hy' := hy
    obtain ⟨rfl, r1, s1, a1', d1⟩ := hy
    cases y with
    | exit i =>
      simp only [] at hv
      simp only [Ex.inBlock]
      cases hi : Nat.beq i id with
      | true =>
        rw [hi] at hv
        simp only [cond_true, R.ok.injEq] at hv
        obtain ⟨rfl, rfl, rfl, rfl⟩ := hv
        rw [if_pos (Nat.eq_of_beq_eq_true hi)]
        exact ⟨rfl, r1, s1, a1', d1⟩
      | false =>
        rw [hi] at hv
        simp only [cond_false, R.ok.injEq] at hv
        obtain ⟨rfl, rfl, rfl, rfl⟩ := hv
        rw [if_neg (ne_of_beq hi)]
        exact hy'
    | normal => simp only [R.ok.injEq] at hv; obtain ⟨rfl, rfl, rfl, rfl⟩ := hv; exact hy'
    | ret => simp only [R.ok.injEq] at hv; obtain ⟨rfl, rfl, rfl, rfl⟩ := hv; exact hy'
theorem body_loop (hex : ExOk P ex) {c : Code} (hv : body P ex ro n (.loop c) t D h = .ok x t' D' h') (hr : HR r h w) (ha : AR r h n t a) (hd : DR r B D a.defers) (ho : RoR r ro ro') : LoopRuns P ro' c a w (At B r h w n x t' D' h') := by
  simp only [body] at hv
  refine loop_round ?_
  cases hq : ex ro n c t D h with
  | bad => rw [hq] at hv; cases hv
  | ok x1 t1 D1 h1 =>
    rw [hq] at hv
    refine ((hex _ _ _ _ _ _ _ _ _ _ hq r w a ro' hr ha hd ho).runs).mono fun y a1 w1 hy => ?_
    have hy' := hy
    obtain ⟨rfl, r1, s1, a1', d1⟩ := hy
    cases y with
    | normal =>
      simp only [] at hv
      have := hex _ _ _ _ _ _ _ _ _ _ hv r1 w1 a1 ro' s1.hr a1' d1 (ho.ext s1.ext)
      exact fun b k cs hk hro => (this b k cs hk hro).imp id fun ⟨x, a', w', q, f⟩ => ⟨x, a', w', q.step s1, f⟩
    | exit i => simp only [R.ok.injEq] at hv; obtain ⟨rfl, rfl, rfl, rfl⟩ := hv; exact hy'
    | ret => simp only [R.ok.injEq] at hv; obtain ⟨rfl, rfl, rfl, rfl⟩ := hv; exact hy'
theorem body_cond (hex : ExOk P ex) {c : Operand} {d e : Code} (hv : body P ex ro n (.cond c d e) t D h = .ok x t' D' h') (hr : HR r h w) (ha : AR r h n t a) (hd : DR r B D a.defers) (ho : RoR r ro ro') : Runs P ro' (.cond c d e) a w (At B r h w n x t' D' h') := by
  simp only [body] at hv
  split at hv
  · rename_i q hq
    have hc : a.eval c = .bool q := by
      cases c with
      | tmp i =>
        have := ha.t i
        simp only [evT] at hq
        rw [hq] at this
        exact (this.vr rfl).to_bool
      | const u => exact hq
      | global g => simp [evT] at hq
      | func g => simp [evT] at hq
    refine runs_cond hc ?_
    cases q with
    | true => exact (hex _ _ _ _ _ _ _ _ _ _ hv r w a ro' hr ha hd ho).runs
    | false => exact (hex _ _ _ _ _ _ _ _ _ _ hv r w a ro' hr ha hd ho).runs
  · cases hv
theorem body_region (hcf : CfOk P (callF P ex)) (hyf : YfOk P (yieldF ex)) {id : Nat} {ops : Array Oper} (hv : body P ex ro n (.region id ops false) t D h = .ok x t' D' h') (hr : HR r h w) (ha : AR r h n t a) (hd : DR r B D a.defers) : Runs P ro' (.region id ops false) a w (At B r h w n x t' D' h') := by
  simp only [body, cond_false] at hv
  intro b k cs hk hro
  obtain ⟨rfl, rfl, h3⟩ := runOps_ok (k := k) (cs := cs) hcf hyf ops D hk ops.toList 0 r h w t a rfl hr ha hv
  have hrg : List.range ops.size = List.range' 0 ops.toList.length := by rw [List.range_eq_range', Array.length_toList]
  have hst : Steps P (lone (b.atR a (.code (.region id ops false) :: k)) cs w) (lone (b.atR a (.inRegion ops (List.range' 0 ops.toList.length) :: k)) cs w) := by
    have := stepR_region (P := P) (b := b) (a := a) (k := k) (cs := cs) (w := w) (ops := ops) (id := id)
    rw [hrg] at this
    exact .one this
  refine Goes.of_steps hst ?_
  rcases h3 with h3 | ⟨r2, a2, w2, f1, f2, f3, f4⟩
  · exact .inl h3
  · exact .inr ⟨.normal, a2, w2, ⟨rfl, r2, f1, f2, by rw [f3]; exact hd.ext f1.ext⟩, f4.trans (.one stepR_region_end)⟩
end Ev
end Go.Proofs.YtilnneogbpnkkaaGreatDoor
/- Our own machine's calls are the model's. -/
set_option maxRecDepth 10000
namespace Go.Proofs.YtilnneogbpnkkaaGreatDoor
namespace Ev
noncomputable section
variable {P : Program} {B : List Deferred} {r : Ren} {h : H} {w : World} {n : Nat} {t : T Value} {a : Act} {ex : CodeF}
/-- A block of ours is given up, whatever becomes of the model's. -/
theorem Step.kill (hr : HR r h w) {x : Nat} {b : Blk} {e : E} (hx : h.get x = some b) (he : r x = some e) (hlo : h.lo ≤ x) {w' : World} (hsz : w'.heap.size = w.heap.size)
    (hw : ∀ k, k ≠ e.blk → w'.heap[k]? = w.heap[k]?) (hos : w'.os = w.os ∧ w'.tape = w.tape ∧ w'.output = w.output) : Step r h w r (h.del x) w' := by
  have hget : ∀ y c, (h.del x).get y = some c → y ≠ x ∧ h.get y = some c := fun y c hy => by
    rw [H.get_del] at hy
    split at hy
    · cases hy
    · rename_i q; exact ⟨q, hy⟩
  refine ⟨Ext.refl r, fun _ _ => rfl, ⟨?_, fun y z c d f g hy hz => hr.inj y z c d f g (hget y c hy).2 (hget z d hz).2, hr.new, hr.lo, hr.gl, fun x e hx => by have := hr.bnd x e hx; omega⟩, Nat.le_refl _, rfl, rfl, by omega, ?_, hos.1, hos.2.1, hos.2.2⟩
  · intro y c hy
    obtain ⟨q1, q2⟩ := hget y c hy
    obtain ⟨f, h1, h2, h3⟩ := hr.blk y c q2
    exact ⟨f, h1, by omega, h3.same (Ext.refl r) (hw _ fun q => hr.inj x y b c e f hx q2 he h1 hlo (fun s => q1 s.symm) q.symm)⟩
  · intro k hk ho
    refine ⟨hw k fun q => ho ⟨x, b, e, hx, hlo, he, q.symm⟩, fun ⟨y, c, f, h1, h2, h3, h4⟩ => ho ⟨y, c, f, (hget y c h1).2, h2, h3, h4⟩⟩
theorem undefer_ok : ∀ (D : List Nat) (h : H) (w : World) (ds : List Deferred) (h' : H), undefer D h = some h' → HR r h w → DR r [] D ds → ∀ (fr : Frame) (cs : List Frame), fr.mode = .returning → fr.defers = ds →
    ∃ w', Step r h w r h' w' ∧ Steps P (lone fr cs w) (lone { fr with defers := [] } cs w') := by
  intro D
  induction D with
  | nil =>
    intro h w ds h' hu hr hd fr cs hm hf
    cases hd
    simp only [undefer, Option.some.injEq] at hu
    subst hu
    refine ⟨w, Step.refl hr, ?_⟩
    rw [← hf]
    exact .refl _ _
  | cons d D ih =>
    intro h w ds h' hu hr hd fr cs hm hf
    cases hd with
    | cons he ht =>
      rename_i e ds'
      simp only [undefer] at hu
      split at hu
      · rename_i hq
        obtain ⟨hlo, hu⟩ := bif_some hu
        have hlo := Nat.le_of_ble_eq_true hlo
        obtain ⟨e', h1, h2, h3⟩ := hr.blk d _ hq
        rw [he] at h1; cases h1
        have h3 : w.heap[e.blk]? = some (.deferred (some [])) := h3
        have hk := run_takeDeferred (P := P) h3
        have hs1 := step_collected (P := P) (cs := cs) (fr := fr) (by rw [hm]; simp) hf rfl hk
        have hst : Step r h w r (h.del d) (w.putObj e.blk (.deferred none)) := by
          refine Step.kill hr hq he hlo ?_ ?_ ⟨rfl, rfl, rfl⟩
          · simp [World.putObj]
          · intro k hne
            simp [World.putObj, Ne.symm hne]
        obtain ⟨w', q1, q2⟩ := ih (h.del d) _ ds' h' hu hst.hr ht { fr with defers := [] ++ ds' } cs hm rfl
        exact ⟨w', hst.trans q1, .head hs1 q2⟩
      · cases hu
/-- A result. -/
def resOf (tmps : Array Value) : ResultVar → Sem Value
  | .tmp t => pure (tmps.getD t undef)
  | .cell a t => do loadVar t (← asAddr (tmps.getD a undef))
theorem results_eq (fn : Func) (tmps : Array Value) : results fn tmps = (fn.results.mapM (resOf tmps)) >>= fun vs => pure (if h : vs.size = 1 then vs[0] else .tuple vs) := by
  unfold results resOf
  rfl
theorem resL_ok {tm : Array Value} (hr : HR r h w) (ha : TR r t tm) : ∀ (l : List ResultVar) (vs : List Value), resL P t h l = some vs → ∃ vs', VRL r vs vs' ∧ (l.mapM (resOf tm)).run P w = .ok vs' w := by
  intro l
  induction l with
  | nil =>
    intro vs hv
    simp only [resL, Option.some.injEq] at hv
    subst hv
    exact ⟨[], .nil, by simp⟩
  | cons x l ih =>
    intro vs hv
    cases x with
    | tmp i =>
      simp only [resL] at hv
      split at hv
      · rename_i v0 us hv0 hu
        simp only [Option.some.injEq] at hv
        subst hv
        obtain ⟨rfl, hj⟩ := tmpO_some hv0
        obtain ⟨vs', q1, q2⟩ := ih us hu
        refine ⟨_, .cons ((ha i).vr hj) q1, ?_⟩
        simp [resOf, q2, Result.andThen]
      · cases hv
    | cell i ty =>
      simp only [resL] at hv
      split at hv
      · rename_i b f hp
        split at hv
        · rename_i v us hl hu
          simp only [Option.some.injEq] at hv
          subst hv
          obtain ⟨vs', q1, q2⟩ := ih us hu
          have h1 := ha i
          rw [hp] at h1
          have h1 := h1.vr rfl
          generalize hA : tm.getD i undef = A at h1
          cases h1 with
          | ptr he =>
            obtain ⟨v', q3, q4⟩ := ldv_ok hr he hl
            refine ⟨_, .cons q3 q1, ?_⟩
            simp [resOf, hA, asAddr, Sem.run_bind, q2, q4, Result.andThen]
        · cases hv
      · cases hv
theorem results_ok {tm : Array Value} (hr : HR r h w) (ha : TR r t tm) {fn : Func} {vs : List Value} (hv : resL P t h fn.results.toList = some vs) :
    ∃ v', VR r (match vs with | [v] => v | vs => .tuple ⟨vs⟩) v' ∧ (results fn tm).run P w = .ok v' w := by
  obtain ⟨vs', q1, q2⟩ := resL_ok hr ha _ _ hv
  have hm : (fn.results.mapM (resOf tm)).run P w = .ok vs'.toArray w := by
    rw [Array.mapM_eq_mapM_toList, Sem.run_map, q2]
    rfl
  refine ⟨if h : vs'.toArray.size = 1 then vs'.toArray[0] else .tuple vs'.toArray, ?_, ?_⟩
  · have hl := q1.length
    match vs, vs', q1, hl with
    | [], [], _, _ => exact .tuple .nil
    | [v], [v'], .cons q _, _ => exact q
    | v :: u :: vs, v' :: u' :: vs', q, _ => exact .tuple q
  · rw [results_eq, Sem.run_bind, hm]
    rfl
theorem argsT_ok : ∀ (args args' : List Value) (k : Nat) (t : T Value) (l' : List Value), VRL r args args' → TR r t l'.toArray → k = l'.length + 1 → TR r (argsT args k t) (l' ++ args').toArray := by
  intro args
  induction args with
  | nil =>
    intro args' k t l' h ht hk
    cases h
    simpa [argsT] using ht
  | cons v args ih =>
    intro args' k t l' h ht hk
    cases h with
    | cons hv hl =>
      rename_i v' args'
      have := ih args' (k + 1) (t.set v k) (l' ++ [v']) hl (fun i => ?_) (by simp [hk])
      · simpa [argsT] using this
      · subst hk
        rw [T.set_get _ _ _ _ (by omega)]
        by_cases hi : i = l'.length
        · subst hi
          have hu : UR r v v' := .inr hv
          simpa using hu
        · rw [if_neg (by omega)]
          have h1 := ht i
          simp only [Array.getD_eq_getD_getElem?, List.getElem?_toArray] at h1 ⊢
          rcases Nat.lt_or_ge i l'.length with q | q
          · rw [List.getElem?_append_left q]; exact h1
          · rw [List.getElem?_eq_none (by omega)] at h1
            rw [List.getElem?_eq_none (by simp; omega)]
            exact h1
theorem TR.fill {a : Array Value} (ht : TR r t a) (m : Nat) : TR r t (a ++ Array.replicate m undef) := by
  intro i
  have h1 := ht i
  rcases Nat.lt_or_ge i a.size with q | q
  · simpa [Array.getD_eq_getD_getElem?, Array.getElem?_append, q] using h1
  · have e1 : a.getD i undef = undef := by simp [Array.getD_eq_getD_getElem?, Array.getElem?_eq_none q]
    have e2 : (a ++ Array.replicate m undef).getD i undef = undef := by
      rw [Array.getD_eq_getD_getElem?, Array.getElem?_append_right q]
      rcases Nat.lt_or_ge (i - a.size) m with p | p
      · simp [p]
      · rw [Array.getElem?_eq_none (by simpa using p)]; rfl
    rw [e1] at h1
    rw [e2]
    exact h1
/-- No function of the program is the one whose calls the model answers by itself. -/
def NoNG (P : Program) : Prop := ∀ (g : Nat) (fn : Func), P.funcs[g]? = some fn → (fn.name == "runtime.NumGoroutine") = false
theorem callF_ok (hng : NoNG P) (hex : ExOk P ex) : CfOk P (callF P ex) := by
  intro r h w g args args' v h' hr hl hv
  unfold callF at hv
  split at hv
  · rename_i fn hfn
    split at hv
    · rename_i c hc
      refine ⟨⟨fn, hfn, by rw [hc]; rfl, hng g fn hfn⟩, fun cs => ?_⟩
      split at hv
      · rename_i x t D h1 hx
        let b : Frame := { (default : Frame) with fn := g, kind := .normal, roundOf := none }
        have hent : Frame.enter P g args'.toArray .normal = b.atR { tmps := args'.toArray ++ Array.replicate (fn.ntmps - args'.length) undef, defers := [] } [.code c] := by
          simp [Frame.enter, Frame.atR, hfn, hc, b]
        have hA : AR r h (args.length + (fn.ntmps - args.length)) (argsT args 1 .e) { tmps := args'.toArray ++ Array.replicate (fn.ntmps - args'.length) undef, defers := [] } := by
          refine ⟨TR.fill ?_ _, ?_⟩
          · have := argsT_ok args args' 1 .e [] hl (fun i => .inr (by simpa [T.get_e] using VR.of_plain r undef rfl)) rfl
            simpa using this
          · simp [hl.length]
        have hgo := (hex _ _ _ _ _ _ _ _ _ _ hx r w _ none hr hA .nil trivial).runs b [] cs (.inl rfl) rfl
        rw [← hent] at hgo
        rcases hgo with hgo | ⟨x', a', w', ⟨rfl, r1, s1, a1, d1⟩, harr⟩
        · exact hgo.elim
        have hret : ∃ a'' k, Steps P (lone (Frame.enter P g args'.toArray .normal) cs w) (lone { b.atR a' k with mode := .returning } cs w') ∧ a'' = a' := by
          cases x' with
          | normal => exact ⟨a', [], Steps.trans harr (.one (stepR_end rfl)), rfl⟩
          | ret => obtain ⟨k, hk⟩ := harr; exact ⟨a', _, Steps.trans hk (.one (stepR_ret rfl)), rfl⟩
          | exit id => simp at hv
        obtain ⟨_, k, hst, _⟩ := hret
        have hv' : (match undefer D h1 with
            | some h2 => match resL P t h2 fn.results.toList with
              | some [v] => some (v, h2)
              | some vs => some (.tuple ⟨vs⟩, h2)
              | none => none
            | none => none) = some (v, h') := by
          cases x' with
          | normal => exact hv
          | ret => exact hv
          | exit id => simp at hv
        split at hv'
        · rename_i h2 hu
          obtain ⟨w2, q1, q2⟩ := undefer_ok (P := P) D h1 w' _ h2 hu s1.hr d1 { b.atR a' k with mode := .returning } cs rfl rfl
          have key : ∀ vs, resL P t h2 fn.results.toList = some vs → h2 = h' → v = (match vs with | [v] => v | vs => .tuple ⟨vs⟩) →
              ∃ e w' fr, RC (Kt r h w v h') e w' ∧ Comes P (lone (Frame.enter P g args'.toArray .normal) cs w) (lone fr cs w') e ∧ fr.fn = g ∧ fr.leaving P w' e := by
            intro vs hvs h2e hve
            obtain ⟨v', p1, p2⟩ := results_ok (P := P) q1.hr a1.t hvs
            refine ⟨.returned v', w2, { ({ b.atR a' k with mode := .returning } : Frame) with defers := [] }, ⟨r1, ?_, ?_⟩, Steps.trans hst q2, rfl, rfl, rfl, rfl, fn, hfn, p2⟩
            · subst h2e; exact s1.trans q1
            · subst hve; exact p1
          split at hv'
          · rename_i u hvs
            simp only [Option.some.injEq, Prod.mk.injEq] at hv'
            exact key _ hvs hv'.2 hv'.1.symm
          · rename_i vs hne hvs
            simp only [Option.some.injEq, Prod.mk.injEq] at hv'
            refine key _ hvs hv'.2 ?_
            rw [← hv'.1]
            match vs, hne with
            | [], _ => rfl
            | [u], hne => exact absurd rfl (hne u)
            | u :: u' :: us, _ => rfl
          · cases hv'
        · cases hv'
      · cases hv
    · cases hv
  · cases hv
end
end Ev
end Go.Proofs.YtilnneogbpnkkaaGreatDoor
/- Our own machine's rounds of a range over a function are the model's. -/
set_option maxRecDepth 10000
namespace Go.Proofs.YtilnneogbpnkkaaGreatDoor
namespace Ev
variable {P : Program} {B : List Deferred} {r : Ren} {h : H} {w : World} {n : Nat} {t : T Value} {a : Act} {ex : CodeF}
theorem putAll_ok : ∀ (ps : List Tmp) (args args' : List Value) (t : T Value) (a : Act), AR r h n t a → VRL r args args' →
    AR r h n ((ps.zip args).foldl (fun t p => put n (some p.1) p.2 t) t) { a with tmps := (ps.zip args').foldl (fun tmps p => tmps.setIfInBounds p.1 p.2) a.tmps } := by
  intro ps
  induction ps with
  | nil => intro args args' t a ha _; simpa using ha
  | cons p ps ih =>
    intro args args' t a ha hl
    cases hl with
    | nil => simpa using ha
    | cons hv ht =>
      have := ih _ _ _ _ (ha.put (some p) hv) ht
      simpa [Act.put] using this
theorem BR.putLoop {x : Nat} {e : E} {rec : Loop} {tm : Array Value} {d : E} {fn : Nat} {t0 : T Value} (hd : r rec.defers = some d) (hsz : e.blk < w.heap.size) (hn : tm.size = rec.tmps.size) (ht : TR r t0 tm) :
    BR r x e (w.putObj e.blk (.loop { rec with tmps := tm, defers := d.blk, fn := fn })) (.loop rec t0) :=
  ⟨d, tm, fn, hd, World.putObj_heap_same hsz, hn, ht⟩
/-- The record of a range over a function is written. -/
theorem Step.putLoop (hr : HR r h w) {l : Nat} {e : E} {b : Blk} (hl : h.get l = some b) (he : r l = some e) (hlo : h.lo ≤ l) {rec : Loop} {tm : Array Value} {d : E} {fn : Nat} {t0 : T Value}
    (hd : r rec.defers = some d) (hn : tm.size = rec.tmps.size) (ht : TR r t0 tm) :
    Step r h w r (h.set l (.loop rec t0)) (w.putObj e.blk (.loop { rec with tmps := tm, defers := d.blk, fn := fn })) := by
  have hsz : e.blk < w.heap.size := by obtain ⟨f, h1, h2, _⟩ := hr.blk l b hl; rw [he] at h1; cases h1; exact h2
  exact HR.set_ hr hl he hlo (by simp [World.putObj]) (fun k hk => World.putObj_heap_other hk) rfl rfl rfl (BR.putLoop hd hsz hn ht)
theorem yieldF_ok (hex : ExOk P ex) : YfOk P (yieldF ex) := by
  intro r h w l e args args' v h' hr he hl hv
  unfold yieldF at hv
  split at hv
  · rename_i r0 t0 h0
    split at hv
    · rename_i hst
      obtain ⟨hc, hv⟩ := bif_some hv
      simp only [Bool.and_eq_true] at hc
      have hlen := Nat.eq_of_beq_eq_true hc.1
      have hlo := Nat.le_of_ble_eq_true hc.2
      obtain ⟨e', q1, q2, d0, tm0, fn0, q3, q4, q5, q6⟩ := hr.blk l _ h0
      rw [he] at q1; cases q1
      rw [run_yield q4 (by simp [hl.length, hlen])]
      intro c cs
      let b : Frame := { (default : Frame) with fn := fn0, kind := .normal, roundOf := some e.blk }
      split at hv
      · rename_i t1 h1 hx1
        have hA := putAll_ok (h := h) (n := r0.tmps.size) r0.params.toList args args' t0 { tmps := tm0, defers := [] } ⟨q6, q5⟩ hl
        have hfr : Frame.round e.blk fn0 ((r0.params.zip args'.toArray).foldl (fun tmps (t, a) => tmps.setIfInBounds t a) tm0) r0.assign r0.body .normal =
            b.atR { tmps := (r0.params.toList.zip args').foldl (fun tmps p => tmps.setIfInBounds p.1 p.2) tm0, defers := [] } [.code r0.assign, .beginRound, .code r0.body] := by
          have : (r0.params.zip args'.toArray).foldl (fun tmps (t, a) => tmps.setIfInBounds t a) tm0 = (r0.params.toList.zip args').foldl (fun tmps p => tmps.setIfInBounds p.1 p.2) tm0 := by
            rw [← Array.foldl_toList]
            simp [Array.toList_zip]
          rw [this]
          simp [Frame.round, Frame.atR, b]
        rw [show (Frame.round e.blk fn0 ((r0.params.zip args'.toArray).foldl (fun tmps (t, a) => tmps.setIfInBounds t a) tm0) r0.assign r0.body .normal) = _ from hfr]
        have hgo := (hex _ _ _ _ _ _ _ _ _ _ hx1 r w _ (some e.blk) hr hA .nil ⟨e, he, rfl⟩).runs b [.beginRound, .code r0.body] (c :: cs) (.inl rfl) rfl
        rcases hgo with hgo | ⟨x', a1, w1, ⟨rfl, r1, s1, A1, d1⟩, harr⟩
        · exact .inl hgo
        split at hv
        · rename_i rec1 t01 hg1
          split at hv
          · rename_i hst1
            obtain ⟨e1, p1, p2, dd1, tm1, fn1, p3, p4, p5, p6⟩ := s1.hr.blk l _ hg1
            rw [s1.ext _ _ he] at p1; cases p1
            have hbr := run_beginRound (P := P) p4 hst1
            have s2 : Step r1 h1 w1 r1 (h1.set l (.loop { rec1 with state := .busy } t01)) (w1.putObj e.blk (.loop { ({ rec1 with state := .busy } : Loop) with tmps := tm1, defers := dd1.blk, fn := fn1 })) :=
              Step.putLoop s1.hr hg1 (s1.ext _ _ he) (by rw [s1.lo]; exact hlo) (rec := { rec1 with state := .busy }) p3 p5 p6
            have hst2 : Steps P (lone (b.atR { tmps := (r0.params.toList.zip args').foldl (fun tmps p => tmps.setIfInBounds p.1 p.2) tm0, defers := [] } [.code r0.assign, .beginRound, .code r0.body]) (c :: cs) w)
                (lone (b.atR a1 [.code r0.body]) (c :: cs) (w1.putObj e.blk (.loop { ({ rec1 with state := .busy } : Loop) with tmps := tm1, defers := dd1.blk, fn := fn1 }))) :=
              Steps.trans harr (.one (stepR_beginRound rfl hbr))
            split at hv
            · rename_i x t2 h2 hx2
              have hgo := (hex _ _ _ _ _ _ _ _ _ _ hx2 r1 _ a1 (some e.blk) s2.hr ⟨A1.t, A1.n⟩ d1 ⟨e, s1.ext _ _ he, rfl⟩).runs b [] (c :: cs) (.inl rfl) rfl
              rcases hgo with hgo | ⟨x', a2, w2, ⟨rfl, r2, s3, A2, d2⟩, harr⟩
              · exact .inl (OG.of_steps hst2 hgo)
              split at hv
              · rename_i rec2 t02 hg2
                obtain ⟨e2, o1, o2, dd2, tm2, fn2, o3, o4, o5, o6⟩ := s3.hr.blk l _ hg2
                have he2 : r2 l = some e := s3.ext _ _ (s1.ext _ _ he)
                rw [he2] at o1; cases o1
                have hlo2 : h2.lo ≤ l := by rw [s3.lo, s2.lo, s1.lo]; exact hlo
                have key : ∀ (jump : Option Code) (st : LoopState) (m : Machine), st = (if jump.isNone then .ready else .done) →
                    (∀ v w', (Instr.endRound e.blk jump).run P w2 = .ok v w' → Steps P m (lone (c.finish v) cs w')) →
                    Steps P (lone (b.atR a1 [.code r0.body]) (c :: cs) (w1.putObj e.blk (.loop { ({ rec1 with state := .busy } : Loop) with tmps := tm1, defers := dd1.blk, fn := fn1 }))) m →
                    some (Value.bool jump.isNone, h2.set l (.loop { rec2 with state := st, pending := jump } t02)) = some (v, h') →
                    ∃ v' w', Kt r h w v h' v' w' ∧ Steps P (lone (b.atR { tmps := (r0.params.toList.zip args').foldl (fun tmps p => tmps.setIfInBounds p.1 p.2) tm0, defers := [] } [.code r0.assign, .beginRound, .code r0.body]) (c :: cs) w) (lone (c.finish v') cs w') := by
                  intro jump st m hs hm hsteps hvv
                  have hend := run_endRound (P := P) jump o4
                  simp only [Option.some.injEq, Prod.mk.injEq] at hvv
                  obtain ⟨rfl, rfl⟩ := hvv
                  refine ⟨_, _, ⟨r2, s1.trans (s2.trans (s3.trans ?_)), .bool _⟩, hst2.trans (hsteps.trans (hm _ _ hend))⟩
                  subst hs
                  exact Step.putLoop s3.hr hg2 he2 hlo2 (rec := { rec2 with state := if jump.isNone then .ready else .done, pending := jump }) o3 o5 o6
                cases x' with
                | normal => exact .inr (key none .ready _ rfl (fun v w' q => .one (stepR_round_end rfl rfl q)) harr hv)
                | ret => obtain ⟨k', hk⟩ := harr; exact .inr (key (some .ret) .done _ rfl (fun v w' q => .one (stepR_round_ret rfl rfl q)) hk hv)
                | exit id => obtain ⟨k', hk', hk⟩ := harr; exact .inr (key (some (.exit id)) .done _ rfl (fun v w' q => .one (stepR_round_exit rfl rfl (by rw [hk']; rfl) q)) hk hv)
              · cases hv
            · cases hv
          · cases hv
        · cases hv
      · cases hv
    · cases hv
  · cases hv
end Ev
end Go.Proofs.YtilnneogbpnkkaaGreatDoor
/- Our own machine's ranges over functions are the model's. -/
set_option maxRecDepth 10000
namespace Go.Proofs.YtilnneogbpnkkaaGreatDoor
namespace Ev
noncomputable section
variable {P : Program} {B : List Deferred} {r : Ren} {h : H} {w : World} {n : Nat} {t : T Value} {a : Act} {ex : CodeF} {ro ro' : Option Nat} {x : Ex} {t' : T Value} {D D' : List Nat} {h' : H}
theorem stepR_range {b : Frame} {k : List Item} {cs : List Frame} {g : Operand} {ps : Array Tmp} {assign body : Code} {l : Nat} {mark : List Deferred} {w₁ : World} {f : FuncId} {fi ca : Array Value}
    (he : (Instr.enterLoop b.fn a.tmps ps assign body b.roundOf).run P w = .ok (l, mark) w₁)
    (hg : a.eval g = .func (.func f) fi ca) (hb : ∃ fn, P.funcs[f]? = some fn ∧ fn.body.isNone = false ∧ (fn.name == "runtime.NumGoroutine") = false) :
    step P (lone (b.atR a (.code (.rangeFunc g ps assign body) :: k)) cs w) =
      .next (lone (Frame.enter P f (fi ++ #[.func (.yield l) #[] #[]] ++ ca) .normal) (b.atR { a with defers := mark ++ a.defers } (.inRangeFunc l :: k) :: cs) w₁) := by
  obtain ⟨fn, h1, h2, h3⟩ := hb
  have h2' : fn.body ≠ none := by intro e; rw [e] at h2; cases h2
  have h3' : fn.name ≠ "runtime.NumGoroutine" := by simpa using h3
  refine stepR_rangeFunc (d := { target := .fn (.func f) ca, args := fi ++ #[.func (.yield l) #[] #[]] }) (w₁' := w₁) he ?_ ?_
  · have hy : a.eval (.const (.func (.yield l) #[] #[])) = .func (.yield l) #[] #[] := rfl
    simp [resolve, hg, hy, Deferred.ofValue]
  · simp [invoke, callFunc, Sem.run_bind, h1, h2', h3', Result.andThen]
/-- What a range over a function finds ahead of its call. -/
structure Laid {B : List Deferred} (P : Program) (r : Ren) (h : H) (w : World) (n : Nat) (t : T Value) (a : Act) (fn : FuncId) (ps : Array Tmp) (assign body : Code) (D : List Nat) (ro' : Option Nat) (l : Nat) (D' : List Nat) (h' : H) (r' : Ren) (lm : Nat) (mark : List Deferred) (w' : World) : Prop where
  he : (Instr.enterLoop fn a.tmps ps assign body ro').run P w = .ok (lm, mark) w'
  st : Step r h w r' h' w'
  rl : ∃ e, r' l = some e ∧ e.blk = lm
  lo : h'.lo ≤ l
  d : DR r' B D' (mark ++ a.defers)
theorem laid_ok (hr : HR r h w) (ha : AR r h n t a) (hd : DR r B D a.defers) {fn : FuncId} {ps : Array Tmp} {assign bd : Code} {d l : Nat} {D1 : List Nat} {h0 : H}
    (hv : (match ro with
        | none => some (2 * h.k, 2 * (h.k + 1), 2 * h.k :: D, { (h.set (2 * h.k) .dfr) with k := h.k + 1 })
        | some l => match h.get l with
          | some (.loop r _) => some (r.defers, 2 * h.k, D, h)
          | _ => none) = some (d, l, D1, h0)) (ho : RoR r ro ro') :
    ∃ r' lm mark w', Laid (B := B) P r h w n t a fn ps assign bd D ro' l D1 { (h0.set l (.loop { state := .ready, pending := none, fn := 0, tmps := Array.replicate n undef, params := ps, assign, body := bd, defers := d } t)) with k := h0.k + 1 } r' lm mark w' := by
  have hlo := hr.lo
  cases ro with
  | none =>
    cases ro' with
    | some _ => exact ho.elim
    | none =>
      simp only [Option.some.injEq, Prod.mk.injEq] at hv
      obtain ⟨rfl, rfl, rfl, rfl⟩ := hv
      have s1 := new_other hr (b := .dfr) (ob := .deferred (some [])) (by show (w.heap.push _)[w.heap.size]? = _; simp)
      generalize hr1 : r.put (2 * h.k) ⟨w.heap.size, 0, 0, 0⟩ = r1 at s1
      have e1 : r1 (2 * h.k) = some ⟨w.heap.size, 0, 0, 0⟩ := by rw [← hr1]; exact put_self _ _ _
      have hx1 := s1.hr.new (2 * (h.k + 1)) (Nat.le_refl _)
      have s2 := new_other s1.hr (b := .loop { state := .ready, pending := none, fn := 0, tmps := Array.replicate n undef, params := ps, assign, body := bd, defers := 2 * h.k } t)
        (ob := .loop { state := .ready, pending := none, fn, tmps := a.tmps, params := ps, assign, body := bd, defers := w.heap.size })
        ⟨⟨w.heap.size, 0, 0, 0⟩, a.tmps, fn, Ren.put_ext hx1 _ _ e1, by show ((w.heap.push _).push _)[(w.heap.push _).size]? = _; rw [Array.getElem?_push_size], by simp [ha.n], (ha.t.ext s1.ext).ext (Ren.put_ext hx1)⟩
      refine ⟨_, w.heap.size + 1, [{ target := .collected w.heap.size, args := #[] }], _, run_enterLoop_outer fn a.tmps ps assign bd, s1.trans s2, ⟨_, put_self _ _ _, by simp⟩, ?_, ?_⟩
      · show h.lo ≤ 2 * (h.k + 1); omega
      · exact .cons (e := ⟨w.heap.size, 0, 0, 0⟩) (s2.ext _ _ e1) (hd.ext (s1.ext.trans s2.ext))
  | some l0 =>
    cases ro' with
    | none => exact ho.elim
    | some k0 =>
      obtain ⟨e0, he0, rfl⟩ := ho
      simp only at hv
      split at hv
      · rename_i r0 t0 hg
        simp only [Option.some.injEq, Prod.mk.injEq] at hv
        obtain ⟨rfl, rfl, rfl, rfl⟩ := hv
        obtain ⟨e', q1, q2, d0, tm0, fn0, q3, q4, q5, q6⟩ := hr.blk l0 _ hg
        rw [he0] at q1; cases q1
        have hx1 := hr.new (2 * h.k) (Nat.le_refl _)
        have s2 := new_other hr (b := .loop { state := .ready, pending := none, fn := 0, tmps := Array.replicate n undef, params := ps, assign, body := bd, defers := r0.defers } t)
          (ob := .loop { state := .ready, pending := none, fn, tmps := a.tmps, params := ps, assign, body := bd, defers := d0.blk })
          ⟨d0, a.tmps, fn, Ren.put_ext hx1 _ _ q3, by simp, by simp [ha.n], ha.t.ext (Ren.put_ext hx1)⟩
        exact ⟨_, _, _, _, run_enterLoop_inner q4 fn a.tmps ps assign bd, s2, ⟨_, put_self _ _ _, rfl⟩, hlo, hd.ext s2.ext⟩
      · cases hv
theorem body_rangeFunc (hcf : CfOk P (callF P ex)) {g : Operand} {ps : Array Tmp} {assign bd : Code} (hv : body P ex ro n (.rangeFunc g ps assign bd) t D h = .ok x t' D' h') (hr : HR r h w) (ha : AR r h n t a) (hd : DR r B D a.defers) (ho : RoR r ro ro') :
    Runs P ro' (.rangeFunc g ps assign bd) a w (At B r h w n x t' D' h') := by
  simp only [body] at hv
  split at hv
  · rename_i f fi ca hg
    have hg' := evO_ok hr ha hg
    split at hv
    · rename_i d l D1 h0 hq
      split at hv
      · rename_i v1 h1 hc
        intro b k cs hk hro
        obtain ⟨r2, lm, mark, w2, L⟩ := laid_ok (P := P) (fn := b.fn) (ps := ps) (assign := assign) (bd := bd) hr ha hd hq ho
        obtain ⟨e, el, rfl⟩ := L.rl
        generalize hz : a.eval g = z at hg'
        cases hg' with
        | func _ g1 g2 =>
          rename_i fi' ca' _
          obtain ⟨hf, hcall⟩ := hcf r2 _ w2 f _ (fi' ++ .func (.yield e.blk) #[] #[] :: ca') v1 h1 L.st.hr ((g1.ext L.st.ext).append (.cons (.yield el) (g2.ext L.st.ext))) hc
          have hst := stepR_range (P := P) (b := b) (a := a) (k := k) (cs := cs) (w := w) (by rw [hro]; exact L.he) hz hf
          have harg : ((⟨fi'⟩ : Array Value) ++ #[.func (.yield e.blk) #[] #[]] ++ ⟨ca'⟩) = (fi' ++ .func (.yield e.blk) #[] #[] :: ca').toArray := by simp
          rw [harg] at hst
          rcases calls_goes hcall (b.atR { a with defers := mark ++ a.defers } (.inRangeFunc e.blk :: k)) cs with hgo | ⟨v', w3, ⟨r3, s3, _⟩, hst2⟩
          · exact .inl (OG.of_steps (.one hst) hgo)
          rw [finish_atR_inRangeFunc] at hst2
          have hst3 := Steps.trans (.one hst) hst2
          split at hv
          · rename_i rec t0 hg1
            obtain ⟨e', p1, p2, dd, tm, fn, p3, p4, p5, p6⟩ := s3.hr.blk l _ hg1
            rw [s3.ext _ _ el] at p1; cases p1
            have key : ∀ (st : rec.state ≠ .busy), ∃ w4, Step r h w r3 (h1.set l (.loop { rec with state := .exhausted } t0)) w4 ∧
                Steps P (lone (b.atR a (.code (.rangeFunc g ps assign bd) :: k)) cs w) (lone (b.atR { a with defers := mark ++ a.defers } ((rec.pending.map Item.code).toList ++ k)) cs w4) := fun st =>
              ⟨_, (L.st.trans s3).trans (Step.putLoop s3.hr hg1 (s3.ext _ _ el) (by rw [s3.lo]; exact L.lo) (rec := { rec with state := .exhausted }) p3 p5 p6), hst3.trans (.one (stepR_endRangeFunc (run_endLoop p4 st)))⟩
            have hA : AR r3 (h1.set l (.loop { rec with state := .exhausted } t0)) n t { a with defers := mark ++ a.defers } := ⟨ha.t.ext (L.st.ext.trans s3.ext), ha.n⟩
            have hD := L.d.ext s3.ext
            split at hv
            · cases hv
            · rename_i hnb
              obtain ⟨w4, s4, hst4⟩ := key hnb
              split at hv
              · rename_i hp
                rw [hp] at hst4
                simp only [R.ok.injEq] at hv
                obtain ⟨rfl, rfl, rfl, rfl⟩ := hv
                exact .inr ⟨.normal, _, w4, ⟨rfl, r3, s4, hA, hD⟩, hst4⟩
              · rename_i hp
                rw [hp] at hst4
                simp only [R.ok.injEq] at hv
                obtain ⟨rfl, rfl, rfl, rfl⟩ := hv
                exact .inr ⟨.ret, _, w4, ⟨rfl, r3, s4, hA, hD⟩, k, hst4⟩
              · rename_i id hp
                rw [hp] at hst4
                simp only [R.ok.injEq] at hv
                obtain ⟨rfl, rfl, rfl, rfl⟩ := hv
                exact .inr ⟨.exit id, _, w4, ⟨rfl, r3, s4, hA, hD⟩, k, rfl, hst4⟩
              · cases hv
          · cases hv
      · cases hv
    · cases hv
  · cases hv
end
end Ev
end Go.Proofs.YtilnneogbpnkkaaGreatDoor
