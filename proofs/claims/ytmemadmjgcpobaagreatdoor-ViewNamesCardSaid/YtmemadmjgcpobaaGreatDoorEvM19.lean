/- Runs that end in a panic. -/
import Derived.Test.YtmemadmjgcpobaaGreatDoorEvM18
set_option maxRecDepth 10000
namespace Go.Proofs.YtmemadmjgcpobaaGreatDoor
namespace Ev
noncomputable section
variable {P : Program} {B : List Deferred} {r : Ren} {h : H} {w : World} {n : Nat} {t : T Value} {a : Act} {o : Oper} {ro ro' : Option Nat}
/-- A frame that panics now. -/
def pan (b : Frame) (a : Act) (k : List Item) (v : Value) : Frame := { b.atR a k with mode := .panicking [{ v, recovered := false }] }
def PanAt (P : Program) (m : Machine) (b : Frame) (cs : List Frame) (Q : Act → World → Value → Prop) : Prop := ∃ a' w' v k', Q a' w' v ∧ Steps P m (lone (pan b a' k' v) cs w')
theorem PanAt.of_steps {m m1 : Machine} {b : Frame} {cs : List Frame} {Q : Act → World → Value → Prop} (hs : Steps P m m1) (hp : PanAt P m1 b cs Q) : PanAt P m b cs Q := by
  obtain ⟨a', w', v, k', q, s⟩ := hp
  exact ⟨a', w', v, k', q, hs.trans s⟩
def RunsP (P : Program) (ro : Option Nat) (c : Code) (a : Act) (w : World) (Q : Act → World → Value → Prop) : Prop :=
  ∀ (b : Frame) (k : List Item) (cs : List Frame), FrK b → b.roundOf = ro → PanAt P (lone (b.atR a (.code c :: k)) cs w) b cs Q
def LoopRunsP (P : Program) (ro : Option Nat) (c : Code) (a : Act) (w : World) (Q : Act → World → Value → Prop) : Prop :=
  ∀ (b : Frame) (k : List Item) (cs : List Frame), FrK b → b.roundOf = ro → PanAt P (lone (b.atR a (.code c :: .inLoop c :: k)) cs w) b cs Q
def RunsPX (P : Program) (ro : Option Nat) (c : Code) (a : Act) (w : World) (Q : Act → World → Value → Prop) : Prop :=
  match c with
  | .loop c => LoopRunsP P ro c a w Q
  | c => RunsP P ro c a w Q
variable {Q Q' : Act → World → Value → Prop}
theorem RunsPX.runs {c : Code} (hr : RunsPX P ro c a w Q) : RunsP P ro c a w Q := by
  cases c <;> first | exact hr | exact fun b k cs hk hro => (hr b k cs hk hro).of_steps (.one stepR_loop)
theorem PanAt.mono {m : Machine} {b : Frame} {cs : List Frame} (hp : PanAt P m b cs Q) (hq : ∀ a w v, Q a w v → Q' a w v) : PanAt P m b cs Q' := by
  obtain ⟨a', w', v, k', q, s⟩ := hp
  exact ⟨a', w', v, k', hq _ _ _ q, s⟩
theorem RunsP.mono {c : Code} (hr : RunsP P ro c a w Q) (hq : ∀ a w v, Q a w v → Q' a w v) : RunsP P ro c a w Q' := fun b k cs hk hro => (hr b k cs hk hro).mono hq
theorem runsP_seq1 {c d : Code} (hr : RunsP P ro c a w Q) : RunsP P ro (.seq c d) a w Q := fun b k cs hk hro => (hr b (.code d :: k) cs hk hro).of_steps (.one stepR_seq)
theorem runsP_seq2 {c d : Code} (hr : Runs P ro c a w fun x a w => x = .normal ∧ RunsP P ro d a w Q) : RunsP P ro (.seq c d) a w Q := by
  intro b k cs hk hro
  refine PanAt.of_steps (.one stepR_seq) ?_
  rcases hr b (.code d :: k) cs hk hro with hg | ⟨x, a1, w1, ⟨rfl, hp⟩, harr⟩
  · exact hg.elim
  · exact (hp b k cs hk hro).of_steps harr
theorem runsP_cond {c : Operand} {x y : Code} {q : Bool} (hc : a.eval c = .bool q) (hr : RunsP P ro (if q then x else y) a w Q) : RunsP P ro (.cond c x y) a w Q :=
  fun b k cs hk hro => (hr b k cs hk hro).of_steps (.one (stepR_cond hc))
theorem runsP_scope {c : Code} (hr : RunsP P ro c a w Q) : RunsP P ro (.scope c) a w Q := fun b k cs hk hro => (hr b (.inScope c :: k) cs hk hro).of_steps (.one stepR_scope)
theorem runsP_block {id : Nat} {c : Code} (hr : RunsP P ro c a w Q) : RunsP P ro (.block id c) a w Q := fun b k cs hk hro => (hr b (.inBlock id :: k) cs hk hro).of_steps (.one stepR_block)
theorem loopP_first {c : Code} (hr : RunsP P ro c a w Q) : LoopRunsP P ro c a w Q := fun b k cs hk hro => hr b (.inLoop c :: k) cs hk hro
theorem loopP_next {c : Code} (hr : Runs P ro c a w fun x a w => x = .normal ∧ LoopRunsP P ro c a w Q) : LoopRunsP P ro c a w Q := by
  intro b k cs hk hro
  rcases hr b (.inLoop c :: k) cs hk hro with hg | ⟨x, a1, w1, ⟨rfl, hp⟩, harr⟩
  · exact hg.elim
  · exact (hp b k cs hk hro).of_steps (Steps.trans harr (.one stepR_inLoop))
/-- A call that panics. -/
def CallsPan (P : Program) (g : Nat) (args : Array Value) (w : World) (K : Value → World → Prop) : Prop :=
  Calls P g args w fun e w' => ∃ v, e = .panicked [{ v, recovered := false }] ∧ K v w'
abbrev PcF := Nat → List Value → H → Option (Value × H)
def PcOk (P : Program) (pc : PcF) : Prop := ∀ (r : Ren) (h : H) (w : World) (g : Nat) (args args' : List Value) (v : Value) (h' : H), HR r h w → VRL r args args' → pc g args h = some (v, h') →
  (∃ fn, P.funcs[g]? = some fn ∧ fn.body.isNone = false ∧ (fn.name == "runtime.NumGoroutine") = false) ∧ CallsPan P g args'.toArray w (Kt r h w v h')
/-- An operation that panics. -/
def panOp (pc : PcF) (t : T Value) (o : Oper) (h : H) : Option (Value × H) :=
  match o.op with
  | .panic x => match evO h.g t x with
    | some (.iface ty v) => some (.iface ty v, h)
    | _ => none
  | .call { callee := .value f, args, .. } => match evO h.g t f, evL h.g t args.toList with
    | some (.func (.func g) ⟨fi⟩ ⟨ca⟩), some vs => pc g (fi ++ vs ++ ca) h
    | _, _ => none
  | _ => none
variable {b : Frame} {k : List Item} {cs : List Frame}
theorem panOp_goes (hr : HR r h w) (ha : AR r h n t a) {pc : PcF} (hpc : PcOk P pc) {ops : Array Oper} {i : Nat} {rest : List Nat} (ho : ops[i]? = some o) (hw : Region.wanted o (yielded ops a.tmps) = true) {v : Value} {h' : H} (hv : panOp pc t o h = some (v, h')) :
    ∃ w' v' r', Step r h w r' h' w' ∧ VR r' v v' ∧ Steps P (lone (b.atR a (.inRegion ops (i :: rest) :: k)) cs w) (lone (pan b a (.inRegion ops (i :: rest) :: k) v') cs w') := by
  have hg : (∀ c, o.op ≠ .defer c) → _ := fun hd => (stepGR_op (P := P) (b := b) (k := k) (cs := cs) (w := w) (rest := rest) ho hw).trans (by rw [Oper.semAt_eq _ _ _ hd])
  unfold panOp at hv
  split at hv
  · rename_i x hop
    split at hv
    · rename_i ty u hx
      simp only [Option.some.injEq, Prod.mk.injEq] at hv
      obtain ⟨rfl, rfl⟩ := hv
      have h1 := evO_ok hr ha hx
      refine ⟨w, a.eval x, r, Step.refl hr, h1, .one (step_lone_go ?_)⟩
      have hrun : (execOp a.eval o).run P w = .halt (.panic (a.eval x)) w := by
        generalize hz : a.eval x = z at h1
        cases h1 with
        | iface hu => simp [execOp, hop, Instr.panic, hz, goPanic, Sem.run, Result.andThen]
      rw [hg (by simp [hop])]
      simp [stepG.apply, hrun, Frame.raise, pan, Frame.atR]
    · cases hv
  · rename_i f args tys hop
    split at hv
    · rename_i g fi ca vs hf hx
      have h1 := evO_ok hr ha hf
      have h2 := evL_ok hr ha hx
      generalize hq : a.eval f = z at h1
      cases h1 with
      | func _ g1 g2 =>
        rename_i f' c' _
        obtain ⟨⟨fn, k1, k2, k3⟩, k4⟩ := hpc r h w g _ _ v h' hr ((g1.append h2).append g2) hv
        have hrun : (execOp a.eval o).run P w = .ok (.enter g (f' ++ args.toList.map a.eval ++ c').toArray) w := by
          have k3' : fn.name ≠ "runtime.NumGoroutine" := by simpa using k3
          have k2' : fn.body ≠ none := by intro e; rw [e] at k2; cases k2
          simp [execOp, hop, resolve, Deferred.ofValue, invoke, callFunc, hq, k1, k2', k3']
        have henter : step P (lone (b.atR a (.inRegion ops (i :: rest) :: k)) cs w) =
            .next (lone (Frame.enter P g (f' ++ args.toList.map a.eval ++ c').toArray .normal) (b.atR a (.inRegion ops (i :: rest) :: k) :: cs) w) :=
          step_lone_go (by rw [hg (by simp [hop])]; simp [stepG.apply, hrun, Frame.atR])
        obtain ⟨e, w', fr, ⟨v', rfl, r', st, hv'⟩, hs, _, hl⟩ := k4 (b.atR a (.inRegion ops (i :: rest) :: k) :: cs)
        refine ⟨w', v', r', st, hv', .head henter (Steps.trans hs (.one ?_))⟩
        exact step_leave_panicked hl
    · cases hv
  · cases hv
/-- A region, to its panic. -/
def panOps (P : Program) (cf yf : CallF) (pc : PcF) (n : Nat) (all : List Oper) : List Oper → T Value → H → Option (T Value × H × Value)
  | [], _, _ => none
  | o :: l, t, h => bif jg all t o then none else bif wants all t o then
      match step1 P cf yf o t h with
      | some (v, h') => panOps P cf yf pc n all l (put n o.dst v t) h'
      | none => match panOp pc t o h with
        | some (v, h') => some (t, h', v)
        | none => none
    else panOps P cf yf pc n all l (put n o.dst undef t) h
def AtP (B : List Deferred) (r : Ren) (h : H) (w : World) (n : Nat) (t' : T Value) (D' : List Nat) (h' : H) (v : Value) (a' : Act) (w' : World) (v' : Value) : Prop :=
  ∃ r', Step r h w r' h' w' ∧ AR r' h' n t' a' ∧ DR r' B D' a'.defers ∧ VR r' v v'
theorem AtP.step {r1 : Ren} {h1 : H} {w1 : World} (hs : Step r h w r1 h1 w1) {t' : T Value} {D' : List Nat} {h' : H} {v : Value} {a' : Act} {w' : World} {v' : Value} (ha : AtP B r1 h1 w1 n t' D' h' v a' w' v') : AtP B r h w n t' D' h' v a' w' v' := by
  obtain ⟨r2, q1, q2⟩ := ha
  exact ⟨r2, hs.trans q1, q2⟩
theorem panOps_ok {cf yf : CallF} (hcf : CfOk P cf) (hyf : YfOk P yf) {pc : PcF} (hpc : PcOk P pc) (ops : Array Oper) {D : List Nat} (hb : FrK b) {t' : T Value} {h' : H} {v : Value} : ∀ (l : List Oper) (j : Nat) (r : Ren) (h : H) (w : World) (t : T Value) (a : Act),
    ops.toList.drop j = l → HR r h w → AR r h n t a → DR r B D a.defers → panOps P cf yf pc n ops.toList l t h = some (t', h', v) →
    PanAt P (lone (b.atR a (.inRegion ops (List.range' j l.length) :: k)) cs w) b cs (AtP B r h w n t' D h' v) := by
  intro l
  induction l with
  | nil => intro j r h w t a _ _ _ _ hv; cases hv
  | cons o l ih =>
    intro j r h w t a hd hr ha hdr hv
    have hoj : ops[j]? = some o := by
      rw [← Array.getElem?_toList, ← Nat.add_zero j, ← List.getElem?_drop, hd]; rfl
    have hdr2 : ops.toList.drop (j + 1) = l := by rw [← List.drop_drop, hd]; rfl
    have hrg : List.range' j (o :: l).length = j :: List.range' (j + 1) l.length := by rw [List.length_cons, List.range'_succ]
    rw [hrg]
    simp only [panOps] at hv
    cases hjg : jg ops.toList t o with
    | true => rw [hjg] at hv; cases hv
    | false =>
    rw [hjg] at hv
    simp only [cond_false] at hv
    rw [wants_ok ha ops hjg] at hv
    cases hw : Region.wanted o (yielded ops a.tmps) with
    | true =>
      rw [hw] at hv
      simp only [cond_true] at hv
      split at hv
      · rename_i u h1 hs
        have hx := step1_ok hr ha hcf hyf hs
        have hnd : ∀ c, o.op ≠ .defer c := fun c ho => opx_defer ho hx
        rcases op_goes (k := k) (cs := cs) (rest := List.range' (j + 1) l.length) hoj hw hnd hb (.inr hx) with hg | ⟨v', w1, ⟨r1, hs1, hv1⟩, hst⟩
        · exact hg.elim
        · have := ih (j + 1) r1 h1 w1 _ (a.put o.dst v') hdr2 hs1.hr ((ha.ext hs1.ext).put o.dst hv1) (by cases o.dst <;> exact hdr.ext hs1.ext) hv
          exact (this.mono fun _ _ _ q => q.step hs1).of_steps hst
      · split at hv
        · rename_i u h1 hp
          simp only [Option.some.injEq, Prod.mk.injEq] at hv
          obtain ⟨rfl, rfl, rfl⟩ := hv
          obtain ⟨w', v', r', q1, q2, q3⟩ := panOp_goes (b := b) (k := k) (cs := cs) (rest := List.range' (j + 1) l.length) hr ha hpc hoj hw hp
          exact ⟨a, w', v', _, ⟨r', q1, ha.ext q1.ext, hdr.ext q1.ext, q2⟩, q3⟩
        · cases hv
    | false =>
      rw [hw] at hv
      simp only [cond_false] at hv
      have hst : Steps P (lone (b.atR a (.inRegion ops (j :: List.range' (j + 1) l.length) :: k)) cs w) (lone (b.atR (a.put o.dst undef) (.inRegion ops (List.range' (j + 1) l.length) :: k)) cs w) := by
        have := stepR_op_skip (P := P) (b := b) (a := a) (k := k) (cs := cs) (w := w) (ops := ops) (i := j) (rest := List.range' (j + 1) l.length) (by rw [hoj]; simp [hw])
        rw [hoj] at this
        exact .one this
      have := ih (j + 1) r h w _ (a.put o.dst undef) hdr2 hr (ha.put o.dst (VR.of_plain r _ rfl)) (by cases o.dst <;> exact hdr) hv
      exact this.of_steps hst
/-- Code, to its panic: 'ex' runs what ends without one. -/
abbrev PanF := Option Nat → Nat → Code → T Value → List Nat → H → Option (T Value × List Nat × H × Value)
def panBody (P : Program) (ex : CodeF) (cf yf : CallF) (pc : PcF) (px : PanF) : PanF := fun ro n c t D h =>
  match c with
  | .seq x y => match ex ro n x t D h with
    | .ok .normal t1 D1 h1 => px ro n y t1 D1 h1
    | _ => px ro n x t D h
  | .cond x y z => match evT t x with
    | .bool q => px ro n (bif q then y else z) t D h
    | _ => none
  | .scope x => px ro n x t D h
  | .block _ x => px ro n x t D h
  | .loop x => match ex ro n x t D h with
    | .ok .normal t1 D1 h1 => px ro n (.loop x) t1 D1 h1
    | _ => px ro n x t D h
  | .region _ ops false => match panOps P cf yf pc n ops.toList ops.toList t h with
    | some (t', h', v) => some (t', D, h', v)
    | none => none
  | _ => none
/-- A call, to its panic. -/
def callPan (P : Program) (px : PanF) : PcF := fun f args h =>
  match P.funcs[f]? with
  | some fn => match fn.body with
    | some c => match px none (args.length + (fn.ntmps - args.length)) c (argsT args 1 .e) [] h with
      | some (_, [], h1, v) => some (v, h1)
      | _ => none
    | none => none
  | none => none
def panRun (P : Program) (ex : CodeF) (cf yf : CallF) : Nat → PanF
  | 0 => fun _ _ _ _ _ _ => none
  | k + 1 => panBody P ex cf yf (callPan P (panRun P ex cf yf k)) (panRun P ex cf yf k)
def PxOk (P : Program) (px : PanF) : Prop := ∀ (ro : Option Nat) (n : Nat) (c : Code) (t : T Value) (D : List Nat) (h : H) (t' : T Value) (D' : List Nat) (h' : H) (v : Value), px ro n c t D h = some (t', D', h', v) →
  ∀ {B : List Deferred} (r : Ren) (w : World) (a : Act) (ro' : Option Nat), HR r h w → AR r h n t a → DR r B D a.defers → RoR r ro ro' → RunsPX P ro' c a w (AtP B r h w n t' D' h' v)
theorem callPan_ok (hng : NoNG P) {px : PanF} (hpx : PxOk P px) : PcOk P (callPan P px) := by
  intro r h w g args args' v h' hr hl hv
  unfold callPan at hv
  split at hv
  · rename_i fn hfn
    split at hv
    · rename_i c hc
      refine ⟨⟨fn, hfn, by rw [hc]; rfl, hng g fn hfn⟩, fun cs => ?_⟩
      split at hv
      · rename_i t1 h1 v1 hx
        simp only [Option.some.injEq, Prod.mk.injEq] at hv
        obtain ⟨rfl, rfl⟩ := hv
        let b : Frame := { (default : Frame) with fn := g, kind := .normal, roundOf := none }
        have hent : Frame.enter P g args'.toArray .normal = b.atR { tmps := args'.toArray ++ Array.replicate (fn.ntmps - args'.length) undef, defers := [] } [.code c] := by
          simp [Frame.enter, Frame.atR, hfn, hc, b]
        have hA : AR r h (args.length + (fn.ntmps - args.length)) (argsT args 1 .e) { tmps := args'.toArray ++ Array.replicate (fn.ntmps - args'.length) undef, defers := [] } := by
          refine ⟨TR.fill ?_ _, ?_⟩
          · have := argsT_ok args args' 1 .e [] hl (fun i => .inr (by simpa [T.get_e] using VR.of_plain r undef rfl)) rfl
            simpa using this
          · simp [hl.length]
        have hgo := (hpx _ _ _ _ _ _ _ _ _ _ hx (B := []) r w _ none hr hA .nil trivial).runs b [] cs (.inl rfl) rfl
        rw [← hent] at hgo
        obtain ⟨a', w', v', k', ⟨r', st, ar, dr, hv'⟩, hs⟩ := hgo
        have hd : a'.defers = [] := by
          generalize a'.defers = ds at dr
          cases dr; rfl
        exact ⟨.panicked [{ v := v', recovered := false }], w', pan b a' k' v', ⟨v', rfl, r', st, hv'⟩, hs, rfl, rfl, hd, fn, hfn⟩
      · cases hv
    · cases hv
  · cases hv
theorem panBody_ok {ex : CodeF} (hex : ExOk P ex) {cf yf : CallF} (hcf : CfOk P cf) (hyf : YfOk P yf) {pc : PcF} (hpc : PcOk P pc) {px : PanF} (hpx : PxOk P px) : PxOk P (panBody P ex cf yf pc px) := by
  intro ro n c t D h t' D' h' v hv B r w a ro' hr ha hd ho
  unfold panBody at hv
  split at hv
  · rename_i x y
    split at hv
    · rename_i t1 D1 h1 hq
      refine runsP_seq2 ((hex _ _ _ _ _ _ _ _ _ _ hq r w a ro' hr ha hd ho).runs.mono fun z a1 w1 hz => ?_)
      obtain ⟨rfl, r1, s1, a1', d1⟩ := hz
      exact ⟨rfl, (hpx _ _ _ _ _ _ _ _ _ _ hv r1 w1 a1 ro' s1.hr a1' d1 (ho.ext s1.ext)).runs.mono fun _ _ _ q => q.step s1⟩
    · exact runsP_seq1 (hpx _ _ _ _ _ _ _ _ _ _ hv r w a ro' hr ha hd ho).runs
  · rename_i x y z
    split at hv
    · rename_i q hq
      have hc : a.eval x = .bool q := by
        cases x with
        | tmp i =>
          have := ha.t i
          simp only [evT] at hq
          rw [hq] at this
          exact (this.vr rfl).to_bool
        | const u => exact hq
        | global g => simp [evT] at hq
        | func g => simp [evT] at hq
      refine runsP_cond hc ?_
      cases q with
      | true => exact (hpx _ _ _ _ _ _ _ _ _ _ hv r w a ro' hr ha hd ho).runs
      | false => exact (hpx _ _ _ _ _ _ _ _ _ _ hv r w a ro' hr ha hd ho).runs
    · cases hv
  · exact runsP_scope (hpx _ _ _ _ _ _ _ _ _ _ hv r w a ro' hr ha hd ho).runs
  · exact runsP_block (hpx _ _ _ _ _ _ _ _ _ _ hv r w a ro' hr ha hd ho).runs
  · rename_i x
    split at hv
    · rename_i t1 D1 h1 hq
      refine loopP_next ((hex _ _ _ _ _ _ _ _ _ _ hq r w a ro' hr ha hd ho).runs.mono fun z a1 w1 hz => ?_)
      obtain ⟨rfl, r1, s1, a1', d1⟩ := hz
      have : LoopRunsP P ro' x a1 w1 _ := hpx _ _ _ _ _ _ _ _ _ _ hv r1 w1 a1 ro' s1.hr a1' d1 (ho.ext s1.ext)
      exact ⟨rfl, fun b k cs hk hro => (this b k cs hk hro).mono fun _ _ _ q => q.step s1⟩
    · exact loopP_first (hpx _ _ _ _ _ _ _ _ _ _ hv r w a ro' hr ha hd ho).runs
  · rename_i id ops
    split at hv
    · rename_i t1 h1 v1 hq
      simp only [Option.some.injEq, Prod.mk.injEq] at hv
      obtain ⟨rfl, rfl, rfl, rfl⟩ := hv
      intro b k cs hk hro
      have hrg : List.range ops.size = List.range' 0 ops.toList.length := by rw [List.range_eq_range', Array.length_toList]
      have hst : Steps P (lone (b.atR a (.code (.region id ops false) :: k)) cs w) (lone (b.atR a (.inRegion ops (List.range' 0 ops.toList.length) :: k)) cs w) := by
        have := stepR_region (P := P) (b := b) (a := a) (k := k) (cs := cs) (w := w) (ops := ops) (id := id)
        rw [hrg] at this
        exact .one this
      exact (panOps_ok (k := k) (cs := cs) hcf hyf hpc ops hk ops.toList 0 r h w t a rfl hr ha hd hq).of_steps hst
    · cases hv
  · cases hv
theorem panRun_ok (hng : NoNG P) {ex : CodeF} (hex : ExOk P ex) {cf yf : CallF} (hcf : CfOk P cf) (hyf : YfOk P yf) : ∀ k, PxOk P (panRun P ex cf yf k) := by
  intro k
  induction k with
  | zero => intro ro n c t D h t' D' h' v hv; cases hv
  | succ k ih => exact panBody_ok hex hcf hyf (callPan_ok hng ih) ih
end
end Ev
end Go.Proofs.YtmemadmjgcpobaaGreatDoor
