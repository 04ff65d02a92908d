/- Functions that defer a closure, which recovers. -/
import Derived.Test.YtmemadmjgcpobaaGreatDoorEvM19
import Derived.Recover
import Derived.Test.YtmemadmjgcpobaaGreatDoorEvM18
set_option maxRecDepth 10000
namespace Go.Proofs.YtmemadmjgcpobaaGreatDoor
namespace Ev
noncomputable section
variable {P : Program} {B : List Deferred} {r : Ren} {h : H} {w : World} {n : Nat} {t : T Value} {a : Act} {o : Oper}
def isRec (o : Oper) : Bool := match o.op with
  | .call { callee := .builtin .recover, args, .. } => args.isEmpty && o.guard.isNone
  | _ => false
/-- The closure, which recovers what it is told. -/
def dClo (P : Program) (ex : CodeF) (rec : Value) (g : Nat) (args : List Value) (h : H) : Option H :=
  match P.funcs[g]? with
  | some fn => match fn.body with
    | some (.seq (.region _ ops false) rest) => match ops.toList with
      | [o] => bif isRec o && fn.results.isEmpty then
          match ex none (args.length + (fn.ntmps - args.length)) rest (put (args.length + (fn.ntmps - args.length)) o.dst rec (argsT args 1 .e)) [] h with
          | .ok x _ [] h1 => match x with
            | .exit _ => none
            | _ => some h1
          | _ => none
        else none
      | _ => none
    | _ => none
  | none => none
/-- What a deferred call that recovers leaves behind. -/
def DcOk (P : Program) (u : FrameMode) (g : Nat) (args : Array Value) (w : World) (K : World → Prop) : Prop :=
  CallsD P g args u w fun e u' w' => (∃ v, e = .returned v) ∧ settle u' = .returning ∧ K w'
theorem dClo_ok {ex : CodeF} (hex : ExOk P ex) {rec rec' : Value} {g : Nat} {args args' : List Value} {h' : H} (hr : HR r h w) (hl : VRL r args args') (hrec : VR r rec rec') {u : FrameMode}
    (hu : (u = .returning ∧ rec' = .nilIface) ∨ u = .panicking [{ v := rec', recovered := false }]) (hv : dClo P ex rec g args h = some h') :
    DcOk P u g args'.toArray w fun w' => ∃ r', Step r h w r' h' w' := by
  unfold dClo at hv
  split at hv
  · rename_i fn hfn
    split at hv
    · rename_i id ops rest hb
      split at hv
      · rename_i o hops
        obtain ⟨hc, hv⟩ := bif_some hv
        simp only [Bool.and_eq_true] at hc
        obtain ⟨hrc, hres⟩ := hc
        split at hv
        · rename_i x t1 h1 hx
          intro c cs hcm
          let b : Frame := { (default : Frame) with fn := g, kind := .deferred, roundOf := none }
          let a0 : Act := { tmps := args'.toArray ++ Array.replicate (fn.ntmps - args'.length) undef, defers := [] }
          have hent : Frame.enter P g args'.toArray .deferred = b.atR a0 [.code (.seq (.region id ops false) rest)] := by
            simp [Frame.enter, Frame.atR, hfn, hb, b, a0]
          have hA : AR r h (args.length + (fn.ntmps - args.length)) (argsT args 1 .e) a0 := by
            refine ⟨TR.fill ?_ _, ?_⟩
            · have := argsT_ok args args' 1 .e [] hl (fun i => .inr (by simpa [T.get_e] using VR.of_plain r undef rfl)) rfl
              simpa using this
            · simp [a0, hl.length]
          have hsz : ops.size = 1 := by rw [← Array.length_toList, hops]; rfl
          have ho0 : ops[0]? = some o := by rw [← Array.getElem?_toList, hops]; rfl
          -- the operation
          have hrun : (execOp a0.eval o).run P w = .ok .recover w ∧ o.guard = none ∧ ∀ c, o.op ≠ .defer c := by
            unfold isRec at hrc
            split at hrc
            · rename_i ar tys hop
              simp only [Bool.and_eq_true] at hrc
              refine ⟨?_, by simpa using hrc.2, by simp [hop]⟩
              have : ar = #[] := by simpa using hrc.1
              subst this
              simp [execOp, hop, resolve, invoke, builtin]
            · cases hrc
          obtain ⟨hrun, hgd, hnd⟩ := hrun
          have hwant : Region.wanted o (yielded ops a0.tmps) = true := by simp [Region.wanted, hgd]
          have hg := (stepGR_op (P := P) (b := b) (a := a0) (k := [.code rest]) (cs := c :: cs) (w := w) (rest := []) ho0 hwant).trans (by rw [Oper.semAt_eq _ _ _ hnd])
          have hfin : ∀ z, (b.atR a0 (.inRegion ops (0 :: []) :: [.code rest])).finish z = b.atR (a0.put o.dst z) (.inRegion ops [] :: [.code rest]) := by
            intro z; rw [Frame.finish_atR, ho0]; rfl
          have hst1 : Steps P (lone (Frame.enter P g args'.toArray .deferred) (c :: cs) w) (lone (b.atR a0 (.inRegion ops [0] :: [.code rest])) (c :: cs) w) := by
            rw [hent]
            refine .head stepR_seq (.one ?_)
            have := stepR_region (P := P) (b := b) (a := a0) (k := [.code rest]) (cs := c :: cs) (w := w) (ops := ops) (id := id)
            rw [hsz] at this
            exact this
          have hrec1 : ∃ u', settle u' = .returning ∧ step P (lone (b.atR a0 (.inRegion ops [0] :: [.code rest])) (c :: cs) w) =
              .next (lone (b.atR (a0.put o.dst rec') (.inRegion ops [] :: [.code rest])) ({ c with mode := u' } :: cs) w) := by
            have hkd : (b.atR a0 (.inRegion ops [0] :: [.code rest])).kind = .deferred := rfl
            have htr := tryRecover_deferred hkd (c :: cs)
            rcases hu with ⟨rfl, rfl⟩ | rfl
            · refine ⟨.returning, rfl, step_lone_go ?_⟩
              have h0 : recoverD (c :: cs) = none := by simp [recoverD, hcm]
              rw [h0] at htr
              have hc' : ({ c with mode := .returning } : Frame) = c := by rw [← hcm]
              rw [hg, ← hfin, hc']
              simp only [Frame.atR] at htr ⊢
              simp [stepG.apply, hrun, htr, b]
            · refine ⟨.panicking [{ v := rec', recovered := true }], rfl, step_lone_go ?_⟩
              have h0 : recoverD (c :: cs) = some (rec', { c with mode := .panicking [{ v := rec', recovered := true }] } :: cs) := by simp [recoverD, hcm]
              rw [h0] at htr
              rw [hg, ← hfin]
              simp only [Frame.atR] at htr ⊢
              simp [stepG.apply, hrun, htr, b]
          obtain ⟨u', hset, hrec1⟩ := hrec1
          have hst2 := hst1.trans (Steps.head hrec1 (.one stepR_region_end))
          have hgo := (hex _ _ _ _ _ _ _ _ _ _ hx (B := []) r w (a0.put o.dst rec') none hr (hA.put o.dst hrec) (by cases o.dst <;> exact .nil) trivial).runs b [] ({ c with mode := u' } :: cs) (.inr rfl) rfl
          rcases hgo with hgo | ⟨x', a', w', ⟨rfl, r1, s1, a1, d1⟩, harr⟩
          · exact hgo.elim
          have hdf : a'.defers = [] := by
            generalize a'.defers = ds at d1
            cases d1; rfl
          have hresr : (results fn a'.tmps).run P w' = .ok (.tuple #[]) w' := by
            have : fn.results = #[] := by simpa using hres
            simp [results, this]
          have hret : ∃ k, Steps P (lone (b.atR (a0.put o.dst rec') [.code rest]) ({ c with mode := u' } :: cs) w) (lone { b.atR a' k with mode := .returning } ({ c with mode := u' } :: cs) w') ∧ h1 = h' := by
            cases x' with
            | normal => exact ⟨[], Steps.trans harr (.one (stepR_end rfl)), Option.some.inj hv⟩
            | ret => obtain ⟨k, hk⟩ := harr; exact ⟨_, Steps.trans hk (.one (stepR_ret rfl)), Option.some.inj hv⟩
            | exit id => cases hv
          obtain ⟨k, hret, rfl⟩ := hret
          exact ⟨.returned (.tuple #[]), u', w', { b.atR a' k with mode := .returning }, ⟨⟨_, rfl⟩, hset, r1, s1⟩, hst2.trans hret, rfl, rfl, hdf, fn, hfn, hresr⟩
        · cases hv
      · cases hv
    · cases hv
  · cases hv
/-- The last operation of a region defers a closure. -/
def dOp (t : T Value) (o : Oper) (h : H) : Option (Nat × List Value × List Value) :=
  match o.op with
  | .defer { callee := .value f, args, .. } => bif args.isEmpty && o.guard.isNone then match evO h.g t f with
      | some (.func (.func g) ⟨fi⟩ ⟨ca⟩) => some (g, fi, ca)
      | _ => none
    else none
  | _ => none
def dOps (P : Program) (cf yf : CallF) (n : Nat) (all : List Oper) : List Oper → T Value → H → Option (T Value × H × Nat × List Value × List Value)
  | [], _, _ => none
  | [o], t, h => match dOp t o h with
    | some (g, fi, ca) => some (put n o.dst undef t, h, g, fi, ca)
    | none => none
  | o :: o' :: l, t, h => bif jg all t o then none else bif wants all t o then match step1 P cf yf o t h with
      | some (v, h') => dOps P cf yf n all (o' :: l) (put n o.dst v t) h'
      | none => none
    else dOps P cf yf n all (o' :: l) (put n o.dst undef t) h
theorem dOps_ok {cf yf : CallF} (hcf : CfOk P cf) (hyf : YfOk P yf) (ops : Array Oper) {b : Frame} {k : List Item} {cs : List Frame} (hb : FrK b) (hro : b.roundOf = none) {t' : T Value} {h' : H} {g : Nat} {fi ca : List Value} : ∀ (l : List Oper) (j : Nat) (r : Ren) (h : H) (w : World) (t : T Value) (a : Act),
    ops.toList.drop j = l → HR r h w → AR r h n t a → a.defers = [] → dOps P cf yf n ops.toList l t h = some (t', h', g, fi, ca) →
    ∃ r' a' w' fi' ca', Step r h w r' h' w' ∧ AR r' h' n t' a' ∧ VRL r' fi fi' ∧ VRL r' ca ca' ∧ a'.defers = [{ target := .fn (.func g) ⟨ca'⟩, args := ⟨fi'⟩ }] ∧
      Steps P (lone (b.atR a (.inRegion ops (List.range' j l.length) :: k)) cs w) (lone (b.atR a' (.inRegion ops [] :: k)) cs w') := by
  intro l
  induction l with
  | nil => intro j r h w t a _ _ _ _ hv; cases hv
  | cons o l ih =>
    intro j r h w t a hd hr ha hdf hv
    have hoj : ops[j]? = some o := by
      rw [← Array.getElem?_toList, ← Nat.add_zero j, ← List.getElem?_drop, hd]; rfl
    have hdr2 : ops.toList.drop (j + 1) = l := by rw [← List.drop_drop, hd]; rfl
    have hrg : List.range' j (o :: l).length = j :: List.range' (j + 1) l.length := by rw [List.length_cons, List.range'_succ]
    rw [hrg]
    cases l with
    | nil =>
      simp only [dOps] at hv
      split at hv
      · rename_i g0 fi0 ca0 hop
        simp only [Option.some.injEq, Prod.mk.injEq] at hv
        obtain ⟨rfl, rfl, rfl, rfl, rfl⟩ := hv
        unfold dOp at hop
        split at hop
        · rename_i f args tys hoo
          obtain ⟨hc, hop2⟩ := bif_some hop
          clear hop
          simp only [Bool.and_eq_true] at hc
          have hgd : o.guard = none := by simpa using hc.2
          have hargs : args = #[] := by simpa using hc.1
          subst hargs
          split at hop2
          · rename_i g fi ca hf
            obtain ⟨rfl, hop3⟩ := Prod.mk.inj (Option.some.inj hop2)
            obtain ⟨rfl, rfl⟩ := Prod.mk.inj hop3
            have h1 := evO_ok hr ha hf
            generalize hq : a.eval f = z at h1
            cases h1 with
            | func _ g1 g2 =>
              rename_i f' c' _
              have hrun : (execOp a.eval o).run P w = .ok (.defer { target := .fn (.func g) ⟨c'⟩, args := ⟨f'⟩ }) w := by
                simp [execOp, hoo, resolve, Deferred.ofValue, hq]
              have hwant : Region.wanted o (yielded ops a.tmps) = true := by simp [Region.wanted, hgd]
              have hg := stepGR_op (P := P) (b := b) (a := a) (k := k) (cs := cs) (w := w) (rest := []) hoj hwant
              rw [hro, Oper.semAt_none] at hg
              refine ⟨r, { a with defers := [{ target := .fn (.func g) ⟨c'⟩, args := ⟨f'⟩ }] }.put o.dst undef, w, f', c', Step.refl hr, ?_, g1, g2, by cases o.dst <;> rfl, .one (step_lone_go ?_)⟩
              · have : AR r h n t { a with defers := [{ target := .fn (.func g) ⟨c'⟩, args := ⟨f'⟩ }] } := ⟨ha.t, ha.n⟩
                exact this.put o.dst (VR.of_plain r _ rfl)
              · have hfin : ({ b.atR a (.inRegion ops (j :: []) :: k) with defers := { target := .fn (.func g) ⟨c'⟩, args := ⟨f'⟩ } :: a.defers } : Frame).finish undef =
                    b.atR ({ a with defers := [{ target := .fn (.func g) ⟨c'⟩, args := ⟨f'⟩ }] }.put o.dst undef) (.inRegion ops [] :: k) := by
                  have := Frame.finish_atR b { a with defers := { target := .fn (.func g) ⟨c'⟩, args := ⟨f'⟩ } :: a.defers } ops j [] k undef
                  rw [hoj, hdf] at this
                  rw [hdf]
                  exact this
                show (stepG P true { frame := b.atR a (.inRegion ops (j :: []) :: k), callers := cs, status := .running, dying := none } w).bare = _
                rw [hg]
                simp only [stepG.apply, Sem.runT_eq, hrun, GStep.bare_after]
                exact congrArg (fun fr => GStep.go { frame := fr, callers := cs, status := .running, dying := none } w) hfin
          · cases hop2
        · cases hop
      · cases hv
    | cons o' l =>
      simp only [dOps] at hv
      cases hjg : jg ops.toList t o with
      | true => rw [hjg] at hv; cases hv
      | false =>
      rw [hjg] at hv
      simp only [cond_false] at hv
      rw [wants_ok ha ops hjg] at hv
      cases hw : Region.wanted o (yielded ops a.tmps) with
      | true =>
        rw [hw] at hv
        simp only [cond_true] at hv
        split at hv
        · rename_i u h1 hs
          have hx := step1_ok hr ha hcf hyf hs
          have hnd : ∀ c, o.op ≠ .defer c := fun c ho => opx_defer ho hx
          rcases op_goes (k := k) (cs := cs) (rest := List.range' (j + 1) (o' :: l).length) hoj hw hnd hb (.inr hx) with hg | ⟨v', w1, ⟨r1, hs1, hv1⟩, hst⟩
          · exact hg.elim
          · obtain ⟨r', a', w', fi', ca', q1, q2, q3, q4, q5, q6⟩ := ih (j + 1) r1 h1 w1 _ (a.put o.dst v') hdr2 hs1.hr ((ha.ext hs1.ext).put o.dst hv1) (by cases o.dst <;> exact hdf) hv
            exact ⟨r', a', w', fi', ca', hs1.trans q1, q2, q3, q4, q5, hst.trans q6⟩
        · cases hv
      | false =>
        rw [hw] at hv
        simp only [cond_false] at hv
        have hst : Steps P (lone (b.atR a (.inRegion ops (j :: List.range' (j + 1) (o' :: l).length) :: k)) cs w) (lone (b.atR (a.put o.dst undef) (.inRegion ops (List.range' (j + 1) (o' :: l).length) :: k)) cs w) := by
          have := stepR_op_skip (P := P) (b := b) (a := a) (k := k) (cs := cs) (w := w) (ops := ops) (i := j) (rest := List.range' (j + 1) (o' :: l).length) (by rw [hoj]; simp [hw])
          rw [hoj] at this
          exact .one this
        obtain ⟨r', a', w', fi', ca', q1, q2, q3, q4, q5, q6⟩ := ih (j + 1) r h w _ (a.put o.dst undef) hdr2 hr (ha.put o.dst (VR.of_plain r _ rfl)) (by cases o.dst <;> exact hdf) hv
        exact ⟨r', a', w', fi', ca', q1, q2, q3, q4, q5, hst.trans q6⟩
inductive DO where
  | done (t : T Value) (h : H)
  | dfr (t : T Value) (h : H) (g : Nat) (fi ca : List Value) (rest : Code)
def isDfr (ops : Array Oper) : Bool := match ops.toList.getLast? with
  | some { op := .defer _, .. } => true
  | _ => false
/-- Code along its spine, up to where it defers. -/
def dRun (P : Program) (ex : CodeF) (cf yf : CallF) (n : Nat) : Code → T Value → H → Option DO
  | .seq x y, t, h => match (match x with
      | .region _ ops false => bif isDfr ops then dOps P cf yf n ops.toList ops.toList t h else none
      | _ => none) with
    | some (t', h', g, fi, ca) => some (.dfr t' h' g fi ca y)
    | none => match ex none n x t [] h with
      | .ok .normal t1 [] h1 => dRun P ex cf yf n y t1 h1
      | .ok .ret t1 [] h1 => some (.done t1 h1)
      | _ => none
  | _, _, _ => none
def resD (P : Program) (fn : Func) (t : T Value) (h : H) : Option (Value × H) := match resL P t h fn.results.toList with
  | some [v] => some (v, h)
  | some vs => some (.tuple ⟨vs⟩, h)
  | none => none
/-- A call of a function that defers a closure. -/
def dCall (P : Program) (ex : CodeF) (cf yf : CallF) (px : PanF) : CallF := fun f args h =>
  match P.funcs[f]? with
  | some fn => match fn.body with
    | some c => match dRun P ex cf yf (args.length + (fn.ntmps - args.length)) c (argsT args 1 .e) h with
      | some (.done t h1) => resD P fn t h1
      | some (.dfr t h1 g fi ca rest) => match ex none (args.length + (fn.ntmps - args.length)) rest t [] h1 with
        | .ok .normal t2 [] h2 => match dClo P ex .nilIface g (fi ++ ca) h2 with
          | some h3 => resD P fn t2 h3
          | none => none
        | .ok .ret t2 [] h2 => match dClo P ex .nilIface g (fi ++ ca) h2 with
          | some h3 => resD P fn t2 h3
          | none => none
        | _ => match px none (args.length + (fn.ntmps - args.length)) rest t [] h1 with
          | some (t2, [], h2, v) => match dClo P ex v g (fi ++ ca) h2 with
            | some h3 => resD P fn t2 h3
            | none => none
          | _ => none
      | none => none
    | none => none
  | none => none
theorem resD_ok {fn : Func} (hr : HR r h w) {tm : Array Value} (ha : TR r t tm) {v : Value} {h' : H} (hv : resD P fn t h = some (v, h')) : h' = h ∧ ∃ v', VR r v v' ∧ (results fn tm).run P w = .ok v' w := by
  unfold resD at hv
  split at hv
  · rename_i u hq
    cases hv
    obtain ⟨v', q1, q2⟩ := results_ok hr ha hq
    exact ⟨rfl, v', q1, q2⟩
  · rename_i vs hne hq
    cases hv
    obtain ⟨v', q1, q2⟩ := results_ok hr ha hq
    refine ⟨rfl, v', ?_, q2⟩
    match vs, hne, q1 with
    | [], _, q => exact q
    | [u], hne, _ => exact absurd rfl (hne u)
    | u :: u' :: l, _, q => exact q
  · cases hv
/-- Where the spine leads. -/
def DoAt (P : Program) (r : Ren) (h : H) (w : World) (n : Nat) (m : Machine) (b : Frame) (k : List Item) (cs : List Frame) : DO → Prop
  | .done t' h' => ∃ r' a' w' k', Step r h w r' h' w' ∧ AR r' h' n t' a' ∧ a'.defers = [] ∧ Steps P m (lone (b.atR a' (.code .ret :: k')) cs w')
  | .dfr t' h' g fi ca rest => ∃ r' a' w' fi' ca', Step r h w r' h' w' ∧ AR r' h' n t' a' ∧ VRL r' fi fi' ∧ VRL r' ca ca' ∧ a'.defers = [{ target := .fn (.func g) ⟨ca'⟩, args := ⟨fi'⟩ }] ∧
      Steps P m (lone (b.atR a' (.code rest :: k)) cs w')
theorem dRun_ok {ex : CodeF} (hex : ExOk P ex) {cf yf : CallF} (hcf : CfOk P cf) (hyf : YfOk P yf) {b : Frame} {cs : List Frame} (hb : FrK b) (hro : b.roundOf = none) {d : DO} : ∀ (c : Code) (t : T Value) (h : H) (r : Ren) (w : World) (a : Act) (k : List Item),
    dRun P ex cf yf n c t h = some d → HR r h w → AR r h n t a → a.defers = [] → DoAt P r h w n (lone (b.atR a (.code c :: k)) cs w) b k cs d := by
  intro c
  induction c with
  | seq x y _ ihy =>
    intro t h r w a k hv hr ha hdf
    simp only [dRun] at hv
    split at hv
    · rename_i t1 h1 g fi ca hx
      cases hv
      split at hx
      · rename_i id ops _
        obtain ⟨_, hx⟩ := bif_some hx
        obtain ⟨r', a', w', fi', ca', q1, q2, q3, q4, q5, q6⟩ := dOps_ok (k := .code y :: k) (cs := cs) hcf hyf ops hb hro ops.toList 0 r h w t a rfl hr ha hdf hx
        have hrg : List.range ops.size = List.range' 0 ops.toList.length := by rw [List.range_eq_range', Array.length_toList]
        have hst := stepR_region (P := P) (b := b) (a := a) (k := .code y :: k) (cs := cs) (w := w) (ops := ops) (id := id)
        rw [hrg] at hst
        exact ⟨r', a', w', fi', ca', q1, q2, q3, q4, q5, Steps.head stepR_seq (Steps.head hst (q6.trans (.one stepR_region_end)))⟩
      · cases hx
    · split at hv
      · rename_i t1 h1 hx
        have hgo := (hex _ _ _ _ _ _ _ _ _ _ hx (B := []) r w a none hr ha (by rw [hdf]; exact .nil) trivial).runs b (.code y :: k) cs hb hro
        rcases hgo with hgo | ⟨x', a', w', ⟨rfl, r1, s1, a1, d1⟩, harr⟩
        · exact hgo.elim
        have hdf' : a'.defers = [] := by
          generalize a'.defers = ds at d1
          cases d1; rfl
        have := ihy t1 h1 r1 w' a' k hv s1.hr a1 hdf'
        cases d with
        | done t2 h2 =>
          obtain ⟨r2, a2, w2, k2, q1, q2, q3, q4⟩ := this
          exact ⟨r2, a2, w2, k2, s1.trans q1, q2, q3, Steps.head stepR_seq (Steps.trans harr q4)⟩
        | dfr t2 h2 g fi ca rest =>
          obtain ⟨r2, a2, w2, fi', ca', q1, q2, q3, q4, q5, q6⟩ := this
          exact ⟨r2, a2, w2, fi', ca', s1.trans q1, q2, q3, q4, q5, Steps.head stepR_seq (Steps.trans harr q6)⟩
      · rename_i t1 h1 hx
        cases hv
        have hgo := (hex _ _ _ _ _ _ _ _ _ _ hx (B := []) r w a none hr ha (by rw [hdf]; exact .nil) trivial).runs b (.code y :: k) cs hb hro
        rcases hgo with hgo | ⟨x', a', w', ⟨rfl, r1, s1, a1, d1⟩, k', harr⟩
        · exact hgo.elim
        have hdf' : a'.defers = [] := by
          generalize a'.defers = ds at d1
          cases d1; rfl
        exact ⟨r1, a', w', k', s1, a1, hdf', Steps.head stepR_seq harr⟩
      · cases hv
  | _ => intro t h r w a k hv; cases hv
theorem dCall_ok (hng : NoNG P) {ex : CodeF} (hex : ExOk P ex) {cf yf : CallF} (hcf : CfOk P cf) (hyf : YfOk P yf) {px : PanF} (hpx : PxOk P px) : CfOk P (dCall P ex cf yf px) := by
  intro r h w f args args' v h' hr hl hv
  unfold dCall at hv
  split at hv
  · rename_i fn hfn
    split at hv
    · rename_i c hc
      refine ⟨⟨fn, hfn, by rw [hc]; rfl, hng f fn hfn⟩, fun cs => ?_⟩
      let b : Frame := { (default : Frame) with fn := f, kind := .normal, roundOf := none }
      let a0 : Act := { tmps := args'.toArray ++ Array.replicate (fn.ntmps - args'.length) undef, defers := [] }
      have hent : Frame.enter P f args'.toArray .normal = b.atR a0 [.code c] := by
        simp [Frame.enter, Frame.atR, hfn, hc, b, a0]
      have hA : AR r h (args.length + (fn.ntmps - args.length)) (argsT args 1 .e) a0 := by
        refine ⟨TR.fill ?_ _, ?_⟩
        · have := argsT_ok args args' 1 .e [] hl (fun i => .inr (by simpa [T.get_e] using VR.of_plain r undef rfl)) rfl
          simpa using this
        · simp [a0, hl.length]
      rw [hent]
      -- the end: a frame that returns, with what was deferred
      have fin : ∀ (r1 : Ren) (h1 : H) (w1 : World) (a1 : Act) (t1 : T Value) (k1 : List Item) (u : FrameMode) (g : Nat) (fi ca fi' ca' : List Value) (rec rec' : Value) (h3 : H), Step r h w r1 h1 w1 → AR r1 h1 (args.length + (fn.ntmps - args.length)) t1 a1 →
          VRL r1 fi fi' → VRL r1 ca ca' → a1.defers = [{ target := .fn (.func g) ⟨ca'⟩, args := ⟨fi'⟩ }] → VR r1 rec rec' → (u = .returning ∧ rec' = .nilIface) ∨ u = .panicking [{ v := rec', recovered := false }] →
          dClo P ex rec g (fi ++ ca) h1 = some h3 → resD P fn t1 h3 = some (v, h') → Steps P (lone (b.atR a0 [.code c]) cs w) (lone { b.atR a1 k1 with mode := u } cs w1) →
          ∃ e w' fr, RC (Kt r h w v h') e w' ∧ Comes P (lone (b.atR a0 [.code c]) cs w) (lone fr cs w') e ∧ fr.fn = f ∧ fr.leaving P w' e := by
        intro r1 h1 w1 a1 t1 k1 u g fi ca fi' ca' rec rec' h3 st ar v1 v2 hdf hrec hu hclo hres hsteps
        have hd := dClo_ok hex st.hr (v1.append v2) hrec hu hclo
        have hgb : ∃ fnc, P.funcs[g]? = some fnc ∧ fnc.body ≠ none ∧ fnc.name ≠ "runtime.NumGoroutine" := by
          unfold dClo at hclo
          split at hclo
          · rename_i fnc hfnc
            split at hclo
            · rename_i hbb
              exact ⟨fnc, hfnc, by rw [hbb]; simp, by have := hng g fnc hfnc; simpa using this⟩
            · cases hclo
          · cases hclo
        obtain ⟨fnc, c1, c2, c3⟩ := hgb
        have hinv : (invoke (.fn (.func g) ⟨ca'⟩) ⟨fi'⟩).run P w1 = .ok (.enter g (fi' ++ ca').toArray) w1 := by
          simp [invoke, callFunc, c1, c2, c3]
        have hL : Leaves P fn a1.tmps (RC (Kt r h w v h')) a1.defers u w1 := by
          rw [hdf]
          refine ⟨by rcases hu with ⟨rfl, _⟩ | rfl <;> simp, .func g, ⟨ca'⟩, g, (fi' ++ ca').toArray, rfl, hinv, ?_⟩
          intro c' cs' hcm
          obtain ⟨e, u', w', fr, ⟨⟨ve, rfl⟩, hset, r2, s2⟩, hcomes, hk, hgo⟩ := hd c' cs' hcm
          refine ⟨.returned ve, u', w', fr, ?_, hcomes, hk, hgo⟩
          show Leaves P fn a1.tmps (RC (Kt r h w v h')) [] (settle u') w'
          rw [hset]
          obtain ⟨rfl, v', q1, q2⟩ := resD_ok (P := P) (fn := fn) s2.hr (ar.t.ext s2.ext) hres
          exact ⟨v', q2, r2, st.trans s2, q1⟩
        obtain ⟨e', w'', fr', hR, hs, hfn', hl'⟩ := leaves_steps a1.defers u w1 { b.atR a1 k1 with mode := u } cs rfl rfl rfl hfn rfl hL
        exact ⟨e', w'', fr', hR, Comes.of_steps hsteps hs, hfn', hl'⟩
      split at hv
      · rename_i t1 h1 hx
        obtain ⟨r1, a1, w1, k1, q1, q2, q3, q4⟩ := dRun_ok (cs := cs) hex hcf hyf (b := b) (.inl rfl) rfl c _ h r w a0 [] hx hr hA rfl
        obtain ⟨rfl, v', p1, p2⟩ := resD_ok (P := P) (fn := fn) q1.hr q2.t hv
        exact ⟨.returned v', w1, { b.atR a1 (.code .ret :: k1) with mode := .returning }, ⟨r1, q1, p1⟩, Steps.trans q4 (.one (stepR_ret rfl)), rfl, rfl, q3, rfl, fn, hfn, p2⟩
      · rename_i t1 h1 g fi ca rest hx
        obtain ⟨r1, a1, w1, fi', ca', q1, q2, q3, q4, q5, q6⟩ := dRun_ok (cs := cs) hex hcf hyf (b := b) (.inl rfl) rfl c _ h r w a0 [] hx hr hA rfl
        have norm : ∀ (x : Ex) (t2 : T Value) (h2 : H), x ≠ .normal → ex none (args.length + (fn.ntmps - args.length)) rest t1 [] h1 = .ok x t2 [] h2 → x = .ret → ∀ h3, dClo P ex .nilIface g (fi ++ ca) h2 = some h3 → resD P fn t2 h3 = some (v, h') →
            ∃ e w' fr, RC (Kt r h w v h') e w' ∧ Comes P (lone (b.atR a0 [.code c]) cs w) (lone fr cs w') e ∧ fr.fn = f ∧ fr.leaving P w' e := by
          intro x t2 h2 _ hq hxr h3 hcl hres
          subst hxr
          have hgo := (hex _ _ _ _ _ _ _ _ _ _ hq (B := a1.defers) r1 w1 a1 none q1.hr q2 .nil trivial).runs b [] cs (.inl rfl) rfl
          rcases hgo with hgo | ⟨x', a2, w2, ⟨rfl, r2, s2, ar2, d2⟩, k2, harr⟩
          · exact hgo.elim
          have hdf2 : a2.defers = a1.defers := by
            generalize a2.defers = ds at d2
            cases d2; rfl
          exact fin r2 h2 w2 a2 t2 (.code .ret :: k2) .returning g fi ca fi' ca' .nilIface .nilIface h3 (q1.trans s2) ar2 (q3.ext s2.ext) (q4.ext s2.ext) (hdf2.trans q5) .iface0 (.inl ⟨rfl, rfl⟩) hcl hres (q6.trans (Steps.trans harr (.one (stepR_ret rfl))))
        split at hv
        · rename_i t2 h2 hq
          split at hv
          · rename_i h3 hcl
            have hgo := (hex _ _ _ _ _ _ _ _ _ _ hq (B := a1.defers) r1 w1 a1 none q1.hr q2 .nil trivial).runs b [] cs (.inl rfl) rfl
            rcases hgo with hgo | ⟨x', a2, w2, ⟨rfl, r2, s2, ar2, d2⟩, harr⟩
            · exact hgo.elim
            have hdf2 : a2.defers = a1.defers := by
              generalize a2.defers = ds at d2
              cases d2; rfl
            exact fin r2 h2 w2 a2 t2 [] .returning g fi ca fi' ca' .nilIface .nilIface h3 (q1.trans s2) ar2 (q3.ext s2.ext) (q4.ext s2.ext) (hdf2.trans q5) .iface0 (.inl ⟨rfl, rfl⟩) hcl hv (q6.trans (Steps.trans harr (.one (stepR_end rfl))))
          · cases hv
        · rename_i t2 h2 hq
          split at hv
          · rename_i h3 hcl
            exact norm _ t2 h2 (by simp) hq rfl h3 hcl hv
          · cases hv
        · split at hv
          · rename_i t2 h2 v2 hq
            split at hv
            · rename_i h3 hcl
              have hgo := (hpx _ _ _ _ _ _ _ _ _ _ hq (B := a1.defers) r1 w1 a1 none q1.hr q2 .nil trivial).runs b [] cs (.inl rfl) rfl
              obtain ⟨a2, w2, v2', k2, ⟨r2, s2, ar2, d2, hv2⟩, hst⟩ := hgo
              have hdf2 : a2.defers = a1.defers := by
                generalize a2.defers = ds at d2
                cases d2; rfl
              exact fin r2 h2 w2 a2 t2 k2 (.panicking [{ v := v2', recovered := false }]) g fi ca fi' ca' v2 v2' h3 (q1.trans s2) ar2 (q3.ext s2.ext) (q4.ext s2.ext) (hdf2.trans q5) hv2 (.inr rfl) hcl hv (q6.trans hst)
            · cases hv
          · cases hv
      · cases hv
    · cases hv
  · cases hv
end
end Ev
end Go.Proofs.YtmemadmjgcpobaaGreatDoor
/- A call that has been run in a part of the memory stands in the whole of it. -/
set_option maxRecDepth 10000
namespace Go.Proofs.YtmemadmjgcpobaaGreatDoor
namespace Ev
noncomputable section
variable {P : Program}
/-- A part of a memory. -/
structure Sub (s h : H) : Prop where
  k : s.k = h.k
  lo : s.lo = h.lo
  g : s.g = h.g
  get : ∀ x b, s.get x = some b → h.get x = some b
theorem Sub.refl (h : H) : Sub h h := ⟨rfl, rfl, rfl, fun _ _ q => q⟩
theorem HR.sub {r : Ren} {s h : H} {w : World} (hs : Sub s h) (hr : HR r h w) : HR r s w :=
  ⟨fun x b hx => hr.blk x b (hs.get x b hx), fun x y b c e f hx hy he hf hlo hne => hr.inj x y b c e f (hs.get x b hx) (hs.get y c hy) he hf (hs.lo ▸ hlo) hne,
   fun x hx => hr.new x (hs.k ▸ hx), by rw [hs.lo, hs.k]; exact hr.lo, fun i hi => hr.gl i (hs.g ▸ hi), hr.bnd⟩
theorem Owns.sub {r : Ren} {s h : H} {k : Nat} (hs : Sub s h) (ho : Owns r s k) : Owns r h k := by
  obtain ⟨x, b, e, h1, h2, h3, h4⟩ := ho
  exact ⟨x, b, e, hs.get x b h1, hs.lo ▸ h2, h3, h4⟩
/-- What is not wanted any more is forgotten. -/
theorem Step.forget {r r' : Ren} {h h' s : H} {w w' : World} (hs : Sub s h') (st : Step r h w r' h' w') : Step r h w r' s w' :=
  ⟨st.ext, st.keep, st.hr.sub hs, hs.k ▸ st.k, hs.lo.trans st.lo, hs.g.trans st.g, st.size, fun k hk ho => ⟨(st.old k hk ho).1, fun q => (st.old k hk ho).2 (q.sub hs)⟩, st.os, st.tape, st.output⟩
/-- The whole memory behind a step that was taken in a part of it: what the part holds now; what it held and holds no more is gone; the rest is as it was. -/
structure Whole (s h s' h' : H) : Prop where
  k : h'.k = s'.k
  lo : h'.lo = s'.lo
  g : h'.g = s'.g
  old : ∀ x, x < 2 * s.k → (∃ b, s'.get x = some b) → ∃ b, s.get x = some b
  get : ∀ x b, h'.get x = some b → s'.get x = some b ∨ (s.get x = none ∧ h.get x = some b)
theorem Step.frame {r r' : Ren} {s h s' h' : H} {w w' : World} (hs : Sub s h) (hr : HR r h w) (st : Step r s w r' s' w') (wh : Whole s h s' h') : Step r h w r' h' w' := by
  have hlt : ∀ x e, r x = some e → x < 2 * h.k := fun x e he => by
    rcases Nat.lt_or_ge x (2 * h.k) with q | q
    · exact q
    · rw [hr.new x q] at he; cases he
  have hkeep : ∀ x, x < 2 * h.k → r' x = r x := fun x hx => st.keep x (hs.k ▸ hx)
  have hout : ∀ x b e, s.get x = none → h.get x = some b → r x = some e → ¬ Owns r s e.blk := by
    rintro x b e hn hx he ⟨y, c, f, h1, h2, h3, h4⟩
    refine hr.inj y x c b f e (hs.get y c h1) hx h3 he (hs.lo ▸ h2) (fun q => ?_) h4
    subst q; rw [hn] at h1; cases h1
  have hfr : ∀ x b, s.get x = none → h.get x = some b → ∃ e, r x = some e ∧ r' x = some e ∧ e.blk < w.heap.size ∧ BR r x e w b ∧ ¬ Owns r s e.blk := fun x b hn hx => by
    obtain ⟨e, h1, h2, h3⟩ := hr.blk x b hx
    exact ⟨e, h1, (hkeep x (hlt x e h1)).trans h1, h2, h3, hout x b e hn hx h1⟩
  have hlo' : h'.lo = h.lo := wh.lo.trans (st.lo.trans hs.lo)
  have hslo : s'.lo = h'.lo := wh.lo.symm
  have hno : ∀ x b e c y f, s.get x = none → h.get x = some b → r' x = some e → s'.get y = some c → h'.lo ≤ y → r' y = some f → f.blk ≠ e.blk := by
    intro x b e c y f hn hx he hy hl hf q
    obtain ⟨e1, h1, h2, h3, h4, h5⟩ := hfr x b hn hx
    rw [he] at h2; cases h2
    exact (st.old e.blk h3 h5).2 ⟨y, c, f, hy, hslo ▸ hl, hf, q⟩
  refine ⟨st.ext, hkeep, ⟨fun x b hx => ?_, fun x y b c e f hx hy he hf hl hne => ?_, fun x hx => st.hr.new x (wh.k ▸ hx), by rw [wh.lo, wh.k]; exact st.hr.lo, fun i hi => st.hr.gl i (wh.g ▸ hi), st.hr.bnd⟩,
    by rw [wh.k, ← hs.k]; exact st.k, hlo', wh.g.trans (st.g.trans hs.g), st.size, fun k hk ho => ⟨(st.old k hk fun q => ho (q.sub hs)).1, ?_⟩, st.os, st.tape, st.output⟩
  · rcases wh.get x b hx with q | ⟨q1, q2⟩
    · exact st.hr.blk x b q
    · obtain ⟨e, h1, h2, h3, h4, h5⟩ := hfr x b q1 q2
      exact ⟨e, h2, Nat.lt_of_lt_of_le h3 st.size, h4.same st.ext (st.old e.blk h3 h5).1⟩
  · rcases wh.get x b hx with q | ⟨q1, q2⟩ <;> rcases wh.get y c hy with p | ⟨p1, p2⟩
    · exact st.hr.inj x y b c e f q p he hf (hslo ▸ hl) hne
    · exact hno y c f b x e p1 p2 hf q hl he
    · rcases Nat.lt_or_ge y h'.lo with hyl | hyl
      · have hyk : y < 2 * h.k := by have := hr.lo; omega
        obtain ⟨c', hc'⟩ := wh.old y (hs.k ▸ hyk) ⟨c, p⟩
        obtain ⟨e1, h1, h2, _⟩ := hfr x b q1 q2
        rw [he] at h2; cases h2
        exact hr.inj x y b c' e f q2 (hs.get y c' hc') h1 ((hkeep y hyk).symm.trans hf) (hlo' ▸ hl) hne
      · exact fun z => hno x b e c y f q1 q2 he p hyl hf z.symm
    · obtain ⟨e1, h1, h2, _⟩ := hfr x b q1 q2
      rw [he] at h2; cases h2
      obtain ⟨f1, g1, g2, _⟩ := hfr y c p1 p2
      rw [hf] at g2; cases g2
      exact hr.inj x y b c e f q2 p2 h1 g1 (hlo' ▸ hl) hne
  · rintro ⟨x, b, e, h1, h2, h3, h4⟩
    rcases wh.get x b h1 with q | ⟨q1, q2⟩
    · exact (st.old k hk fun z => ho (z.sub hs)).2 ⟨x, b, e, q, hslo ▸ h2, h3, h4⟩
    · obtain ⟨e1, g1, g2, _⟩ := hfr x b q1 q2
      rw [h3] at g2; cases g2
      exact ho ⟨x, b, e, q2, hlo' ▸ h2, g1, h4⟩
/-- One call that is known: of this function, of these arguments, in this memory. -/
def Known (P : Program) (g : Nat) (args : List Value) (s : H) (v : Value) (s' : H) : Prop := ∀ (r : Ren) (w : World) (args' : List Value), HR r s w → VRL r args args' →
  (∃ fn, P.funcs[g]? = some fn ∧ fn.body.isNone = false ∧ (fn.name == "runtime.NumGoroutine") = false) ∧ Calls P g args'.toArray w (RC (Kt r s w v s'))
theorem Known.of {cf : CallF} (hcf : CfOk P cf) {g : Nat} {args : List Value} {s : H} {v : Value} {s' : H} (hv : cf g args s = some (v, s')) : Known P g args s v s' :=
  fun r w args' hr hl => hcf r s w g args args' v s' hr hl hv
theorem RC.imp {K K' : Value → World → Prop} (h : ∀ v w, K v w → K' v w) : ∀ e w, RC K e w → RC K' e w := by
  intro e w he
  cases e with
  | returned v => exact h v w he
  | panicked c => exact he
  | outgrown => exact he
theorem Known.forget {g : Nat} {args : List Value} {s : H} {v : Value} {s' t : H} (hk : Known P g args s v s') (ht : Sub t s') : Known P g args s v t := by
  intro r w args' hr hl
  obtain ⟨h1, h2⟩ := hk r w args' hr hl
  exact ⟨h1, Calls.mono h2 (RC.imp fun v' w' ⟨r', q1, q2⟩ => ⟨r', q1.forget ht, q2⟩)⟩
theorem Known.frame {g : Nat} {args : List Value} {s : H} {v : Value} {s' : H} (hk : Known P g args s v s') {h h' : H} (hs : Sub s h) (wh : Whole s h s' h') : Known P g args h v h' := by
  intro r w args' hr hl
  obtain ⟨h1, h2⟩ := hk r w args' (hr.sub hs) hl
  exact ⟨h1, Calls.mono h2 (RC.imp fun v' w' ⟨r', q1, q2⟩ => ⟨r', q1.frame hs hr wh, q2⟩)⟩
end
end Ev
end Go.Proofs.YtmemadmjgcpobaaGreatDoor
