/- Runs of code of the model, as our own machine's proofs want them: they end, or ask for more room than there is. -/
import Derived.AtR
import Derived.RangeFuncIn
set_option maxRecDepth 10000
namespace Go.Proofs.YtilnneogbpnkkaaGreatDoor
namespace Ev
inductive Ex where
  | normal
  | exit (id : Nat)
  | ret
variable {P : Program} {b : Frame} {a : Act} {k : List Item} {cs : List Frame} {w : World}
/-- A frame that was called, or that runs a deferred call. -/
abbrev FrK (b : Frame) : Prop := b.kind = .normal ∨ b.kind = .deferred
/-- Where a run of code has come. -/
def Arr (P : Program) (m : Machine) (b : Frame) (k : List Item) (cs : List Frame) : Ex → Act → World → Prop
  | .normal, a, w => Steps P m (lone (b.atR a k) cs w)
  | .exit id, a, w => ∃ k', exitTo id k' = exitTo id k ∧ Steps P m (lone (b.atR a (.code (.exit id) :: k')) cs w)
  | .ret, a, w => ∃ k', Steps P m (lone (b.atR a (.code .ret :: k')) cs w)
theorem Arr.of_steps {m m₁ : Machine} {x : Ex} (h : Steps P m m₁) (h' : Arr P m₁ b k cs x a w) : Arr P m b k cs x a w := by
  cases x with
  | normal => exact h.trans h'
  | exit id => obtain ⟨k', e, s⟩ := h'; exact ⟨k', e, h.trans s⟩
  | ret => obtain ⟨k', s⟩ := h'; exact ⟨k', h.trans s⟩
/-- No machine of ours asks for more room than there is. -/
def OG (_ : Program) (_ : Machine) : Prop := False
theorem OG.of_steps {P : Program} {m m₁ : Machine} (_ : Steps P m m₁) (h : OG P m₁) : OG P m := h
theorem OG.head {P : Program} {m m₁ : Machine} (_ : step P m = .next m₁) (h : OG P m₁) : OG P m := h
/-- A machine runs to its end as a piece of code ought to. -/
def Goes (P : Program) (m : Machine) (b : Frame) (k : List Item) (cs : List Frame) (Q : Ex → Act → World → Prop) : Prop :=
  OG P m ∨ ∃ x a' w', Q x a' w' ∧ Arr P m b k cs x a' w'
theorem Goes.of_steps {m m₁ : Machine} {Q : Ex → Act → World → Prop} (h : Steps P m m₁) (h' : Goes P m₁ b k cs Q) : Goes P m b k cs Q :=
  h'.imp (OG.of_steps h) fun ⟨x, a', w', q, r⟩ => ⟨x, a', w', q, r.of_steps h⟩
def Runs (P : Program) (ro : Option Nat) (c : Code) (a : Act) (w : World) (Q : Ex → Act → World → Prop) : Prop :=
  ∀ (b : Frame) (k : List Item) (cs : List Frame), FrK b → b.roundOf = ro → Goes P (lone (b.atR a (.code c :: k)) cs w) b k cs Q
variable {ro : Option Nat} {Q : Ex → Act → World → Prop}
theorem Runs.mono {c : Code} {Q' : Ex → Act → World → Prop} (h : Runs P ro c a w Q) (hq : ∀ x a w, Q x a w → Q' x a w) : Runs P ro c a w Q' :=
  fun b k cs hk hr => (h b k cs hk hr).imp id fun ⟨x, a', w', q, r⟩ => ⟨x, a', w', hq _ _ _ q, r⟩
theorem runs_skip (h : Q .normal a w) : Runs P ro .skip a w Q := fun _ _ _ _ _ => .inr ⟨.normal, a, w, h, .one stepR_skip⟩
theorem runs_label {l : Nat} (h : Q .normal a w) : Runs P ro (.label l) a w Q := fun _ _ _ _ _ => .inr ⟨.normal, a, w, h, .one stepR_label⟩
theorem runs_exit {id : Nat} (h : Q (.exit id) a w) : Runs P ro (.exit id) a w Q := fun _ k _ _ _ => .inr ⟨.exit id, a, w, h, k, rfl, .refl _ _⟩
theorem runs_ret (h : Q .ret a w) : Runs P ro .ret a w Q := fun _ k _ _ _ => .inr ⟨.ret, a, w, h, k, .refl _ _⟩
theorem Arr.pass {m : Machine} {i : Item} {x : Ex} (hi : ∀ id, exitTo id (i :: k) = exitTo id k) (hx : x ≠ .normal) (h : Arr P m b (i :: k) cs x a w) : Arr P m b k cs x a w := by
  cases x with
  | normal => exact absurd rfl hx
  | exit id => obtain ⟨k', e, s⟩ := h; exact ⟨k', e.trans (hi id), s⟩
  | ret => exact h
def Ex.then (N : Act → World → Prop) (Q : Ex → Act → World → Prop) : Ex → Act → World → Prop
  | .normal, a, w => N a w
  | x, a, w => Q x a w
theorem runs_seq {x y : Code} (h : Runs P ro x a w (Ex.then (fun a w => Runs P ro y a w Q) Q)) : Runs P ro (.seq x y) a w Q := by
  intro b k cs hk hr
  refine Goes.of_steps (.one stepR_seq) ?_
  rcases h b (.code y :: k) cs hk hr with h | ⟨x, a₁, w₁, hq, harr⟩
  · exact .inl h
  cases x with
  | normal => exact (hq b k cs hk hr).of_steps harr
  | exit id => exact .inr ⟨_, _, _, hq, harr.pass (fun _ => rfl) (by simp)⟩
  | ret => exact .inr ⟨_, _, _, hq, harr.pass (fun _ => rfl) (by simp)⟩
theorem runs_cond {c : Operand} {x y : Code} {t : Bool} (hc : a.eval c = .bool t) (h : Runs P ro (if t then x else y) a w Q) : Runs P ro (.cond c x y) a w Q :=
  fun b k cs hk hr => (h b k cs hk hr).of_steps (.one (stepR_cond hc))
def Ex.inBlock (id : Nat) (Q : Ex → Act → World → Prop) : Ex → Act → World → Prop
  | .exit i, a, w => if i = id then Q .normal a w else Q (.exit i) a w
  | x, a, w => Q x a w
theorem runs_block {id : Nat} {c : Code} (h : Runs P ro c a w (Ex.inBlock id Q)) : Runs P ro (.block id c) a w Q := by
  intro b k cs hk hr
  refine Goes.of_steps (.one stepR_block) ?_
  rcases h b (.inBlock id :: k) cs hk hr with h | ⟨x, a₁, w₁, hq, harr⟩
  · exact .inl h
  cases x with
  | normal => exact .inr ⟨.normal, a₁, w₁, hq, Steps.trans harr (.one stepR_inBlock)⟩
  | exit i =>
    obtain ⟨k', e, s⟩ := harr
    by_cases hid : i = id
    · simp only [Ex.inBlock, hid, if_true] at hq
      exact .inr ⟨.normal, a₁, w₁, hq, Steps.trans s (.one (stepR_exit (e.trans (by simp [exitTo, hid]))))⟩
    · simp only [Ex.inBlock, hid, if_false] at hq
      have hne : (id == i) = false := by simpa using fun e => hid e.symm
      exact .inr ⟨.exit i, a₁, w₁, hq, k', e.trans (by simp [exitTo, hne]), s⟩
  | ret => exact .inr ⟨_, _, _, hq, harr⟩
theorem stepR_scope {c : Code} : step P (lone (b.atR a (.code (.scope c) :: k)) cs w) = .next (lone (b.atR a (.code c :: .inScope c :: k)) cs w) :=
  step_lone_go (by simp [stepG, stepG.exec, Frame.atR])
theorem stepR_inScope {c : Code} : step P (lone (b.atR a (.inScope c :: k)) cs w) = .next (lone (b.atR a k) cs w) :=
  step_lone_go (by simp [stepG, stepG.exec, Frame.atR])
theorem runs_scope {c : Code} (h : Runs P ro c a w Q) : Runs P ro (.scope c) a w Q := by
  intro b k cs hk hr
  refine Goes.of_steps (.one stepR_scope) ?_
  rcases h b (.inScope c :: k) cs hk hr with h | ⟨x, a₁, w₁, hq, harr⟩
  · exact .inl h
  cases x with
  | normal => exact .inr ⟨_, _, _, hq, Steps.trans harr (.one stepR_inScope)⟩
  | exit id => exact .inr ⟨_, _, _, hq, harr.pass (fun _ => rfl) (by simp)⟩
  | ret => exact .inr ⟨_, _, _, hq, harr.pass (fun _ => rfl) (by simp)⟩
/-- Within a loop. -/
def LoopRuns (P : Program) (ro : Option Nat) (c : Code) (a : Act) (w : World) (Q : Ex → Act → World → Prop) : Prop :=
  ∀ (b : Frame) (k : List Item) (cs : List Frame), FrK b → b.roundOf = ro → Goes P (lone (b.atR a (.code c :: .inLoop c :: k)) cs w) b k cs Q
theorem loop_runs {c : Code} (h : LoopRuns P ro c a w Q) : Runs P ro (.loop c) a w Q := fun b k cs hk hr => (h b k cs hk hr).of_steps (.one stepR_loop)
theorem loop_round {c : Code} (h : Runs P ro c a w (Ex.then (fun a w => LoopRuns P ro c a w Q) Q)) : LoopRuns P ro c a w Q := by
  intro b k cs hk hr
  rcases h b (.inLoop c :: k) cs hk hr with h | ⟨x, a₁, w₁, hq, harr⟩
  · exact .inl h
  cases x with
  | normal => exact (hq b k cs hk hr).of_steps (Steps.trans harr (.one stepR_inLoop))
  | exit id => exact .inr ⟨_, _, _, hq, harr.pass (fun _ => rfl) (by simp)⟩
  | ret => exact .inr ⟨_, _, _, hq, harr.pass (fun _ => rfl) (by simp)⟩
/-- What is asked of a call. -/
def RC (K : Value → World → Prop) : Ending → World → Prop
  | .returned v, w => K v w
  | .panicked _, _ => False
  | .outgrown, _ => False
/-- A call from a frame. -/
theorem calls_goes {f : FuncId} {args : Array Value} {K : Value → World → Prop} (h : Calls P f args w (RC K)) (c : Frame) (cs : List Frame) :
    OG P (lone (Frame.enter P f args .normal) (c :: cs) w) ∨ ∃ v w', K v w' ∧ Steps P (lone (Frame.enter P f args .normal) (c :: cs) w) (lone (c.finish v) cs w') := by
  obtain ⟨e, w', fr, hr, hs, _, hl⟩ := h (c :: cs)
  cases e with
  | returned v => exact .inr ⟨v, w', hr, Steps.trans hs (.one (step_leave_returned hl))⟩
  | panicked ch => exact hr.elim
  | outgrown => exact hr.elim
/-- A round of a range over a function. -/
def RoundX (P : Program) (l : Nat) (f : FuncId) (tmps : Array Value) (assign body : Code) (w : World) (K : Value → World → Prop) : Prop :=
  ∀ (c : Frame) (cs : List Frame), OG P (lone (Frame.round l f tmps assign body .normal) (c :: cs) w) ∨
    ∃ v w', K v w' ∧ Steps P (lone (Frame.round l f tmps assign body .normal) (c :: cs) w) (lone (c.finish v) cs w')
/-- What an operation that is carried out does. -/
def OpX (P : Program) (K : Value → World → Prop) : Result Next → Prop
  | .ok (.value v) w' => K v w'
  | .ok .skip w' => K undef w'
  | .ok (.enter f args) w' => Calls P f args w' (RC K)
  | .ok (.round l f tmps as bd) w' => RoundX P l f tmps as bd w' K
  | _ => False
theorem RC.mono {K K' : Value → World → Prop} (h : ∀ v w, K v w → K' v w) (e : Ending) (w : World) (hr : RC K e w) : RC K' e w := by
  cases e <;> first | exact h _ _ hr | exact hr
theorem OpX.mono {K K' : Value → World → Prop} (h : ∀ v w, K v w → K' v w) {r : Result Next} (hr : OpX P K r) : OpX P K' r := by
  cases r with
  | ok n w' =>
    cases n <;> first
      | exact hr.elim
      | exact h _ _ hr
      | exact Calls.mono hr (RC.mono h)
      | exact fun c cs => (hr c cs).imp id fun ⟨v, w', q, s⟩ => ⟨v, w', h _ _ q, s⟩
  | halt x w' => exact hr.elim
variable {ops : Array Oper}
/-- One operation of a region. -/
theorem op_goes {i : Nat} {rest : List Nat} {o : Oper} {K : Value → World → Prop} (ho : ops[i]? = some o) (hw : Region.wanted o (yielded ops a.tmps) = true) (hd : ∀ c, o.op ≠ .defer c) (_hb : FrK b)
    (h : False ∨ OpX P K ((execOp a.eval o).run P w)) :
    OG P (lone (b.atR a (.inRegion ops (i :: rest) :: k)) cs w) ∨
      ∃ v w', K v w' ∧ Steps P (lone (b.atR a (.inRegion ops (i :: rest) :: k)) cs w) (lone (b.atR (a.put o.dst v) (.inRegion ops rest :: k)) cs w') := by
  rcases h with h | h
  · exact h.elim
  have hg := stepGR_op (P := P) (b := b) (k := k) (cs := cs) (w := w) (rest := rest) ho hw
  rw [Oper.semAt_eq _ _ _ hd] at hg
  have hfin : ∀ v, (b.atR a (.inRegion ops (i :: rest) :: k)).finish v = b.atR (a.put o.dst v) (.inRegion ops rest :: k) := by
    intro v; rw [Frame.finish_atR, ho]; rfl
  cases hr : (execOp a.eval o).run P w with
  | halt x w' => rw [hr] at h; exact h.elim
  | ok n w' =>
    rw [hr] at h
    cases n with
    | value v =>
      refine .inr ⟨v, w', h, .one (step_lone_go ?_)⟩
      rw [hg, ← hfin]; simp [stepG.apply, hr]
    | skip =>
      refine .inr ⟨undef, w', h, .one (step_lone_go ?_)⟩
      rw [hg, ← hfin]; simp [stepG.apply, hr]
    | enter f args =>
      have henter : step P (lone (b.atR a (.inRegion ops (i :: rest) :: k)) cs w) =
          .next (lone (Frame.enter P f args .normal) (b.atR a (.inRegion ops (i :: rest) :: k) :: cs) w') :=
        step_lone_go (by rw [hg]; simp [stepG.apply, hr, Frame.atR])
      rcases calls_goes h (b.atR a (.inRegion ops (i :: rest) :: k)) cs with h | ⟨v, w'', hK, hs⟩
      · exact .inl (OG.head henter h)
      · exact .inr ⟨v, w'', hK, .head henter (by rw [← hfin]; exact hs)⟩
    | round l f tmps assign body =>
      have henter : step P (lone (b.atR a (.inRegion ops (i :: rest) :: k)) cs w) =
          .next (lone (Frame.round l f tmps assign body .normal) (b.atR a (.inRegion ops (i :: rest) :: k) :: cs) w') :=
        step_lone_go (by rw [hg]; simp [stepG.apply, hr, Frame.atR])
      rcases h (b.atR a (.inRegion ops (i :: rest) :: k)) cs with h | ⟨v, w'', hK, hs⟩
      · exact .inl (OG.head henter h)
      · exact .inr ⟨v, w'', hK, .head henter (by rw [← hfin]; exact hs)⟩
    | _ => exact h.elim
end Ev
end Go.Proofs.YtilnneogbpnkkaaGreatDoor
