/- What our own machine's looks say of the model's operations. -/
import Derived.Test.YtmgiplaclgnooaaGreatDoorEvD
import Derived.Deep.MidRow
import Derived.WalkKit
set_option maxRecDepth 10000
namespace Go.Proofs.YtmgiplaclgnooaaGreatDoor
namespace Ev
noncomputable section
variable {P : Program}
theorem pureR_run {α : Type} : ∀ (s : Sem α) {a : α}, pureR P s = some a → ∀ w, s.run P w = .ok a w := by
  intro s
  induction s with
  | pure x => intro a h w; simp only [pureR, Option.some.injEq] at h; subst h; rfl
  | program k ih => intro a h w; exact ih P h w
  | mark m k ih => intro a h w; exact ih h w
  | _ => intro a h; simp [pureR] at h
/-- The temporaries, and how many there are. -/
structure AR (r : Ren) (h : H) (n : Nat) (t : T Value) (a : Act) : Prop where
  t : TR r t a.tmps
  n : a.tmps.size = n
theorem evO_ok {r : Ren} {h : H} {w : World} {n : Nat} {t : T Value} {a : Act} (hr : HR r h w) (ha : AR r h n t a) {x : Operand} {v : Value} (hx : evO h.g t x = some v) : VR r v (a.eval x) := by
  cases x with
  | tmp i => simp only [evO, Option.some.injEq] at hx; subst hx; exact ha.t i
  | const u =>
    simp only [evO] at hx
    cases hp : plain u <;> rw [hp] at hx
    · cases hx
    · simp at hx; subst hx; exact VR.of_plain r u hp
  | global i =>
    simp only [evO] at hx
    cases hp : Nat.blt i h.g <;> rw [hp] at hx
    · cases hx
    · simp at hx; subst hx
      obtain ⟨e, h1, h2, h3⟩ := hr.gl i (by simpa [Nat.blt_eq] using hp)
      have := VR.ptr (o := 0) h1
      rw [h2, h3] at this
      exact this
  | func f => simp only [evO, Option.some.injEq] at hx; subst hx; exact .func (by simp) .nil .nil
theorem evL_ok {r : Ren} {h : H} {w : World} {n : Nat} {t : T Value} {a : Act} (hr : HR r h w) (ha : AR r h n t a) : ∀ {l : List Operand} {vs : List Value}, evL h.g t l = some vs → VRL r vs (l.map a.eval)
  | [], vs, hx => by simp only [evL, Option.some.injEq] at hx; subst hx; exact .nil
  | x :: l, vs, hx => by
    simp only [evL] at hx
    cases h1 : evO h.g t x with
    | none => rw [h1] at hx; cases hx
    | some v =>
      rw [h1] at hx
      cases h2 : evL h.g t l with
      | none => rw [h2] at hx; cases hx
      | some u =>
        rw [h2] at hx; simp at hx; subst hx
        exact .cons (evO_ok hr ha h1) (evL_ok hr ha h2)
theorem evT_plain {r : Ren} {h : H} {n : Nat} {t : T Value} {a : Act} (ha : AR r h n t a) {x : Operand} (hp : plain (evT t x) = true) : a.eval x = evT t x := by
  cases x with
  | tmp i => exact (ha.t i).plain hp
  | const u => rfl
  | global i => simp [evT, plain] at hp
  | func f => rfl
theorem allPlain_ok {r : Ren} {h : H} {n : Nat} {t : T Value} {a : Act} (ha : AR r h n t a) : ∀ {l : List Operand}, allPlain t l = true → ∀ x ∈ l, a.eval x = evT t x
  | [], _, x, hx => by cases hx
  | y :: l, hp, x, hx => by
    simp only [allPlain, Bool.and_eq_true] at hp
    cases hx with
    | head => exact evT_plain ha hp.1
    | tail _ hx => exact allPlain_ok ha hp.2 x hx
/-- What 'rd' promises. -/
def RdOk (P : Program) (r : Ren) (o : Oper) (a : Act) (w : World) (v : Value) : Prop := ∃ v', VR r v v' ∧ (execOp a.eval o).run P w = .ok (.value v') w
theorem gen_ok {r : Ren} {h : H} {w : World} {n : Nat} {t : T Value} {a : Act} (ha : AR r h n t a) {o : Oper} (hs : ∀ cs b, o.op ≠ .select cs b) {v : Value} (hx : gen P t o = some v) : RdOk P r o a w v := by
  unfold gen at hx
  cases hp : allPlain t o.op.operands.toList <;> rw [hp] at hx
  · cases hx
  · simp only [cond_true] at hx
    cases hq : pureR P (execOp (evT t) o) with
    | none => rw [hq] at hx; cases hx
    | some nx =>
      rw [hq] at hx
      cases nx with
      | value u =>
        simp only [] at hx
        cases hv : plain u <;> rw [hv] at hx
        · cases hx
        · simp at hx; subst hx
          refine ⟨u, VR.of_plain r u hv, ?_⟩
          rw [execOp_congr (ρ' := evT t) o hs (fun x hx => allPlain_ok ha hp x (by simpa using hx))]
          exact pureR_run _ hq w
      | _ => cases hx
/-! Loads. -/
theorem cell_ok {r : Ren} {h : H} {w : World} (hr : HR r h w) {b n : Nat} {c : T Value} {d : List Value} {s : Nat} {e : E} (hb : h.get b = some (.cells n c d s)) (he : r b = some e) {i : Nat} (hi : i < n) :
    ∃ v v', cg c d i = some v ∧ w.cell? ⟨e.blk, e.base + i, none⟩ = some v' ∧ VR r v v' := by
  obtain ⟨e', h1, _, C, t, f, h2, _, h3, _⟩ := hr.blk b _ hb
  rw [he] at h1; cases h1
  obtain ⟨v, v', q1, q2, q3⟩ := h3 i hi
  exact ⟨v, v', q1, by simp [World.cell?, h2, q2], q3⟩
theorem ldN_ok {r : Ren} {h : H} {w : World} (hr : HR r h w) {b n : Nat} {c : T Value} {d : List Value} {s : Nat} {e : E} (hb : h.get b = some (.cells n c d s)) (he : r b = some e) :
    ∀ (m k : Nat) {l : List Value}, ldN c d m k = some l → k + m ≤ n → ∃ l', VRL r l l' ∧ l'.length = m ∧ w.rangeAt e.blk (e.base + k) l'
  | 0, k, l, hl, _ => by
    simp only [ldN, Option.some.injEq] at hl; subst hl
    exact ⟨[], .nil, rfl, fun j v hj => by simp at hj⟩
  | m + 1, k, l, hl, hn => by
    simp only [ldN] at hl
    obtain ⟨v, v', q1, q2, q3⟩ := cell_ok hr hb he (i := k) (by omega)
    rw [q1] at hl
    cases q : ldN c d m (k + 1) with
    | none => rw [q] at hl; cases hl
    | some u =>
      rw [q] at hl; simp at hl; subst hl
      obtain ⟨l', p1, p2, p3⟩ := ldN_ok hr hb he m (k + 1) q (by omega)
      refine ⟨v' :: l', .cons q3 p1, by simp [p2], fun j x hj => ?_⟩
      cases j with
      | zero => simp at hj; subst hj; exact q2
      | succ j =>
        have := p3 j x (by simpa using hj)
        rw [show e.base + (k + 1) + j = e.base + k + (j + 1) by omega] at this
        exact this
theorem isAgg_ok {ty : TypeId} {q : Bool} (h : isAgg P ty = some q) : ∃ d, P.underlying ty = some d ∧ d.isRow = q := by
  unfold isAgg at h
  simp only [inf_eq, und_eq] at h
  cases hu : P.underlying ty with
  | none => rw [hu] at h; cases h
  | some d => rw [hu] at h; refine ⟨d, rfl, ?_⟩; cases d <;> simp_all
theorem run_isAgg {ty : TypeId} {q : Bool} (h : isAgg P ty = some q) (w : World) : (Go.isAgg ty).run P w = .ok q w := by
  obtain ⟨d, hu, hd⟩ := isAgg_ok h
  unfold Go.isAgg
  rw [Sem.run_bind, run_underlying hu w]
  cases d <;> simp_all
theorem ldv_ok {r : Ren} {h : H} {w : World} (hr : HR r h w) {ty : TypeId} {b f : Nat} {e : E} (he : r b = some e) {v : Value} (hv : ldv P h ty b f = some v) :
    ∃ v', VR r v v' ∧ (loadVar ty ⟨e.blk, e.base + f, none⟩).run P w = .ok v' w := by
  unfold ldv at hv
  simp only [inf_eq, und_eq] at hv
  split at hv
  · rename_i n c d _ hb
    split at hv
    · rename_i hagg
      obtain ⟨dd, hu, hd⟩ := isAgg_ok hagg
      split at hv
      · rename_i i hi
        cases hle : Nat.ble (f + i.size) n <;> rw [hle] at hv
        · cases hv
        · simp only [cond_true] at hv
          split at hv
          · rename_i l hl
            simp at hv; subst hv
            obtain ⟨l', p1, p2, p3⟩ := ldN_ok hr hb he i.size f hl (Nat.le_of_ble_eq_true hle)
            exact ⟨.agg l'.toArray, .agg p1, run_loadVar_mid w e.blk (e.base + f) ty l' dd p3 hu hd (by simp [hi, p2])⟩
          · cases hv
      · cases hv
    · rename_i hagg
      cases hlt : Nat.blt f n <;> rw [hlt] at hv
      · cases hv
      · simp only [cond_true] at hv
        obtain ⟨x, x', q1, q2, q3⟩ := cell_ok hr hb he (i := f) (by simpa [Nat.blt_eq] using hlt)
        rw [hv] at q1; cases q1
        refine ⟨x', q3, ?_⟩
        simp [loadVar, Sem.run_bind, run_isAgg hagg, q2]
    · cases hv
  · cases hv
theorem rd_move {r : Ren} {h : H} {w : World} {n : Nat} {t : T Value} {a : Act} (hr : HR r h w) (ha : AR r h n t a) {o : Oper} {x : Operand} (ho : o.op = .move x ∨ o.op = .assign x) {v : Value} (hx : evO h.g t x = some v) : RdOk P r o a w v :=
  ⟨a.eval x, evO_ok hr ha hx, by rcases ho with ho | ho <;> simp [execOp, ho]⟩
theorem rd_load {r : Ren} {h : H} {w : World} {n : Nat} {t : T Value} {a : Act} (hr : HR r h w) (ha : AR r h n t a) {o : Oper} {ty : TypeId} {x : Operand} (ho : o.op = .load ty x) {b f : Nat} (hx : evO h.g t x = some (.pointer (some ⟨b, f, none⟩)))
    {v : Value} (hv : ldv P h ty b f = some v) : RdOk P r o a w v := by
  have := evO_ok hr ha hx
  generalize hq : a.eval x = q at this
  cases this with
  | ptr he =>
    obtain ⟨v', h1, h2⟩ := ldv_ok hr he hv
    exact ⟨v', h1, by simp [execOp, ho, hq, Instr.loadAt, Instr.sureAddr, h2]⟩
end
end Ev
end Go.Proofs.YtmgiplaclgnooaaGreatDoor
