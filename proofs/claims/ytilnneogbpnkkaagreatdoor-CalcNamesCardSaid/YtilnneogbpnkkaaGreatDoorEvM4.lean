/- What our own machine's looks say of the model's operations. -/
import Derived.Test.YtilnneogbpnkkaaGreatDoorEvM3
import Derived.Deep.MidRow
import Derived.WalkKit
set_option maxRecDepth 10000
namespace Go.Proofs.YtilnneogbpnkkaaGreatDoor
namespace Ev
noncomputable section
variable {P : Program}
theorem pureR_run {α : Type} : ∀ (s : Sem α) {a : α}, pureR P s = some a → ∀ w, s.run P w = .ok a w := by
  intro s
  induction s with
  | pure x => intro a h w; simp only [pureR, Option.some.injEq] at h; subst h; rfl
  | program k ih => intro a h w; exact ih P h w
  | mark m k ih => intro a h w; exact ih h w
  | _ => intro a h; simp [pureR] at h
/-- The temporaries, and how many there are. -/
structure AR (r : Ren) (h : H) (n : Nat) (t : T Value) (a : Act) : Prop where
  t : TR r t a.tmps
  n : a.tmps.size = n
theorem tmpO_some {u v : Value} (h : tmpO u = some v) : u = v ∧ isJ u = false := by
  unfold tmpO at h
  cases hj : isJ u with
  | true => rw [hj] at h; cases h
  | false => rw [hj] at h; exact ⟨Option.some.inj h, rfl⟩
theorem tmpO_of {u : Value} (h : isJ u = false) : tmpO u = some u := by unfold tmpO; rw [h]; rfl
theorem isJ_plain {v : Value} (h : plain v = true) : isJ v = false := by
  cases v with
  | chan a => cases a <;> first | rfl | cases h
  | _ => rfl
theorem evO_ok {r : Ren} {h : H} {w : World} {n : Nat} {t : T Value} {a : Act} (hr : HR r h w) (ha : AR r h n t a) {x : Operand} {v : Value} (hx : evO h.g t x = some v) : VR r v (a.eval x) := by
  cases x with
  | tmp i =>
    obtain ⟨rfl, hj⟩ := tmpO_some hx
    exact (ha.t i).vr hj
  | const u =>
    simp only [evO] at hx
    cases hp : plain u <;> rw [hp] at hx
    · cases hx
    · simp at hx; subst hx; exact VR.of_plain r u hp
  | global i =>
    simp only [evO] at hx
    cases hp : Nat.blt i h.g <;> rw [hp] at hx
    · cases hx
    · simp at hx; subst hx
      obtain ⟨e, h1, h2, h3⟩ := hr.gl i (by simpa [Nat.blt_eq] using hp)
      have := VR.ptr (o := 0) h1
      rw [h2, h3] at this
      exact this
  | func f => simp only [evO, Option.some.injEq] at hx; subst hx; exact .func (by simp) .nil .nil
theorem evO_J {g : Nat} {t : T Value} {x : Operand} {v : Value} (hx : evO g t x = some v) : isJ v = false := by
  cases x with
  | tmp i => obtain ⟨h1, hj⟩ := tmpO_some hx; rw [← h1]; exact hj
  | const u =>
    simp only [evO] at hx
    cases hp : plain u <;> rw [hp] at hx
    · cases hx
    · simp at hx; subst hx; exact isJ_plain hp
  | global i =>
    simp only [evO] at hx
    cases hp : Nat.blt i g <;> rw [hp] at hx
    · cases hx
    · simp at hx; subst hx; rfl
  | func f => simp only [evO, Option.some.injEq] at hx; subst hx; rfl
theorem evL_ok {r : Ren} {h : H} {w : World} {n : Nat} {t : T Value} {a : Act} (hr : HR r h w) (ha : AR r h n t a) : ∀ {l : List Operand} {vs : List Value}, evL h.g t l = some vs → VRL r vs (l.map a.eval)
  | [], vs, hx => by simp only [evL, Option.some.injEq] at hx; subst hx; exact .nil
  | x :: l, vs, hx => by
    simp only [evL] at hx
    cases h1 : evO h.g t x with
    | none => rw [h1] at hx; cases hx
    | some v =>
      rw [h1] at hx
      cases h2 : evL h.g t l with
      | none => rw [h2] at hx; cases hx
      | some u =>
        rw [h2] at hx; simp at hx; subst hx
        exact .cons (evO_ok hr ha h1) (evL_ok hr ha h2)
theorem evT_plain {r : Ren} {h : H} {n : Nat} {t : T Value} {a : Act} (ha : AR r h n t a) {x : Operand} (hp : plain (evT t x) = true) : a.eval x = evT t x := by
  cases x with
  | tmp i => exact ((ha.t i).vr (isJ_plain hp)).plain hp
  | const u => rfl
  | global i => simp [evT, plain] at hp
  | func f => rfl
theorem allPlain_ok {r : Ren} {h : H} {n : Nat} {t : T Value} {a : Act} (ha : AR r h n t a) : ∀ {l : List Operand}, allPlain t l = true → ∀ x ∈ l, a.eval x = evT t x
  | [], _, x, hx => by cases hx
  | y :: l, hp, x, hx => by
    simp only [allPlain, Bool.and_eq_true] at hp
    cases hx with
    | head => exact evT_plain ha hp.1
    | tail _ hx => exact allPlain_ok ha hp.2 x hx
/-- What 'rd' promises. -/
def RdOk (P : Program) (r : Ren) (o : Oper) (a : Act) (w : World) (v : Value) : Prop := ∃ v', VR r v v' ∧ (execOp a.eval o).run P w = .ok (.value v') w
theorem gen_ok {r : Ren} {h : H} {w : World} {n : Nat} {t : T Value} {a : Act} (ha : AR r h n t a) {o : Oper} (hs : ∀ cs b, o.op ≠ .select cs b) {v : Value} (hx : gen P t o = some v) : RdOk P r o a w v := by
  unfold gen at hx
  cases hp : allPlain t o.op.operands.toList <;> rw [hp] at hx
  · cases hx
  · simp only [cond_true] at hx
    cases hq : pureR P (execOp (evT t) o) with
    | none => rw [hq] at hx; cases hx
    | some nx =>
      rw [hq] at hx
      cases nx with
      | value u =>
        simp only [] at hx
        cases hv : plain u <;> rw [hv] at hx
        · cases hx
        · simp at hx; subst hx
          refine ⟨u, VR.of_plain r u hv, ?_⟩
          rw [execOp_congr (ρ' := evT t) o hs (fun x hx => allPlain_ok ha hp x (by simpa using hx))]
          exact pureR_run _ hq w
      | _ => cases hx
/-! Loads. -/
theorem cell_ok {r : Ren} {h : H} {w : World} (hr : HR r h w) {b n : Nat} {c : T Value} {d : List Value} {s : Nat} {e : E} (hb : h.get b = some (.cells n c d s)) (he : r b = some e) {i : Nat} (hi : i < n) :
    ∃ v v', cg c d i = some v ∧ w.cell? ⟨e.blk, e.base + i, none⟩ = some v' ∧ VR r v v' := by
  obtain ⟨e', h1, _, C, t, f, h2, _, h3, _⟩ := hr.blk b _ hb
  rw [he] at h1; cases h1
  obtain ⟨v, v', q1, q2, q3⟩ := h3 i hi
  exact ⟨v, v', q1, by simp [World.cell?, h2, q2], q3⟩
theorem ldN_ok {r : Ren} {h : H} {w : World} (hr : HR r h w) {b n : Nat} {c : T Value} {d : List Value} {s : Nat} {e : E} (hb : h.get b = some (.cells n c d s)) (he : r b = some e) :
    ∀ (m k : Nat) {l : List Value}, ldN c d m k = some l → k + m ≤ n → ∃ l', VRL r l l' ∧ l'.length = m ∧ w.rangeAt e.blk (e.base + k) l'
  | 0, k, l, hl, _ => by
    simp only [ldN, Option.some.injEq] at hl; subst hl
    exact ⟨[], .nil, rfl, fun j v hj => by simp at hj⟩
  | m + 1, k, l, hl, hn => by
    simp only [ldN] at hl
    obtain ⟨v, v', q1, q2, q3⟩ := cell_ok hr hb he (i := k) (by omega)
    rw [q1] at hl
    cases q : ldN c d m (k + 1) with
    | none => rw [q] at hl; cases hl
    | some u =>
      rw [q] at hl; simp at hl; subst hl
      obtain ⟨l', p1, p2, p3⟩ := ldN_ok hr hb he m (k + 1) q (by omega)
      refine ⟨v' :: l', .cons q3 p1, by simp [p2], fun j x hj => ?_⟩
      cases j with
      | zero => simp at hj; subst hj; exact q2
      | succ j =>
        have := p3 j x (by simpa using hj)
        rw [show e.base + (k + 1) + j = e.base + k + (j + 1) by omega] at this
        exact this
theorem isAgg_ok {ty : TypeId} {q : Bool} (h : isAgg P ty = some q) : ∃ d, P.underlying ty = some d ∧ d.isRow = q := by
  unfold isAgg at h
  simp only [und_eq] at h
  cases hu : P.underlying ty with
  | none => rw [hu] at h; cases h
  | some d => rw [hu] at h; refine ⟨d, rfl, ?_⟩; cases d <;> simp_all
theorem run_isAgg {ty : TypeId} {q : Bool} (h : isAgg P ty = some q) (w : World) : (Go.isAgg ty).run P w = .ok q w := by
  obtain ⟨d, hu, hd⟩ := isAgg_ok h
  unfold Go.isAgg
  rw [Sem.run_bind, run_underlying hu w]
  cases d <;> simp_all
theorem ldv_ok {r : Ren} {h : H} {w : World} (hr : HR r h w) {ty : TypeId} {b f : Nat} {e : E} (he : r b = some e) {v : Value} (hv : ldv P h ty b f = some v) :
    ∃ v', VR r v v' ∧ (loadVar ty ⟨e.blk, e.base + f, none⟩).run P w = .ok v' w := by
  unfold ldv at hv
  simp only [inf_eq] at hv
  split at hv
  · rename_i n c d _ hb
    split at hv
    · rename_i hagg
      obtain ⟨dd, hu, hd⟩ := isAgg_ok hagg
      split at hv
      · rename_i i hi
        cases hle : Nat.ble (f + i.size) n <;> rw [hle] at hv
        · cases hv
        · simp only [cond_true] at hv
          split at hv
          · rename_i l hl
            simp at hv; subst hv
            obtain ⟨l', p1, p2, p3⟩ := ldN_ok hr hb he i.size f hl (Nat.le_of_ble_eq_true hle)
            exact ⟨.agg l'.toArray, .agg p1, run_loadVar_mid w e.blk (e.base + f) ty l' dd p3 hu hd (by simp [hi, p2])⟩
          · cases hv
      · cases hv
    · rename_i hagg
      cases hlt : Nat.blt f n <;> rw [hlt] at hv
      · cases hv
      · simp only [cond_true] at hv
        obtain ⟨x, x', q1, q2, q3⟩ := cell_ok hr hb he (i := f) (by simpa [Nat.blt_eq] using hlt)
        rw [hv] at q1; cases q1
        refine ⟨x', q3, ?_⟩
        simp [loadVar, Sem.run_bind, run_isAgg hagg, q2]
    · cases hv
  · cases hv
theorem rd_move {r : Ren} {h : H} {w : World} {n : Nat} {t : T Value} {a : Act} (hr : HR r h w) (ha : AR r h n t a) {o : Oper} {x : Operand} (ho : o.op = .move x ∨ o.op = .assign x) {v : Value} (hx : evO h.g t x = some v) : RdOk P r o a w v :=
  ⟨a.eval x, evO_ok hr ha hx, by rcases ho with ho | ho <;> simp [execOp, ho]⟩
theorem rd_load {r : Ren} {h : H} {w : World} {n : Nat} {t : T Value} {a : Act} (hr : HR r h w) (ha : AR r h n t a) {o : Oper} {ty : TypeId} {x : Operand} (ho : o.op = .load ty x) {b f : Nat} (hx : evO h.g t x = some (.pointer (some ⟨b, f, none⟩)))
    {v : Value} (hv : ldv P h ty b f = some v) : RdOk P r o a w v := by
  have := evO_ok hr ha hx
  generalize hq : a.eval x = q at this
  cases this with
  | ptr he =>
    obtain ⟨v', h1, h2⟩ := ldv_ok hr he hv
    exact ⟨v', h1, by simp [execOp, ho, hq, Instr.loadAt, Instr.sureAddr, h2]⟩
end
end Ev
end Go.Proofs.YtilnneogbpnkkaaGreatDoor
/- What our own machine's looks say of the model's operations: the rest. -/
set_option maxRecDepth 10000
namespace Go.Proofs.YtilnneogbpnkkaaGreatDoor
namespace Ev
variable {P : Program} {r : Ren} {h : H} {w : World} {n : Nat} {t : T Value} {a : Act} {o : Oper} {v : Value}
theorem rd_pick (hr : HR r h w) (ha : AR r h n t a) {c x y : Operand} (ho : o.op = .pick c x y) {q : Bool} (hc : evO h.g t c = some (.bool q)) (hx : evO h.g t (bif q then x else y) = some v) : RdOk P r o a w v := by
  have h1 := evO_ok hr ha hc
  have h2 := evO_ok hr ha hx
  generalize hq : a.eval c = z at h1
  cases h1
  refine ⟨_, h2, ?_⟩
  cases q <;> simp [execOp, ho, hq, asBool]
theorem rd_extract (hr : HR r h w) (ha : AR r h n t a) {x : Operand} {i : Nat} (ho : o.op = .extract x i) {l : List Value} (hx : evO h.g t x = some (.tuple ⟨l⟩)) (hi : l[i]? = some v) : RdOk P r o a w v := by
  have h1 := evO_ok hr ha hx
  generalize hq : a.eval x = z at h1
  cases h1 with
  | tuple hl =>
    obtain ⟨v', h2, h3⟩ := hl.get hi
    exact ⟨v', h3, by simp [execOp, ho, hq, Instr.extract, h2]⟩
theorem part_ok {ty : TypeId} {l l' : List Value} {off : Nat} (hl : VRL r l l') (hp : part P ty l off = some v) : ∃ v', VR r v v' ∧ (Go.part ty ⟨l'⟩ off).run P w = .ok v' w := by
  unfold part at hp
  simp only [inf_eq] at hp
  split at hp
  · rename_i hagg
    split at hp
    · rename_i i hi
      simp at hp; subst hp
      refine ⟨.agg ⟨(l'.drop off).take i.size⟩, .agg ((hl.drop off).take _), ?_⟩
      have : (⟨l'⟩ : Array Value).extract off (off + i.size) = ⟨(l'.drop off).take i.size⟩ := by
        apply Array.ext'
        simp
      simp [Go.part, Sem.run_bind, run_isAgg hagg, sizeOf, typeInfo, hi]
    · cases hp
  · rename_i hagg
    obtain ⟨v', h2, h3⟩ := hl.get hp
    refine ⟨v', h3, ?_⟩
    have : (⟨l'⟩ : Array Value)[off]? = some v' := by simpa using h2
    simp [Go.part, Sem.run_bind, run_isAgg hagg, this]
  · cases hp
theorem rd_fieldAddr (hr : HR r h w) (ha : AR r h n t a) {s : TypeId} {x : Operand} {f : Nat} (ho : o.op = .fieldAddr s x f) {fs : Array Field} (hu : P.underlying s = some (.struct fs)) {fd : Field} (hf : fs[f]? = some fd) {i : TypeInfo} (hi : P.info? fd.type = some i) (hz : i.size ≠ 0)
    {b k : Nat} (hx : evO h.g t x = some (.pointer (some ⟨b, k, none⟩))) : RdOk P r o a w (.pointer (some ⟨b, k + fd.offset, none⟩)) := by
  have h1 := evO_ok hr ha hx
  generalize hq : a.eval x = z at h1
  cases h1 with
  | ptr he =>
    rename_i e
    refine ⟨_, .ptr he, ?_⟩
    simp [execOp, ho, hq, Instr.fieldAt, run_underlying hu, hf, Instr.sureAddr, fieldPlace, sizeOf, typeInfo, hi, hz, Addr.add_mid, Nat.add_assoc]
theorem rd_field (hr : HR r h w) (ha : AR r h n t a) {s : TypeId} {x : Operand} {f : Nat} (ho : o.op = .field s x f) {fs : Array Field} (hu : P.underlying s = some (.struct fs)) {fd : Field} (hf : fs[f]? = some fd)
    {l : List Value} (hx : evO h.g t x = some (.agg ⟨l⟩)) (hp : part P fd.type l fd.offset = some v) : RdOk P r o a w v := by
  have h1 := evO_ok hr ha hx
  generalize hq : a.eval x = z at h1
  cases h1 with
  | agg hl =>
    obtain ⟨v', h2, h3⟩ := part_ok (w := w) hl hp
    exact ⟨v', h2, by simp [execOp, ho, hq, Instr.field, run_underlying hu, hf, asAgg, h3]⟩
theorem rd_index (hr : HR r h w) (ha : AR r h n t a) {ty e : TypeId} {x ix : Operand} (ho : o.op = .index ty x ix) {m : Nat} (hu : P.underlying ty = some (.array m e)) {kd : IntKind} {i : Nat} (hi : evO h.g t ix = some (.int kd (.ofNat i)))
    {ti : TypeInfo} (ht : P.info? e = some ti) {l : List Value} (hx : evO h.g t x = some (.agg ⟨l⟩)) (hlt : i < m) (hp : part P e l (i * ti.size) = some v) : RdOk P r o a w v := by
  have h1 := evO_ok hr ha hx
  have h0 := evO_ok hr ha hi
  generalize hq : a.eval x = z at h1
  generalize hq0 : a.eval ix = z0 at h0
  cases h0
  cases h1 with
  | agg hl =>
    obtain ⟨v', h2, h3⟩ := part_ok (w := w) hl hp
    refine ⟨v', h2, ?_⟩
    simp [execOp, ho, hq, hq0, Instr.index, run_underlying hu, asIntOf, hlt, sizeOf, typeInfo, ht, h3]
theorem rd_indexAddr_slice (hr : HR r h w) (ha : AR r h n t a) {ty e : TypeId} {x ix : Operand} (ho : o.op = .indexAddr ty x ix) (hu : P.underlying ty = some (.slice e)) {kd : IntKind} {i : Nat} (hi : evO h.g t ix = some (.int kd (.ofNat i)))
    {ti : TypeInfo} (ht : P.info? e = some ti) {b k l c : Nat} (hx : evO h.g t x = some (.slice (some ⟨b, k, none⟩) l c)) (hlt : i < l) : RdOk P r o a w (.pointer (some ⟨b, k + i * ti.size, none⟩)) := by
  have h1 := evO_ok hr ha hx
  have h0 := evO_ok hr ha hi
  generalize hq : a.eval x = z at h1
  generalize hq0 : a.eval ix = z0 at h0
  cases h0
  cases h1 with
  | sl he _ =>
    refine ⟨_, .ptr he, ?_⟩
    simp [execOp, ho, hq, hq0, Instr.indexAt, run_underlying hu, asIntOf, hlt, sizeOf, typeInfo, ht, Addr.add_mid, Nat.add_assoc]
  | slo he _ _ _ =>
    refine ⟨_, .ptr he, ?_⟩
    simp [execOp, ho, hq, hq0, Instr.indexAt, run_underlying hu, asIntOf, hlt, sizeOf, typeInfo, ht, Addr.add_mid, Nat.add_assoc]
  | slz he _ _ => omega
  | slk he _ hx' _ hl' =>
    obtain rfl := hx' (by omega)
    refine ⟨_, .ptr he, ?_⟩
    simp [execOp, ho, hq, hq0, Instr.indexAt, run_underlying hu, asIntOf, hlt, sizeOf, typeInfo, ht, Addr.add_mid, Nat.add_assoc]
theorem rd_indexAddr_array (hr : HR r h w) (ha : AR r h n t a) {ty e : TypeId} {x ix : Operand} (ho : o.op = .indexAddr ty x ix) {m : Nat} (hu : P.underlying ty = some (.array m e)) {kd : IntKind} {i : Nat} (hi : evO h.g t ix = some (.int kd (.ofNat i)))
    {ti : TypeInfo} (ht : P.info? e = some ti) {b k : Nat} (hx : evO h.g t x = some (.pointer (some ⟨b, k, none⟩))) (hlt : i < m) : RdOk P r o a w (.pointer (some ⟨b, k + i * ti.size, none⟩)) := by
  have h1 := evO_ok hr ha hx
  have h0 := evO_ok hr ha hi
  generalize hq : a.eval x = z at h1
  generalize hq0 : a.eval ix = z0 at h0
  cases h0
  cases h1 with
  | ptr he =>
    refine ⟨_, .ptr he, ?_⟩
    simp [execOp, ho, hq, hq0, Instr.indexAt, Instr.sureAddr, run_underlying hu, asIntOf, hlt, sizeOf, typeInfo, ht, Addr.add_mid, Nat.add_assoc]
theorem rd_nilCheck (hr : HR r h w) (ha : AR r h n t a) {x : Operand} (ho : o.op = .nilCheck x) (hx : evO h.g t x = some v)
    (hv : (∃ b, v = .pointer (some b)) ∨ (∃ f b c, v = .func (.func f) b c) ∨ (∃ f b c, v = .func (.yield f) b c)) : RdOk P r o a w v := by
  have h1 := evO_ok hr ha hx
  refine ⟨_, h1, ?_⟩
  generalize hq : a.eval x = z at h1
  rcases hv with ⟨b, rfl⟩ | ⟨f, b, c, rfl⟩ | ⟨f, b, c, rfl⟩ <;> cases h1 <;> simp [execOp, ho, hq]
theorem rd_makeFunc (hr : HR r h w) (ha : AR r h n t a) {f : Nat} {fi ca : Array Operand} (ho : o.op = .makeFunc (.func f) fi ca) {x y : List Value} (hx : evL h.g t fi.toList = some x) (hy : evL h.g t ca.toList = some y) : RdOk P r o a w (.func (.func f) ⟨x⟩ ⟨y⟩) := by
  refine ⟨.func (.func f) ⟨fi.toList.map a.eval⟩ ⟨ca.toList.map a.eval⟩, .func (by simp) (evL_ok hr ha hx) (evL_ok hr ha hy), ?_⟩
  have e : ∀ z : Array Operand, z.map a.eval = ⟨z.toList.map a.eval⟩ := fun z => by apply Array.ext'; simp
  simp [execOp, ho, Instr.makeFunc, e]
theorem rd_makeInterface (hr : HR r h w) (ha : AR r h n t a) {ty : TypeId} {x : Operand} (ho : o.op = .makeInterface ty x) {d : TypeDesc} (hu : P.underlying ty = some d) (hd : ∀ m, d ≠ .interface m) (hx : evO h.g t x = some v) : RdOk P r o a w (.iface ty v) := by
  refine ⟨.iface ty (a.eval x), .iface (evO_ok hr ha hx), ?_⟩
  simp only [execOp, ho, Instr.makeInterface, Sem.run_bind, run_underlying hu, Result.andThen_ok]
  cases d <;> first | (simp; done) | exact absurd rfl (hd _)
theorem rd_len_slice (hr : HR r h w) (ha : AR r h n t a) {args : Array Operand} {at_ : Array TypeId} (ho : o.op = .call { callee := .builtin .len, args, argTypes := at_ }) {ty e : TypeId} {x : Operand} (h0 : at_[0]? = some ty) (h1 : args[0]? = some x)
    (hu : P.underlying ty = some (.slice e)) {b : Option Addr} {l c : Nat} (hx : evO h.g t x = some (.slice b l c)) : RdOk P r o a w (goInt l) := by
  have h2 := evO_ok hr ha hx
  generalize hq : a.eval x = z at h2
  refine ⟨_, .int _ _, ?_⟩
  cases h2 <;> simp [execOp, ho, resolve, invoke, builtin, Builtin.len_, h0, h1, hq, run_underlying hu, goInt]
theorem rd_len_map (hr : HR r h w) (ha : AR r h n t a) {args : Array Operand} {at_ : Array TypeId} (ho : o.op = .call { callee := .builtin .len, args, argTypes := at_ }) {ty e k : TypeId} {x : Operand} (h0 : at_[0]? = some ty) (h1 : args[0]? = some x)
    (hu : P.underlying ty = some (.map k e)) {m : Nat} (hx : evO h.g t x = some (.map (some m))) {es : List MapEntry} {cl : Nat} (hm : h.get m = some (.map es cl)) : RdOk P r o a w (goInt es.length) := by
  have h2 := evO_ok hr ha hx
  generalize hq : a.eval x = z at h2
  cases h2 with
  | map he =>
    obtain ⟨e', p1, _, es', p2, p3⟩ := hr.blk m _ hm
    rw [he] at p1; cases p1
    have hl : es'.size = es.length := by
      have : ∀ {l l' : List MapEntry}, ER r l l' → l'.length = l.length := fun hh => by
        induction hh with
        | nil => rfl
        | cons _ _ _ _ _ ih => simp [ih]
      simpa using this p3
    refine ⟨_, .int _ _, ?_⟩
    simp [execOp, ho, resolve, invoke, builtin, Builtin.len_, h0, h1, hq, run_underlying hu, goInt, getObj, Sem.run, p2, hl]
end Ev
end Go.Proofs.YtilnneogbpnkkaaGreatDoor
/- What our own machine's looks say of the model's operations: comparisons with nil, slices of slices, maps, strings of bytes. -/
set_option maxRecDepth 10000
namespace Go.Proofs.YtilnneogbpnkkaaGreatDoor
namespace Ev
variable {P : Program} {r : Ren} {h : H} {w : World} {n : Nat} {t : T Value} {a : Act} {o : Oper} {v : Value}
theorem equal_nil {ty : TypeId} {d : TypeDesc} (hu : P.underlying ty = some d) {x y x' y' : Value} {q : Bool} (hx : VR r x x') (hy : VR r y y') (hq : nilEq d x y = some q) : (Op.equal ty x' y').run P w = .ok q w := by
  unfold Op.equal
  rw [show Op.maxDepth = 9999 + 1 from rfl]
  unfold Op.equalIn
  rw [Sem.run_bind, run_underlying hu]
  unfold nilEq at hq
  split at hq <;> first
    | (simp at hq; done)
    | (simp only [Option.some.injEq] at hq; subst hq; cases hx <;> cases hy <;> simp)
theorem rd_nil (hr : HR r h w) (ha : AR r h n t a) {op : BinOp} {ty ty' : TypeId} {x y : Operand} (ho : o.op = .binOp op ty x y ty') {p q : Value} (hx : evO h.g t x = some p) (hy : evO h.g t y = some q) {d : TypeDesc} (hu : P.underlying ty = some d) {b : Bool} (hb : nilEq d p q = some b)
    (hop : (op = .eql ∧ v = .bool b) ∨ (op = .neq ∧ v = .bool !b)) : RdOk P r o a w v := by
  have h1 := evO_ok hr ha hx
  have h2 := evO_ok hr ha hy
  have h3 := equal_nil (P := P) (w := w) hu h1 h2 hb
  generalize hp : a.eval x = x' at h1 h3
  generalize hq : a.eval y = y' at h2 h3
  have hg : ∀ op, (eqGuard op ty x y x' y').run P w = .ok () w := fun op => by
    unfold nilEq at hb
    split at hb <;> first
      | (simp at hb; done)
      | (cases h1 <;> cases h2 <;> (cases op <;> simp [eqGuard]))
  have hbo : ∀ op, (op = .eql ∨ op = .neq) → binOp op ty x' y' = if op = .eql then (do pure (.bool (← Op.equal ty x' y'))) else (do pure (.bool (!(← Op.equal ty x' y')))) := fun op hop => by
    unfold nilEq at hb
    split at hb <;> first
      | (simp at hb; done)
      | (cases h1 <;> cases h2 <;> rcases hop with rfl | rfl <;> rfl)
  rcases hop with ⟨rfl, rfl⟩ | ⟨rfl, rfl⟩
  · exact ⟨_, .bool b, by simp [execOp, ho, hp, hq, hg, hbo, h3]⟩
  · exact ⟨_, .bool _, by simp [execOp, ho, hp, hq, hg, hbo, h3]⟩
theorem nat?_ok (hr : HR r h w) (ha : AR r h n t a) {d : Nat} {x : Option Operand} {i : Nat} (hx : nat? h.g t d x = some i) : (x = none ∧ i = d) ∨ ∃ y k, x = some y ∧ a.eval y = .int k (i : Int) := by
  cases x with
  | none => simp only [nat?, Option.some.injEq] at hx; exact .inl ⟨rfl, hx.symm⟩
  | some y =>
    simp only [nat?] at hx
    split at hx
    · rename_i k m hy
      have := evO_ok hr ha hy
      split at hx
      · rename_i j
        simp at hx; subst hx
        generalize hq : a.eval y = z at this
        cases this
        exact .inr ⟨y, k, rfl, hq⟩
      · cases hx
    · cases hx
theorem run_bound (k : IntKind) (i y : Nat) (c : BoundsCode) (hi : i ≤ y) : (Instr.sliceBound (.int k (i : Int)) y c).run P w = .ok i w := by
  have : (0 : Int) ≤ (i : Int) ∧ (i : Int) ≤ (y : Int) := ⟨by omega, by omega⟩
  simp [Instr.sliceBound, asIntOf, this]
theorem run_bounds (hr : HR r h w) (ha : AR r h n t a) {lo hi : Option Operand} {l c i j : Nat} (hlo : nat? h.g t 0 lo = some i) (hhi : nat? h.g t l hi = some j) (hij : i ≤ j) (hjl : j ≤ l) (hlc : l ≤ c) :
    (Instr.sliceBounds true l c (lo.map a.eval) (hi.map a.eval) none).run P w = .ok (i, j, c) w := by
  unfold Instr.sliceBounds
  rcases nat?_ok hr ha hlo with ⟨rfl, rfl⟩ | ⟨y, k, rfl, hy⟩ <;> rcases nat?_ok hr ha hhi with ⟨rfl, rfl⟩ | ⟨y', k', rfl, hy'⟩
  · simp
  · simp [hy', run_bound k' j c .sliceAcap (by omega)]
  · simp [hy, run_bound k i j .sliceB hij]
  · simp [hy, hy', run_bound k' j c .sliceAcap (by omega), run_bound k i j .sliceB hij]
theorem rd_slice (hr : HR r h w) (ha : AR r h n t a) {ty e : TypeId} {x : Operand} {lo hi : Option Operand} (ho : o.op = .slice ty x lo hi none) (hu : P.underlying ty = some (.slice e)) {ti : TypeInfo} (ht : P.info? e = some ti)
    {b k l c : Nat} (hx : evO h.g t x = some (.slice (some ⟨b, k, none⟩) l c)) {i j : Nat} (hlo : nat? h.g t 0 lo = some i) (hhi : nat? h.g t l hi = some j) (hij : i ≤ j) (hjl : j ≤ l)
    (hsz : b % 2 = 1 → ∀ e, r b = some e → e.sz = ti.size) (hlc : b % 2 = 0 → l ≤ c)
    (hv : v = bif Nat.beq (b % 2) 0 then .slice (some ⟨b, bif Nat.beq c i then k else k + i * ti.size, none⟩) (j - i) (c - i) else .slice (some ⟨b, k + i * ti.size, none⟩) (j - i) (c - i)) : RdOk P r o a w v := by
  have h1 := evO_ok hr ha hx
  generalize hq : a.eval x = z at h1
  have key : ∀ (A : Addr) (c' : Nat), l ≤ c' → z = .slice (some A) l c' → (execOp a.eval o).run P w = .ok (.value (.slice (some (if c' = i then A else A.add (i * ti.size))) (j - i) (c' - i))) w := fun A c' hl hz => by
    subst hz
    have := run_bounds (P := P) (w := w) hr ha hlo hhi hij hjl hl
    simp only [execOp, ho, hq, Instr.sliceAt, Sem.run_bind, run_underlying hu, Result.andThen_ok, Instr.slice, this, sizeOf, typeInfo, Sem.run_pure, run_program, ht, Option.map_none]
    by_cases hci : c' = i <;> simp [hci]
  cases h1 with
  | sl he hb =>
    have hb' : Nat.beq (b % 2) 0 = true := beqT hb
    rw [hb'] at hv
    simp only [cond_true] at hv
    refine ⟨_, ?_, key _ c (hlc hb) rfl⟩
    subst hv
    by_cases hci : c = i
    · subst hci
      simp
      have := VR.sl (l := j - c) (c := 0) (o := k) he hb
      exact this
    · simp only [hci, if_false, beqF hci, cond_false, Addr.add_mid]
      have := VR.sl (l := j - i) (c := c - i) (o := k + i * ti.size) he hb
      rwa [← Nat.add_assoc] at this
  | slo he hb hc hl =>
    rename_i c' e'
    have hb' : Nat.beq (b % 2) 0 = false := beqF (by omega)
    rw [hb'] at hv
    simp only [cond_false] at hv
    have hs := hsz hb _ he
    refine ⟨_, ?_, key _ c' hl rfl⟩
    subst hv
    rw [Nat.zero_sub]
    by_cases hci : c' = i
    · subst hci
      have h0 : j - c' = 0 := by omega
      simp only [if_true, h0, Nat.sub_self]
      exact .slz he hb (by rw [hs] at hc; omega)
    · simp only [hci, if_false, Addr.add_mid]
      have : i ≤ c' := by omega
      have hm : i * ti.size + (c' - i) * ti.size = c' * ti.size := by rw [← Nat.add_mul]; congr 1; omega
      have := VR.slo (l := j - i) (c := c' - i) (o := k + i * ti.size) he hb (by rw [hs] at hc ⊢; omega) (by omega)
      rwa [← Nat.add_assoc] at this
  | slk he hb hx' hc hl =>
    rename_i c' x' e'
    have hb' : Nat.beq (b % 2) 0 = false := beqF (by omega)
    rw [hb'] at hv
    simp only [cond_false] at hv
    have hs := hsz hb _ he
    refine ⟨_, ?_, key _ c' hl rfl⟩
    subst hv
    have hic : i ≤ c' := by omega
    have hm : i * ti.size + (c' - i) * ti.size = c' * ti.size := by rw [← Nat.add_mul]; congr 1; omega
    rw [show c' + 1 - i = c' - i + 1 by omega]
    by_cases hci : c' = i
    · have hz : c' - i = 0 := by omega
      rw [if_pos hci, hz]
      exact .slk he hb (fun q => absurd rfl q) (by rw [Nat.zero_mul]; rw [hs] at hc; omega) (by omega)
    · obtain rfl := hx' (by omega)
      simp only [hci, if_false, Addr.add_mid]
      exact .slk he hb (fun q => by omega) (by rw [hs] at hc ⊢; omega) (by omega)
  | slz he hb hc =>
    have hb' : Nat.beq (b % 2) 0 = false := beqF (by omega)
    rw [hb'] at hv
    simp only [cond_false] at hv
    have hj : j = 0 := by omega
    have hi0 : i = 0 := by omega
    subst hj hi0
    refine ⟨_, ?_, key _ 0 (Nat.le_refl _) rfl⟩
    subst hv
    simp
    exact .slz he hb (by omega)
theorem run_bounds3 (hr : HR r h w) (ha : AR r h n t a) {lo : Option Operand} {y mx : Operand} {l c i j m : Nat} (hlo : nat? h.g t 0 lo = some i) (hhi : nat? h.g t 0 (some y) = some j) (hmx : nat? h.g t 0 (some mx) = some m) (hij : i ≤ j) (hjm : j ≤ m) (hmc : m ≤ c) :
    (Instr.sliceBounds true l c (lo.map a.eval) (some (a.eval y)) (some (a.eval mx))).run P w = .ok (i, j, m) w := by
  unfold Instr.sliceBounds
  rcases nat?_ok hr ha hhi with ⟨q, _⟩ | ⟨y', k', q, hy'⟩
  · cases q
  cases q
  rcases nat?_ok hr ha hmx with ⟨q, _⟩ | ⟨m', k2, q, hm'⟩
  · cases q
  cases q
  rcases nat?_ok hr ha hlo with ⟨rfl, rfl⟩ | ⟨y0, k, rfl, hy⟩
  · simp [hy', hm', run_bound k2 m c .slice3Acap hmc, run_bound k' j m .slice3B hjm]
  · simp [hy, hy', hm', run_bound k2 m c .slice3Acap hmc, run_bound k' j m .slice3B hjm, run_bound k i j .slice3C hij]
theorem rd_slice3 (hr : HR r h w) (ha : AR r h n t a) {ty e : TypeId} {x y mx : Operand} {lo : Option Operand} (ho : o.op = .slice ty x lo (some y) (some mx)) (hu : P.underlying ty = some (.slice e)) {ti : TypeInfo} (ht : P.info? e = some ti)
    {b k l c : Nat} (hx : evO h.g t x = some (.slice (some ⟨b, k, none⟩) l c)) {i j m : Nat} (hlo : nat? h.g t 0 lo = some i) (hhi : nat? h.g t 0 (some y) = some j) (hmx : nat? h.g t 0 (some mx) = some m) (hij : i ≤ j) (hjm : j ≤ m)
    (hsz : b % 2 = 1 → ∀ e, r b = some e → e.sz = ti.size) (hlc : b % 2 = 0 → m ≤ c) (hod : b % 2 = 1 → m ≤ l ∨ m + 1 ≤ c)
    (hv : v = bif Nat.beq (b % 2) 0 then .slice (some ⟨b, bif Nat.beq m i then k else k + i * ti.size, none⟩) (j - i) (m - i) else .slice (some ⟨b, k + i * ti.size, none⟩) (j - i) (m - i + 1)) : RdOk P r o a w v := by
  have h1 := evO_ok hr ha hx
  generalize hq : a.eval x = z at h1
  have key : ∀ (A : Addr) (c' : Nat), m ≤ c' → z = .slice (some A) l c' → (execOp a.eval o).run P w = .ok (.value (.slice (some (if m = i then A else A.add (i * ti.size))) (j - i) (m - i))) w := fun A c' hl hz => by
    subst hz
    have := run_bounds3 (P := P) (w := w) (l := l) hr ha hlo hhi hmx hij hjm hl
    simp only [execOp, ho, hq, Instr.sliceAt, Sem.run_bind, run_underlying hu, Result.andThen_ok, Instr.slice, this, sizeOf, typeInfo, Sem.run_pure, run_program, ht, Option.map_some]
    by_cases hci : m = i <;> simp [hci]
  have odd : ∀ (e' : E) (x' c' : Nat), r b = some e' → b % 2 = 1 → (c' ≠ 0 → x' = e'.base + k) → e'.base + k + c' * e'.sz ≤ e'.size → m ≤ c' → z = .slice (some ⟨e'.blk, x', none⟩) l c' → RdOk P r o a w v := by
    intro e' x' c' he hb hx' hc hmc hz
    have hb' : Nat.beq (b % 2) 0 = false := beqF (by omega)
    rw [hb'] at hv
    simp only [cond_false] at hv
    have hs := hsz hb _ he
    refine ⟨_, ?_, key _ c' hmc hz⟩
    subst hv
    have hm : i * ti.size + (m - i) * ti.size ≤ c' * ti.size := by
      rw [← Nat.add_mul]
      exact Nat.mul_le_mul_right _ (by omega)
    by_cases hci : m = i
    · have hz : m - i = 0 := by omega
      rw [if_pos hci, hz]
      rw [hz, Nat.zero_mul] at hm
      exact .slk he hb (fun q => absurd rfl q) (by rw [Nat.zero_mul]; rw [hs] at hc; omega) (by omega)
    · obtain rfl := hx' (by omega)
      simp only [hci, if_false, Addr.add_mid]
      exact .slk he hb (fun q => by omega) (by rw [hs] at hc ⊢; omega) (by omega)
  cases h1 with
  | sl he hb =>
    have hb' : Nat.beq (b % 2) 0 = true := beqT hb
    rw [hb'] at hv
    simp only [cond_true] at hv
    refine ⟨_, ?_, key _ c (hlc hb) rfl⟩
    subst hv
    by_cases hci : m = i
    · rw [if_pos hci, beqT hci, cond_true]
      exact VR.sl (l := j - i) (c := m - i) (o := k) he hb
    · simp only [hci, if_false, beqF hci, cond_false, Addr.add_mid]
      have := VR.sl (l := j - i) (c := m - i) (o := k + i * ti.size) he hb
      rwa [← Nat.add_assoc] at this
  | slo he hb hc hl => exact odd _ _ _ he hb (fun _ => rfl) (Nat.le_of_eq hc) (by have := hod hb; omega) rfl
  | slk he hb hx' hc hl => exact odd _ _ _ he hb hx' hc (by have := hod hb; omega) rfl
  | slz he hb hc => exact odd _ _ 0 he hb (fun q => absurd rfl q) (by rw [Nat.zero_mul]; omega) (by have := hod hb; omega) rfl
end Ev
end Go.Proofs.YtilnneogbpnkkaaGreatDoor
