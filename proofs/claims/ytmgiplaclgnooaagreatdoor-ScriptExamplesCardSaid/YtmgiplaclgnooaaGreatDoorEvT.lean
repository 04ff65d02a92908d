/- What our own machine's looks say of the model's operations: the rest. -/
import Derived.Test.YtmgiplaclgnooaaGreatDoorEvS
set_option maxRecDepth 10000
namespace Go.Proofs.YtmgiplaclgnooaaGreatDoor
namespace Ev
variable {P : Program} {r : Ren} {h : H} {w : World} {n : Nat} {t : T Value} {a : Act} {o : Oper} {v : Value}
theorem rd_pick (hr : HR r h w) (ha : AR r h n t a) {c x y : Operand} (ho : o.op = .pick c x y) {q : Bool} (hc : evO h.g t c = some (.bool q)) (hx : evO h.g t (bif q then x else y) = some v) : RdOk P r o a w v := by
  have h1 := evO_ok hr ha hc
  have h2 := evO_ok hr ha hx
  generalize hq : a.eval c = z at h1
  cases h1
  refine ⟨_, h2, ?_⟩
  cases q <;> simp [execOp, ho, hq, asBool]
theorem rd_extract (hr : HR r h w) (ha : AR r h n t a) {x : Operand} {i : Nat} (ho : o.op = .extract x i) {l : List Value} (hx : evO h.g t x = some (.tuple ⟨l⟩)) (hi : l[i]? = some v) : RdOk P r o a w v := by
  have h1 := evO_ok hr ha hx
  generalize hq : a.eval x = z at h1
  cases h1 with
  | tuple hl =>
    obtain ⟨v', h2, h3⟩ := hl.get hi
    exact ⟨v', h3, by simp [execOp, ho, hq, Instr.extract, h2]⟩
theorem part_ok {ty : TypeId} {l l' : List Value} {off : Nat} (hl : VRL r l l') (hp : part P ty l off = some v) : ∃ v', VR r v v' ∧ (Go.part ty ⟨l'⟩ off).run P w = .ok v' w := by
  unfold part at hp
  simp only [inf_eq, und_eq] at hp
  split at hp
  · rename_i hagg
    split at hp
    · rename_i i hi
      simp at hp; subst hp
      refine ⟨.agg ⟨(l'.drop off).take i.size⟩, .agg ((hl.drop off).take _), ?_⟩
      have : (⟨l'⟩ : Array Value).extract off (off + i.size) = ⟨(l'.drop off).take i.size⟩ := by
        apply Array.ext'
        simp
      simp [Go.part, Sem.run_bind, run_isAgg hagg, sizeOf, typeInfo, hi, this]
    · cases hp
  · rename_i hagg
    obtain ⟨v', h2, h3⟩ := hl.get hp
    refine ⟨v', h3, ?_⟩
    have : (⟨l'⟩ : Array Value)[off]? = some v' := by simpa using h2
    simp [Go.part, Sem.run_bind, run_isAgg hagg, this]
  · cases hp
theorem rd_fieldAddr (hr : HR r h w) (ha : AR r h n t a) {s : TypeId} {x : Operand} {f : Nat} (ho : o.op = .fieldAddr s x f) {fs : Array Field} (hu : P.underlying s = some (.struct fs)) {fd : Field} (hf : fs[f]? = some fd) {i : TypeInfo} (hi : P.info? fd.type = some i) (hz : i.size ≠ 0)
    {b k : Nat} (hx : evO h.g t x = some (.pointer (some ⟨b, k, none⟩))) : RdOk P r o a w (.pointer (some ⟨b, k + fd.offset, none⟩)) := by
  have h1 := evO_ok hr ha hx
  generalize hq : a.eval x = z at h1
  cases h1 with
  | ptr he =>
    rename_i e
    refine ⟨_, .ptr he, ?_⟩
    simp [execOp, ho, hq, Instr.fieldAt, run_underlying hu, hf, Instr.sureAddr, fieldPlace, sizeOf, typeInfo, hi, hz, Addr.add_mid, Nat.add_assoc]
theorem rd_field (hr : HR r h w) (ha : AR r h n t a) {s : TypeId} {x : Operand} {f : Nat} (ho : o.op = .field s x f) {fs : Array Field} (hu : P.underlying s = some (.struct fs)) {fd : Field} (hf : fs[f]? = some fd)
    {l : List Value} (hx : evO h.g t x = some (.agg ⟨l⟩)) (hp : part P fd.type l fd.offset = some v) : RdOk P r o a w v := by
  have h1 := evO_ok hr ha hx
  generalize hq : a.eval x = z at h1
  cases h1 with
  | agg hl =>
    obtain ⟨v', h2, h3⟩ := part_ok (w := w) hl hp
    exact ⟨v', h2, by simp [execOp, ho, hq, Instr.field, run_underlying hu, hf, asAgg, h3]⟩
theorem rd_index (hr : HR r h w) (ha : AR r h n t a) {ty e : TypeId} {x ix : Operand} (ho : o.op = .index ty x ix) {m : Nat} (hu : P.underlying ty = some (.array m e)) {kd : IntKind} {i : Nat} (hi : evO h.g t ix = some (.int kd (.ofNat i)))
    {ti : TypeInfo} (ht : P.info? e = some ti) {l : List Value} (hx : evO h.g t x = some (.agg ⟨l⟩)) (hlt : i < m) (hp : part P e l (i * ti.size) = some v) : RdOk P r o a w v := by
  have h1 := evO_ok hr ha hx
  have h0 := evO_ok hr ha hi
  generalize hq : a.eval x = z at h1
  generalize hq0 : a.eval ix = z0 at h0
  cases h0
  cases h1 with
  | agg hl =>
    obtain ⟨v', h2, h3⟩ := part_ok (w := w) hl hp
    refine ⟨v', h2, ?_⟩
    simp [execOp, ho, hq, hq0, Instr.index, run_underlying hu, asIntOf, hlt, sizeOf, typeInfo, ht, h3]
theorem rd_indexAddr_slice (hr : HR r h w) (ha : AR r h n t a) {ty e : TypeId} {x ix : Operand} (ho : o.op = .indexAddr ty x ix) (hu : P.underlying ty = some (.slice e)) {kd : IntKind} {i : Nat} (hi : evO h.g t ix = some (.int kd (.ofNat i)))
    {ti : TypeInfo} (ht : P.info? e = some ti) {b k l c : Nat} (hx : evO h.g t x = some (.slice (some ⟨b, k, none⟩) l c)) (hlt : i < l) : RdOk P r o a w (.pointer (some ⟨b, k + i * ti.size, none⟩)) := by
  have h1 := evO_ok hr ha hx
  have h0 := evO_ok hr ha hi
  generalize hq : a.eval x = z at h1
  generalize hq0 : a.eval ix = z0 at h0
  cases h0
  cases h1 with
  | sl he _ =>
    refine ⟨_, .ptr he, ?_⟩
    simp [execOp, ho, hq, hq0, Instr.indexAt, run_underlying hu, asIntOf, hlt, sizeOf, typeInfo, ht, Addr.add_mid, Nat.add_assoc]
  | slo he _ _ _ =>
    refine ⟨_, .ptr he, ?_⟩
    simp [execOp, ho, hq, hq0, Instr.indexAt, run_underlying hu, asIntOf, hlt, sizeOf, typeInfo, ht, Addr.add_mid, Nat.add_assoc]
  | slz he _ _ => omega
theorem rd_indexAddr_array (hr : HR r h w) (ha : AR r h n t a) {ty e : TypeId} {x ix : Operand} (ho : o.op = .indexAddr ty x ix) {m : Nat} (hu : P.underlying ty = some (.array m e)) {kd : IntKind} {i : Nat} (hi : evO h.g t ix = some (.int kd (.ofNat i)))
    {ti : TypeInfo} (ht : P.info? e = some ti) {b k : Nat} (hx : evO h.g t x = some (.pointer (some ⟨b, k, none⟩))) (hlt : i < m) : RdOk P r o a w (.pointer (some ⟨b, k + i * ti.size, none⟩)) := by
  have h1 := evO_ok hr ha hx
  have h0 := evO_ok hr ha hi
  generalize hq : a.eval x = z at h1
  generalize hq0 : a.eval ix = z0 at h0
  cases h0
  cases h1 with
  | ptr he =>
    refine ⟨_, .ptr he, ?_⟩
    simp [execOp, ho, hq, hq0, Instr.indexAt, Instr.sureAddr, run_underlying hu, asIntOf, hlt, sizeOf, typeInfo, ht, Addr.add_mid, Nat.add_assoc]
theorem rd_nilCheck (hr : HR r h w) (ha : AR r h n t a) {x : Operand} (ho : o.op = .nilCheck x) (hx : evO h.g t x = some v)
    (hv : (∃ b, v = .pointer (some b)) ∨ (∃ f b c, v = .func (.func f) b c) ∨ (∃ f b c, v = .func (.yield f) b c)) : RdOk P r o a w v := by
  have h1 := evO_ok hr ha hx
  refine ⟨_, h1, ?_⟩
  generalize hq : a.eval x = z at h1
  rcases hv with ⟨b, rfl⟩ | ⟨f, b, c, rfl⟩ | ⟨f, b, c, rfl⟩ <;> cases h1 <;> simp [execOp, ho, hq]
theorem rd_makeFunc (hr : HR r h w) (ha : AR r h n t a) {f : Nat} {fi ca : Array Operand} (ho : o.op = .makeFunc (.func f) fi ca) {x y : List Value} (hx : evL h.g t fi.toList = some x) (hy : evL h.g t ca.toList = some y) : RdOk P r o a w (.func (.func f) ⟨x⟩ ⟨y⟩) := by
  refine ⟨.func (.func f) ⟨fi.toList.map a.eval⟩ ⟨ca.toList.map a.eval⟩, .func (by simp) (evL_ok hr ha hx) (evL_ok hr ha hy), ?_⟩
  have e : ∀ z : Array Operand, z.map a.eval = ⟨z.toList.map a.eval⟩ := fun z => by apply Array.ext'; simp
  simp [execOp, ho, Instr.makeFunc, e]
theorem rd_makeInterface (hr : HR r h w) (ha : AR r h n t a) {ty : TypeId} {x : Operand} (ho : o.op = .makeInterface ty x) {d : TypeDesc} (hu : P.underlying ty = some d) (hd : ∀ m, d ≠ .interface m) (hx : evO h.g t x = some v) : RdOk P r o a w (.iface ty v) := by
  refine ⟨.iface ty (a.eval x), .iface (evO_ok hr ha hx), ?_⟩
  simp only [execOp, ho, Instr.makeInterface, Sem.run_bind, run_underlying hu, Result.andThen_ok]
  cases d <;> first | (simp; done) | exact absurd rfl (hd _)
theorem rd_len_slice (hr : HR r h w) (ha : AR r h n t a) {args : Array Operand} {at_ : Array TypeId} (ho : o.op = .call { callee := .builtin .len, args, argTypes := at_ }) {ty e : TypeId} {x : Operand} (h0 : at_[0]? = some ty) (h1 : args[0]? = some x)
    (hu : P.underlying ty = some (.slice e)) {b : Option Addr} {l c : Nat} (hx : evO h.g t x = some (.slice b l c)) : RdOk P r o a w (goInt l) := by
  have h2 := evO_ok hr ha hx
  generalize hq : a.eval x = z at h2
  refine ⟨_, .int _ _, ?_⟩
  cases h2 <;> simp [execOp, ho, resolve, invoke, builtin, Builtin.len_, h0, h1, hq, run_underlying hu, goInt]
theorem rd_len_map (hr : HR r h w) (ha : AR r h n t a) {args : Array Operand} {at_ : Array TypeId} (ho : o.op = .call { callee := .builtin .len, args, argTypes := at_ }) {ty e k : TypeId} {x : Operand} (h0 : at_[0]? = some ty) (h1 : args[0]? = some x)
    (hu : P.underlying ty = some (.map k e)) {m : Nat} (hx : evO h.g t x = some (.map (some m))) {es : List MapEntry} {cl : Nat} (hm : h.get m = some (.map es cl)) : RdOk P r o a w (goInt es.length) := by
  have h2 := evO_ok hr ha hx
  generalize hq : a.eval x = z at h2
  cases h2 with
  | map he =>
    obtain ⟨e', p1, _, es', p2, p3⟩ := hr.blk m _ hm
    rw [he] at p1; cases p1
    have hl : es'.size = es.length := by
      have : ∀ {l l' : List MapEntry}, ER r l l' → l'.length = l.length := fun hh => by
        induction hh with
        | nil => rfl
        | cons _ _ _ _ _ ih => simp [ih]
      simpa using this p3
    refine ⟨_, .int _ _, ?_⟩
    simp [execOp, ho, resolve, invoke, builtin, Builtin.len_, h0, h1, hq, run_underlying hu, goInt, getObj, Sem.run, p2, hl]
end Ev
end Go.Proofs.YtmgiplaclgnooaaGreatDoor
