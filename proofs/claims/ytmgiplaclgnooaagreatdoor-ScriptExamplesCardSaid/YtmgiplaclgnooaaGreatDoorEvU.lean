/- What our own machine's looks say of the model's operations: comparisons with nil, slices of slices, maps, strings of bytes. -/
import Derived.Test.YtmgiplaclgnooaaGreatDoorEvT
set_option maxRecDepth 10000
namespace Go.Proofs.YtmgiplaclgnooaaGreatDoor
namespace Ev
variable {P : Program} {r : Ren} {h : H} {w : World} {n : Nat} {t : T Value} {a : Act} {o : Oper} {v : Value}
theorem equal_nil {ty : TypeId} {d : TypeDesc} (hu : P.underlying ty = some d) {x y x' y' : Value} {q : Bool} (hx : VR r x x') (hy : VR r y y') (hq : nilEq d x y = some q) : (Op.equal ty x' y').run P w = .ok q w := by
  unfold Op.equal
  rw [show Op.maxDepth = 9999 + 1 from rfl]
  unfold Op.equalIn
  rw [Sem.run_bind, run_underlying hu]
  unfold nilEq at hq
  split at hq <;> first
    | (simp at hq; done)
    | (simp only [Option.some.injEq] at hq; subst hq; cases hx <;> cases hy <;> simp)
theorem rd_nil (hr : HR r h w) (ha : AR r h n t a) {op : BinOp} {ty ty' : TypeId} {x y : Operand} (ho : o.op = .binOp op ty x y ty') {p q : Value} (hx : evO h.g t x = some p) (hy : evO h.g t y = some q) {d : TypeDesc} (hu : P.underlying ty = some d) {b : Bool} (hb : nilEq d p q = some b)
    (hop : (op = .eql ∧ v = .bool b) ∨ (op = .neq ∧ v = .bool !b)) : RdOk P r o a w v := by
  have h1 := evO_ok hr ha hx
  have h2 := evO_ok hr ha hy
  have h3 := equal_nil (P := P) (w := w) hu h1 h2 hb
  generalize hp : a.eval x = x' at h1 h3
  generalize hq : a.eval y = y' at h2 h3
  have hg : ∀ op, (eqGuard op ty x y x' y').run P w = .ok () w := fun op => by
    unfold nilEq at hb
    split at hb <;> first
      | (simp at hb; done)
      | (cases h1 <;> cases h2 <;> (cases op <;> simp [eqGuard]))
  have hbo : ∀ op, (op = .eql ∨ op = .neq) → binOp op ty x' y' = if op = .eql then (do pure (.bool (← Op.equal ty x' y'))) else (do pure (.bool (!(← Op.equal ty x' y')))) := fun op hop => by
    unfold nilEq at hb
    split at hb <;> first
      | (simp at hb; done)
      | (cases h1 <;> cases h2 <;> rcases hop with rfl | rfl <;> rfl)
  rcases hop with ⟨rfl, rfl⟩ | ⟨rfl, rfl⟩
  · exact ⟨_, .bool b, by simp [execOp, ho, hp, hq, hg, hbo, h3]⟩
  · exact ⟨_, .bool _, by simp [execOp, ho, hp, hq, hg, hbo, h3]⟩
theorem nat?_ok (hr : HR r h w) (ha : AR r h n t a) {d : Nat} {x : Option Operand} {i : Nat} (hx : nat? h.g t d x = some i) : (x = none ∧ i = d) ∨ ∃ y k, x = some y ∧ a.eval y = .int k (i : Int) := by
  cases x with
  | none => simp only [nat?, Option.some.injEq] at hx; exact .inl ⟨rfl, hx.symm⟩
  | some y =>
    simp only [nat?] at hx
    split at hx
    · rename_i k m hy
      have := evO_ok hr ha hy
      split at hx
      · rename_i j
        simp at hx; subst hx
        generalize hq : a.eval y = z at this
        cases this
        exact .inr ⟨y, k, rfl, hq⟩
      · cases hx
    · cases hx
theorem run_bound (k : IntKind) (i y : Nat) (c : BoundsCode) (hi : i ≤ y) : (Instr.sliceBound (.int k (i : Int)) y c).run P w = .ok i w := by
  have : (0 : Int) ≤ (i : Int) ∧ (i : Int) ≤ (y : Int) := ⟨by omega, by omega⟩
  simp [Instr.sliceBound, asIntOf, this]
theorem run_bounds (hr : HR r h w) (ha : AR r h n t a) {lo hi : Option Operand} {l c i j : Nat} (hlo : nat? h.g t 0 lo = some i) (hhi : nat? h.g t l hi = some j) (hij : i ≤ j) (hjl : j ≤ l) (hlc : l ≤ c) :
    (Instr.sliceBounds true l c (lo.map a.eval) (hi.map a.eval) none).run P w = .ok (i, j, c) w := by
  unfold Instr.sliceBounds
  rcases nat?_ok hr ha hlo with ⟨rfl, rfl⟩ | ⟨y, k, rfl, hy⟩ <;> rcases nat?_ok hr ha hhi with ⟨rfl, rfl⟩ | ⟨y', k', rfl, hy'⟩
  · simp
  · simp [hy', run_bound k' j c .sliceAcap (by omega)]
  · simp [hy, run_bound k i j .sliceB hij]
  · simp [hy, hy', run_bound k' j c .sliceAcap (by omega), run_bound k i j .sliceB hij]
theorem rd_slice (hr : HR r h w) (ha : AR r h n t a) {ty e : TypeId} {x : Operand} {lo hi : Option Operand} (ho : o.op = .slice ty x lo hi none) (hu : P.underlying ty = some (.slice e)) {ti : TypeInfo} (ht : P.info? e = some ti)
    {b k l c : Nat} (hx : evO h.g t x = some (.slice (some ⟨b, k, none⟩) l c)) {i j : Nat} (hlo : nat? h.g t 0 lo = some i) (hhi : nat? h.g t l hi = some j) (hij : i ≤ j) (hjl : j ≤ l)
    (hsz : b % 2 = 1 → ∀ e, r b = some e → e.sz = ti.size) (hlc : b % 2 = 0 → l ≤ c)
    (hv : v = bif Nat.beq (b % 2) 0 then .slice (some ⟨b, bif Nat.beq c i then k else k + i * ti.size, none⟩) (j - i) (c - i) else .slice (some ⟨b, k + i * ti.size, none⟩) (j - i) 0) : RdOk P r o a w v := by
  have h1 := evO_ok hr ha hx
  generalize hq : a.eval x = z at h1
  have key : ∀ (A : Addr) (c' : Nat), l ≤ c' → z = .slice (some A) l c' → (execOp a.eval o).run P w = .ok (.value (.slice (some (if c' = i then A else A.add (i * ti.size))) (j - i) (c' - i))) w := fun A c' hl hz => by
    subst hz
    have := run_bounds (P := P) (w := w) hr ha hlo hhi hij hjl hl
    simp only [execOp, ho, hq, Instr.sliceAt, Sem.run_bind, run_underlying hu, Result.andThen_ok, Instr.slice, this, sizeOf, typeInfo, Sem.run_pure, run_program, ht, Option.map_none]
    by_cases hci : c' = i <;> simp [hci]
  cases h1 with
  | sl he hb =>
    have hb' : Nat.beq (b % 2) 0 = true := beqT hb
    rw [hb'] at hv
    simp only [cond_true] at hv
    refine ⟨_, ?_, key _ c (hlc hb) rfl⟩
    subst hv
    by_cases hci : c = i
    · subst hci
      simp
      have := VR.sl (l := j - c) (c := 0) (o := k) he hb
      exact this
    · simp only [hci, if_false, beqF hci, cond_false, Addr.add_mid]
      have := VR.sl (l := j - i) (c := c - i) (o := k + i * ti.size) he hb
      rwa [← Nat.add_assoc] at this
  | slo he hb hc hl =>
    rename_i c' e'
    have hb' : Nat.beq (b % 2) 0 = false := beqF (by omega)
    rw [hb'] at hv
    simp only [cond_false] at hv
    have hs := hsz hb _ he
    refine ⟨_, ?_, key _ c' hl rfl⟩
    subst hv
    by_cases hci : c' = i
    · subst hci
      have h0 : j - c' = 0 := by omega
      simp only [if_true, h0, Nat.sub_self]
      exact .slz he hb (by rw [hs] at hc; omega)
    · simp only [hci, if_false, Addr.add_mid]
      have : i ≤ c' := by omega
      have hm : i * ti.size + (c' - i) * ti.size = c' * ti.size := by rw [← Nat.add_mul]; congr 1; omega
      have := VR.slo (l := j - i) (c := c' - i) (o := k + i * ti.size) he hb (by rw [hs] at hc ⊢; omega) (by omega)
      rwa [← Nat.add_assoc] at this
  | slz he hb hc =>
    have hb' : Nat.beq (b % 2) 0 = false := beqF (by omega)
    rw [hb'] at hv
    simp only [cond_false] at hv
    have hj : j = 0 := by omega
    have hi0 : i = 0 := by omega
    subst hj hi0
    refine ⟨_, ?_, key _ 0 (Nat.le_refl _) rfl⟩
    subst hv
    simp
    exact .slz he hb (by omega)
end Ev
end Go.Proofs.YtmgiplaclgnooaaGreatDoor
