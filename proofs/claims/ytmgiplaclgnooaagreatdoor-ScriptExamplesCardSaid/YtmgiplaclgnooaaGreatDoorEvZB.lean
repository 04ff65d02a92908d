/- Our own machine's copy. -/
import Derived.Test.YtmgiplaclgnooaaGreatDoorEvZA
set_option maxRecDepth 10000
namespace Go.Proofs.YtmgiplaclgnooaaGreatDoor
namespace Ev
variable {P : Program} {r : Ren} {h : H} {w : World} {n : Nat} {t : T Value} {a : Act} {o : Oper}
/-- The first k things of a row or a string. -/
theorem cells_first (hr : HR r h w) {sz : Nat} {x x' : Value} (hx : VR r x x') {m : Nat} {vs : List Value} (hc : cellsOf h sz x = some (m, vs)) (h0 : nil0 x = true) :
    ∃ vs', VRL r vs vs' ∧ (∀ w : World, (Builtin.lenOf x').run P w = .ok m w) ∧ ∀ k, k ≤ m → (Builtin.firstCells sz k x').run P w = .ok (vs'.take (k * sz)).toArray w := by
  have key : ∀ (A : Addr) (l c : Nat), x' = .slice (some A) l c → (∃ l', VRL r vs l' ∧ l'.length = l * sz ∧ ∀ j v, l'[j]? = some v → w.cell? (A.add j) = some v) → m = l →
      ∃ vs', VRL r vs vs' ∧ (∀ w : World, (Builtin.lenOf x').run P w = .ok m w) ∧ ∀ k, k ≤ m → (Builtin.firstCells sz k x').run P w = .ok (vs'.take (k * sz)).toArray w := fun A l c hx' ⟨l', p1, p2, p3⟩ hm => by
    subst hx' hm
    refine ⟨l', p1, fun w => by simp [Builtin.lenOf], fun k hk => ?_⟩
    have hle : k * sz ≤ m * sz := Nat.mul_le_mul_right _ hk
    exact run_firstCells_some w sz k A m c (l'.take (k * sz)) (by rw [List.length_take, p2]; omega) (fun j v hj => p3 j v (by
      rw [List.getElem?_take] at hj
      split at hj
      · exact hj
      · cases hj))
  unfold cellsOf at hc
  split at hc
  · rename_i l c
    simp only [Option.some.injEq, Prod.mk.injEq] at hc
    obtain ⟨rfl, rfl⟩ := hc
    cases hx
    have hl := Nat.eq_of_beq_eq_true h0
    subst hl
    exact ⟨[], .nil, fun w => by simp [Builtin.lenOf], fun k _ => by simp [Builtin.firstCells]⟩
  · rename_i b k l c
    split at hc
    · rename_i mm cs dz s hb
      obtain ⟨hle, hc⟩ := bif_some hc
      have hle := Nat.le_of_ble_eq_true hle
      split at hc
      · rename_i us hl
        simp only [Option.some.injEq, Prod.mk.injEq] at hc
        obtain ⟨rfl, rfl⟩ := hc
        cases hx with
        | sl he _ =>
          obtain ⟨l', p1, p2, p3⟩ := ldN_ok hr hb he _ k hl hle
          exact key _ _ _ rfl ⟨l', p1, p2, fun j v hj => by rw [Addr.add_mid]; exact p3 j v hj⟩ rfl
        | slo he _ _ _ =>
          obtain ⟨l', p1, p2, p3⟩ := ldN_ok hr hb he _ k hl hle
          exact key _ _ _ rfl ⟨l', p1, p2, fun j v hj => by rw [Addr.add_mid]; exact p3 j v hj⟩ rfl
        | slz he _ _ =>
          simp only [Nat.zero_mul, ldN, Option.some.injEq] at hl
          subst hl
          exact key _ _ _ rfl ⟨[], .nil, by simp, fun j v hj => by simp at hj⟩ rfl
      · cases hc
    · cases hc
  · rename_i s
    obtain ⟨hs1, hc⟩ := bif_some hc
    have hs1 := Nat.eq_of_beq_eq_true hs1
    subst hs1
    have hc := Option.some.inj hc
    rw [Prod.mk.injEq] at hc
    obtain ⟨rfl, rfl⟩ := hc
    cases hx
    have hS : s.data.toList.length = s.size := by rw [Array.length_toList]; rfl
    refine ⟨byteCells s, VRL.of_plain r _ (plainL_bytes _), fun w => by simp [Builtin.lenOf, hS], fun k hk => ?_⟩
    simp only [Builtin.firstCells, byteCells, Nat.mul_one, ← List.map_take]
    simp [← Array.toList_inj, List.map_take]
  · cases hc
theorem ef_copy (hr : HR r h w) (ha : AR r h n t a) {args : Array Operand} {tys : Array TypeId} (ho : o.op = .call { callee := .builtin .copy, args, argTypes := tys }) {ty : TypeId} {tl : List TypeId} (hty : tys.toList = ty :: tl)
    {b f l c : Nat} {x : Value} (hx : evL h.g t args.toList = some [.slice (some ⟨b, f, none⟩) l c, x]) {e : TypeId} (hu : P.underlying ty = some (.slice e)) {i : TypeInfo} (hi : P.info? e = some i) (h0 : nil0 x = true) {m : Nat} {vs : List Value}
    (hc : cellsOf h i.size x = some (m, vs)) {h' : H} (hp : putC h b f (vs.take (Nat.min m l * i.size)) = some h') : StOk P r h w o a (goInt (Nat.min m l)) h' := by
  have h1 := evL_ok hr ha hx
  have hat : tys[0]? = some ty := by rw [← Array.getElem?_toList, hty]; rfl
  generalize hq : args.toList.map a.eval = z at h1
  cases h1 with
  | cons g1 g2 =>
    rename_i s' z
    cases g2 with
    | cons g3 g4 =>
      rename_i x' z
      cases g4
      have hm : args.map a.eval = #[s', x'] := by rw [← Array.toList_inj, Array.toList_map, hq]
      obtain ⟨vs', p1, p2, p3⟩ := cells_first (P := P) hr g3 hc h0
      have p4 := p3 (Nat.min m l) (Nat.min_le_left _ _)
      have key : ∀ (E' : E) (k : Nat) (c' : Nat), r b = some E' → s' = .slice (some ⟨E'.blk, k, none⟩) l c' → (k = E'.base + f ∨ l = 0) → StOk P r h w o a (goInt (Nat.min m l)) h' := fun E' k c' he hs' hk => by
        obtain ⟨q1, q2, q3⟩ := putC_ok hr he (p1.take (Nat.min m l * i.size)) hp
        have hst : (storeCells ⟨E'.blk, k, none⟩ (vs'.take (Nat.min m l * i.size))).run P w = .ok () (w.setCells E'.blk (E'.base + f) (vs'.take (Nat.min m l * i.size))) := by
          rcases hk with rfl | rfl
          · have := run_storeCells_cells (P := P) E'.blk (E'.base + f) (vs'.take (Nat.min m l * i.size)) 0 w (fun j hj => by simpa using (q2 j hj).1) (fun j hj => by simpa using (q2 j hj).2) q3
            simpa using this
          · simp only [Nat.min_zero, Nat.zero_mul, List.take_zero]; rfl
        refine ⟨r, _, _, q1, .int _ _, .inl ?_⟩
        simp [execOp, ho, resolve, invoke, builtin, Builtin.copy_, hat, hm, hs', run_underlying hu, p2, sizeOf, typeInfo, hi, p4, hst, goInt]
      cases g1 with
      | sl he _ => exact key _ _ _ he rfl (.inl rfl)
      | slo he _ _ _ => exact key _ _ _ he rfl (.inl rfl)
      | slz he _ _ => exact key _ _ _ he rfl (.inr rfl)
end Ev
end Go.Proofs.YtmgiplaclgnooaaGreatDoor
