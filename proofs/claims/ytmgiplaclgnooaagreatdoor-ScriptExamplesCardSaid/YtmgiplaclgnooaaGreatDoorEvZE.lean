/- One operation of our own machine that does more. -/
import Derived.Test.YtmgiplaclgnooaaGreatDoorEvZD
set_option maxRecDepth 10000
namespace Go.Proofs.YtmgiplaclgnooaaGreatDoor
namespace Ev
variable {P : Program} {r : Ren} {h : H} {w : World} {n : Nat} {t : T Value} {a : Act} {o : Oper}
theorem ef_append (hr : HR r h w) (ha : AR r h n t a) {args : Array Operand} {tys : Array TypeId} (ho : o.op = .call { callee := .builtin .append, args, argTypes := tys }) {ty tx : TypeId} (hty : tys.toList = [ty, tx]) {s x : Value} (hx : evL h.g t args.toList = some [s, x])
    {v : Value} {h' : H} (hv : app P ty tx s x h = some (v, h')) : StOk P r h w o a v h' := by
  have h1 := evL_ok hr ha hx
  generalize hq : args.toList.map a.eval = z at h1
  cases h1 with
  | cons g1 g2 =>
    rename_i s' z
    cases g2 with
    | cons g3 g4 =>
      rename_i x' z
      cases g4
      have hm : args.map a.eval = #[s', x'] := by rw [← Array.toList_inj, Array.toList_map, hq]
      have ht : tys = #[ty, tx] := by rw [← Array.toList_inj, hty]
      obtain ⟨r', v', w', q1, q2, q3⟩ := app_ok (oty := o.type) hr g1 g3 hv
      refine ⟨r', v', w', q1, q2, .inl ?_⟩
      simp [execOp, ho, resolve, invoke, builtin, hm, ht, q3]
theorem ef_ok (hr : HR r h w) (ha : AR r h n t a) {cf yf : CallF} (hcf : CfOk P cf) (hyf : YfOk P yf) {v : Value} {h' : H} (hv : ef P cf yf t o h = some (v, h')) : OpX P (Kt r h w v h') ((execOp a.eval o).run P w) := by
  unfold ef at hv
  simp only [inf_eq, und_eq] at hv
  split at hv
  · rename_i ty x y ho
    split at hv
    · rename_i b f u i hx hy hi
      obtain ⟨hl, hv⟩ := bif_some hv
      split at hv
      · rename_i h2 hp
        simp only [Option.some.injEq, Prod.mk.injEq] at hv
        obtain ⟨rfl, rfl⟩ := hv
        exact (ef_store hr ha ho hx hy hi (Nat.eq_of_beq_eq_true hl) hp).op
      · cases hv
    · cases hv
  · rename_i ty m k x ho
    split at hv
    · rename_i mv kv xv hm hk hx
      split at hv
      · rename_i h2 hp
        simp only [Option.some.injEq, Prod.mk.injEq] at hv
        obtain ⟨rfl, rfl⟩ := hv
        exact (ef_map hr ha (.inl ho) hm hk hx hp).op
      · cases hv
    · cases hv
  · rename_i ty m k x ho
    split at hv
    · rename_i mv kv xv hm hk hx
      split at hv
      · rename_i h2 hp
        simp only [Option.some.injEq, Prod.mk.injEq] at hv
        obtain ⟨rfl, rfl⟩ := hv
        exact (ef_map hr ha (.inr ho) hm hk hx hp).op
      · cases hv
    · cases hv
  · rename_i ty x ho
    split at hv
    · rename_i kt et hu hx
      simp only [Option.some.injEq, Prod.mk.injEq] at hv
      obtain ⟨rfl, rfl⟩ := hv
      exact (ef_rangeN hr ha ho hu hx).op
    · rename_i kt et m hu hx
      split at hv
      · rename_i es clock hm
        simp only [Option.some.injEq, Prod.mk.injEq] at hv
        obtain ⟨rfl, rfl⟩ := hv
        exact (ef_rangeM hr ha ho hu hx hm).op
      · cases hv
    · cases hv
  · rename_i it ho
    split at hv
    · rename_i b hx
      split at hv
      · rename_i since seen last hb
        simp only [Option.some.injEq, Prod.mk.injEq] at hv
        obtain ⟨rfl, rfl⟩ := hv
        exact (ef_nextN hr ha ho hx hb).op
      · rename_i m since seen last hb
        split at hv
        · rename_i es clock hm
          obtain ⟨hc, hv⟩ := bif_some hv
          simp only [Bool.and_eq_true] at hc
          obtain ⟨n1, n2⟩ := ef_nextM hr ha ho hx hb hm (Nat.le_of_ble_eq_true hc.1) hc.2
          split at hv
          · rename_i hl
            simp only [Option.some.injEq, Prod.mk.injEq] at hv
            obtain ⟨rfl, rfl⟩ := hv
            exact (n1 hl).op
          · rename_i e hl
            obtain ⟨hb2, hv⟩ := bif_some hv
            simp only [Option.some.injEq, Prod.mk.injEq] at hv
            obtain ⟨rfl, rfl⟩ := hv
            exact (n2 e hl (Nat.le_of_ble_eq_true hb2)).op
          · cases hv
        · cases hv
      · cases hv
    · cases hv
  · rename_i args tys ho
    split at hv
    · rename_i ty tl m k hty hx
      exact (ef_delete hr ha ho hty hx hv).op
    · cases hv
  · rename_i it ho
    split at hv
    · rename_i b hx
      split at hv
      · rename_i s pos hb
        obtain ⟨hlo, hv⟩ := bif_some hv
        obtain ⟨n1, n2⟩ := ef_next hr ha ho hx hb (Nat.le_of_ble_eq_true hlo)
        cases hp : Nat.blt pos s.size with
        | true =>
          rw [hp] at hv
          simp only [cond_true, Option.some.injEq, Prod.mk.injEq] at hv
          obtain ⟨rfl, rfl⟩ := hv
          exact (n1 (Nat.le_of_ble_eq_true hp)).op
        | false =>
          rw [hp] at hv
          simp only [cond_false, Option.some.injEq, Prod.mk.injEq] at hv
          obtain ⟨rfl, rfl⟩ := hv
          exact (n2 (fun q => by rw [Nat.blt, Nat.ble_eq_true_of_le q] at hp; cases hp)).op
      · cases hv
    · cases hv
  · rename_i args tys ho
    split at hv
    · rename_i ty tx s x hty hx
      exact (ef_append hr ha ho hty hx hv).op
    · cases hv
  · rename_i args tys ho
    split at hv
    · rename_i ty tl b f l c x hty hx
      split at hv
      · rename_i e hu
        split at hv
        · rename_i i hi
          split at hv
          · rename_i m vs hc
            obtain ⟨h0, hc⟩ := bif_some hc
            split at hv
            · rename_i h2 hp
              simp only [Option.some.injEq, Prod.mk.injEq] at hv
              obtain ⟨rfl, rfl⟩ := hv
              exact (ef_copy hr ha ho hty hx hu hi h0 hc hp).op
            · cases hv
          · cases hv
        · cases hv
      · cases hv
    · cases hv
  · rename_i f args tys ho
    split at hv
    · rename_i g fi ca vs hf hx
      exact ef_call hr ha hcf ho hf hx hv
    · rename_i l vs hf hx
      exact ef_yield hr ha hyf ho hf hx hv
    · cases hv
  · cases hv
end Ev
end Go.Proofs.YtmgiplaclgnooaaGreatDoor
