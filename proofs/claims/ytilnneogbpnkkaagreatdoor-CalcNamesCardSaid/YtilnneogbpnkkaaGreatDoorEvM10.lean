/- One operation of our own machine that does more. -/
import Derived.Test.YtilnneogbpnkkaaGreatDoorEvM9
import Derived.Lib.Overlaps
import Derived.Laws.Externs
set_option maxRecDepth 10000
namespace Go.Proofs.YtilnneogbpnkkaaGreatDoor
namespace Ev
variable {P : Program} {r : Ren} {h : H} {w : World} {n : Nat} {t : T Value} {a : Act} {o : Oper}
theorem ef_append (hr : HR r h w) (ha : AR r h n t a) {args : Array Operand} {tys : Array TypeId} (ho : o.op = .call { callee := .builtin .append, args, argTypes := tys }) {ty tx : TypeId} (hty : tys.toList = [ty, tx]) {s x : Value} (hx : evL h.g t args.toList = some [s, x])
    {v : Value} {h' : H} (hv : app P ty tx s x h = some (v, h')) : StOk P r h w o a v h' := by
  have h1 := evL_ok hr ha hx
  generalize hq : args.toList.map a.eval = z at h1
  cases h1 with
  | cons g1 g2 =>
    rename_i s' z
    cases g2 with
    | cons g3 g4 =>
      rename_i x' z
      cases g4
      have hm : args.map a.eval = #[s', x'] := by rw [← Array.toList_inj, Array.toList_map, hq]
      have ht : tys = #[ty, tx] := by rw [← Array.toList_inj, hty]
      obtain ⟨r', v', w', q1, q2, q3⟩ := app_ok (oty := o.type) hr g1 g3 hv
      refine ⟨r', v', w', q1, q2, .inl ?_⟩
      simp [execOp, ho, resolve, invoke, builtin, hm, ht, q3]
theorem ef0_ok (hr : HR r h w) (ha : AR r h n t a) {cf yf : CallF} (hcf : CfOk P cf) (hyf : YfOk P yf) {v : Value} {h' : H} (hv : ef0 P cf yf t o h = some (v, h')) : OpX P (Kt r h w v h') ((execOp a.eval o).run P w) := by
  unfold ef0 at hv
  simp only [inf_eq, und_eq] at hv
  split at hv
  · rename_i ty x y ho
    split at hv
    · rename_i b f u i hx hy hi
      obtain ⟨hl, hv⟩ := bif_some hv
      split at hv
      · rename_i h2 hp
        simp only [Option.some.injEq, Prod.mk.injEq] at hv
        obtain ⟨rfl, rfl⟩ := hv
        exact (ef_store hr ha ho hx hy hi (Nat.eq_of_beq_eq_true hl) hp).op
      · cases hv
    · cases hv
  · rename_i ty m k x ho
    split at hv
    · rename_i mv kv xv hm hk hx
      split at hv
      · rename_i h2 hp
        simp only [Option.some.injEq, Prod.mk.injEq] at hv
        obtain ⟨rfl, rfl⟩ := hv
        exact (ef_map hr ha (.inl ho) hm hk hx hp).op
      · cases hv
    · cases hv
  · rename_i ty m k x ho
    split at hv
    · rename_i mv kv xv hm hk hx
      split at hv
      · rename_i h2 hp
        simp only [Option.some.injEq, Prod.mk.injEq] at hv
        obtain ⟨rfl, rfl⟩ := hv
        exact (ef_map hr ha (.inr ho) hm hk hx hp).op
      · cases hv
    · cases hv
  · rename_i ty x ho
    split at hv
    · rename_i kt et hu hx
      simp only [Option.some.injEq, Prod.mk.injEq] at hv
      obtain ⟨rfl, rfl⟩ := hv
      exact (ef_rangeN hr ha ho hu hx).op
    · rename_i kt et m hu hx
      split at hv
      · rename_i es clock hm
        simp only [Option.some.injEq, Prod.mk.injEq] at hv
        obtain ⟨rfl, rfl⟩ := hv
        exact (ef_rangeM hr ha ho hu hx hm).op
      · cases hv
    · cases hv
  · rename_i it ho
    split at hv
    · rename_i b hx
      split at hv
      · rename_i since seen last hb
        simp only [Option.some.injEq, Prod.mk.injEq] at hv
        obtain ⟨rfl, rfl⟩ := hv
        exact (ef_nextN hr ha ho hx hb).op
      · rename_i m since seen last hb
        split at hv
        · rename_i es clock hm
          obtain ⟨hc, hv⟩ := bif_some hv
          simp only [Bool.and_eq_true] at hc
          obtain ⟨n1, n2⟩ := ef_nextM hr ha ho hx hb hm (Nat.le_of_ble_eq_true hc.1) hc.2
          split at hv
          · rename_i hl
            simp only [Option.some.injEq, Prod.mk.injEq] at hv
            obtain ⟨rfl, rfl⟩ := hv
            exact (n1 hl).op
          · rename_i e hl
            obtain ⟨hb2, hv⟩ := bif_some hv
            simp only [Option.some.injEq, Prod.mk.injEq] at hv
            obtain ⟨rfl, rfl⟩ := hv
            exact (n2 e hl (Nat.le_of_ble_eq_true hb2)).op
          · cases hv
        · cases hv
      · cases hv
    · cases hv
  · rename_i args tys ho
    split at hv
    · rename_i ty tl m k hty hx
      exact (ef_delete hr ha ho hty hx hv).op
    · cases hv
  · rename_i it ho
    split at hv
    · rename_i b hx
      split at hv
      · rename_i s pos hb
        obtain ⟨hlo, hv⟩ := bif_some hv
        obtain ⟨n1, n2⟩ := ef_next hr ha ho hx hb (Nat.le_of_ble_eq_true hlo)
        cases hp : Nat.blt pos s.size with
        | true =>
          rw [hp] at hv
          simp only [cond_true, Option.some.injEq, Prod.mk.injEq] at hv
          obtain ⟨rfl, rfl⟩ := hv
          exact (n1 (Nat.le_of_ble_eq_true hp)).op
        | false =>
          rw [hp] at hv
          simp only [cond_false, Option.some.injEq, Prod.mk.injEq] at hv
          obtain ⟨rfl, rfl⟩ := hv
          exact (n2 (fun q => by rw [Nat.blt, Nat.ble_eq_true_of_le q] at hp; cases hp)).op
      · cases hv
    · cases hv
  · rename_i args tys ho
    split at hv
    · rename_i ty tx s x hty hx
      exact (ef_append hr ha ho hty hx hv).op
    · cases hv
  · rename_i args tys ho
    split at hv
    · rename_i ty tl b f l c x hty hx
      split at hv
      · rename_i e hu
        split at hv
        · rename_i i hi
          split at hv
          · rename_i m vs hc
            obtain ⟨h0, hc⟩ := bif_some hc
            split at hv
            · rename_i h2 hp
              simp only [Option.some.injEq, Prod.mk.injEq] at hv
              obtain ⟨rfl, rfl⟩ := hv
              exact (ef_copy hr ha ho hty hx hu hi h0 hc hp).op
            · cases hv
          · cases hv
        · cases hv
      · cases hv
    · cases hv
  · rename_i f args tys ho
    split at hv
    · rename_i g fi ca vs hf hx
      exact ef_call hr ha hcf ho hf hx hv
    · rename_i l vs hf hx
      exact ef_yield hr ha hyf ho hf hx hv
    · cases hv
  · cases hv
theorem meth_ok (hr : HR r h w) {ty : TypeId} {v v' : Value} (hv : VR r v v') {name : String} {f : Nat} {u : Value} (hm : meth P h ty v name = some (f, u)) :
    ∃ u', VR r u u' ∧ ∀ fuel, (method (fuel + 1) ty v' name).run P w = .ok (f, u') w := by
  unfold meth at hm
  simp only [inf_eq, und_eq] at hm
  split at hm
  · rename_i ti hti
    split at hm
    · rename_i m hmm
      obtain ⟨hp, hm⟩ := bif_some hm
      split at hm
      · rename_i g ptr hg
        have hp0 : m.path.toList = [] := by simpa using hp
        have hhead : ∀ fuel, (method (fuel + 1) ty v' name).run P w = ((receiverAt ty (.val v') ptr (if m.path.isEmpty then some ((name.splitOn ".").getLastD name) else none)) >>= fun x => pure (g, x)).run P w := fun fuel => by
          unfold method
          simp only [Sem.run_bind, typeInfo, run_program, Result.andThen_ok, hti, Sem.run_pure, hmm, hp0, follow, hg]
        split at hm
        · rename_i el hu
          cases ptr with
          | true =>
            simp only [cond_true, Option.some.injEq, Prod.mk.injEq] at hm
            obtain ⟨rfl, rfl⟩ := hm
            refine ⟨v', hv, fun fuel => ?_⟩
            rw [hhead]
            simp [receiverAt, Sem.run_bind, run_underlying hu, Place.get]
          | false =>
            simp only [cond_false] at hm
            split at hm
            · rename_i b k
              split at hm
              · rename_i u' hl
                simp only [Option.some.injEq, Prod.mk.injEq] at hm
                obtain ⟨rfl, rfl⟩ := hm
                cases hv with
                | ptr he =>
                  obtain ⟨z, q1, q2⟩ := ldv_ok hr he hl
                  refine ⟨z, q1, fun fuel => ?_⟩
                  rw [hhead]
                  rw [if_pos hp]
                  have hck : ∀ (A : Addr) (x : ByteArray) (y : ByteArray), Builtin.ssaWrapNilChk_ #[ty] ty #[.pointer (some A), .string x, .string y] = pure (.pointer (some A)) := fun _ _ _ => rfl
                  simp [receiverAt, Sem.run_bind, run_underlying hu, Place.get, hck, strVal, asAddr, q2]
              · cases hm
            · cases hm
        · rename_i d hd hu
          cases ptr with
          | true => cases hm
          | false =>
            simp only [cond_false, Option.some.injEq, Prod.mk.injEq] at hm
            obtain ⟨rfl, rfl⟩ := hm
            refine ⟨v', hv, fun fuel => ?_⟩
            rw [hhead]
            cases d with
            | pointer e => exact absurd rfl (hd e)
            | _ => simp [receiverAt, Sem.run_bind, run_underlying hu, Place.get]
        · cases hm
      · cases hm
    · cases hm
  · cases hm
theorem overlaps_find {fn : Func} (h2 : fn.origin = "slices.overlaps") (g1 : (Extern.allGenericRows.lookup fn.name).isNone = true) (g2 : (Extern.allTypedRows.lookup fn.name).isNone = true) (g3 : (Extern.allRows.lookup fn.name).isNone = true) (n1 : (Extern.allNextRows.lookup fn.name).isNone = true) :
    Extern.find fn = some (Extern.SlicesOverlaps.overlaps fn.params fn.resultTypes) ∧ Extern.findNext fn = none := by
  have g4 : (Extern.allGenericRows.lookup "slices.overlaps").isNone = true := by kernel_rfl
  have g5 : Extern.allTypedRows.lookup "slices.overlaps" = some Extern.SlicesOverlaps.overlaps := by kernel_rfl
  have n2 : (Extern.allNextRows.lookup "slices.overlaps").isNone = true := by kernel_rfl
  rw [Option.isNone_iff_eq_none] at g1 g2 g3 g4 n1 n2
  unfold Extern.find Extern.findNext
  simp only [h2, g1, g2, g3, g4, g5, n1, n2]
  exact ⟨rfl, rfl⟩
theorem ef_apart (hr : HR r h w) (ha : AR r h n t a) {f : Operand} {args : Array Operand} {tys : Array TypeId} (ho : o.op = .call { callee := .value f, args, argTypes := tys }) {g b k l c b2 k2 l2 c2 : Nat}
    (hf : evO h.g t f = some (.func (.func g) ⟨[]⟩ ⟨[]⟩)) (hx : evL h.g t args.toList = some [.slice (some ⟨b, k, none⟩) l c, .slice (some ⟨b2, k2, none⟩) l2 c2]) (hF : apartF P g = true) (hA : apart h b k b2 = true) : (execOp a.eval o).run P w = .ok (.value (.bool false)) w := by
  have h1 := evO_ok hr ha hf
  have h2 := evL_ok hr ha hx
  generalize hq : a.eval f = z at h1
  generalize hqa : args.toList.map a.eval = zs at h2
  have hm : args.map a.eval = zs.toArray := by rw [← Array.toList_inj, Array.toList_map, hqa]
  unfold apart at hA
  split at hA
  · rename_i m cs d m2 cs2 d2 s2 hb hb2
    simp only [Bool.and_eq_true, Bool.or_eq_true, Bool.not_eq_true'] at hA
    obtain ⟨⟨⟨⟨a1, a2⟩, a3⟩, a4⟩, a5⟩ := hA
    have a1 := Nat.eq_of_beq_eq_true a1
    have a2 := Nat.le_of_ble_eq_true a2
    have a3 : 0 < m2 := Nat.le_of_ble_eq_true a3
    have a4 : b ≠ b2 := ne_of_beq a4
    obtain ⟨E, e1, e2, C, ct, fz, e3, e4, e5, e6, e7⟩ := hr.blk b _ hb
    obtain ⟨E2, g1, g2, C2, ct2, fz2, g3, g4, g5, g6, g7⟩ := hr.blk b2 _ hb2
    have hne : E.blk ≠ E2.blk := by
      rcases a5 with q | q
      · exact hr.inj b b2 _ _ E E2 hb hb2 e1 g1 (Nat.le_of_ble_eq_true q) a4
      · exact fun s => hr.inj b2 b _ _ E2 E hb2 hb g1 e1 (Nat.le_of_ble_eq_true q) (fun s => a4 s.symm) s.symm
    rw [if_pos a1] at e7
    have hfr := e6 (by simp [wrt])
    have hC2 : C2.size ≠ 0 := by split at g7 <;> omega
    unfold apartF at hF
    rw [nthL_eq, Array.getElem?_toList] at hF
    split at hF
    · rename_i fn hfn
      simp only [Bool.and_eq_true, beq_iff_eq, und_eq, inf_eq] at hF
      obtain ⟨⟨⟨⟨⟨⟨⟨⟨b1, b2'⟩, b3⟩, y1⟩, y2⟩, y3⟩, y4⟩, b4⟩, b5⟩ := hF
      obtain ⟨hfind, hnext⟩ := overlaps_find b3 y1 y2 y3 y4
      split at b4
      · rename_i ty ty' hp
        split at b5
        · rename_i tr hres
          simp only [Bool.and_eq_true] at b4
          obtain ⟨b4, b6⟩ := b4
          have b4 := Nat.eq_of_beq_eq_true b4
          subst b4
          have hp : fn.params = #[ty, ty] := by rw [← Array.toList_inj, hp]
          have hres : fn.resultTypes = #[tr] := by rw [← Array.toList_inj, hres]
          rw [hp, hres] at hfind
          split at b6
          · rename_i e hu
            obtain ⟨ti, hti⟩ := Option.isSome_iff_exists.1 b6
            have hsz : ∀ w, (sizeOf e).run P w = .ok ti.size w := fun w => by simp [sizeOf, typeInfo, hti]
            cases h2 with
            | cons v1 h2 =>
              cases h2 with
              | cons v2 h2 =>
                cases h2
                rename_i x1 x2
                have hx1 : x1 = .slice (some ⟨E.blk, E.base + k, none⟩) l c := by
                  cases v1 with
                  | sl he _ => rw [e1] at he; cases he; rfl
                  | _ => omega
                have hx2 : ∃ o2 l2' c2', x2 = .slice (some ⟨E2.blk, o2, none⟩) l2' c2' := by
                  cases v2 with
                  | sl he _ => rw [g1] at he; cases he; exact ⟨_, _, _, rfl⟩
                  | slo he _ _ _ => rw [g1] at he; cases he; exact ⟨_, _, _, rfl⟩
                  | slz he _ _ => rw [g1] at he; cases he; exact ⟨_, _, _, rfl⟩
                  | slk he _ _ _ _ => rw [g1] at he; cases he; exact ⟨_, _, _, rfl⟩
                obtain ⟨o2, l2', c2', rfl⟩ := hx2
                subst hx1
                have hcall := run_callFunc_extern (P := P) hfn (by simpa using b2') b1 hnext hfind #[.slice (some ⟨E.blk, E.base + k, none⟩) l c, .slice (some ⟨E2.blk, o2, none⟩) l2' c2'] w
                rw [Lib.run_overlaps_apart w ty tr e hu ti.size hsz ⟨E.blk, E.base + k, none⟩ ⟨E2.blk, o2, none⟩ l c l2' c2' hne ct ct2 C.size C2.size (by simp [World.shape?, e3]) (by simp [World.shape?, g3]) hC2
                  (by
                    have := hfr (E.base + k) (by omega)
                    simp only [World.frozen?, e3]
                    simp only [Bool.and_eq_false_iff, decide_eq_false_iff_not]
                    omega)
                  (by
                    have := hfr C.size (by omega)
                    simp only [World.frozen?, e3]
                    simp only [Bool.and_eq_false_iff, decide_eq_false_iff_not]
                    omega)] at hcall
                cases h1 with
                | func _ j1 j2 =>
                  cases j1
                  cases j2
                  simp [execOp, ho, resolve, Deferred.ofValue, invoke, hq, hm, hcall]
          · cases b6
        · cases b5
      · simp at b4
    · cases hF
  · cases hA
theorem ef2_ok (hr : HR r h w) (ha : AR r h n t a) {cf : CallF} (hcf : CfOk P cf) {v : Value} {h' : H} (hv : ef2 P cf t o h = some (v, h')) : OpX P (Kt r h w v h') ((execOp a.eval o).run P w) := by
  unfold ef2 at hv
  simp only [inf_eq, und_eq] at hv
  split at hv
  · rename_i rc name args tys ho
    split at hv
    · rename_i ty u vs hrc hx
      split at hv
      · rename_i f x hm
        have h1 := evO_ok hr ha hrc
        have h2 := evL_ok hr ha hx
        generalize hq : a.eval rc = z at h1
        cases h1 with
        | iface hu =>
          rename_i u'
          obtain ⟨x', q1, q2⟩ := meth_ok (P := P) hr hu hm
          obtain ⟨⟨fn, k1, k2, k3⟩, k4⟩ := hcf r h w f _ _ v h' hr (.cons q1 h2) hv
          have k3' : fn.name ≠ "runtime.NumGoroutine" := by simpa using k3
          have k2' : fn.body ≠ none := by intro e; rw [e] at k2; cases k2
          obtain ⟨fuel, hfuel⟩ : ∃ k, P.types.size + Made.depth = k + 1 := ⟨P.types.size + Made.depth - 1, by have h100 : Made.depth = 100 := rfl; omega⟩
          have hrun : (execOp a.eval o).run P w = .ok (.enter f (x' :: args.toList.map a.eval).toArray) w := by
            have hget0 : (#[Value.iface ty u'] ++ args.map a.eval)[0]? = some (.iface ty u') := by simp [Array.getElem?_append]
            have hargs2 : (args.map a.eval).extract 0 args.size = args.map a.eval := by
              apply Array.toList_inj.1
              simp
              rw [List.take_of_length_le (by simp)]
            have hcons : #[x'] ++ args.map a.eval = (x' :: args.toList.map a.eval).toArray := by
              apply Array.toList_inj.1
              simp
            simp [execOp, ho, resolve, invoke, callMethod, callFunc, hq, k1, k2', k3', hfuel, q2, hargs2, hcons, hget0]
          rw [hrun]; exact k4
      · cases hv
    · cases hv
  · rename_i args tys ho
    split at hv
    · rename_i ty tl b f l c hty hx
      have hat : tys[0]? = some ty := by rw [← Array.getElem?_toList, hty]; rfl
      have h1 := evL_ok hr ha hx
      generalize hq : args.toList.map a.eval = z at h1
      cases h1 with
      | cons g1 g2 =>
        cases g2
        rename_i s'
        have hm : args.map a.eval = #[s'] := by rw [← Array.toList_inj, Array.toList_map, hq]
        split at hv
        · rename_i e hu
          split at hv
          · rename_i i hi
            split at hv
            · rename_i z hz
              cases hc : (plainL (Builtin.zeroCells z.cells l).toList && Nat.ble 1 l) with
              | true =>
                rw [hc] at hv
                simp only [cond_true] at hv
                simp only [Bool.and_eq_true] at hc
                have hl := Nat.le_of_ble_eq_true hc.2
                split at hv
                · rename_i h2 hp
                  simp only [Option.some.injEq, Prod.mk.injEq] at hv
                  obtain ⟨rfl, rfl⟩ := hv
                  have key : ∀ (E' : E) (k : Nat) (c' : Nat), r b = some E' → s' = .slice (some ⟨E'.blk, k, none⟩) l c' → k = E'.base + f → OpX P (Kt r h w (.tuple #[]) h2) ((execOp a.eval o).run P w) := fun E' k c' he hs' hk => by
                    subst hk
                    obtain ⟨q1, q2, q3⟩ := putC_ok hr he (VRL.of_plain r _ hc.1) hp
                    have hst := run_storeCells_cells (P := P) E'.blk (E'.base + f) (Builtin.zeroCells z.cells l).toList 0 w (fun j hj => by simpa using (q2 j hj).1) (fun j hj => by simpa using (q2 j hj).2) q3
                    obtain ⟨l, rfl⟩ : ∃ m, l = m + 1 := ⟨l - 1, by omega⟩
                    have hzv : ∀ w, (zeroValue e).run P w = .ok z w := fun w => by simp [zeroValue, typeInfo, hi, hz]
                    have hrun : (execOp a.eval o).run P w = .ok (.value (.tuple #[])) (w.setCells E'.blk (E'.base + f) (Builtin.zeroCells z.cells (l + 1)).toList) := by
                      simp only [Nat.add_zero] at hst
                      simp [execOp, ho, resolve, invoke, builtin, Builtin.clear_, hat, hm, hs', run_underlying hu, hzv, hst]
                    rw [hrun]
                    exact ⟨r, q1, VR.of_plain r _ rfl⟩
                  cases g1 with
                  | sl he _ => exact key _ _ _ he rfl rfl
                  | slo he _ _ _ => exact key _ _ _ he rfl rfl
                  | slz he _ _ => omega
                  | slk he hodd' hx' hcap' hl' => exact key _ _ _ he rfl (hx' (by omega))
                · cases hv
              | false =>
                rw [hc] at hv
                simp only [cond_false] at hv
                obtain ⟨hl, hv⟩ := bif_some hv
                have hl := Nat.eq_of_beq_eq_true hl
                subst hl
                obtain ⟨rfl, rfl⟩ : .tuple #[] = v ∧ h = h' := by
                  have hv := Option.some.inj hv
                  exact ⟨congrArg Prod.fst hv, congrArg Prod.snd hv⟩
                have hs0 : ∃ A c', s' = .slice A 0 c' := by cases g1 <;> exact ⟨_, _, rfl⟩
                obtain ⟨A, c', rfl⟩ := hs0
                have hrun : (execOp a.eval o).run P w = .ok (.value (.tuple #[])) w := by
                  cases A <;> simp [execOp, ho, resolve, invoke, builtin, Builtin.clear_, hat, hm, run_underlying hu]
                rw [hrun]
                exact ⟨r, Step.refl hr, VR.of_plain r _ rfl⟩
            · cases hv
          · cases hv
        · cases hv
    · cases hv
  · rename_i f args tys ho
    split at hv
    · rename_i u hg
      simp only [Option.some.injEq, Prod.mk.injEq] at hv
      obtain ⟨rfl, rfl⟩ := hv
      obtain ⟨v', q1, q2⟩ := gen_ok (w := w) ha (by simp [ho]) hg
      rw [q2]
      exact ⟨r, Step.refl hr, q1⟩
    · split at hv
      · rename_i g b k l c b2 k2 l2 c2 hf hx
        obtain ⟨hc, hv⟩ := bif_some hv
        simp only [Bool.and_eq_true] at hc
        simp only [Option.some.injEq, Prod.mk.injEq] at hv
        obtain ⟨rfl, rfl⟩ := hv
        rw [ef_apart hr ha ho hf hx hc.1 hc.2]
        exact ⟨r, Step.refl hr, .bool _⟩
      · cases hv
  · cases hv
theorem ef_ok (hr : HR r h w) (ha : AR r h n t a) {cf yf : CallF} (hcf : CfOk P cf) (hyf : YfOk P yf) {v : Value} {h' : H} (hv : ef P cf yf t o h = some (v, h')) : OpX P (Kt r h w v h') ((execOp a.eval o).run P w) := by
  unfold ef at hv
  split at hv
  · rename_i x hq
    cases hv
    exact ef0_ok hr ha hcf hyf hq
  · exact ef2_ok hr ha hcf hv
end Ev
end Go.Proofs.YtilnneogbpnkkaaGreatDoor
/- One operation of our own machine, and the temporaries. -/
set_option maxRecDepth 10000
namespace Go.Proofs.YtilnneogbpnkkaaGreatDoor
namespace Ev
variable {P : Program} {r : Ren} {h : H} {w : World} {n : Nat} {t : T Value} {a : Act} {o : Oper}
theorem step1_ok (hr : HR r h w) (ha : AR r h n t a) {cf yf : CallF} (hcf : CfOk P cf) (hyf : YfOk P yf) {v : Value} {h' : H} (hv : step1 P cf yf o t h = some (v, h')) : OpX P (Kt r h w v h') ((execOp a.eval o).run P w) := by
  unfold step1 at hv
  split at hv
  · split at hv
    · rename_i u hu
      simp only [Option.some.injEq, Prod.mk.injEq] at hv
      obtain ⟨rfl, rfl⟩ := hv
      obtain ⟨v', q1, q2⟩ := rd_ok hr ha hu
      rw [q2]
      exact ⟨r, Step.refl hr, q1⟩
    · cases hv
  · split at hv
    · rename_i b q mk hu
      simp only [Option.some.injEq, Prod.mk.injEq] at hv
      obtain ⟨rfl, rfl⟩ := hv
      exact (al_ok hr ha hu).op
    · cases hv
  · exact ef_ok hr ha hcf hyf hv
theorem AR.ext {r' : Ren} {h' : H} (hx : Ext r r') (ha : AR r h n t a) : AR r' h' n t a := ⟨ha.t.ext hx, ha.n⟩
theorem AR.put (ha : AR r h n t a) (d : Option Tmp) {v v' : Value} (hv : VR r v v') : AR r h n (put n d v t) (a.put d v') := by
  cases d with
  | none => exact ha
  | some d =>
    refine ⟨fun i => ?_, by simp [Act.put, ha.n]⟩
    have h1 := ha.t i
    unfold Ev.put
    simp only [Act.put]
    cases hd : Nat.blt d n with
    | false =>
      have : ¬ d < a.tmps.size := fun q => by rw [ha.n] at q; rw [Nat.blt, Nat.ble_eq_true_of_le q] at hd; cases hd
      simp only [cond_false]
      rw [Array.setIfInBounds_eq_of_size_le (Nat.le_of_not_lt this)]
      exact h1
    | true =>
      have hlt : d < a.tmps.size := by rw [ha.n]; exact Nat.le_of_ble_eq_true hd
      simp only [cond_true]
      rw [T.set_get _ _ _ _ (by omega)]
      by_cases q : i = d
      · subst q
        simp [hlt]
        exact .inr hv
      · rw [if_neg (by omega)]
        simpa [Array.getD_eq_getD_getElem?, Array.getElem?_setIfInBounds, Ne.symm q] using h1
end Ev
end Go.Proofs.YtilnneogbpnkkaaGreatDoor
/- Our own machine's regions, in the order in which they stand. -/
set_option maxRecDepth 10000
namespace Go.Proofs.YtilnneogbpnkkaaGreatDoor
namespace Ev
variable {P : Program} {r : Ren} {h : H} {w : World} {n : Nat} {t : T Value} {a : Act} {o : Oper}
theorem VR.bool_of {v : Value} {b : Bool} (h : VR r v (.bool b)) (hj : isJ v = false) : v = .bool b := by cases h <;> first | rfl | cases hj
theorem VR.to_bool {v : Value} {b : Bool} (h : VR r (.bool b) v) : v = .bool b := by cases h; rfl
theorem getD_bool {A : Array Value} {d : Nat} {b : Bool} : A.getD d undef = .bool b ↔ A[d]? = some (.bool b) := by
  rw [Array.getD_eq_getD_getElem?]
  cases hq : A[d]? with
  | none => simp [undef]
  | some v => simp
theorem wants_ok (ha : AR r h n t a) (ops : Array Oper) (hj : jg ops.toList t o = false) : wants ops.toList t o = Region.wanted o (yielded ops a.tmps) := by
  unfold wants Region.wanted
  unfold jg at hj
  cases hgd : o.guard with
  | none => rfl
  | some g =>
    obtain ⟨j, want⟩ := g
    simp only [hgd, Array.getElem?_toList] at hj
    simp only [yielded, Array.getElem?_toList]
    cases hoj : ops[j]? with
    | none => simp
    | some oj =>
      simp only [hoj] at hj
      simp only [Option.bind_some]
      cases hd : oj.dst with
      | none => simp
      | some d =>
        simp only [Option.bind_some]
        simp only [hd] at hj
        have h1 := (ha.t d).vr hj
        split
        · rename_i b hb
          rw [hb] at h1
          have := getD_bool.1 h1.to_bool
          rw [this]
          cases b <;> cases want <;> rfl
        · rename_i hn
          split
          · rename_i b hb
            have h2 := getD_bool.2 hb
            rw [h2] at h1
            have h3 := h1.bool_of hj
            cases hg : t.get (d + 1) with
            | none => rw [hg] at h3; cases h3
            | some u => rw [hg] at h3; simp only [Option.getD_some] at h3; subst h3; exact absurd hg (hn b)
          · simp
theorem opx_defer {K : Value → World → Prop} {c : Call} (ho : o.op = .defer c) (h : OpX P K ((execOp a.eval o).run P w)) : False := by
  simp only [execOp, ho, Sem.run_bind] at h
  cases hr : (resolve a.eval c o.type).run P w with
  | halt x w' => rw [hr] at h; exact h
  | ok d w' => rw [hr] at h; exact h
variable {b : Frame} {k : List Item} {cs : List Frame}
theorem runOps_normal {cf yf : CallF} {all : List Oper} {D : List Nat} {x : Ex} {t' : T Value} {D' : List Nat} {h' : H} : ∀ (l : List Oper) (t : T Value) (h : H), runOps P cf yf n all D l t h = .ok x t' D' h' → x = .normal ∧ D' = D := by
  intro l
  induction l with
  | nil =>
    intro t h hv
    simp only [runOps, R.ok.injEq] at hv
    exact ⟨hv.1.symm, hv.2.2.1.symm⟩
  | cons o l ih =>
    intro t h hv
    simp only [runOps] at hv
    cases hjg : jg all t o with
    | true => rw [hjg] at hv; cases hv
    | false =>
    rw [hjg] at hv
    simp only [cond_false] at hv
    cases hw : wants all t o with
    | true =>
      rw [hw] at hv
      simp only [cond_true] at hv
      split at hv
      · exact ih _ _ hv
      · cases hv
    | false =>
      rw [hw] at hv
      exact ih _ _ hv
/-- A region's rest, in order. -/
theorem runOps_ok {cf yf : CallF} (hcf : CfOk P cf) (hyf : YfOk P yf) (ops : Array Oper) (D : List Nat) (hb : FrK b) {x : Ex} {t' : T Value} {D' : List Nat} {h' : H} : ∀ (l : List Oper) (j : Nat) (r : Ren) (h : H) (w : World) (t : T Value) (a : Act),
    ops.toList.drop j = l → HR r h w → AR r h n t a → runOps P cf yf n ops.toList D l t h = .ok x t' D' h' →
    x = .normal ∧ D' = D ∧ (OG P (lone (b.atR a (.inRegion ops (List.range' j l.length) :: k)) cs w) ∨
      ∃ r' a' w', Step r h w r' h' w' ∧ AR r' h' n t' a' ∧ a'.defers = a.defers ∧ Steps P (lone (b.atR a (.inRegion ops (List.range' j l.length) :: k)) cs w) (lone (b.atR a' (.inRegion ops [] :: k)) cs w')) := by
  intro l
  induction l with
  | nil =>
    intro j r h w t a _ hr ha hv
    simp only [runOps, R.ok.injEq] at hv
    obtain ⟨rfl, rfl, rfl, rfl⟩ := hv
    exact ⟨rfl, rfl, .inr ⟨r, a, w, Step.refl hr, ha, rfl, .refl _ _⟩⟩
  | cons o l ih =>
    intro j r h w t a hd hr ha hv
    have hoj : ops[j]? = some o := by
      rw [← Array.getElem?_toList, ← Nat.add_zero j, ← List.getElem?_drop, hd]; rfl
    have hdr : ops.toList.drop (j + 1) = l := by rw [← List.drop_drop, hd]; rfl
    have hrg : List.range' j (o :: l).length = j :: List.range' (j + 1) l.length := by rw [List.length_cons, List.range'_succ]
    rw [hrg]
    simp only [runOps] at hv
    cases hjg : jg ops.toList t o with
    | true => rw [hjg] at hv; cases hv
    | false =>
    rw [hjg] at hv
    simp only [cond_false] at hv
    rw [wants_ok ha ops hjg] at hv
    cases hw : Region.wanted o (yielded ops a.tmps) with
    | true =>
      rw [hw] at hv
      simp only [cond_true] at hv
      split at hv
      · rename_i v h1 hs
        have hx := step1_ok hr ha hcf hyf hs
        have hnd : ∀ c, o.op ≠ .defer c := fun c ho => opx_defer ho hx
        rcases op_goes (k := k) (cs := cs) (rest := List.range' (j + 1) l.length) hoj hw hnd hb (.inr hx) with hg | ⟨v', w1, ⟨r1, hs1, hv1⟩, hst⟩
        · obtain ⟨e1, e2⟩ := runOps_normal _ _ _ hv
          exact ⟨e1, e2, .inl hg⟩
        · obtain ⟨e1, e2, e3⟩ := ih (j + 1) r1 h1 w1 _ (a.put o.dst v') hdr hs1.hr ((ha.ext hs1.ext).put o.dst hv1) hv
          refine ⟨e1, e2, ?_⟩
          rcases e3 with e3 | ⟨r2, a2, w2, f1, f2, f3, f4⟩
          · exact .inl (OG.of_steps hst e3)
          · exact .inr ⟨r2, a2, w2, hs1.trans f1, f2, by rw [f3]; cases o.dst <;> rfl, hst.trans f4⟩
      · cases hv
    | false =>
      rw [hw] at hv
      simp only [cond_false] at hv
      have hst : Steps P (lone (b.atR a (.inRegion ops (j :: List.range' (j + 1) l.length) :: k)) cs w) (lone (b.atR (a.put o.dst undef) (.inRegion ops (List.range' (j + 1) l.length) :: k)) cs w) := by
        have := stepR_op_skip (P := P) (b := b) (a := a) (k := k) (cs := cs) (w := w) (ops := ops) (i := j) (rest := List.range' (j + 1) l.length) (by rw [hoj]; simp [hw])
        rw [hoj] at this
        exact .one this
      obtain ⟨e1, e2, e3⟩ := ih (j + 1) r h w _ (a.put o.dst undef) hdr hr (ha.put o.dst (VR.of_plain r _ rfl)) hv
      refine ⟨e1, e2, ?_⟩
      rcases e3 with e3 | ⟨r2, a2, w2, f1, f2, f3, f4⟩
      · exact .inl (OG.of_steps hst e3)
      · exact .inr ⟨r2, a2, w2, f1, f2, by rw [f3]; cases o.dst <;> rfl, hst.trans f4⟩
end Ev
end Go.Proofs.YtilnneogbpnkkaaGreatDoor
/- What our own machine's run of code stands for; the simple kinds of code. -/
set_option maxRecDepth 10000
namespace Go.Proofs.YtilnneogbpnkkaaGreatDoor
namespace Ev
noncomputable section
variable {P : Program} {B : List Deferred} {r : Ren} {h : H} {w : World} {n : Nat} {t : T Value} {a : Act}
/-- The marks of ranges over functions, ahead of what was deferred before. -/
inductive DR (r : Ren) (B : List Deferred) : List Nat → List Deferred → Prop
  | nil : DR r B [] B
  | cons {x : Nat} {e : E} {D : List Nat} {ds : List Deferred} (h : r x = some e) (t : DR r B D ds) : DR r B (x :: D) ({ target := .collected e.blk, args := #[] } :: ds)
theorem DR.ext {r' : Ren} (hx : Ext r r') {D : List Nat} {ds : List Deferred} (hd : DR r B D ds) : DR r' B D ds := by
  induction hd with
  | nil => exact .nil
  | cons h _ ih => exact .cons (hx _ _ h) ih
/-- The round in which the code stands. -/
def RoR (r : Ren) : Option Nat → Option Nat → Prop
  | none, none => True
  | some l, some k => ∃ e, r l = some e ∧ e.blk = k
  | _, _ => False
theorem RoR.ext {r' : Ren} (hx : Ext r r') {ro ro' : Option Nat} (h : RoR r ro ro') : RoR r' ro ro' := by
  cases ro <;> cases ro' <;> first | exact h | (obtain ⟨e, q1, q2⟩ := h; exact ⟨e, hx _ _ q1, q2⟩)
/-- Where our run ends, the model's does. -/
def At (B : List Deferred) (r : Ren) (h : H) (w : World) (n : Nat) (x : Ex) (t' : T Value) (D' : List Nat) (h' : H) (x' : Ex) (a' : Act) (w' : World) : Prop :=
  x' = x ∧ ∃ r', Step r h w r' h' w' ∧ AR r' h' n t' a' ∧ DR r' B D' a'.defers
/-- A run of code; a loop stands in its round. -/
def RunsX (P : Program) (ro : Option Nat) (c : Code) (a : Act) (w : World) (Q : Ex → Act → World → Prop) : Prop :=
  match c with
  | .loop c => LoopRuns P ro c a w Q
  | c => Runs P ro c a w Q
theorem RunsX.runs {ro : Option Nat} {c : Code} {Q : Ex → Act → World → Prop} (h : RunsX P ro c a w Q) : Runs P ro c a w Q := by
  cases c <;> first | exact h | exact loop_runs h
def ExOk (P : Program) (ex : CodeF) : Prop := ∀ (ro : Option Nat) (n : Nat) (c : Code) (t : T Value) (D : List Nat) (h : H) (x : Ex) (t' : T Value) (D' : List Nat) (h' : H), ex ro n c t D h = .ok x t' D' h' →
  ∀ {B : List Deferred} (r : Ren) (w : World) (a : Act) (ro' : Option Nat), HR r h w → AR r h n t a → DR r B D a.defers → RoR r ro ro' → RunsX P ro' c a w (At B r h w n x t' D' h')
theorem At.step {r1 : Ren} {h1 : H} {w1 : World} (hs : Step r h w r1 h1 w1) {x : Ex} {t' : T Value} {D' : List Nat} {h' : H} {x' : Ex} {a' : Act} {w' : World} (ha : At B r1 h1 w1 n x t' D' h' x' a' w') : At B r h w n x t' D' h' x' a' w' := by
  obtain ⟨e, r2, q1, q2, q3⟩ := ha
  exact ⟨e, r2, hs.trans q1, q2, q3⟩
end
end Ev
end Go.Proofs.YtilnneogbpnkkaaGreatDoor
