/- Our own machine's ranges over functions are the model's. -/
import Derived.Test.YtmgiplaclgnooaaGreatDoorEvZK
set_option maxRecDepth 10000
namespace Go.Proofs.YtmgiplaclgnooaaGreatDoor
namespace Ev
noncomputable section
variable {P : Program} {r : Ren} {h : H} {w : World} {n : Nat} {t : T Value} {a : Act} {ex : CodeF} {ro ro' : Option Nat} {x : Ex} {t' : T Value} {D D' : List Nat} {h' : H}
theorem stepR_range {b : Frame} {k : List Item} {cs : List Frame} {g : Operand} {ps : Array Tmp} {assign body : Code} {l : Nat} {mark : List Deferred} {w₁ : World} {f : FuncId} {fi ca : Array Value}
    (he : (Instr.enterLoop b.fn a.tmps ps assign body b.roundOf).run P w = .ok (l, mark) w₁)
    (hg : a.eval g = .func (.func f) fi ca) (hb : ∃ fn, P.funcs[f]? = some fn ∧ fn.body.isNone = false ∧ (fn.name == "runtime.NumGoroutine") = false) :
    step P (lone (b.atR a (.code (.rangeFunc g ps assign body) :: k)) cs w) =
      .next (lone (Frame.enter P f (fi ++ #[.func (.yield l) #[] #[]] ++ ca) .normal) (b.atR { a with defers := mark ++ a.defers } (.inRangeFunc l :: k) :: cs) w₁) := by
  obtain ⟨fn, h1, h2, h3⟩ := hb
  have h2' : fn.body ≠ none := by intro e; rw [e] at h2; cases h2
  have h3' : fn.name ≠ "runtime.NumGoroutine" := by simpa using h3
  refine stepR_rangeFunc (d := { target := .fn (.func f) ca, args := fi ++ #[.func (.yield l) #[] #[]] }) (w₁' := w₁) he ?_ ?_
  · have hy : a.eval (.const (.func (.yield l) #[] #[])) = .func (.yield l) #[] #[] := rfl
    simp [resolve, rangeCall, hg, hy, Deferred.ofValue]
  · simp [invoke, callFunc, Sem.run_bind, h1, h2', h3', Sem.run, Result.andThen]
/-- What a range over a function finds ahead of its call. -/
structure Laid (P : Program) (r : Ren) (h : H) (w : World) (n : Nat) (t : T Value) (a : Act) (fn : FuncId) (ps : Array Tmp) (assign body : Code) (D : List Nat) (ro' : Option Nat) (l : Nat) (D' : List Nat) (h' : H) (r' : Ren) (lm : Nat) (mark : List Deferred) (w' : World) : Prop where
  he : (Instr.enterLoop fn a.tmps ps assign body ro').run P w = .ok (lm, mark) w'
  st : Step r h w r' h' w'
  rl : ∃ e, r' l = some e ∧ e.blk = lm
  lo : h'.lo ≤ l
  d : DR r' D' (mark ++ a.defers)
theorem laid_ok (hr : HR r h w) (ha : AR r h n t a) (hd : DR r D a.defers) {fn : FuncId} {ps : Array Tmp} {assign bd : Code} {d l : Nat} {D1 : List Nat} {h0 : H}
    (hv : (match ro with
        | none => some (2 * h.k, 2 * (h.k + 1), 2 * h.k :: D, { (h.set (2 * h.k) .dfr) with k := h.k + 1 })
        | some l => match h.get l with
          | some (.loop r _) => some (r.defers, 2 * h.k, D, h)
          | _ => none) = some (d, l, D1, h0)) (ho : RoR r ro ro') :
    ∃ r' lm mark w', Laid P r h w n t a fn ps assign bd D ro' l D1 { (h0.set l (.loop { state := .ready, pending := none, fn := 0, tmps := Array.replicate n undef, params := ps, assign, body := bd, defers := d } t)) with k := h0.k + 1 } r' lm mark w' := by
  have hlo := hr.lo
  cases ro with
  | none =>
    cases ro' with
    | some _ => exact ho.elim
    | none =>
      simp only [Option.some.injEq, Prod.mk.injEq] at hv
      obtain ⟨rfl, rfl, rfl, rfl⟩ := hv
      have s1 := new_other hr (b := .dfr) (ob := .deferred (some [])) (by show (w.heap.push _)[w.heap.size]? = _; simp)
      generalize hr1 : r.put (2 * h.k) ⟨w.heap.size, 0, 0, 0⟩ = r1 at s1
      have e1 : r1 (2 * h.k) = some ⟨w.heap.size, 0, 0, 0⟩ := by rw [← hr1]; exact put_self _ _ _
      have hx1 := s1.hr.new (2 * (h.k + 1)) (Nat.le_refl _)
      have s2 := new_other s1.hr (b := .loop { state := .ready, pending := none, fn := 0, tmps := Array.replicate n undef, params := ps, assign, body := bd, defers := 2 * h.k } t)
        (ob := .loop { state := .ready, pending := none, fn, tmps := a.tmps, params := ps, assign, body := bd, defers := w.heap.size })
        ⟨⟨w.heap.size, 0, 0, 0⟩, a.tmps, fn, Ren.put_ext hx1 _ _ e1, by show ((w.heap.push _).push _)[(w.heap.push _).size]? = _; rw [Array.getElem?_push_size], by simp [ha.n], (ha.t.ext s1.ext).ext (Ren.put_ext hx1)⟩
      refine ⟨_, w.heap.size + 1, [{ target := .collected w.heap.size, args := #[] }], _, run_enterLoop_outer fn a.tmps ps assign bd, s1.trans s2, ⟨_, put_self _ _ _, by simp⟩, ?_, ?_⟩
      · show h.lo ≤ 2 * (h.k + 1); omega
      · exact .cons (e := ⟨w.heap.size, 0, 0, 0⟩) (s2.ext _ _ e1) (hd.ext (s1.ext.trans s2.ext))
  | some l0 =>
    cases ro' with
    | none => exact ho.elim
    | some k0 =>
      obtain ⟨e0, he0, rfl⟩ := ho
      simp only at hv
      split at hv
      · rename_i r0 t0 hg
        simp only [Option.some.injEq, Prod.mk.injEq] at hv
        obtain ⟨rfl, rfl, rfl, rfl⟩ := hv
        obtain ⟨e', q1, q2, d0, tm0, fn0, q3, q4, q5, q6⟩ := hr.blk l0 _ hg
        rw [he0] at q1; cases q1
        have hx1 := hr.new (2 * h.k) (Nat.le_refl _)
        have s2 := new_other hr (b := .loop { state := .ready, pending := none, fn := 0, tmps := Array.replicate n undef, params := ps, assign, body := bd, defers := r0.defers } t)
          (ob := .loop { state := .ready, pending := none, fn, tmps := a.tmps, params := ps, assign, body := bd, defers := d0.blk })
          ⟨d0, a.tmps, fn, Ren.put_ext hx1 _ _ q3, by simp, by simp [ha.n], ha.t.ext (Ren.put_ext hx1)⟩
        exact ⟨_, _, _, _, run_enterLoop_inner q4 fn a.tmps ps assign bd, s2, ⟨_, put_self _ _ _, rfl⟩, hlo, hd.ext s2.ext⟩
      · cases hv
theorem body_rangeFunc (hcf : CfOk P (callF P ex)) {g : Operand} {ps : Array Tmp} {assign bd : Code} (hv : body P ex ro n (.rangeFunc g ps assign bd) t D h = .ok x t' D' h') (hr : HR r h w) (ha : AR r h n t a) (hd : DR r D a.defers) (ho : RoR r ro ro') :
    Runs P ro' (.rangeFunc g ps assign bd) a w (At r h w n x t' D' h') := by
  simp only [body] at hv
  split at hv
  · rename_i f fi ca hg
    have hg' := evO_ok hr ha hg
    split at hv
    · rename_i d l D1 h0 hq
      split at hv
      · rename_i v1 h1 hc
        intro b k cs hk hro
        obtain ⟨r2, lm, mark, w2, L⟩ := laid_ok (P := P) (fn := b.fn) (ps := ps) (assign := assign) (bd := bd) hr ha hd hq ho
        obtain ⟨e, el, rfl⟩ := L.rl
        generalize hz : a.eval g = z at hg'
        cases hg' with
        | func _ g1 g2 =>
          rename_i fi' ca' _
          obtain ⟨hf, hcall⟩ := hcf r2 _ w2 f _ (fi' ++ .func (.yield e.blk) #[] #[] :: ca') v1 h1 L.st.hr ((g1.ext L.st.ext).append (.cons (.yield el) (g2.ext L.st.ext))) hc
          have hst := stepR_range (P := P) (b := b) (a := a) (k := k) (cs := cs) (w := w) (by rw [hro]; exact L.he) hz hf
          have harg : ((⟨fi'⟩ : Array Value) ++ #[.func (.yield e.blk) #[] #[]] ++ ⟨ca'⟩) = (fi' ++ .func (.yield e.blk) #[] #[] :: ca').toArray := by simp
          rw [harg] at hst
          rcases calls_goes hcall (b.atR { a with defers := mark ++ a.defers } (.inRangeFunc e.blk :: k)) cs with hgo | ⟨v', w3, ⟨r3, s3, _⟩, hst2⟩
          · exact .inl (OG.of_steps (.one hst) hgo)
          rw [finish_atR_inRangeFunc] at hst2
          have hst3 := Steps.trans (.one hst) hst2
          split at hv
          · rename_i rec t0 hg1
            obtain ⟨e', p1, p2, dd, tm, fn, p3, p4, p5, p6⟩ := s3.hr.blk l _ hg1
            rw [s3.ext _ _ el] at p1; cases p1
            have key : ∀ (st : rec.state ≠ .busy), ∃ w4, Step r h w r3 (h1.set l (.loop { rec with state := .exhausted } t0)) w4 ∧
                Steps P (lone (b.atR a (.code (.rangeFunc g ps assign bd) :: k)) cs w) (lone (b.atR { a with defers := mark ++ a.defers } ((rec.pending.map Item.code).toList ++ k)) cs w4) := fun st =>
              ⟨_, (L.st.trans s3).trans (Step.putLoop s3.hr hg1 (s3.ext _ _ el) (by rw [s3.lo]; exact L.lo) (rec := { rec with state := .exhausted }) p3 p5 p6), hst3.trans (.one (stepR_endRangeFunc (run_endLoop p4 st)))⟩
            have hA : AR r3 (h1.set l (.loop { rec with state := .exhausted } t0)) n t { a with defers := mark ++ a.defers } := ⟨ha.t.ext (L.st.ext.trans s3.ext), ha.n⟩
            have hD := L.d.ext s3.ext
            split at hv
            · cases hv
            · rename_i hnb
              obtain ⟨w4, s4, hst4⟩ := key hnb
              split at hv
              · rename_i hp
                rw [hp] at hst4
                simp only [R.ok.injEq] at hv
                obtain ⟨rfl, rfl, rfl, rfl⟩ := hv
                exact .inr ⟨.normal, _, w4, ⟨rfl, r3, s4, hA, hD⟩, hst4⟩
              · rename_i hp
                rw [hp] at hst4
                simp only [R.ok.injEq] at hv
                obtain ⟨rfl, rfl, rfl, rfl⟩ := hv
                exact .inr ⟨.ret, _, w4, ⟨rfl, r3, s4, hA, hD⟩, k, hst4⟩
              · rename_i id hp
                rw [hp] at hst4
                simp only [R.ok.injEq] at hv
                obtain ⟨rfl, rfl, rfl, rfl⟩ := hv
                exact .inr ⟨.exit id, _, w4, ⟨rfl, r3, s4, hA, hD⟩, k, rfl, hst4⟩
              · cases hv
          · cases hv
      · cases hv
    · cases hv
  · cases hv
end
end Ev
end Go.Proofs.YtmgiplaclgnooaaGreatDoor
