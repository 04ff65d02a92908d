/- Our own machine's rounds of a range over a function are the model's. -/
import Derived.Test.YtmgiplaclgnooaaGreatDoorEvZJ
import Derived.RangeFuncNested
set_option maxRecDepth 10000
namespace Go.Proofs.YtmgiplaclgnooaaGreatDoor
namespace Ev
variable {P : Program} {r : Ren} {h : H} {w : World} {n : Nat} {t : T Value} {a : Act} {ex : CodeF}
theorem putAll_ok : ∀ (ps : List Tmp) (args args' : List Value) (t : T Value) (a : Act), AR r h n t a → VRL r args args' →
    AR r h n ((ps.zip args).foldl (fun t p => put n (some p.1) p.2 t) t) { a with tmps := (ps.zip args').foldl (fun tmps p => tmps.setIfInBounds p.1 p.2) a.tmps } := by
  intro ps
  induction ps with
  | nil => intro args args' t a ha _; simpa using ha
  | cons p ps ih =>
    intro args args' t a ha hl
    cases hl with
    | nil => simpa using ha
    | cons hv ht =>
      have := ih _ _ _ _ (ha.put (some p) hv) ht
      simpa [Act.put] using this
theorem BR.putLoop {x : Nat} {e : E} {rec : Loop} {tm : Array Value} {d : E} {fn : Nat} {t0 : T Value} (hd : r rec.defers = some d) (hsz : e.blk < w.heap.size) (hn : tm.size = rec.tmps.size) (ht : TR r t0 tm) :
    BR r x e (w.putObj e.blk (.loop { rec with tmps := tm, defers := d.blk, fn := fn })) (.loop rec t0) :=
  ⟨d, tm, fn, hd, World.putObj_heap_same hsz, hn, ht⟩
/-- The record of a range over a function is written. -/
theorem Step.putLoop (hr : HR r h w) {l : Nat} {e : E} {b : Blk} (hl : h.get l = some b) (he : r l = some e) (hlo : h.lo ≤ l) {rec : Loop} {tm : Array Value} {d : E} {fn : Nat} {t0 : T Value}
    (hd : r rec.defers = some d) (hn : tm.size = rec.tmps.size) (ht : TR r t0 tm) :
    Step r h w r (h.set l (.loop rec t0)) (w.putObj e.blk (.loop { rec with tmps := tm, defers := d.blk, fn := fn })) := by
  have hsz : e.blk < w.heap.size := by obtain ⟨f, h1, h2, _⟩ := hr.blk l b hl; rw [he] at h1; cases h1; exact h2
  exact HR.set_ hr hl he hlo (by simp [World.putObj]) (fun k hk => World.putObj_heap_other hk) rfl rfl rfl (BR.putLoop hd hsz hn ht)
theorem yieldF_ok (hex : ExOk P ex) : YfOk P (yieldF ex) := by
  intro r h w l e args args' v h' hr he hl hv
  unfold yieldF at hv
  split at hv
  · rename_i r0 t0 h0
    split at hv
    · rename_i hst
      obtain ⟨hc, hv⟩ := bif_some hv
      simp only [Bool.and_eq_true] at hc
      have hlen := Nat.eq_of_beq_eq_true hc.1
      have hlo := Nat.le_of_ble_eq_true hc.2
      obtain ⟨e', q1, q2, d0, tm0, fn0, q3, q4, q5, q6⟩ := hr.blk l _ h0
      rw [he] at q1; cases q1
      rw [run_yield q4 (by simp [hl.length, hlen])]
      intro c cs
      let b : Frame := { (default : Frame) with fn := fn0, kind := .normal, roundOf := some e.blk }
      split at hv
      · rename_i t1 h1 hx1
        have hA := putAll_ok (h := h) (n := r0.tmps.size) r0.params.toList args args' t0 { tmps := tm0, defers := [] } ⟨q6, q5⟩ hl
        have hfr : Frame.round e.blk fn0 ((r0.params.zip args'.toArray).foldl (fun tmps (t, a) => tmps.setIfInBounds t a) tm0) r0.assign r0.body .normal =
            b.atR { tmps := (r0.params.toList.zip args').foldl (fun tmps p => tmps.setIfInBounds p.1 p.2) tm0, defers := [] } [.code r0.assign, .beginRound, .code r0.body] := by
          have : (r0.params.zip args'.toArray).foldl (fun tmps (t, a) => tmps.setIfInBounds t a) tm0 = (r0.params.toList.zip args').foldl (fun tmps p => tmps.setIfInBounds p.1 p.2) tm0 := by
            rw [← Array.foldl_toList]
            simp [Array.toList_zip]
          rw [this]
          simp [Frame.round, Frame.atR, b]
        rw [show (Frame.round e.blk fn0 ((r0.params.zip args'.toArray).foldl (fun tmps (t, a) => tmps.setIfInBounds t a) tm0) r0.assign r0.body .normal) = _ from hfr]
        have hgo := (hex _ _ _ _ _ _ _ _ _ _ hx1 r w _ (some e.blk) hr hA .nil ⟨e, he, rfl⟩).runs b [.beginRound, .code r0.body] (c :: cs) rfl rfl
        rcases hgo with hgo | ⟨x', a1, w1, ⟨rfl, r1, s1, A1, d1⟩, harr⟩
        · exact .inl hgo
        split at hv
        · rename_i rec1 t01 hg1
          split at hv
          · rename_i hst1
            obtain ⟨e1, p1, p2, dd1, tm1, fn1, p3, p4, p5, p6⟩ := s1.hr.blk l _ hg1
            rw [s1.ext _ _ he] at p1; cases p1
            have hbr := run_beginRound (P := P) p4 hst1
            have s2 : Step r1 h1 w1 r1 (h1.set l (.loop { rec1 with state := .busy } t01)) (w1.putObj e.blk (.loop { ({ rec1 with state := .busy } : Loop) with tmps := tm1, defers := dd1.blk, fn := fn1 })) :=
              Step.putLoop s1.hr hg1 (s1.ext _ _ he) (by rw [s1.lo]; exact hlo) (rec := { rec1 with state := .busy }) p3 p5 p6
            have hst2 : Steps P (lone (b.atR { tmps := (r0.params.toList.zip args').foldl (fun tmps p => tmps.setIfInBounds p.1 p.2) tm0, defers := [] } [.code r0.assign, .beginRound, .code r0.body]) (c :: cs) w)
                (lone (b.atR a1 [.code r0.body]) (c :: cs) (w1.putObj e.blk (.loop { ({ rec1 with state := .busy } : Loop) with tmps := tm1, defers := dd1.blk, fn := fn1 }))) :=
              Steps.trans harr (.one (stepR_beginRound rfl hbr))
            split at hv
            · rename_i x t2 h2 hx2
              have hgo := (hex _ _ _ _ _ _ _ _ _ _ hx2 r1 _ a1 (some e.blk) s2.hr ⟨A1.t, A1.n⟩ d1 ⟨e, s1.ext _ _ he, rfl⟩).runs b [] (c :: cs) rfl rfl
              rcases hgo with hgo | ⟨x', a2, w2, ⟨rfl, r2, s3, A2, d2⟩, harr⟩
              · exact .inl (OG.of_steps hst2 hgo)
              split at hv
              · rename_i rec2 t02 hg2
                obtain ⟨e2, o1, o2, dd2, tm2, fn2, o3, o4, o5, o6⟩ := s3.hr.blk l _ hg2
                have he2 : r2 l = some e := s3.ext _ _ (s1.ext _ _ he)
                rw [he2] at o1; cases o1
                have hlo2 : h2.lo ≤ l := by rw [s3.lo, s2.lo, s1.lo]; exact hlo
                have key : ∀ (jump : Option Code) (st : LoopState) (m : Machine), st = (if jump.isNone then .ready else .done) →
                    (∀ v w', (Instr.endRound e.blk jump).run P w2 = .ok v w' → Steps P m (lone (c.finish v) cs w')) →
                    Steps P (lone (b.atR a1 [.code r0.body]) (c :: cs) (w1.putObj e.blk (.loop { ({ rec1 with state := .busy } : Loop) with tmps := tm1, defers := dd1.blk, fn := fn1 }))) m →
                    some (Value.bool jump.isNone, h2.set l (.loop { rec2 with state := st, pending := jump } t02)) = some (v, h') →
                    ∃ v' w', Kt r h w v h' v' w' ∧ Steps P (lone (b.atR { tmps := (r0.params.toList.zip args').foldl (fun tmps p => tmps.setIfInBounds p.1 p.2) tm0, defers := [] } [.code r0.assign, .beginRound, .code r0.body]) (c :: cs) w) (lone (c.finish v') cs w') := by
                  intro jump st m hs hm hsteps hvv
                  have hend := run_endRound (P := P) jump o4
                  simp only [Option.some.injEq, Prod.mk.injEq] at hvv
                  obtain ⟨rfl, rfl⟩ := hvv
                  refine ⟨_, _, ⟨r2, s1.trans (s2.trans (s3.trans ?_)), .bool _⟩, hst2.trans (hsteps.trans (hm _ _ hend))⟩
                  subst hs
                  exact Step.putLoop s3.hr hg2 he2 hlo2 (rec := { rec2 with state := if jump.isNone then .ready else .done, pending := jump }) o3 o5 o6
                cases x' with
                | normal => exact .inr (key none .ready _ rfl (fun v w' q => .one (stepR_round_end rfl rfl q)) harr hv)
                | ret => obtain ⟨k', hk⟩ := harr; exact .inr (key (some .ret) .done _ rfl (fun v w' q => .one (stepR_round_ret rfl rfl q)) hk hv)
                | exit id => obtain ⟨k', hk', hk⟩ := harr; exact .inr (key (some (.exit id)) .done _ rfl (fun v w' q => .one (stepR_round_exit rfl rfl (by rw [hk']; rfl) q)) hk hv)
              · cases hv
            · cases hv
          · cases hv
        · cases hv
      · cases hv
    · cases hv
  · cases hv
end Ev
end Go.Proofs.YtmgiplaclgnooaaGreatDoor
