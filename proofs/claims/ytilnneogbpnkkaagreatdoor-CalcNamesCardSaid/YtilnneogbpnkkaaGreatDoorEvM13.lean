/- Regions that draw: what a run in our order tells of each operation. -/
import Derived.Test.YtilnneogbpnkkaaGreatDoorEvM12
set_option maxRecDepth 10000
namespace Go.Proofs.YtilnneogbpnkkaaGreatDoor
namespace Ev
noncomputable section
variable {P : Program} {cf yf : CallF} {n : Nat} {L : List Oper} {b : List Nat} {k0 : Nat} {h0 : H}
/-- One operation of a run. -/
def StepD (P : Program) (cf yf : CallF) (L : List Oper) (b : List Nat) (k0 : Nat) (h0 : H) (i : Nat) (o : Oper) (t : T Value) (h hs : H) (als : List (Nat × Nat × Blk)) (old : List (Nat × H)) (v : Value) (h' hs' : H) (als' : List (Nat × Nat × Blk)) (old' : List (Nat × H)) : Prop :=
  (isE P o = true ∧ wants L t o = true ∧ ef P cf yf t o h = some (v, h') ∧ hs' = h' ∧ als' = [] ∧ old' = (i, hs) :: old) ∨
  (isE P o = true ∧ wants L t o = false ∧ v = undef ∧ h' = h ∧ hs' = h ∧ als' = [] ∧ old' = (i, hs) :: old) ∨
  (isE P o = false ∧ wants L t o = true ∧ kind P o = 0 ∧ looksMem o = true ∧ rd P (addB (b.getD i 0) als hs) t o = some v ∧ sameAt P t o (b.getD i 0) v old = true ∧ h' = h ∧ hs' = hs ∧ als' = als ∧ old' = old) ∨
  (isE P o = false ∧ wants L t o = true ∧ kind P o = 0 ∧ looksMem o = false ∧ rd P h0 t o = some v ∧ h' = h ∧ hs' = hs ∧ als' = als ∧ old' = old) ∨
  (isE P o = false ∧ wants L t o = true ∧ kind P o ≠ 0 ∧ (∃ bl q mk, al P h0 t o = some (bl, q, mk) ∧ v = mk (idAt k0 i q) ∧ h' = h.set (idAt k0 i q) bl ∧ als' = (i, idAt k0 i q, bl) :: als) ∧ hs' = hs ∧ old' = old) ∨
  (isE P o = false ∧ wants L t o = false ∧ v = undef ∧ h' = h ∧ hs' = hs ∧ als' = als ∧ old' = old)
theorem runD_cons {i : Nat} {l : List Nat} {t : T Value} {h hs : H} {als : List (Nat × Nat × Blk)} {old : List (Nat × H)} {T' : T Value} {hF : H} (hv : runD P cf yf n L b k0 h0 (i :: l) t h hs als old = some (T', hF)) :
    ∃ o v h' hs' als' old', L[i]? = some o ∧ jg L t o = false ∧ StepD P cf yf L b k0 h0 i o t h hs als old v h' hs' als' old' ∧ runD P cf yf n L b k0 h0 l (put n o.dst v t) h' hs' als' old' = some (T', hF) := by
  rw [runD] at hv
  split at hv
  · cases hv
  · rename_i o ho
    cases hjg : jg L t o with
    | true => rw [hjg] at hv; cases hv
    | false =>
    rw [hjg] at hv
    simp only [cond_false] at hv
    cases hE : isE P o with
    | true =>
      rw [hE] at hv
      simp only [cond_true] at hv
      cases hw : wants L t o with
      | true =>
        rw [hw] at hv
        simp only [cond_true] at hv
        split at hv
        · rename_i v h' he
          exact ⟨o, v, h', h', _, _, ho, hjg, .inl ⟨hE, hw, he, rfl, rfl, rfl⟩, hv⟩
        · cases hv
      | false =>
        rw [hw] at hv
        simp only [cond_false] at hv
        exact ⟨o, undef, h, h, _, _, ho, hjg, .inr (.inl ⟨hE, hw, rfl, rfl, rfl, rfl, rfl⟩), hv⟩
    | false =>
      rw [hE] at hv
      simp only [cond_false] at hv
      cases hw : wants L t o with
      | true =>
        rw [hw] at hv
        simp only [cond_true] at hv
        cases hk : Nat.beq (kind P o) 0 with
        | true =>
          rw [hk] at hv
          simp only [cond_true] at hv
          have hk := Nat.eq_of_beq_eq_true hk
          cases hm : looksMem o with
          | true =>
            rw [hm] at hv
            simp only [cond_true] at hv
            split at hv
            · rename_i v hr
              obtain ⟨hs1, hv⟩ := bif_some hv
              exact ⟨o, v, h, hs, als, old, ho, hjg, .inr (.inr (.inl ⟨hE, hw, hk, hm, hr, hs1, rfl, rfl, rfl, rfl⟩)), hv⟩
            · cases hv
          | false =>
            rw [hm] at hv
            simp only [cond_false] at hv
            split at hv
            · rename_i v hr
              exact ⟨o, v, h, hs, als, old, ho, hjg, .inr (.inr (.inr (.inl ⟨hE, hw, hk, hm, hr, rfl, rfl, rfl, rfl⟩))), hv⟩
            · cases hv
        | false =>
          rw [hk] at hv
          simp only [cond_false] at hv
          have hk := ne_of_beq hk
          split at hv
          · rename_i bl q mk ha
            exact ⟨o, _, _, hs, _, old, ho, hjg, .inr (.inr (.inr (.inr (.inl ⟨hE, hw, hk, ⟨bl, q, mk, ha, rfl, rfl, rfl⟩, rfl, rfl⟩)))), hv⟩
          · cases hv
      | false =>
        rw [hw] at hv
        simp only [cond_false] at hv
        exact ⟨o, undef, h, hs, als, old, ho, hjg, .inr (.inr (.inr (.inr (.inr ⟨hE, hw, rfl, rfl, rfl, rfl, rfl⟩)))), hv⟩
theorem put_other {t : T Value} {dst : Option Tmp} {v : Value} {d : Nat} (hd : dst ≠ some d) : (put n dst v t).get (d + 1) = t.get (d + 1) := by
  cases dst with
  | none => rfl
  | some e =>
    simp only [put]
    cases hb : Nat.blt e n with
    | false => rfl
    | true =>
      rw [cond_true, T.set_get _ _ _ _ (by omega), if_neg]
      intro q
      have q := Nat.add_right_cancel q
      exact hd (by rw [q])
theorem put_far {t : T Value} {dst : Option Tmp} {v : Value} {d : Nat} (hd : n ≤ d) : (put n dst v t).get (d + 1) = t.get (d + 1) := by
  cases dst with
  | none => rfl
  | some e =>
    simp only [put]
    cases hb : Nat.blt e n with
    | false => rfl
    | true =>
      have hlt : e < n := Nat.le_of_ble_eq_true hb
      rw [cond_true, T.set_get _ _ _ _ (by omega), if_neg]
      intro q
      have q := Nat.add_right_cancel q
      subst q
      exact absurd hlt (Nat.not_lt.2 hd)
theorem put_here {t : T Value} {v : Value} {d : Nat} (hd : d < n) : (put n (some d) v t).get (d + 1) = some v := by
  simp only [put]
  have : Nat.blt d n = true := Nat.ble_eq_true_of_le hd
  rw [this, cond_true, T.set_get _ _ _ _ (by omega), if_pos rfl]
/-- What comes later leaves other temporaries alone. -/
theorem runD_T : ∀ (l : List Nat) (t : T Value) (h hs : H) (als : List (Nat × Nat × Blk)) (old : List (Nat × H)) {T' : T Value} {hF : H}, runD P cf yf n L b k0 h0 l t h hs als old = some (T', hF) →
    ∀ d, ((∀ i ∈ l, ∀ o, L[i]? = some o → o.dst ≠ some d) ∨ n ≤ d) → T'.get (d + 1) = t.get (d + 1) := by
  intro l
  induction l with
  | nil =>
    intro t h hs als old T' hF hv d _
    simp only [runD, Option.some.injEq, Prod.mk.injEq] at hv
    rw [hv.1]
  | cons i l ih =>
    intro t h hs als old T' hF hv d hd
    obtain ⟨o, v, h', hs', als', old', ho, _, _, hr⟩ := runD_cons hv
    rcases hd with hd | hd
    · rw [ih _ _ _ _ _ hr d (.inl fun j hj => hd j (by simp [hj])), put_other (hd i (by simp) o ho)]
    · rw [ih _ _ _ _ _ hr d (.inr hd), put_far hd]
/-- The block that an operation makes. -/
def alT (P : Program) (L : List Oper) (k0 : Nat) (h0 : H) (R : Nat → T Value) (i : Nat) : Option (Nat × Blk) :=
  match L[i]? with
  | none => none
  | some o => bif !isE P o && wants L (R i) o && !Nat.beq (kind P o) 0 then
      match al P h0 (R i) o with
      | some (bl, q, _) => some (idAt k0 i q, bl)
      | none => none
    else none
def addAl (P : Program) (L : List Oper) (k0 : Nat) (h0 : H) (R : Nat → T Value) : List Nat → H → H
  | [], h => h
  | i :: l, h => addAl P L k0 h0 R l (match alT P L k0 h0 R i with | some (x, bl) => h.set x bl | none => h)
theorem addAl_append {R : Nat → T Value} : ∀ (l m : List Nat) (h : H), addAl P L k0 h0 R (l ++ m) h = addAl P L k0 h0 R m (addAl P L k0 h0 R l h) := by
  intro l
  induction l with
  | nil => intro m h; rfl
  | cons i l ih => intro m h; simp only [List.cons_append, addAl]; exact ih m _
/-- The blocks made since a stage began. -/
inductive AlsR (P : Program) (L : List Oper) (k0 : Nat) (h0 : H) (R : Nat → T Value) : List (Nat × Nat × Blk) → List Nat → Prop
  | nil : AlsR P L k0 h0 R [] []
  | none {als : List (Nat × Nat × Blk)} {pr : List Nat} {i : Nat} (h : AlsR P L k0 h0 R als pr) (hi : alT P L k0 h0 R i = none) : AlsR P L k0 h0 R als (pr ++ [i])
  | some {als : List (Nat × Nat × Blk)} {pr : List Nat} {i x : Nat} {bl : Blk} (h : AlsR P L k0 h0 R als pr) (hi : alT P L k0 h0 R i = some (x, bl)) : AlsR P L k0 h0 R ((i, x, bl) :: als) (pr ++ [i])
theorem AlsR.addB {R : Nat → T Value} {als : List (Nat × Nat × Blk)} {pr : List Nat} (h : AlsR P L k0 h0 R als pr) (m : Nat) (hs : H) : addB m als hs = addAl P L k0 h0 R (pr.filter fun j => m.testBit j) hs := by
  induction h with
  | nil => rfl
  | none h hi ih =>
    rename_i als pr i
    rw [ih, List.filter_append, addAl_append]
    cases hm : m.testBit i <;> simp [hm, addAl, hi]
  | some h hi ih =>
    rename_i als pr i x bl
    rw [List.filter_append, addAl_append]
    cases hm : m.testBit i <;> simp [hm, Ev.addB, ih, addAl, hi]
/-- A temporary holds what its operation left. -/
def Tv (n : Nat) (T' : T Value) (o : Oper) (v : Value) : Prop := ∀ d, o.dst = some d → d < n → T'.get (d + 1) = some v
/-- What is known of an operation that does no more than look or make a block. -/
def Fs (P : Program) (n : Nat) (L : List Oper) (k0 : Nat) (h0 : H) (T' : T Value) (R : Nat → T Value) (i : Nat) (o : Oper) (b : List Nat) (pr : List Nat) (hs : H) : Prop :=
  (wants L (R i) o = false ∧ Tv n T' o undef) ∨
  (wants L (R i) o = true ∧ kind P o = 0 ∧ ∃ v, Tv n T' o v ∧ (looksMem o = false → rd P h0 (R i) o = some v) ∧ (looksMem o = true → ∃ js : List Nat, js.Nodup ∧ (∀ j ∈ js, j ∈ pr ∧ (b.getD i 0).testBit j = true) ∧ rd P (addAl P L k0 h0 R js hs) (R i) o = some v)) ∨
  (wants L (R i) o = true ∧ kind P o ≠ 0 ∧ ∃ bl q mk, al P h0 (R i) o = some (bl, q, mk) ∧ Tv n T' o (mk (idAt k0 i q)))
/-- What an operation turns. -/
theorem Pl.put (_hdst : dstOk L b = true) {T0 t : T Value} {M : Nat} (h : Pl L b T0 (fun d => M.testBit d = true) t) {i : Nat} {o : Oper} (ho : L[i]? = some o) (hb : ∀ d, (b.getD i 0).testBit d = true → M.testBit d = true) (v : Value) :
    Pl L b T0 (fun d => (M ||| 2 ^ i).testBit d = true) (put n o.dst v t) := by
  refine ⟨fun x hx d hd => testBit_put.2 (.inl ?_), fun d hd => ?_⟩
  · rcases testBit_put.1 hx with q | rfl
    · exact h.cl x q d hd
    · exact hb d hd
  · rw [put_other (hd i (testBit_put.2 (.inr rfl)) o ho)]
    exact h.un d fun j hj => hd j (testBit_put.2 (.inl hj))
/-- At an operation's place in our order, the temporaries that it looks at are as told, its own as at the end. -/
theorem at_place (hdst : dstOk L b = true) {T0 : T Value} {R : Nat → T Value} {i : Nat} {l : List Nat} {M : Nat} (hord : ordOk P L b (i :: l) M = true) {t : T Value} {h hs : H} {als : List (Nat × Nat × Blk)} {old : List (Nat × H)} {T' : T Value} {hF : H} (hR : RefOk L b T0 T' R) (hpl : Pl L b T0 (fun d => M.testBit d = true) t) (hv : runD P cf yf n L b k0 h0 (i :: l) t h hs als old = some (T', hF)) :
    ∃ o v h' hs' als' old', L[i]? = some o ∧ StepD P cf yf L b k0 h0 i o t h hs als old v h' hs' als' old' ∧ runD P cf yf n L b k0 h0 l (put n o.dst v t) h' hs' als' old' = some (T', hF) ∧ Agree L o t (R i) ∧ jg L (R i) o = false ∧ Tv n T' o v ∧ Pl L b T0 (fun d => (M ||| 2 ^ i).testBit d = true) (put n o.dst v t) := by
  obtain ⟨o, v, h', hs', als', old', ho, hjg, hst, hr⟩ := runD_cons hv
  obtain ⟨o', ho', hM, hb, _, hord'⟩ := ordOk_cons hord
  rw [ho] at ho'; cases ho'
  have hag : Agree L o t (R i) := by
    intro d hd
    obtain ⟨r1, r2⟩ := hR i o ho d hd
    by_cases hex : ∃ j p, L[j]? = some p ∧ p.dst = some d ∧ (b.getD i 0).testBit j = false
    · obtain ⟨j, p, hj, hp, hbj⟩ := hex
      rw [r1 j p hj hp hbj]
      have hji : (b.getD j 0).testBit i = true := by
        rcases (dstOk_spec hdst ho hj hp).2 hd with q | q
        · rw [hbj] at q; cases q
        · exact q
      refine hpl.un d fun x hx p' hp' hpd => ?_
      have hxj := (dstOk_spec hdst hp' hj hp).1 hpd
      subst hxj
      have := hpl.cl x hx i hji
      rw [hM] at this
      cases this
    · have hall : ∀ j p, L[j]? = some p → p.dst = some d → (b.getD i 0).testBit j = true := fun j p hj hp => by
        cases hq : (b.getD i 0).testBit j with
        | true => rfl
        | false => exact absurd ⟨j, p, hj, hp, hq⟩ hex
      rw [r2 hall]
      refine (runD_T _ _ _ _ _ _ hv d (.inl fun j hj p hp hpd => ?_)).symm
      have := hb j (hall j p hp hpd)
      rw [ordOk_fresh _ _ hord j hj] at this
      cases this
  refine ⟨o, v, h', hs', als', old', ho, hst, hr, hag, hag.jg ▸ hjg, fun d hd hlt => ?_, hpl.put hdst ho hb v⟩
  · rw [runD_T _ _ _ _ _ _ hr d (.inl fun j hj p hp hpd => ?_), hd, put_here hlt]
    have := (dstOk_spec hdst ho hp hpd).1 hd
    subst this
    have := ordOk_fresh _ _ hord' i hj
    rw [testBit_put.2 (.inr rfl)] at this
    cases this
theorem sameAt_all {t : T Value} {o : Oper} {m : Nat} {v : Value} : ∀ (old : List (Nat × H)), sameAt P t o m v old = true → ∀ j h, (j, h) ∈ old → m.testBit j = false → rd P h t o = some v := by
  intro old
  induction old with
  | nil => intro _ j h hj; cases hj
  | cons x old ih =>
    intro hs j h hj hm
    obtain ⟨j0, hh⟩ := x
    simp only [sameAt, Bool.and_eq_true, Bool.or_eq_true] at hs
    cases hj with
    | head =>
      rcases hs.1 with q | q
      · rw [hm] at q; cases q
      · split at q
        · rename_i u hu
          rw [hu, veq_eq _ _ q]
        · cases q
    | tail _ hj => exact ih hs.2 j h hj hm
theorem foresee_gen (hdst : dstOk L b = true) {T0 : T Value} {R : Nat → T Value} {i : Nat} {o : Oper} (ho : L[i]? = some o) (hE : isE P o = false) {l2 : List Nat} {T' : T Value} {hF : H} (hR : RefOk L b T0 T' R) : ∀ (l1 : List Nat) (M : Nat) (t : T Value) (h hs : H) (als : List (Nat × Nat × Blk)) (old : List (Nat × H)) (pr : List Nat),
    ordOk P L b (l1 ++ i :: l2) M = true → Pl L b T0 (fun d => M.testBit d = true) t → (pr ++ l1).Nodup → AlsR P L k0 h0 R als pr → (∀ j ∈ l1, ∀ p, L[j]? = some p → isE P p = true → (b.getD i 0).testBit j = false) → runD P cf yf n L b k0 h0 (l1 ++ i :: l2) t h hs als old = some (T', hF) → jg L (R i) o = false ∧ (
    (wants L (R i) o = false ∧ Tv n T' o undef) ∨
    (wants L (R i) o = true ∧ kind P o = 0 ∧ ∃ v, Tv n T' o v ∧ (looksMem o = false → rd P h0 (R i) o = some v) ∧
      (looksMem o = true → (∃ js : List Nat, js.Nodup ∧ (∀ j ∈ js, j ∈ pr ++ l1 ∧ (b.getD i 0).testBit j = true) ∧ rd P (addAl P L k0 h0 R js hs) (R i) o = some v) ∧ ∀ j hh, (j, hh) ∈ old → (b.getD i 0).testBit j = false → rd P hh (R i) o = some v)) ∨
    (wants L (R i) o = true ∧ kind P o ≠ 0 ∧ ∃ bl q mk, al P h0 (R i) o = some (bl, q, mk) ∧ Tv n T' o (mk (idAt k0 i q)))) := by
  intro l1
  induction l1 with
  | nil =>
    intro M t h hs als old pr hord hpl hnd hals _ hv
    obtain ⟨o', v, h', hs', als', old', ho', hst, _, hag, hjg, htv, _⟩ := at_place hdst hord hR hpl hv
    rw [ho] at ho'; cases ho'
    have hw := hag.wants
    have hop := hag.op
    refine ⟨hjg, ?_⟩
    rcases hst with ⟨e, _⟩ | ⟨e, _⟩ | ⟨_, w1, k1, m1, r1, s1, _⟩ | ⟨_, w1, k1, m1, r1, _⟩ | ⟨_, w1, k1, ⟨bl, q, mk, a1, v1, _⟩, _⟩ | ⟨_, w1, v1, _⟩
    · rw [hE] at e; cases e
    · rw [hE] at e; cases e
    · refine .inr (.inl ⟨hw ▸ w1, k1, v, htv, fun q => (by rw [m1] at q; cases q), fun _ => ⟨⟨pr.filter fun j => (b.getD i 0).testBit j, ?_, fun j hj => ?_, ?_⟩, fun j hh hj hm => by rw [← rd_same hop]; exact sameAt_all _ s1 j hh hj hm⟩⟩)
      · rw [List.append_nil] at hnd; exact hnd.filter _
      · rw [List.mem_filter] at hj; exact ⟨by simp [hj.1], hj.2⟩
      · rw [← hals.addB, ← rd_same hop]; exact r1
    · exact .inr (.inl ⟨hw ▸ w1, k1, v, htv, fun _ => by rw [← rd_same hop]; exact r1, fun q => (by rw [m1] at q; cases q)⟩)
    · exact .inr (.inr ⟨hw ▸ w1, k1, bl, q, mk, by rw [← al_same hop]; exact a1, v1 ▸ htv⟩)
    · exact .inl ⟨hw ▸ w1, v1 ▸ htv⟩
  | cons j l1 ih =>
    intro M t h hs als old pr hord hpl hnd hals hfree hv
    obtain ⟨p, v, h', hs', als', old', hp, hst, hr, hag, _, _, hpl'⟩ := at_place hdst hord hR hpl hv
    obtain ⟨_, _, _, _, _, hord'⟩ := ordOk_cons hord
    cases hEp : isE P p with
    | false =>
      have hw := hag.wants
      have hop := hag.op
      have key : AlsR P L k0 h0 R als' (pr ++ [j]) ∧ hs' = hs ∧ old' = old := by
        rcases hst with ⟨e, _⟩ | ⟨e, _⟩ | ⟨_, w1, k1, _, _, _, _, q1, q2, q3⟩ | ⟨_, w1, k1, _, _, _, q1, q2, q3⟩ | ⟨_, w1, k1, ⟨bl, q, mk, a1, _, _, q2⟩, q1, q3⟩ | ⟨_, w1, _, _, q1, q2, q3⟩
        · rw [hEp] at e; cases e
        · rw [hEp] at e; cases e
        · subst q2; exact ⟨.none hals (by simp [alT, hp, hEp, ← hw, w1, k1]), q1, q3⟩
        · subst q2; exact ⟨.none hals (by simp [alT, hp, hEp, ← hw, w1, k1]), q1, q3⟩
        · subst q2; rw [al_same hop] at a1; exact ⟨.some hals (by simp [alT, hp, hEp, ← hw, w1, beqF k1, a1]), q1, q3⟩
        · subst q2; exact ⟨.none hals (by simp [alT, hp, hEp, ← hw, w1]), q1, q3⟩
      obtain ⟨k1, rfl, rfl⟩ := key
      have := ih _ _ h' hs' als' old' (pr ++ [j]) hord' hpl' (by simpa using hnd) k1 (fun x hx => hfree x (by simp [hx])) hr
      simpa using this
    | true =>
      have key : als' = [] ∧ old' = (j, hs) :: old := by
        rcases hst with ⟨_, _, _, _, q1, q2⟩ | ⟨_, _, _, _, _, q1, q2⟩ | ⟨e', _⟩ | ⟨e', _⟩ | ⟨e', _⟩ | ⟨e', _⟩ <;> first | (rw [hEp] at e'; cases e') | exact ⟨q1, q2⟩
      obtain ⟨rfl, rfl⟩ := key
      have hnd' : ([] ++ l1).Nodup := by
        have := (List.nodup_append.1 hnd).2.1
        simpa using (List.nodup_cons.1 this).2
      obtain ⟨hjg, hih⟩ := ih _ _ h' hs' [] _ [] hord' hpl' hnd' .nil (fun x hx => hfree x (by simp [hx])) hr
      refine ⟨hjg, ?_⟩
      rcases hih with hx | ⟨w1, k1, v1, t1, m1, m2⟩ | hx
      · exact .inl hx
      · exact .inr (.inl ⟨w1, k1, v1, t1, m1, fun hm => ⟨⟨[], List.nodup_nil, by simp, (m2 hm).2 j hs (by simp) (hfree j (by simp) p hp hEp)⟩, fun j' hh hj => (m2 hm).2 j' hh (by simp [hj])⟩⟩)
      · exact .inr (.inr hx)
theorem foresee (hdst : dstOk L b = true) {T0 : T Value} {R : Nat → T Value} {i : Nat} {o : Oper} (ho : L[i]? = some o) (hE : isE P o = false) {l1 l2 : List Nat} {T' : T Value} {hF : H} {M : Nat} {t : T Value} {h hs : H} {old : List (Nat × H)}
    (hR : RefOk L b T0 T' R) (hord : ordOk P L b (l1 ++ i :: l2) M = true) (hpl : Pl L b T0 (fun d => M.testBit d = true) t) (hnd : l1.Nodup) (hfree : ∀ j ∈ l1, ∀ p, L[j]? = some p → isE P p = true → (b.getD i 0).testBit j = false) (hv : runD P cf yf n L b k0 h0 (l1 ++ i :: l2) t h hs [] old = some (T', hF)) :
    jg L (R i) o = false ∧ Fs P n L k0 h0 T' R i o b l1 hs := by
  obtain ⟨hjg, hfg⟩ := foresee_gen hdst ho hE hR l1 M t h hs [] old [] hord hpl (by simpa using hnd) .nil hfree hv
  refine ⟨hjg, ?_⟩
  rcases hfg with hx | ⟨w1, k1, v1, t1, m1, m2⟩ | hx
  · exact .inl hx
  · exact .inr (.inl ⟨w1, k1, v1, t1, m1, fun hm => by simpa using (m2 hm).1⟩)
  · exact .inr (.inr hx)
/-- Our run goes on over operations that do no more than look or make a block. -/
theorem advance (hdst : dstOk L b = true) {T0 : T Value} {R : Nat → T Value} {l2 : List Nat} {T' : T Value} {hF : H} (hR : RefOk L b T0 T' R) : ∀ (l1 : List Nat) (M : Nat) (t : T Value) (h hs : H) (als : List (Nat × Nat × Blk)) (old : List (Nat × H)), ordOk P L b (l1 ++ l2) M = true → Pl L b T0 (fun d => M.testBit d = true) t →
    (∀ x ∈ l1, ∀ o, L[x]? = some o → isE P o = false) → runD P cf yf n L b k0 h0 (l1 ++ l2) t h hs als old = some (T', hF) →
    ∃ t1 als', runD P cf yf n L b k0 h0 l2 t1 (addAl P L k0 h0 R l1 h) hs als' old = some (T', hF) ∧ Pl L b T0 (fun d => M.testBit d = true ∨ d ∈ l1) t1 := by
  intro l1
  induction l1 with
  | nil => intro M t h hs als old _ hpl _ hv; exact ⟨t, als, hv, hpl.congr (by simp)⟩
  | cons i l1 ih =>
    intro M t h hs als old hord hpl hE hv
    obtain ⟨o, v, h', hs', als', old', ho, hst, hr, hag, hjg, htv, hpl'⟩ := at_place hdst hord hR hpl hv
    obtain ⟨_, _, _, _, _, hord'⟩ := ordOk_cons hord
    have hEo := hE i (by simp) o ho
    have hw := hag.wants
    have hop := hag.op
    have key : h' = (match alT P L k0 h0 R i with | some (x, bl) => h.set x bl | none => h) ∧ hs' = hs ∧ old' = old := by
      rcases hst with ⟨e, _⟩ | ⟨e, _⟩ | ⟨_, w1, k1, _, _, _, q1, q2, _, q3⟩ | ⟨_, w1, k1, _, _, q1, q2, _, q3⟩ | ⟨_, w1, k1, ⟨bl, q, mk, a1, _, q1, _⟩, q2, q3⟩ | ⟨_, w1, _, q1, q2, _, q3⟩
      · rw [hEo] at e; cases e
      · rw [hEo] at e; cases e
      · refine ⟨?_, q2, q3⟩
        simp [alT, ho, hEo, ← hw, w1, k1, q1]
      · refine ⟨?_, q2, q3⟩
        simp [alT, ho, hEo, ← hw, w1, k1, q1]
      · refine ⟨?_, q2, q3⟩
        rw [al_same hop] at a1
        simp [alT, ho, hEo, ← hw, w1, beqF k1, a1, q1]
      · refine ⟨?_, q2, q3⟩
        simp [alT, ho, hEo, ← hw, w1, q1]
    obtain ⟨rfl, rfl, rfl⟩ := key
    obtain ⟨t1, als1, q1, q2⟩ := ih _ _ _ _ _ _ hord' hpl' (fun x hx => hE x (by simp [hx])) hr
    exact ⟨t1, als1, q1, q2.congr fun d => by rw [testBit_put]; simp [or_assoc]⟩
end
end Ev
end Go.Proofs.YtilnneogbpnkkaaGreatDoor
