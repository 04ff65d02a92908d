/- Regions that draw: whatever order the model draws, it ends as we do in ours. -/
import Derived.Test.YtilnneogbpnkkaaGreatDoorEvM13
set_option maxRecDepth 10000
namespace Go.Proofs.YtilnneogbpnkkaaGreatDoor
namespace Ev
noncomputable section
variable {P : Program} {r r00 : Ren} {h h00 : H} {w w00 : World}
/-- A block that the model has made and we have not yet. -/
def Held (w00 : World) (r : Ren) (h : H) (w : World) (x : Nat) (bl : Blk) : Prop :=
  ∃ e, r x = some e ∧ w00.heap.size ≤ e.blk ∧ BR r x e w bl ∧ ∀ y c f, h.get y = some c → r y = some f → f.blk ≠ e.blk
theorem Step.held (st : Step r00 h00 w00 r h w) {x : Nat} {bl : Blk} (hd : Held w00 r h w x bl) : Step r00 h00 w00 r (h.set x bl) w := by
  obtain ⟨e, q1, q2, q3, q4⟩ := hd
  have hr := st.hr
  refine ⟨st.ext, st.keep, ⟨?_, ?_, hr.new, hr.lo, hr.gl, hr.bnd⟩, st.k, st.lo, st.g, st.size, ?_, st.os, st.tape, st.output⟩
  · intro y c hy
    rw [H.get_set] at hy
    split at hy
    · rename_i q; subst q; cases hy; exact ⟨e, q1, hr.bnd _ _ q1, q3⟩
    · exact hr.blk y c hy
  · intro y z c d f g hy hz hf hg hlo hne
    rw [H.get_set] at hy hz
    split at hy
    · rename_i q; subst q
      rw [q1] at hf; cases hf
      rw [if_neg (fun s => hne s.symm)] at hz
      exact fun s => q4 z d g hz hg s.symm
    · split at hz
      · rename_i q; subst q
        rw [q1] at hg; cases hg
        exact q4 y c f hy hf
      · exact hr.inj y z c d f g hy hz hf hg hlo hne
  · intro k hk ho
    refine ⟨(st.old k hk ho).1, fun ⟨y, c, f, h1, h2, h3, h4⟩ => ?_⟩
    rw [H.get_set] at h1
    split at h1
    · rename_i q; subst q
      rw [q1] at h3; cases h3
      omega
    · exact (st.old k hk ho).2 ⟨y, c, f, h1, h2, h3, h4⟩
theorem Held.set {x y : Nat} {bl bl' : Blk} (hd : Held w00 r h w x bl) (hy : ∀ e f, r x = some e → r y = some f → e.blk ≠ f.blk) : Held w00 r (h.set y bl') w x bl := by
  obtain ⟨e, q1, q2, q3, q4⟩ := hd
  refine ⟨e, q1, q2, q3, fun z c f hz hf => ?_⟩
  rw [H.get_set] at hz
  split at hz
  · rename_i q; subst q; exact fun s => hy e f q1 hf s.symm
  · exact q4 z c f hz hf
/-- It stays where other blocks are written. -/
theorem Held.step {r1 : Ren} {h1 : H} {w1 : World} {x : Nat} {bl : Blk} (st : Step r00 h00 w00 r h w) (hr00 : HR r00 h00 w00) (hd : Held w00 r h w x bl) (s : Step r h w r1 h1 w1) : Held w00 r1 h1 w1 x bl := by
  obtain ⟨e, q1, q2, q3, q4⟩ := hd
  have hno : ¬ Owns r h e.blk := fun ⟨y, c, f, a1, _, a3, a4⟩ => q4 y c f a1 a3 a4
  obtain ⟨o1, o2⟩ := s.old e.blk (st.hr.bnd _ _ q1) hno
  refine ⟨e, s.ext _ _ q1, q2, q3.same s.ext o1, fun y c f hy hf hq => ?_⟩
  rcases Nat.lt_or_ge y h1.lo with hl | hl
  · have hlo := hr00.lo
    have hl' : y < 2 * h00.k := by rw [s.lo, st.lo] at hl; omega
    have hk := st.k
    rw [s.keep y (by omega), st.keep y hl'] at hf
    have := hr00.bnd _ _ hf
    omega
  · exact o2 ⟨y, c, f, hy, hl, hf, hq⟩
variable {cf yf : CallF} {n : Nat} {L : List Oper} {b : List Nat} {k0 : Nat} {h0 : H} {T0 T' : T Value} {R : Nat → T Value} {hF : H}
theorem addAl_k : ∀ (l : List Nat) (h : H), (addAl P L k0 h0 R l h).k = h.k ∧ (addAl P L k0 h0 R l h).g = h.g ∧ (addAl P L k0 h0 R l h).lo = h.lo := by
  intro l
  induction l with
  | nil => intro h; exact ⟨rfl, rfl, rfl⟩
  | cons i l ih =>
    intro h
    simp only [addAl]
    have := ih (match alT P L k0 h0 R i with | some (x, bl) => h.set x bl | none => h)
    cases hq : alT P L k0 h0 R i with
    | none => rw [hq] at this; exact this
    | some p => rw [hq] at this; exact this
/-- Far from each other. -/
def FarAl (P : Program) (L : List Oper) (k0 : Nat) (h0 : H) (R : Nat → T Value) (r : Ren) (i j : Nat) : Prop :=
  ∀ x bl y bl', alT P L k0 h0 R i = some (x, bl) → alT P L k0 h0 R j = some (y, bl') → ∀ e f, r x = some e → r y = some f → e.blk ≠ f.blk
theorem addAll : ∀ (l : List Nat) (h : H), Step r00 h00 w00 r h w → (∀ i ∈ l, ∀ x bl, alT P L k0 h0 R i = some (x, bl) → Held w00 r h w x bl) → (∀ i ∈ l, ∀ j ∈ l, i ≠ j → FarAl P L k0 h0 R r i j) → l.Nodup →
    Step r00 h00 w00 r (addAl P L k0 h0 R l h) w ∧ ∀ x bl, Held w00 r h w x bl → (∀ i ∈ l, ∀ y bl', alT P L k0 h0 R i = some (y, bl') → ∀ e f, r x = some e → r y = some f → e.blk ≠ f.blk) → Held w00 r (addAl P L k0 h0 R l h) w x bl := by
  intro l
  induction l with
  | nil => intro h st _ _ _; exact ⟨st, fun x bl hd _ => hd⟩
  | cons i l ih =>
    intro h st hh hf hnd
    rw [List.nodup_cons] at hnd
    simp only [addAl]
    cases hq : alT P L k0 h0 R i with
    | none =>
      obtain ⟨a1, a2⟩ := ih h st (fun j hj => hh j (by simp [hj])) (fun j hj k hk => hf j (by simp [hj]) k (by simp [hk])) hnd.2
      exact ⟨a1, fun x bl hd hy => a2 x bl hd fun j hj => hy j (by simp [hj])⟩
    | some p =>
      obtain ⟨y, bl'⟩ := p
      have hi := hh i (by simp) y bl' hq
      have hne : ∀ j ∈ l, i ≠ j := fun j hj q => hnd.1 (q ▸ hj)
      obtain ⟨a1, a2⟩ := ih (h.set y bl') (st.held hi) (fun j hj x bl hx => (hh j (by simp [hj]) x bl hx).set (hf j (by simp [hj]) i (by simp) (fun q => hne j hj q.symm) x bl y bl' hx hq)) (fun j hj k hk => hf j (by simp [hj]) k (by simp [hk])) hnd.2
      exact ⟨a1, fun x bl hd hy => a2 x bl (hd.set (hy i (by simp) y bl' hq)) fun j hj => hy j (by simp [hj])⟩
theorem ordOk_nodup : ∀ (l : List Nat) (M : Nat), ordOk P L b l M = true → l.Nodup := by
  intro l
  induction l with
  | nil => intro M _; exact List.nodup_nil
  | cons i l ih =>
    intro M h
    obtain ⟨o, _, _, _, _, h'⟩ := ordOk_cons h
    refine List.nodup_cons.2 ⟨fun hi => ?_, ih _ h'⟩
    have := ordOk_fresh _ _ h' i hi
    rw [testBit_put.2 (.inr rfl)] at this
    cases this
/-- Listed. -/
def Ls (lst : Array Bool) (i : Nat) : Prop := lst.getD i false = true
structure Inv (P : Program) (cf yf : CallF) (n : Nat) (ops : Array Oper) (b : List Nat) (k0 : Nat) (h0 : H) (T0 T' : T Value) (R : Nat → T Value) (hF : H) (r00 : Ren) (h00 : H) (w00 : World)
    (p l : List Nat) (t : T Value) (h : H) (old : List (Nat × H)) (lst : Array Bool) (r : Ren) (w : World) (tS : T Value) (a : Act) : Prop where
  size : lst.size = ops.size
  done : ∀ i ∈ p, Ls lst i
  cov : ∀ i, i < ops.size → i ∈ p ∨ i ∈ l
  eff : ∀ i ∈ l, ∀ o, ops[i]? = some o → isE P o = true → ¬ Ls lst i
  shut : Shut ops.toList (Ls lst)
  ord : ∃ M, ordOk P ops.toList b l M = true ∧ ∀ d, M.testBit d = true ↔ d ∈ p
  run : runD P cf yf n ops.toList b k0 h0 l t h h [] old = some (T', hF)
  rf : RefOk ops.toList b T0 T' R
  pl : Pl ops.toList b T0 (· ∈ p) t
  un : ∀ d, (∀ j, Ls lst j → ∀ q, ops[j]? = some q → q.dst ≠ some d) → tS.get (d + 1) = T0.get (d + 1)
  st : Step r00 h00 w00 r h w
  ar : AR r h n tS a
  ag : ∀ d, ((∀ i, i < ops.size → ¬ Ls lst i → ∀ o, ops[i]? = some o → o.dst ≠ some d) ∨ n ≤ d) → tS.get (d + 1) = T'.get (d + 1)
  g : h.g = h0.g
  k : k0 + ops.size ≤ h.k
  fr : ∀ i, i < ops.size → ¬ Ls lst i → ∀ q, r (idAt k0 i q) = none
  alc : ∀ i ∈ l, Ls lst i → ∀ x bl, alT P ops.toList k0 h0 R i = some (x, bl) → Held w00 r h w x bl
  far : ∀ i ∈ l, ∀ j ∈ l, i ≠ j → Ls lst i → Ls lst j → FarAl P ops.toList k0 h0 R r i j
theorem idAt_lt {i m : Nat} {q : Bool} (h : i < m) : idAt k0 i q < 2 * (k0 + m) := by cases q <;> simp [idAt] <;> omega
theorem idAt_ge {i : Nat} {q : Bool} : 2 * k0 ≤ idAt k0 i q := by cases q <;> simp [idAt] <;> omega
theorem idAt_inj {i j : Nat} {q s : Bool} (h : idAt k0 i q = idAt k0 j s) : i = j := by cases q <;> cases s <;> simp [idAt] at h <;> omega
theorem alT_id {i x : Nat} {bl : Blk} (h : alT P L k0 h0 R i = some (x, bl)) : ∃ q, x = idAt k0 i q := by
  unfold alT at h
  split at h
  · cases h
  · obtain ⟨_, h⟩ := bif_some h
    split at h
    · cases h; exact ⟨_, rfl⟩
    · cases h
section
variable {ops : Array Oper} {p l : List Nat} {t : T Value} {old : List (Nat × H)} {lst : Array Bool} {tS : T Value} {a : Act}
theorem Ls.put {i j : Nat} (h : Ls lst i) : Ls (lst.setIfInBounds j true) i := getD_set_true h
theorem Ls.of_put {i j : Nat} (h : Ls (lst.setIfInBounds j true) i) : Ls lst i ∨ i = j := by
  by_cases hij : j = i
  · exact .inr hij.symm
  · unfold Ls at h; rw [getD_set_ne false hij] at h; exact .inl h
theorem Ls.here {i : Nat} (hi : i < lst.size) : Ls (lst.setIfInBounds i true) i := by simp [Ls, hi]
theorem toL {i : Nat} {o : Oper} : ops.toList[i]? = some o ↔ ops[i]? = some o := by rw [Array.getElem?_toList]
theorem lt_of_op {i : Nat} {o : Oper} (h : ops[i]? = some o) : i < ops.size := (Array.getElem?_eq_some_iff.1 h).1
/-- What is ready. -/
structure Rd (ops : Array Oper) (lst : Array Bool) (i : Nat) (o : Oper) : Prop where
  un : ¬ Ls lst i
  lt : i < lst.size
  op : ops[i]? = some o
  edge : ∀ e ∈ o.after, Region.binds .any e = true → Ls lst e.on
theorem Rd.of {i : Nat} (h : i ∈ Region.ready .any ops lst) : ∃ o, Rd ops lst i o := by
  obtain ⟨h1, o, h2, h3⟩ := mem_ready.1 h
  have hlt : i < lst.size := by
    rcases Nat.lt_or_ge i lst.size with q | q
    · exact q
    · simp [Array.getElem?_eq_none q] at h1
  refine ⟨o, ?_, hlt, h2, fun e he hb => h3 e he hb⟩
  simp [hlt] at h1
  simp [Ls, hlt, h1]
theorem Rd.bits {i : Nat} {o : Oper} (h : Rd ops lst i o) (hs : Shut ops.toList (Ls lst)) {d : Nat} (hd : ((bef ops.toList).getD i 0).testBit d = true) : Ls lst d :=
  (bef_ok ops.toList (by have := lt_of_op h.op; simpa using this)).1 (Ls lst) hs (fun o' ho' e he hb => by rw [toL, h.op] at ho'; cases ho'; exact h.edge e he hb) d hd
/-- What the two runs' temporaries have alike where a ready operation looks. -/
theorem Inv.agree (I : Inv P cf yf n ops (bef ops.toList) k0 h0 T0 T' R hF r00 h00 w00 p l t h old lst r w tS a) (hdst : dstOk ops.toList (bef ops.toList) = true) {i : Nat} {o : Oper} (hi : Rd ops lst i o) : Agree ops.toList o tS (R i) := by
  intro d hd
  obtain ⟨r1, r2⟩ := I.rf i o (toL.2 hi.op) d hd
  by_cases hex : ∃ j p, ops.toList[j]? = some p ∧ p.dst = some d ∧ ((bef ops.toList).getD i 0).testBit j = false
  · obtain ⟨j, q, hj, hq, hb⟩ := hex
    rw [r1 j q hj hq hb]
    have hji : ((bef ops.toList).getD j 0).testBit i = true := by
      rcases (dstOk_spec hdst (toL.2 hi.op) hj hq).2 hd with z | z
      · rw [hb] at z; cases z
      · exact z
    refine I.un d fun x hx q' hq' hqd => ?_
    have hxj := (dstOk_spec hdst (toL.2 hq') hj hq).1 hqd
    subst hxj
    have hlt : x < ops.toList.length := by have := lt_of_op (toL.1 hj); simpa using this
    exact hi.un ((bef_ok ops.toList hlt).1 (Ls lst) I.shut (fun o' ho' e he hbd => I.shut x o' ho' hx e he hbd) i hji)
  · have hall : ∀ j p, ops.toList[j]? = some p → p.dst = some d → ((bef ops.toList).getD i 0).testBit j = true := fun j p hj hp => by
      cases hq : ((bef ops.toList).getD i 0).testBit j with
      | true => rfl
      | false => exact absurd ⟨j, p, hj, hp, hq⟩ hex
    rw [r2 hall]
    refine I.ag d (.inl fun j hj hnl p hp hpd => hnl ?_)
    exact hi.bits I.shut (hall j p (toL.2 hp) hpd)
/-- What nothing has written stays so. -/
theorem un_put {i : Nat} {o : Oper} (hi : ops[i]? = some o) (hlt : i < lst.size) {v : Value} (un : ∀ d, (∀ j, Ls lst j → ∀ q, ops[j]? = some q → q.dst ≠ some d) → tS.get (d + 1) = T0.get (d + 1)) :
    ∀ d, (∀ j, Ls (lst.setIfInBounds i true) j → ∀ q, ops[j]? = some q → q.dst ≠ some d) → (put n o.dst v tS).get (d + 1) = T0.get (d + 1) := by
  intro d hd
  rw [put_other (hd i (by simp [Ls, hlt]) o hi)]
  exact un d fun j hj => hd j (by unfold Ls; exact getD_set_true hj)
theorem Shut.put (hs : Shut ops.toList (Ls lst)) {i : Nat} {o : Oper} (hi : Rd ops lst i o) : Shut ops.toList (Ls (lst.setIfInBounds i true)) := by
  intro j p hp hl e he hb
  rcases Ls.of_put hl with q | rfl
  · exact (hs j p hp q e he hb).put
  · rw [toL, hi.op] at hp; cases hp
    exact (hi.edge e he hb).put
/-- Temporaries behind an operation. -/
theorem ag_put {i : Nat} {o : Oper} (hi : Rd ops lst i o) {v : Value} (hv : Tv n T' o v)
    (ag : ∀ d, ((∀ i, i < ops.size → ¬ Ls lst i → ∀ o, ops[i]? = some o → o.dst ≠ some d) ∨ n ≤ d) → tS.get (d + 1) = T'.get (d + 1)) :
    ∀ d, ((∀ j, j < ops.size → ¬ Ls (lst.setIfInBounds i true) j → ∀ o, ops[j]? = some o → o.dst ≠ some d) ∨ n ≤ d) → (put n o.dst v tS).get (d + 1) = T'.get (d + 1) := by
  intro d hd
  rcases Nat.lt_or_ge d n with hlt | hge
  · by_cases hod : o.dst = some d
    · rw [hod, put_here hlt, hv d hod hlt]
    · rw [put_other hod]
      refine ag d (.inl fun j hj hnl p hp => ?_)
      rcases hd with hd | hd
      · by_cases hji : j = i
        · subst hji
          rw [hi.op] at hp; cases hp
          exact hod
        · exact hd j hj (fun q => (Ls.of_put q).elim hnl hji) p hp
      · omega
  · rw [put_far hge]
    exact ag d (.inr hge)
/-- One operation that does no more than look or make a block, whenever the model comes to it. -/
theorem Inv.quiet (I : Inv P cf yf n ops (bef ops.toList) k0 h0 T0 T' R hF r00 h00 w00 p l t h old lst r w tS a) (hdst : dstOk ops.toList (bef ops.toList) = true) (hk0 : h00.k = k0) (_hr00 : HR r00 h00 w00) {i : Nat} {o : Oper} (hi : Rd ops lst i o) (hE : isE P o = false)
    {b : Frame} {k : List Item} {cs : List Frame} (hb : FrK b) (rest : List Nat) :
    OG P (lone (b.atR a (.inRegion ops (i :: rest) :: k)) cs w) ∨ ∃ r' w' tS' a', Inv P cf yf n ops (bef ops.toList) k0 h0 T0 T' R hF r00 h00 w00 p l t h old (lst.setIfInBounds i true) r' w' tS' a' ∧ a'.defers = a.defers ∧
      Steps P (lone (b.atR a (.inRegion ops (i :: rest) :: k)) cs w) (lone (b.atR a' (.inRegion ops rest :: k)) cs w') := by
  have hag := I.agree hdst hi
  have hil : i ∈ l := by
    rcases I.cov i (lt_of_op hi.op) with q | q
    · exact absurd (I.done i q) hi.un
    · exact q
  obtain ⟨l1, l2, hl⟩ := List.append_of_mem hil
  obtain ⟨M, hord, hM⟩ := I.ord
  have hnd := ordOk_nodup _ _ hord
  rw [hl] at hnd
  have hfs : jg ops.toList (R i) o = false ∧ Fs P n ops.toList k0 h0 T' R i o (bef ops.toList) l1 h := by
    refine foresee hdst (toL.2 hi.op) hE I.rf (hl ▸ hord) (I.pl.congr hM) (List.nodup_append.1 hnd).1 (fun j hj q hq hEq => ?_) (hl ▸ I.run)
    cases hbit : ((bef ops.toList).getD i 0).testBit j with
    | false => rfl
    | true => exact absurd (hi.bits I.shut hbit) (I.eff j (by rw [hl]; simp [hj]) q (toL.1 hq) hEq)
  obtain ⟨hjg, hfs⟩ := hfs
  have hwo := wants_ok (o := o) I.ar ops (hag.jg.trans hjg)
  rw [hag.wants] at hwo
  have hput : ∀ d, (a.put o.dst d).defers = a.defers := fun d => by cases o.dst <;> rfl
  have hun' : ∀ j, j < ops.size → ¬ Ls (lst.setIfInBounds i true) j → ¬ Ls lst j ∧ j ≠ i := fun j hj hn => ⟨fun q => hn q.put, fun q => hn (by subst q; exact Ls.here hi.lt)⟩
  have heff : ∀ j ∈ l, ∀ q, ops[j]? = some q → isE P q = true → ¬ Ls (lst.setIfInBounds i true) j := fun j hj q hq hEq hls => by
    rcases Ls.of_put hls with s | rfl
    · exact I.eff j hj q hq hEq s
    · rw [hi.op] at hq; cases hq
      rw [hE] at hEq; cases hEq
  -- a value that is left while memory stays
  have fin : ∀ v v', VR r v v' → Tv n T' o v → (alT P ops.toList k0 h0 R i = none) → Inv P cf yf n ops (bef ops.toList) k0 h0 T0 T' R hF r00 h00 w00 p l t h old (lst.setIfInBounds i true) r w (put n o.dst v tS) (a.put o.dst v') := by
    intro v v' hv htv hno
    refine ⟨by simp [I.size], fun j hj => (I.done j hj).put, I.cov, heff, I.shut.put hi, ⟨M, hord, hM⟩, I.run, I.rf, I.pl, un_put hi.op hi.lt I.un, I.st, I.ar.put o.dst hv, ag_put hi htv I.ag, I.g, I.k, fun j hj hn => I.fr j hj (hun' j hj hn).1, ?_, ?_⟩
    · intro j hj hls x bl hx
      rcases Ls.of_put hls with s | rfl
      · exact I.alc j hj s x bl hx
      · rw [hno] at hx; cases hx
    · intro j hj j' hj' hne hls hls' x bl y bl' hx hy
      rcases Ls.of_put hls with s | rfl
      · rcases Ls.of_put hls' with s' | rfl
        · exact I.far j hj j' hj' hne s s' x bl y bl' hx hy
        · rw [hno] at hy; cases hy
      · rw [hno] at hx; cases hx
  rcases hfs with ⟨w1, t1⟩ | ⟨w1, k1, v, t1, r1, r1'⟩ | ⟨w1, k1, bl, q, mk, a1, t1⟩
  · rw [w1] at hwo
    have hst := stepR_op_skip (P := P) (b := b) (a := a) (k := k) (cs := cs) (w := w) (ops := ops) (i := i) (rest := rest) (by rw [hi.op]; simp [← hwo])
    rw [hi.op] at hst
    exact .inr ⟨r, w, _, _, fin undef undef (VR.of_plain r _ rfl) t1 (by simp [alT, hi.op, hE, w1]), hput _, .one hst⟩
  · rw [w1] at hwo
    have r2 : ∃ v', VR r v v' ∧ (execOp a.eval o).run P w = .ok (.value v') w := by
      cases hm : looksMem o with
      | true =>
        obtain ⟨js, j1, j2, j3⟩ := r1' hm
        have hjl : ∀ j ∈ js, j ∈ l := fun j hj => by rw [hl]; simp [(j2 j hj).1]
        have hjs : ∀ j ∈ js, Ls lst j := fun j hj => hi.bits I.shut (j2 j hj).2
        obtain ⟨st1, _⟩ := addAll (P := P) (L := ops.toList) (k0 := k0) (h0 := h0) (R := R) js h I.st (fun j hj => I.alc j (hjl j hj) (hjs j hj)) (fun j hj j' hj' hne => I.far j (hjl j hj) j' (hjl j' hj') hne (hjs j hj) (hjs j' hj')) j1
        exact rd_ok st1.hr (⟨I.ar.t, I.ar.n⟩ : AR r (addAl P ops.toList k0 h0 R js h) n tS a) (by rw [rd_same hag.op]; exact j3)
      | false => exact rd_ok I.st.hr I.ar (by rw [rd_same hag.op, rd_mem I.g hm]; exact r1 hm)
    obtain ⟨v', hv', hrun⟩ := r2
    have hx : OpX P (fun u w' => u = v' ∧ w' = w) ((execOp a.eval o).run P w) := by rw [hrun]; exact ⟨rfl, rfl⟩
    rcases op_goes (k := k) (cs := cs) (rest := rest) hi.op hwo.symm (fun c hc => opx_defer hc hx) hb (.inr hx) with hg | ⟨_, _, ⟨rfl, rfl⟩, hst⟩
    · exact .inl hg
    · exact .inr ⟨r, _, _, _, fin v _ hv' t1 (by simp [alT, hi.op, hE, w1, k1]), hput _, hst⟩
  · rw [w1] at hwo
    have hilt := lt_of_op hi.op
    have a2 : al P h tS o = some (bl, q, mk) := by rw [al_same hag.op, al_mem I.g]; exact a1
    obtain ⟨m, e, ob, v', e1, e2, e3, e4⟩ := al_at I.st.hr I.ar a2 (x₀ := idAt k0 i q) (by cases q <;> simp [idAt] <;> omega) (I.fr i hilt hi.un q)
    have halT : alT P ops.toList k0 h0 R i = some (idAt k0 i q, bl) := by simp [alT, hi.op, hE, w1, beqF k1, a1]
    have hx : OpX P (fun u w' => u = v' ∧ w' = { w with drawn := m, heap := w.heap.push ob }) ((execOp a.eval o).run P w) := by rw [e4]; exact ⟨rfl, rfl⟩
    rcases op_goes (k := k) (cs := cs) (rest := rest) hi.op hwo.symm (fun c hc => opx_defer hc hx) hb (.inr hx) with hg | ⟨_, _, ⟨rfl, rfl⟩, hst⟩
    · exact .inl hg
    · have hfr := I.fr i hilt hi.un q
      have hext : Ext r (r.put (idAt k0 i q) e) := Ren.put_ext hfr
      have hr := I.st.hr
      have hhold : ∀ j, j < w.heap.size → ({ w with drawn := m, heap := w.heap.push ob } : World).heap[j]? = w.heap[j]? := fun j hj => by
        show (w.heap.push ob)[j]? = _
        rw [Array.getElem?_push, if_neg (by omega)]
      have hr' : HR (r.put (idAt k0 i q) e) h { w with drawn := m, heap := w.heap.push ob } := by
        have hne : ∀ y c, h.get y = some c → y ≠ idAt k0 i q := fun y c hy s => by
          obtain ⟨f, f1, _⟩ := hr.blk y c hy
          rw [s, hfr] at f1; cases f1
        refine ⟨fun y c hy => ?_, fun y z c d f g hy hz hf hg => ?_, fun x hx => ?_, hr.lo, fun j hj => ?_, Ren.put_bnd hr.bnd (by simp) (by simp [e1])⟩
        · obtain ⟨f, f1, f2, f3⟩ := hr.blk y c hy
          exact ⟨f, hext _ _ f1, by simp; omega, f3.same hext (hhold _ f2)⟩
        · simp only [Ren.put, if_neg (hne y c hy)] at hf
          simp only [Ren.put, if_neg (hne z d hz)] at hg
          exact hr.inj y z c d f g hy hz hf hg
        · have h1 := idAt_lt (k0 := k0) (q := q) hilt
          have h2 := I.k
          simp only [Ren.put, if_neg (show x ≠ idAt k0 i q by omega)]
          exact hr.new x hx
        · obtain ⟨f, f1, f2⟩ := hr.gl j hj; exact ⟨f, hext _ _ f1, f2⟩
      have hst' : Step r00 h00 w00 (r.put (idAt k0 i q) e) h { w with drawn := m, heap := w.heap.push ob } := by
        refine ⟨I.st.ext.trans hext, fun x hx => ?_, hr', I.st.k, I.st.lo, I.st.g, by have := I.st.size; simp; omega, fun j hj ho => ?_, I.st.os, I.st.tape, I.st.output⟩
        · have h1 := idAt_ge (k0 := k0) (i := i) (q := q)
          simp only [Ren.put, if_neg (show x ≠ idAt k0 i q by omega)]
          exact I.st.keep x hx
        · have hsz := I.st.size
          refine ⟨(hhold j (by omega)).trans (I.st.old j hj ho).1, fun ⟨y, c, f, f1, f2, f3, f4⟩ => ?_⟩
          by_cases s : y = idAt k0 i q
          · subst s
            rw [put_self] at f3; cases f3
            omega
          · simp only [Ren.put, if_neg s] at f3
            exact (I.st.old j hj ho).2 ⟨y, c, f, f1, f2, f3, f4⟩
      have hheld : ∀ x bl, Held w00 r h w x bl → Held w00 (r.put (idAt k0 i q) e) h { w with drawn := m, heap := w.heap.push ob } x bl := by
        rintro x bl ⟨f, f1, f2, f3, f4⟩
        refine ⟨f, hext _ _ f1, f2, f3.same hext (hhold _ (hr.bnd _ _ f1)), fun y c g hy hg => ?_⟩
        by_cases s : y = idAt k0 i q
        · subst s
          obtain ⟨g', g1, _⟩ := hr.blk _ c hy
          rw [hfr] at g1; cases g1
        · simp only [Ren.put, if_neg s] at hg
          exact f4 y c g hy hg
      refine .inr ⟨r.put (idAt k0 i q) e, _, put n o.dst (mk (idAt k0 i q)) tS, _, ⟨by simp [I.size], fun j hj => (I.done j hj).put, I.cov, heff, I.shut.put hi, ⟨M, hord, hM⟩, I.run, I.rf, I.pl, un_put hi.op hi.lt I.un, hst', (I.ar.ext hext).put o.dst e3, ag_put hi t1 I.ag, I.g, I.k, ?_, ?_, ?_⟩, hput _, hst⟩
      · intro j hj hn s
        obtain ⟨n1, n2⟩ := hun' j hj hn
        have hne : idAt k0 j s ≠ idAt k0 i q := fun z => n2 (idAt_inj z)
        simp only [Ren.put, if_neg hne]
        exact I.fr j hj n1 s
      · intro j hj hls x bl' hx
        rcases Ls.of_put hls with s | rfl
        · exact hheld x bl' (I.alc j hj s x bl' hx)
        · rw [halT] at hx; cases hx
          refine ⟨e, put_self _ _ _, by rw [e1]; exact I.st.size, e2, fun y c f hy hf hq => ?_⟩
          obtain ⟨f', g1, g2, _⟩ := hr.blk y c hy
          have := hext _ _ g1
          rw [this] at hf; cases hf
          omega
      · have key : ∀ j ∈ l, Ls lst j → ∀ x bl', alT P ops.toList k0 h0 R j = some (x, bl') → ∃ f, r x = some f ∧ (r.put (idAt k0 i q) e) x = some f ∧ f.blk < w.heap.size := fun j hj s x bl' hx => by
          obtain ⟨f, f1, _⟩ := I.alc j hj s x bl' hx
          exact ⟨f, f1, hext _ _ f1, hr.bnd _ _ f1⟩
        intro j hj j' hj' hne hls hls' x bl1 y bl2 hx hy f g hf hg
        rcases Ls.of_put hls with s | rfl
        · obtain ⟨f', f1, f2, f3⟩ := key j hj s x bl1 hx
          rw [f2] at hf; cases hf
          rcases Ls.of_put hls' with s' | rfl
          · obtain ⟨g', g1, g2, g3⟩ := key j' hj' s' y bl2 hy
            rw [g2] at hg; cases hg
            exact I.far j hj j' hj' hne s s' x bl1 y bl2 hx hy _ _ f1 g1
          · rw [halT] at hy; cases hy
            rw [put_self] at hg; cases hg
            omega
        · rw [halT] at hx; cases hx
          rw [put_self] at hf; cases hf
          rcases Ls.of_put hls' with s' | rfl
          · obtain ⟨g', g1, g2, g3⟩ := key j' hj' s' y bl2 hy
            rw [g2] at hg; cases hg
            omega
          · exact absurd rfl hne
end
end
end Ev
end Go.Proofs.YtilnneogbpnkkaaGreatDoor
