/- Our own machine runs what the model runs. -/
import Derived.Test.YtmemadmjgcpobaaGreatDoorEvM14
set_option maxRecDepth 10000
namespace Go.Proofs.YtmemadmjgcpobaaGreatDoor
namespace Ev
variable {P : Program} {B : List Deferred} {r r00 : Ren} {h h00 : H} {w w00 : World} {cf yf : CallF} {n : Nat} {k0 : Nat} {h0 : H} {T0 T' : T Value} {R : Nat → T Value} {hF : H}
section
variable {ops : Array Oper} {p l : List Nat} {t : T Value} {old : List (Nat × H)} {lst : Array Bool} {tS : T Value} {a : Act}
theorem Inv.loud (I : Inv P cf yf n ops (bef ops.toList) k0 h0 T0 T' R hF r00 h00 w00 p l t h old lst r w tS a) (hdst : dstOk ops.toList (bef ops.toList) = true) (hr00 : HR r00 h00 w00) (hcf : CfOk P cf) (hyf : YfOk P yf)
    {i : Nat} {o : Oper} (hi : Rd ops lst i o) (hE : isE P o = true) {b : Frame} {k : List Item} {cs : List Frame} (hb : FrK b) (rest : List Nat) :
    OG P (lone (b.atR a (.inRegion ops (i :: rest) :: k)) cs w) ∨ ∃ p' l' t' h' old' r' w' tS' a', Inv P cf yf n ops (bef ops.toList) k0 h0 T0 T' R hF r00 h00 w00 p' l' t' h' old' (lst.setIfInBounds i true) r' w' tS' a' ∧ a'.defers = a.defers ∧
      Steps P (lone (b.atR a (.inRegion ops (i :: rest) :: k)) cs w) (lone (b.atR a' (.inRegion ops rest :: k)) cs w') := by
  have hag := I.agree hdst hi
  have hilt := lt_of_op hi.op
  have hil : i ∈ l := by
    rcases I.cov i hilt with q | q
    · exact absurd (I.done i q) hi.un
    · exact q
  obtain ⟨l1, l2, hl⟩ := List.append_of_mem hil
  obtain ⟨M, hord, hM⟩ := I.ord
  rw [hl] at hord
  obtain ⟨M', hord', hM'⟩ := ordOk_split l1 (i :: l2) M hord
  obtain ⟨o', ho', hMi, _, hbe, hord2⟩ := ordOk_cons hord'
  rw [toL, hi.op] at ho'; cases ho'
  have hl1 : ∀ x ∈ l1, Ls lst x := fun x hx => hi.bits I.shut (hbe hE x ((hM' x).2 (.inr hx)))
  have hl1E : ∀ x ∈ l1, ∀ q, ops.toList[x]? = some q → isE P q = false := fun x hx q hq => by
    cases hEq : isE P q with
    | false => rfl
    | true => exact absurd (hl1 x hx) (I.eff x (by rw [hl]; simp [hx]) q (toL.1 hq) hEq)
  obtain ⟨t1, als1, hrun1, hpl1⟩ := advance hdst I.rf l1 M t h h [] old hord (I.pl.congr hM) hl1E (hl ▸ I.run)
  have hnd := ordOk_nodup _ _ hord
  have hnd1 : l1.Nodup := (List.nodup_append.1 hnd).1
  have hnd2 : (i :: l2).Nodup := (List.nodup_append.1 hnd).2.1
  have hil2 : i ∉ l2 := (List.nodup_cons.1 hnd2).1
  have hdis : ∀ x ∈ l1, ∀ y ∈ l2, x ≠ y := fun x hx y hy q => (List.nodup_append.1 hnd).2.2 x hx y (by simp [hy]) q
  have hm1 : ∀ x ∈ l1, x ∈ l := fun x hx => by rw [hl]; simp [hx]
  have hm2 : ∀ x ∈ l2, x ∈ l := fun x hx => by rw [hl]; simp [hx]
  obtain ⟨st1, hh1⟩ := addAll l1 h I.st (fun j hj => I.alc j (hm1 j hj) (hl1 j hj)) (fun j hj j' hj' hne => I.far j (hm1 j hj) j' (hm1 j' hj') hne (hl1 j hj) (hl1 j' hj')) hnd1
  obtain ⟨hk1, hg1, hlo1⟩ := addAl_k (P := P) (L := ops.toList) (k0 := k0) (h0 := h0) (R := R) l1 h
  generalize hh : addAl P ops.toList k0 h0 R l1 h = h1 at *
  obtain ⟨o', v, h', hs', als', old', ho', hst, hr2, hag1, hjg, htv, hpl2⟩ := at_place hdst hord' I.rf (hpl1.congr hM') hrun1
  rw [toL, hi.op] at ho'; cases ho'
  have hput : ∀ d, (a.put o.dst d).defers = a.defers := fun d => by cases o.dst <;> rfl
  have hwo := wants_ok (o := o) I.ar ops (hag.jg.trans hjg)
  rw [hag.wants, ← hag1.wants] at hwo
  have fin : ∀ r1 w1 v', hs' = h' → als' = [] → Step r h1 w r1 h' w1 → VR r1 v v' →
      Inv P cf yf n ops (bef ops.toList) k0 h0 T0 T' R hF r00 h00 w00 (p ++ l1 ++ [i]) l2 (put n o.dst v t1) h' old' (lst.setIfInBounds i true) r1 w1 (put n o.dst v tS) (a.put o.dst v') := by
    intro r1 w1 v' hs hal s hv
    subst hs hal
    have hkeep : ∀ j, j < ops.size → ∀ q, r1 (idAt k0 j q) = r (idAt k0 j q) := fun j hj q => s.keep _ (by
      have h1 := idAt_lt (k0 := k0) (q := q) hj
      have h2 := I.k
      omega)
    refine ⟨by simp [I.size], ?_, ?_, ?_, I.shut.put hi, ⟨_, hord2, ?_⟩, hr2, I.rf, hpl2.congr (fun d => by rw [testBit_put, hM', hM]; simp [or_assoc]), un_put hi.op hi.lt I.un, st1.trans s, (I.ar.ext s.ext).put o.dst hv, ag_put hi htv I.ag, ?_, ?_, ?_, ?_, ?_⟩
    · intro j hj
      simp only [List.mem_append, List.mem_singleton] at hj
      rcases hj with (hj | hj) | rfl
      · exact (I.done j hj).put
      · exact (hl1 j hj).put
      · exact Ls.here hi.lt
    · intro j hj
      rcases I.cov j hj with q | q
      · exact .inl (by simp [q])
      · rw [hl] at q
        simp only [List.mem_append, List.mem_cons] at q
        rcases q with q | q | q
        · exact .inl (by simp [q])
        · exact .inl (by simp [q])
        · exact .inr q
    · intro j hj q hq hEq hls
      rcases Ls.of_put hls with z | rfl
      · exact I.eff j (hm2 j hj) q hq hEq z
      · exact hil2 hj
    · intro d
      rw [testBit_put, hM', hM]
      simp [or_assoc]
    · rw [s.g, hg1, I.g]
    · have := s.k; have := I.k; omega
    · intro j hj hn q
      rw [hkeep j hj q]
      exact I.fr j hj (fun z => hn z.put) q
    · intro j hj hls x bl hx
      rcases Ls.of_put hls with z | rfl
      · exact (hh1 x bl (I.alc j (hm2 j hj) z x bl hx) fun j' hj' y bl' hy => fun e f he hf => I.far j (hm2 j hj) j' (hm1 j' hj') (fun q => hdis j' hj' j hj q.symm) z (hl1 j' hj') x bl y bl' hx hy e f he hf).step st1 hr00 s
      · exact absurd hj hil2
    · intro j hj j' hj' hne hls hls' x bl y bl' hx hy e f he hf
      rcases Ls.of_put hls with z | rfl
      · rcases Ls.of_put hls' with z' | rfl
        · obtain ⟨q, rfl⟩ := alT_id hx
          obtain ⟨q', rfl⟩ := alT_id hy
          have hjl : j < ops.size := by obtain ⟨o, ho⟩ := ordOk_lt _ _ hord2 j hj; exact lt_of_op (toL.1 ho)
          have hjl' : j' < ops.size := by obtain ⟨o, ho⟩ := ordOk_lt _ _ hord2 j' hj'; exact lt_of_op (toL.1 ho)
          rw [hkeep j hjl] at he
          rw [hkeep j' hjl'] at hf
          exact I.far j (hm2 j hj) j' (hm2 j' hj') hne z z' _ bl _ bl' hx hy e f he hf
        · exact absurd hj' hil2
      · exact absurd hj hil2
  rcases hst with ⟨_, w1, e1, q1, q0, q2⟩ | ⟨_, w1, q1, q2, q3, q0, q4⟩ | ⟨e, _⟩ | ⟨e, _⟩ | ⟨e, _⟩ | ⟨e, _⟩
  · rw [w1] at hwo
    rw [ef_same hag1.op, ← ef_same hag.op] at e1
    have hx := ef_ok st1.hr (⟨I.ar.t, I.ar.n⟩ : AR r h1 n tS a) hcf hyf e1
    rcases op_goes (k := k) (cs := cs) (rest := rest) hi.op hwo.symm (fun c hc => opx_defer hc hx) hb (.inr hx) with hg | ⟨v', w', ⟨r1, s, hv⟩, hst⟩
    · exact .inl hg
    · exact .inr ⟨_, _, _, _, _, r1, w', _, _, fin r1 w' v' q1 q0 s hv, hput _, hst⟩
  · rw [w1] at hwo
    have hst := stepR_op_skip (P := P) (b := b) (a := a) (k := k) (cs := cs) (w := w) (ops := ops) (i := i) (rest := rest) (by rw [hi.op]; simp [← hwo])
    rw [hi.op] at hst
    subst q1 q2
    exact .inr ⟨_, _, _, _, _, r, w, _, _, fin r w undef q3 q0 (Step.refl st1.hr) (VR.of_plain r _ rfl), hput _, .one hst⟩
  all_goals (rw [hE] at e; cases e)
/-- All listed: the end. -/
theorem Inv.end (I : Inv P cf yf n ops (bef ops.toList) k0 h0 T0 T' R hF r00 h00 w00 p l t h old lst r w tS a) (hdst : dstOk ops.toList (bef ops.toList) = true) (hall : ∀ i, i < ops.size → Ls lst i) : Step r00 h00 w00 r hF w ∧ AR r hF n T' a := by
  obtain ⟨M, hord, hM⟩ := I.ord
  have hop : ∀ x ∈ l, ∃ o, ops[x]? = some o := fun x hx => by obtain ⟨o, ho⟩ := ordOk_lt _ _ hord x hx; exact ⟨o, toL.1 ho⟩
  have hls : ∀ x ∈ l, Ls lst x := fun x hx => by obtain ⟨o, ho⟩ := hop x hx; exact hall x (lt_of_op ho)
  have hE : ∀ x ∈ l, ∀ q, ops.toList[x]? = some q → isE P q = false := fun x hx q hq => by
    cases hEq : isE P q with
    | false => rfl
    | true => exact absurd (hls x hx) (I.eff x hx q (toL.1 hq) hEq)
  obtain ⟨t1, _, hrun1, _⟩ := advance (l2 := []) hdst I.rf l M t h h [] old (by simpa using hord) (I.pl.congr hM) hE (by simpa using I.run)
  simp only [runD, Option.some.injEq, Prod.mk.injEq] at hrun1
  obtain ⟨st1, _⟩ := addAll (P := P) (L := ops.toList) (k0 := k0) (h0 := h0) (R := R) l h I.st (fun j hj => I.alc j hj (hls j hj)) (fun j hj j' hj' hne => I.far j hj j' hj' hne (hls j hj) (hls j' hj')) (ordOk_nodup _ _ hord)
  rw [← hrun1.2]
  refine ⟨st1, fun d => ?_, I.ar.n⟩
  rw [← I.ag d (.inl fun i hi hn => absurd (hall i hi) hn)]
  exact I.ar.t d
/-- Nothing is ready: all is listed. -/
theorem Inv.stuck (I : Inv P cf yf n ops (bef ops.toList) k0 h0 T0 T' R hF r00 h00 w00 p l t h old lst r w tS a) (hnil : Region.ready .any ops lst = []) : ∀ i, i < ops.size → Ls lst i := by
  obtain ⟨M, hord, hM⟩ := I.ord
  have key : ∀ (l2 l1 : List Nat), l = l1 ++ l2 → (∀ x ∈ l1, Ls lst x) → ∀ x ∈ l2, Ls lst x := by
    intro l2
    induction l2 with
    | nil => intro l1 _ _ x hx; cases hx
    | cons i l2 ih =>
      intro l1 hl h1 x hx
      have hi : Ls lst i := by
        obtain ⟨M', hord', hM'⟩ := ordOk_split l1 (i :: l2) M (hl ▸ hord)
        obtain ⟨o, ho, _, hbits, _, _⟩ := ordOk_cons hord'
        have hilt := lt_of_op (toL.1 ho)
        refine Classical.byContradiction fun hn => ?_
        have : i ∈ Region.ready .any ops lst := by
          refine mem_ready.2 ⟨?_, o, toL.1 ho, fun e he hb => ?_⟩
          · have hlt : i < lst.size := by rw [I.size]; exact hilt
            simp [Ls, hlt] at hn
            simp [hlt, hn]
          · have hbit := (bef_ok ops.toList (by simpa using hilt)).2 o ho e he hb
            rcases (hM' e.on).1 (hbits _ hbit) with q | q
            · exact I.done _ ((hM _).1 q)
            · exact h1 _ q
        rw [hnil] at this
        cases this
      cases hx with
      | head => exact hi
      | tail _ hx => exact ih (l1 ++ [i]) (by simp [hl]) (fun y hy => by
          simp only [List.mem_append, List.mem_singleton] at hy
          rcases hy with hy | rfl
          · exact h1 y hy
          · exact hi) x hx
  intro i hi
  rcases I.cov i hi with q | q
  · exact I.done i q
  · exact key l [] rfl (by simp) i q
theorem countP_lt {α : Type} {p q : α → Bool} (hpq : ∀ x, q x = true → p x = true) {i : α} (hp : p i = true) (hq : q i = false) : ∀ (l : List α), i ∈ l → l.countP q < l.countP p := by
  intro l
  induction l with
  | nil => intro h; cases h
  | cons x l ih =>
    intro h
    have hle : ∀ (l : List α), l.countP q ≤ l.countP p := fun l => by
      induction l with
      | nil => simp
      | cons y l ih =>
        rw [List.countP_cons, List.countP_cons]
        have := hpq y
        cases hy : q y <;> cases hy' : p y <;> simp [hy, hy'] at this ⊢ <;> omega
    rw [List.countP_cons, List.countP_cons]
    cases h with
    | head => simp [hp, hq]; have := hle l; omega
    | tail _ h =>
      have h1 := ih h
      have := hpq x
      cases hy : q x <;> cases hy' : p x <;> simp [hy, hy'] at this ⊢ <;> omega
/-- Whatever order is drawn. -/
theorem sim (hdst : dstOk ops.toList (bef ops.toList) = true) (hk0 : h00.k = k0) (hr00 : HR r00 h00 w00) (hcf : CfOk P cf) (hyf : YfOk P yf) {b : Frame} {k : List Item} {cs : List Frame} (hb : FrK b) :
    ∀ (fuel tt : Nat) (p l : List Nat) (t : T Value) (h : H) (old : List (Nat × H)) (lst : Array Bool) (r : Ren) (w : World) (tS : T Value) (a : Act),
    Inv P cf yf n ops (bef ops.toList) k0 h0 T0 T' R hF r00 h00 w00 p l t h old lst r w tS a → (List.range ops.size).countP (fun i => !lst.getD i false) ≤ fuel →
    OG P (lone (b.atR a (.inRegion ops (Region.linearise.go .any ops fuel tt lst []) :: k)) cs w) ∨ ∃ r' a' w', Step r00 h00 w00 r' hF w' ∧ AR r' hF n T' a' ∧ a'.defers = a.defers ∧
      Steps P (lone (b.atR a (.inRegion ops (Region.linearise.go .any ops fuel tt lst []) :: k)) cs w) (lone (b.atR a' (.inRegion ops [] :: k)) cs w') := by
  intro fuel
  induction fuel with
  | zero =>
    intro tt p l t h old lst r w tS a I hc
    have hall : ∀ i, i < ops.size → Ls lst i := fun i hi => by
      have h0 : (List.range ops.size).countP (fun i => !lst.getD i false) = 0 := by omega
      have := List.countP_eq_zero.1 h0 i (List.mem_range.2 hi)
      simpa [Ls] using this
    obtain ⟨s1, a1⟩ := I.end hdst hall
    simp only [Region.linearise.go, List.reverse_nil]
    exact .inr ⟨r, a, w, s1, a1, rfl, .refl _ _⟩
  | succ fuel ih =>
    intro tt p l t h old lst r w tS a I hc
    simp only [Region.linearise.go]
    change OG P (lone (b.atR a (.inRegion ops (match (Region.ready .any ops lst)[tt % (Region.ready .any ops lst).length]? with
      | some i => Region.linearise.go .any ops fuel (tt / (Region.ready .any ops lst).length) (lst.setIfInBounds i true) [i]
      | none => [].reverse) :: k)) cs w) ∨ ∃ r' a' w', Step r00 h00 w00 r' hF w' ∧ AR r' hF n T' a' ∧ a'.defers = a.defers ∧
      Steps P (lone (b.atR a (.inRegion ops (match (Region.ready .any ops lst)[tt % (Region.ready .any ops lst).length]? with
      | some i => Region.linearise.go .any ops fuel (tt / (Region.ready .any ops lst).length) (lst.setIfInBounds i true) [i]
      | none => [].reverse) :: k)) cs w) (lone (b.atR a' (.inRegion ops [] :: k)) cs w')
    cases hi : (Region.ready .any ops lst)[tt % (Region.ready .any ops lst).length]? with
    | none =>
      have hnil : Region.ready .any ops lst = [] := by
        cases hr : Region.ready .any ops lst with
        | nil => rfl
        | cons x xs =>
          rw [hr] at hi
          have hlt : tt % (x :: xs).length < (x :: xs).length := Nat.mod_lt _ (by simp)
          simp at hi
          simp at hlt
          omega
      obtain ⟨s1, a1⟩ := I.end hdst (I.stuck hnil)
      exact .inr ⟨r, a, w, s1, a1, rfl, .refl _ _⟩
    | some i =>
      simp only []
      rw [linearise_go_acc, List.reverse_singleton, List.singleton_append]
      obtain ⟨o, hrd⟩ := Rd.of (List.mem_of_getElem? hi)
      have hc' : (List.range ops.size).countP (fun j => !(lst.setIfInBounds i true).getD j false) ≤ fuel := by
        have := countP_lt (p := fun j => !lst.getD j false) (q := fun j => !(lst.setIfInBounds i true).getD j false) (i := i) (fun j hj => by
          by_cases hij : i = j
          · subst hij; simp [hrd.lt] at hj
          · rw [getD_set_ne false hij] at hj; exact hj) (by simpa [Ls] using hrd.un) (by simp [hrd.lt]) (List.range ops.size) (List.mem_range.2 (lt_of_op hrd.op))
        omega
      cases hE : isE P o with
      | true =>
        rcases I.loud hdst hr00 hcf hyf hrd hE hb (Region.linearise.go .any ops fuel (tt / (Region.ready .any ops lst).length) (lst.setIfInBounds i true) []) with hg | ⟨p', l', t', h', old', r', w', tS', a', I', hd', hst⟩
        · exact .inl hg
        · rcases ih (tt / (Region.ready .any ops lst).length) p' l' t' h' old' _ r' w' tS' a' I' hc' with hg | ⟨r2, a2, w2, q1, q2, q3, q4⟩
          · exact .inl (OG.of_steps hst hg)
          · exact .inr ⟨r2, a2, w2, q1, q2, q3.trans hd', hst.trans q4⟩
      | false =>
        rcases I.quiet hdst hk0 hr00 hrd hE hb (Region.linearise.go .any ops fuel (tt / (Region.ready .any ops lst).length) (lst.setIfInBounds i true) []) with hg | ⟨r', w', tS', a', I', hd', hst⟩
        · exact .inl hg
        · rcases ih (tt / (Region.ready .any ops lst).length) p l t h old _ r' w' tS' a' I' hc' with hg | ⟨r2, a2, w2, q1, q2, q3, q4⟩
          · exact .inl (OG.of_steps hst hg)
          · exact .inr ⟨r2, a2, w2, q1, q2, q3.trans hd', hst.trans q4⟩
end
variable {t t' : T Value} {a : Act} {ex : CodeF} {ro ro' : Option Nat} {x : Ex} {D D' : List Nat} {h' : H}
theorem draw_ok (hm : P.follows .mixedOrders = true) (hcf : CfOk P cf) (hyf : YfOk P yf) {id : Nat} {ops : Array Oper} (hok : drawOk P ops.toList = true) {T' : T Value} {hF : H}
    (hrun : runD P cf yf n ops.toList (bef ops.toList) h.k { h with k := h.k + ops.toList.length } (ord P ops.toList) t { h with k := h.k + ops.toList.length } { h with k := h.k + ops.toList.length } [] [] = some (T', hF)) (hr : HR r h w) (ha : AR r h n t a) (hd : DR r B D a.defers) :
    Runs P ro' (.region id ops true) a w (At B r h w n .normal T' D hF) := by
  simp only [drawOk, Bool.and_eq_true] at hok
  obtain ⟨hdst, hord⟩ := hok
  intro b k cs hk hro
  have hst := stepR_region_draw (P := P) (b := b) (a := a) (k := k) (cs := cs) (w := w) (ops := ops) (id := id)
  rw [hm] at hst
  simp only [Region.schedule, Bool.true_or, if_true, Region.linearise] at hst
  have hlt : ∀ i ∈ ord P ops.toList, i < ops.size := fun i hi => by obtain ⟨o, ho⟩ := ordOk_lt _ _ hord i hi; exact lt_of_op (toL.1 ho)
  have hnl : ∀ i, ¬ Ls (Array.replicate ops.size false) i := fun i q => by
    unfold Ls at q
    rw [Array.getD_eq_getD_getElem?, Array.getElem?_replicate] at q
    split at q <;> simp at q
  have hr1 : HR r { h with k := h.k + ops.toList.length } { w with drawn := w.drawn + 1 } := by
    have := hr.drew (w.drawn + 1)
    refine ⟨this.blk, this.inj, fun x hx => hr.new x ?_, ?_, this.gl, this.bnd⟩
    · have hx : 2 * (h.k + ops.toList.length) ≤ x := hx
      omega
    · have := hr.lo
      show h.lo ≤ 2 * (h.k + ops.toList.length)
      omega
  obtain ⟨R, hR⟩ := refOk_exists ops.toList (bef ops.toList) t T'
  have I : Inv P cf yf n ops (bef ops.toList) h.k { h with k := h.k + ops.toList.length } t T' R hF r h w [] (ord P ops.toList) t { h with k := h.k + ops.toList.length } [] (Array.replicate ops.size false) r { w with drawn := w.drawn + 1 } t a := by
    refine ⟨by simp, by simp, fun i hi => ?_, fun i _ _ _ _ q => hnl i q, fun i o _ q => absurd q (hnl i), ⟨0, hord, by simp⟩, hrun, hR, ⟨fun x hx => by simp at hx, fun d _ => rfl⟩, fun d _ => rfl, ?_, ⟨ha.t, ha.n⟩, fun d hd => ?_, rfl, by simp, fun i hi _ q => ?_, fun i _ q => absurd q (hnl i), fun i _ j _ _ q => absurd q (hnl i)⟩
    · rcases ordOk_all _ _ hord i (by simpa using hi) with q | q
      · simp at q
      · exact .inr q
    · exact ⟨Ext.refl r, fun _ _ => rfl, hr1, by simp, rfl, rfl, Nat.le_refl _, fun _ _ ho => ⟨rfl, ho⟩, rfl, rfl, rfl⟩
    · refine (runD_T _ _ _ _ _ _ hrun d ?_).symm
      rcases hd with hd | hd
      · exact .inl fun i hi o ho => hd i (hlt i hi) (hnl i) o (toL.1 ho)
      · exact .inr hd
    · exact hr.new _ (idAt_ge)
  refine Goes.of_steps (.one hst) ?_
  rcases sim hdst rfl hr hcf hyf hk ops.size _ [] _ t _ [] _ r _ t a I (by
      have := List.countP_le_length (p := fun i => !(Array.replicate ops.size false).getD i false) (l := List.range ops.size)
      simpa using this) with hg | ⟨r2, a2, w2, q1, q2, q3, q4⟩
  · exact .inl hg
  · exact .inr ⟨.normal, a2, w2, ⟨rfl, r2, q1, q2, by rw [q3]; exact hd.ext q1.ext⟩, q4.trans (.one stepR_region_end)⟩
theorem body_draw (hm : P.follows .mixedOrders = true) (hcf : CfOk P (callF P ex)) (hyf : YfOk P (yieldF ex)) {id : Nat} {ops : Array Oper} (hv : body P ex ro n (.region id ops true) t D h = .ok x t' D' h') (hr : HR r h w) (ha : AR r h n t a) (hd : DR r B D a.defers) :
    Runs P ro' (.region id ops true) a w (At B r h w n x t' D' h') := by
  simp only [body, cond_true] at hv
  cases hok : drawOk P ops.toList with
  | false => rw [hok] at hv; cases hv
  | true =>
    rw [hok] at hv
    simp only [cond_true] at hv
    split at hv
    · rename_i T' hF hrun
      simp only [R.ok.injEq] at hv
      obtain ⟨rfl, rfl, rfl, rfl⟩ := hv
      exact draw_ok hm hcf hyf hok hrun hr ha hd
    · cases hv
theorem body_ok (hm : P.follows .mixedOrders = true) (hng : NoNG P) (hex : ExOk P ex) : ExOk P (body P ex) := by
  have hcf := callF_ok hng hex
  have hyf := yieldF_ok hex
  intro ro n c t D h x t' D' h' hv B r w a ro' hr ha hd ho
  cases c with
  | skip =>
    simp only [body, R.ok.injEq] at hv
    obtain ⟨rfl, rfl, rfl, rfl⟩ := hv
    exact runs_skip ⟨rfl, r, Step.refl hr, ha, hd⟩
  | label l =>
    simp only [body, R.ok.injEq] at hv
    obtain ⟨rfl, rfl, rfl, rfl⟩ := hv
    exact runs_label ⟨rfl, r, Step.refl hr, ha, hd⟩
  | ret =>
    simp only [body, R.ok.injEq] at hv
    obtain ⟨rfl, rfl, rfl, rfl⟩ := hv
    exact runs_ret ⟨rfl, r, Step.refl hr, ha, hd⟩
  | exit id =>
    simp only [body, R.ok.injEq] at hv
    obtain ⟨rfl, rfl, rfl, rfl⟩ := hv
    exact runs_exit ⟨rfl, r, Step.refl hr, ha, hd⟩
  | seq c d => exact body_seq hex hv hr ha hd ho
  | scope c =>
    simp only [body] at hv
    exact runs_scope (hex _ _ _ _ _ _ _ _ _ _ hv r w a ro' hr ha hd ho).runs
  | cond c d e => exact body_cond hex hv hr ha hd ho
  | block id c => exact body_block hex hv hr ha hd ho
  | loop c => exact body_loop hex hv hr ha hd ho
  | rangeFunc g ps as bd => exact body_rangeFunc hcf hv hr ha hd ho
  | region id ops draw =>
    cases draw with
    | true => exact body_draw hm hcf hyf hv hr ha hd
    | false => exact body_region hcf hyf hv hr ha hd
  | _ => simp only [body] at hv; cases hv
/-- Our machine runs what the model runs. -/
theorem run_ok (hm : P.follows .mixedOrders = true) (hng : NoNG P) : ∀ k, ExOk P (run P k) := by
  intro k
  induction k with
  | zero => intro ro n c t D h x t' D' h' hv; simp only [run] at hv; cases hv
  | succ k ih => exact body_ok hm hng ih
end Ev
end Go.Proofs.YtmemadmjgcpobaaGreatDoor
/- The same machine, made for the kernel's speed: places in trees, values taken apart by recursors, code made ready. -/
set_option maxRecDepth 10000
namespace Go.Proofs.YtmemadmjgcpobaaGreatDoor
namespace Ev
/-- A place in a tree. -/
inductive Pth where
  | h
  | l (p : Pth)
  | r (p : Pth)
def pthF : Nat → Nat → Pth
  | 0, _ => .h
  | f + 1, m => bif Nat.beq m 1 then .h else bif Nat.beq (m % 2) 0 then .l (pthF f (m / 2)) else .r (pthF f (m / 2))
def pth (d : Nat) : Pth := pthF (d + 1) (d + 1)
noncomputable def T.at_ (p : Pth) : T Value → Value :=
  Pth.rec (motive := fun _ => T Value → Value) (fun t => T.rec (motive := fun _ => Value) undef (fun _ v _ _ _ => Option.rec (motive := fun _ => Value) undef (fun x => x) v) t)
    (fun _ ih t => T.rec (motive := fun _ => Value) undef (fun l _ _ _ _ => ih l) t) (fun _ ih t => T.rec (motive := fun _ => Value) undef (fun _ _ r _ _ => ih r) t) p
noncomputable def T.put (v : Value) (p : Pth) : T Value → T Value :=
  Pth.rec (motive := fun _ => T Value → T Value) (fun t => T.rec (motive := fun _ => T Value) (.n .e (some v) .e) (fun l _ r _ _ => .n l (some v) r) t)
    (fun _ ih t => T.rec (motive := fun _ => T Value) (.n (ih .e) none .e) (fun l w r _ _ => .n (ih l) w r) t) (fun _ ih t => T.rec (motive := fun _ => T Value) (.n .e none (ih .e)) (fun l w r _ _ => .n l w (ih r)) t) p
theorem T.at_eq : ∀ (f m : Nat) (t : T Value), 1 ≤ m → m ≤ f → t.at_ (pthF f m) = (t.get m).getD undef := by
  intro f
  induction f with
  | zero => intro m t h1 h2; omega
  | succ f ih =>
    intro m t h1 h2
    cases t with
    | e =>
      simp only [pthF, T.get_e, Option.getD_none]
      cases Nat.beq m 1 <;> cases Nat.beq (m % 2) 0 <;> rfl
    | n l v r =>
      simp only [pthF, T.get_n]
      by_cases hm : m = 1
      · subst hm; cases v <;> rfl
      · rw [beqF hm]
        cases Nat.beq (m % 2) 0
        · exact ih _ _ (by omega) (by omega)
        · exact ih _ _ (by omega) (by omega)
theorem T.one_fuel {α : Type} (v : α) : ∀ (f g m : Nat), 1 ≤ m → m ≤ f → m ≤ g → T.one v f m = T.one v g m := by
  intro f
  induction f with
  | zero => intro g m h1 h2; omega
  | succ f ih =>
    intro g m h1 h2 h3
    cases g with
    | zero => omega
    | succ g =>
      simp only [T.one_s]
      by_cases hm : m = 1
      · subst hm; rfl
      · rw [beqF hm, ih g (m / 2) (by omega) (by omega) (by omega)]
theorem T.put_one (v : Value) : ∀ (f m : Nat), 1 ≤ m → m ≤ f → T.put v (pthF f m) .e = T.one v f m := by
  intro f
  induction f with
  | zero => intro m h1 h2; omega
  | succ f ih =>
    intro m h1 h2
    simp only [pthF, T.one_s]
    by_cases hm : m = 1
    · subst hm; rfl
    · rw [beqF hm]
      cases Nat.beq (m % 2) 0
      · show T.n .e none (T.put v (pthF f (m / 2)) .e) = _
        rw [ih _ (by omega) (by omega)]; rfl
      · show T.n (T.put v (pthF f (m / 2)) .e) none .e = _
        rw [ih _ (by omega) (by omega)]; rfl
theorem T.put_eq (v : Value) : ∀ (f m : Nat) (t : T Value), 1 ≤ m → m ≤ f → T.put v (pthF f m) t = t.set v m := by
  intro f
  induction f with
  | zero => intro m t h1 h2; omega
  | succ f ih =>
    intro m t h1 h2
    cases t with
    | e => rw [T.put_one v _ _ h1 h2, T.set_e]; exact T.one_fuel v _ _ _ h1 h2 (Nat.le_refl _)
    | n l w r =>
      simp only [pthF, T.set_n]
      by_cases hm : m = 1
      · subst hm; rfl
      · rw [beqF hm]
        cases Nat.beq (m % 2) 0
        · show T.n l w (T.put v (pthF f (m / 2)) r) = _
          rw [ih _ _ (by omega) (by omega)]; rfl
        · show T.n (T.put v (pthF f (m / 2)) l) w r = _
          rw [ih _ _ (by omega) (by omega)]; rfl
theorem at_pth (d : Nat) (t : T Value) : t.at_ (pth d) = (t.get (d + 1)).getD undef := T.at_eq _ _ _ (by omega) (Nat.le_refl _)
theorem put_pth (v : Value) (d : Nat) (t : T Value) : T.put v (pth d) t = t.set v (d + 1) := T.put_eq v _ _ _ (by omega) (Nat.le_refl _)
noncomputable def vBool {α : Type} (v : Value) (d : α) (k : Bool → α) : α :=
  @Value.rec (fun _ => α) (fun _ => Unit) (fun _ => Unit) (fun q => k q) (fun _ _ => d) (fun _ _ => d) (fun _ _ _ => d) (fun _ => d) (fun _ => d) (fun _ _ _ => d) (fun _ => d) (fun _ => d) (fun _ _ _ _ _ => d) d (fun _ _ _ => d) d (fun _ _ => d) (fun _ _ => d) (fun _ _ => ()) () (fun _ _ _ _ => ()) v
noncomputable def vInt {α : Type} (v : Value) (d : α) (k : IntKind → Int → α) : α :=
  @Value.rec (fun _ => α) (fun _ => Unit) (fun _ => Unit) (fun _ => d) (fun i n => k i n) (fun _ _ => d) (fun _ _ _ => d) (fun _ => d) (fun _ => d) (fun _ _ _ => d) (fun _ => d) (fun _ => d) (fun _ _ _ _ _ => d) d (fun _ _ _ => d) d (fun _ _ => d) (fun _ _ => d) (fun _ _ => ()) () (fun _ _ _ _ => ()) v
noncomputable def vStr {α : Type} (v : Value) (d : α) (k : ByteArray → α) : α :=
  @Value.rec (fun _ => α) (fun _ => Unit) (fun _ => Unit) (fun _ => d) (fun _ _ => d) (fun _ _ => d) (fun _ _ _ => d) (fun s => k s) (fun _ => d) (fun _ _ _ => d) (fun _ => d) (fun _ => d) (fun _ _ _ _ _ => d) d (fun _ _ _ => d) d (fun _ _ => d) (fun _ _ => d) (fun _ _ => ()) () (fun _ _ _ _ => ()) v
noncomputable def vPtr {α : Type} (v : Value) (d : α) (k : Option Addr → α) : α :=
  @Value.rec (fun _ => α) (fun _ => Unit) (fun _ => Unit) (fun _ => d) (fun _ _ => d) (fun _ _ => d) (fun _ _ _ => d) (fun _ => d) (fun a => k a) (fun _ _ _ => d) (fun _ => d) (fun _ => d) (fun _ _ _ _ _ => d) d (fun _ _ _ => d) d (fun _ _ => d) (fun _ _ => d) (fun _ _ => ()) () (fun _ _ _ _ => ()) v
noncomputable def vSl {α : Type} (v : Value) (d : α) (k : Option Addr → Nat → Nat → α) : α :=
  @Value.rec (fun _ => α) (fun _ => Unit) (fun _ => Unit) (fun _ => d) (fun _ _ => d) (fun _ _ => d) (fun _ _ _ => d) (fun _ => d) (fun _ => d) (fun a l c => k a l c) (fun _ => d) (fun _ => d) (fun _ _ _ _ _ => d) d (fun _ _ _ => d) d (fun _ _ => d) (fun _ _ => d) (fun _ _ => ()) () (fun _ _ _ _ => ()) v
noncomputable def vFn {α : Type} (v : Value) (d : α) (k : Fn → Array Value → Array Value → α) : α :=
  @Value.rec (fun _ => α) (fun _ => Unit) (fun _ => Unit) (fun _ => d) (fun _ _ => d) (fun _ _ => d) (fun _ _ _ => d) (fun _ => d) (fun _ => d) (fun _ _ _ => d) (fun _ => d) (fun _ => d) (fun f a b _ _ => k f a b) d (fun _ _ _ => d) d (fun _ _ => d) (fun _ _ => d) (fun _ _ => ()) () (fun _ _ _ _ => ()) v
noncomputable def vAgg {α : Type} (v : Value) (d : α) (k : Array Value → α) : α :=
  @Value.rec (fun _ => α) (fun _ => Unit) (fun _ => Unit) (fun _ => d) (fun _ _ => d) (fun _ _ => d) (fun _ _ _ => d) (fun _ => d) (fun _ => d) (fun _ _ _ => d) (fun _ => d) (fun _ => d) (fun _ _ _ _ _ => d) d (fun _ _ _ => d) d (fun a _ => k a) (fun _ _ => d) (fun _ _ => ()) () (fun _ _ _ _ => ()) v
noncomputable def vTup {α : Type} (v : Value) (d : α) (k : Array Value → α) : α :=
  @Value.rec (fun _ => α) (fun _ => Unit) (fun _ => Unit) (fun _ => d) (fun _ _ => d) (fun _ _ => d) (fun _ _ _ => d) (fun _ => d) (fun _ => d) (fun _ _ _ => d) (fun _ => d) (fun _ => d) (fun _ _ _ _ _ => d) d (fun _ _ _ => d) d (fun _ _ => d) (fun a _ => k a) (fun _ _ => ()) () (fun _ _ _ _ => ()) v
/-- A value that has not been forgotten. -/
noncomputable def vJ {α : Type} (v : Value) (d : α) (k : Value → α) : α :=
  @Value.rec (fun _ => α) (fun _ => Unit) (fun _ => Unit) (fun q => k (.bool q)) (fun i n => k (.int i n)) (fun i n => k (.float i n)) (fun i n m => k (.complex i n m)) (fun s => k (.string s)) (fun a => k (.pointer a)) (fun a l c => k (.slice a l c)) (fun a => k (.map a)) (fun a => Option.rec (motive := fun _ => α) (k (.chan none)) (fun x => Nat.rec (motive := fun _ => α) d (fun y _ => k (.chan (some (Nat.succ y)))) x) a) (fun f a b _ _ => k (.func f a b)) (k .nilFunc) (fun t u _ => k (.iface t u)) (k .nilIface) (fun a _ => k (.agg a)) (fun a _ => k (.tuple a)) (fun _ _ => ()) () (fun _ _ _ _ => ()) v
theorem vJ_eq {α : Type} (v : Value) (d : α) (k : Value → α) : vJ v d k = bif isJ v then d else k v := by
  cases v with
  | chan a => cases a with
    | none => rfl
    | some x => cases x <;> rfl
  | _ => rfl
theorem vBool_eq {α : Type} (v : Value) (d : α) (k : Bool → α) : vBool v d k = (match v with | .bool q => k q | _ => d) := by cases v <;> rfl
theorem vInt_eq {α : Type} (v : Value) (d : α) (k : IntKind → Int → α) : vInt v d k = (match v with | .int i n => k i n | _ => d) := by cases v <;> rfl
theorem vStr_eq {α : Type} (v : Value) (d : α) (k : ByteArray → α) : vStr v d k = (match v with | .string s => k s | _ => d) := by cases v <;> rfl
theorem vPtr_eq {α : Type} (v : Value) (d : α) (k : Option Addr → α) : vPtr v d k = (match v with | .pointer a => k a | _ => d) := by cases v <;> rfl
theorem vSl_eq {α : Type} (v : Value) (d : α) (k : Option Addr → Nat → Nat → α) : vSl v d k = (match v with | .slice a l c => k a l c | _ => d) := by cases v <;> rfl
theorem vFn_eq {α : Type} (v : Value) (d : α) (k : Fn → Array Value → Array Value → α) : vFn v d k = (match v with | .func f a b => k f a b | _ => d) := by cases v <;> rfl
theorem vAgg_eq {α : Type} (v : Value) (d : α) (k : Array Value → α) : vAgg v d k = (match v with | .agg a => k a | _ => d) := by cases v <;> rfl
theorem vTup_eq {α : Type} (v : Value) (d : α) (k : Array Value → α) : vTup v d k = (match v with | .tuple a => k a | _ => d) := by cases v <;> rfl
end Ev
end Go.Proofs.YtmemadmjgcpobaaGreatDoor
