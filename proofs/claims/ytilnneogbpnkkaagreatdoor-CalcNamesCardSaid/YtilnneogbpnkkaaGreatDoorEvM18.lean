/- The fast machine does what the machine does: code, calls. -/
import Derived.Test.YtilnneogbpnkkaaGreatDoorEvM17
import Derived.Below
set_option maxRecDepth 10000
namespace Go.Proofs.YtilnneogbpnkkaaGreatDoor
namespace Ev
noncomputable section
variable {P : Program} {B : List Deferred} {h : H} {t : T Value} {o : Oper} {cf yf : CallF} {n : Nat}
variable {x : Ex} {t' : T Value} {D D' : List Nat} {h' : H}
theorem exG_eq (all : List Oper) (o : Oper) (yes no : R) : exG t (compG all o) yes no = bif jg all t o then .bad else bif wants all t o then yes else no := by
  unfold compG wants jg
  cases o.guard with
  | none => rfl
  | some g =>
    obtain ⟨j, want⟩ := g
    simp only []
    cases all[j]? with
    | none => rfl
    | some oj =>
      simp only []
      cases hd : oj.dst with
      | none => rfl
      | some d =>
        simp only []
        show vJ (t.at_ (pth d)) .bad (fun v => ifF (vBool v false fun b => ifF want b (!b)) yes no) = _
        rw [vJ_eq, at_pth]
        cases hj : isJ ((t.get (d + 1)).getD undef) with
        | true => rfl
        | false =>
        simp only [cond_false]
        rw [ifF_eq, vBool_eq]
        cases hq : t.get (d + 1) with
        | none => rfl
        | some u =>
          cases u with
          | bool b => cases b <;> cases want <;> rfl
          | _ => rfl
theorem putF_eq (dst : Option Tmp) (v : Value) (t : T Value) : putF (match dst with
    | none => none
    | some d => bif Nat.blt d n then some (pth d) else none) v t = put n dst v t := by
  cases dst with
  | none => rfl
  | some d =>
    simp only [put]
    cases Nat.blt d n with
    | false => rfl
    | true => exact put_pth v d t
theorem exL_ok (all : List Oper) : ∀ (l : List Oper) (t : T Value) (h : H), exL P cf yf D (compL P n all l) t h = .ok x t' D' h' → runOps P cf yf n all D l t h = .ok x t' D' h' := by
  intro l
  induction l with
  | nil => intro t h hv; exact hv
  | cons o l ih =>
    intro t h hv
    change exG t (compG all o) (exOS P cf yf o t h (fun v h' => exL P cf yf D (compL P n all l) (putF (compD P n all o).dst v t) h') (comp1 P o)) (exL P cf yf D (compL P n all l) (putF (compD P n all o).dst undef t) h) = _ at hv
    rw [exG_eq] at hv
    cases hjg : jg all t o with
    | true => rw [hjg] at hv; cases hv
    | false =>
    rw [hjg] at hv
    simp only [cond_false] at hv
    simp only [runOps, hjg, cond_false]
    cases hw : wants all t o with
    | true =>
      rw [hw] at hv
      simp only [cond_true] at hv ⊢
      obtain ⟨v, h1, hs, hk⟩ := exO_ok hv
      rw [hs]
      simp only []
      have := ih _ _ hk
      rw [show putF (compD P n all o).dst v t = put n o.dst v t from putF_eq o.dst v t] at this
      exact this
    | false =>
      rw [hw] at hv
      simp only [cond_false] at hv ⊢
      have := ih _ _ hv
      rw [show putF (compD P n all o).dst undef t = put n o.dst undef t from putF_eq o.dst undef t] at this
      exact this
theorem kind_of_isE (hE : isE P o = true) : kind P o = 2 := Nat.eq_of_beq_eq_true hE
theorem kind_lt (P : Program) (o : Oper) : kind P o ≤ 2 := by
  unfold kind
  split <;> first | omega | (split <;> omega)
theorem exDr_ok {all : List Oper} {b : List Nat} {k0 : Nat} {h0 : H} {k : T Value → H → R} : ∀ (l : List Nat) (t : T Value) (h hs : H) (als : List (Nat × Nat × Blk)) (old : List (Nat × H)), (∀ i ∈ l, ∃ o, all[i]? = some o) →
    exDr P cf yf k0 h0 k (compDD P n all b l) t h hs als old = .ok x t' D' h' → ∃ T' hF, runD P cf yf n all b k0 h0 l t h hs als old = some (T', hF) ∧ k T' hF = .ok x t' D' h' := by
  intro l
  induction l with
  | nil => intro t h hs als old _ hv; exact ⟨t, h, rfl, hv⟩
  | cons i l ih =>
    intro t h hs als old hall hv
    obtain ⟨o, ho⟩ := hall i (by simp)
    have hall' : ∀ j ∈ l, ∃ o, all[j]? = some o := fun j hj => hall j (by simp [hj])
    have hcd : compDD P n all b (i :: l) = ⟨i, bif isE P o then 3 else bif Nat.beq (kind P o) 0 then (bif looksMem o then 1 else 0) else 2, compD P n all o, b.getD i 0⟩ :: compDD P n all b l := by
      show (match all[i]? with
        | some o => (⟨i, bif isE P o then 3 else bif Nat.beq (kind P o) 0 then (bif looksMem o then 1 else 0) else 2, compD P n all o, b.getD i 0⟩ : DD) :: compDD P n all b l
        | none => compDD P n all b l) = _
      rw [ho]
    rw [hcd] at hv
    have hpf : ∀ v, putF (compD P n all o).dst v t = put n o.dst v t := fun v => putF_eq o.dst v t
    rw [runD]
    simp only [ho]
    cases hE : isE P o with
    | true =>
      rw [hE] at hv
      change exG t (compG all o) (exOS P cf yf o t h (fun v h' => exDr P cf yf k0 h0 k (compDD P n all b l) (putF (compD P n all o).dst v t) h' h' [] ((i, hs) :: old)) (comp1 P o)) (exDr P cf yf k0 h0 k (compDD P n all b l) (putF (compD P n all o).dst undef t) h h [] ((i, hs) :: old)) = _ at hv
      rw [exG_eq] at hv
      cases hjg : jg all t o with
      | true => rw [hjg] at hv; cases hv
      | false =>
      rw [hjg] at hv
      simp only [cond_false] at hv
      simp only [cond_false]
      simp only [cond_true]
      cases hw : wants all t o with
      | true =>
        rw [hw] at hv
        simp only [cond_true] at hv ⊢
        obtain ⟨v, h1, hs1, hk⟩ := exO_ok hv
        have hef : ef P cf yf t o h = some (v, h1) := by simpa only [step1, kind_of_isE hE] using hs1
        rw [hef]
        rw [hpf] at hk
        exact ih _ _ _ _ _ hall' hk
      | false =>
        rw [hw] at hv
        simp only [cond_false] at hv ⊢
        rw [hpf] at hv
        exact ih _ _ _ _ _ hall' hv
    | false =>
      rw [hE] at hv
      simp only [cond_false] at hv ⊢
      cases hk0 : Nat.beq (kind P o) 0 with
      | true =>
        rw [hk0] at hv
        have hkz := Nat.eq_of_beq_eq_true hk0
        simp only [cond_true] at hv ⊢
        cases hm : looksMem o with
        | true =>
          rw [hm] at hv
          change exG t (compG all o) (exOS P cf yf o t (addB (b.getD i 0) als hs) (fun v _ => ifF (sameAt P t o (b.getD i 0) v old) (exDr P cf yf k0 h0 k (compDD P n all b l) (putF (compD P n all o).dst v t) h hs als old) .bad) (comp1 P o)) (exDr P cf yf k0 h0 k (compDD P n all b l) (putF (compD P n all o).dst undef t) h hs als old) = _ at hv
          rw [exG_eq] at hv
          cases hjg : jg all t o with
          | true => rw [hjg] at hv; cases hv
          | false =>
          rw [hjg] at hv
          simp only [cond_false] at hv
          simp only [cond_false]
          cases hw : wants all t o with
          | true =>
            rw [hw] at hv
            simp only [cond_true] at hv ⊢
            obtain ⟨v, h1, hs1, hk⟩ := exO_ok hv
            have hrd : rd P (addB (b.getD i 0) als hs) t o = some v := by
              simp only [step1, hkz] at hs1
              split at hs1
              · rename_i u hu; simp only [Option.some.injEq, Prod.mk.injEq] at hs1; rw [hu, hs1.1]
              · cases hs1
            rw [hrd]
            simp only []
            rw [ifF_eq] at hk
            cases hsa : sameAt P t o (b.getD i 0) v old with
            | true =>
              rw [hsa] at hk
              simp only [cond_true] at hk ⊢
              rw [hpf] at hk
              exact ih _ _ _ _ _ hall' hk
            | false => rw [hsa] at hk; cases hk
          | false =>
            rw [hw] at hv
            simp only [cond_false] at hv ⊢
            rw [hpf] at hv
            exact ih _ _ _ _ _ hall' hv
        | false =>
          rw [hm] at hv
          change exG t (compG all o) (exOS P cf yf o t h0 (fun v _ => exDr P cf yf k0 h0 k (compDD P n all b l) (putF (compD P n all o).dst v t) h hs als old) (comp1 P o)) (exDr P cf yf k0 h0 k (compDD P n all b l) (putF (compD P n all o).dst undef t) h hs als old) = _ at hv
          rw [exG_eq] at hv
          cases hjg : jg all t o with
          | true => rw [hjg] at hv; cases hv
          | false =>
          rw [hjg] at hv
          simp only [cond_false] at hv
          simp only [cond_false]
          cases hw : wants all t o with
          | true =>
            rw [hw] at hv
            simp only [cond_true] at hv ⊢
            obtain ⟨v, h1, hs1, hk⟩ := exO_ok hv
            have hrd : rd P h0 t o = some v := by
              simp only [step1, hkz] at hs1
              split at hs1
              · rename_i u hu; simp only [Option.some.injEq, Prod.mk.injEq] at hs1; rw [hu, hs1.1]
              · cases hs1
            rw [hrd]
            simp only []
            rw [hpf] at hk
            exact ih _ _ _ _ _ hall' hk
          | false =>
            rw [hw] at hv
            simp only [cond_false] at hv ⊢
            rw [hpf] at hv
            exact ih _ _ _ _ _ hall' hv
      | false =>
        rw [hk0] at hv
        simp only [cond_false] at hv ⊢
        change exG t (compG all o) (oF (al P h0 t o) .bad fun q => Prod.rec (motive := fun _ => R) (fun bl q => Prod.rec (motive := fun _ => R) (fun q mk => nowN (idAt k0 i q) fun x => exDr P cf yf k0 h0 k (compDD P n all b l) (putF (compD P n all o).dst (mk x) t) (h.set x bl) hs ((i, x, bl) :: als) old) q) q) (exDr P cf yf k0 h0 k (compDD P n all b l) (putF (compD P n all o).dst undef t) h hs als old) = _ at hv
        rw [exG_eq] at hv
        cases hjg : jg all t o with
        | true => rw [hjg] at hv; cases hv
        | false =>
        rw [hjg] at hv
        simp only [cond_false] at hv
        simp only [cond_false]
        cases hw : wants all t o with
        | true =>
          rw [hw] at hv
          simp only [cond_true, oF_eq] at hv ⊢
          split at hv
          · rename_i q hq
            obtain ⟨bl, q, mk⟩ := q
            rw [hq]
            simp only [nowN_eq] at hv
            rw [hpf] at hv
            exact ih _ _ _ _ _ hall' hv
          · cases hv
        | false =>
          rw [hw] at hv
          simp only [cond_false] at hv ⊢
          rw [hpf] at hv
          exact ih _ _ _ _ _ hall' hv
theorem okF_eq {α : Type} (r : R) (d : α) (k : Ex → T Value → List Nat → H → α) : okF r d k = (match r with | .ok x t D h => k x t D h | .bad => d) := by cases r <;> rfl
theorem exE_eq {α : Type} (x : Ex) (a : α) (b : Nat → α) (c : α) : (Ex.rec (motive := fun _ => α) a b c x) = (match x with | .normal => a | .exit i => b i | .ret => c) := by cases x <;> rfl
variable {ex : CodeF}
/-- Code. -/
theorem exC_ok (hm : P.follows .mixedOrders = true) (hng : NoNG P) (hex : ExOk P ex) (hcf : CfOk P cf) (hyf : YfOk P yf) (n : Nat) : ∀ (c : Code) (ro : Option Nat) (t : T Value) (D : List Nat) (h : H) (x : Ex) (t' : T Value) (D' : List Nat) (h' : H),
    exC P ex cf yf ro n (comp P n c) t D h = .ok x t' D' h' → ∀ {B : List Deferred} (r : Ren) (w : World) (a : Act) (ro' : Option Nat), HR r h w → AR r h n t a → DR r B D a.defers → RoR r ro ro' → RunsX P ro' c a w (At B r h w n x t' D' h') := by
  have hslow : ∀ (c : Code), (comp P n c = .slow c) → ∀ (ro : Option Nat) (t : T Value) (D : List Nat) (h : H) (x : Ex) (t' : T Value) (D' : List Nat) (h' : H),
      exC P ex cf yf ro n (comp P n c) t D h = .ok x t' D' h' → ∀ {B : List Deferred} (r : Ren) (w : World) (a : Act) (ro' : Option Nat), HR r h w → AR r h n t a → DR r B D a.defers → RoR r ro ro' → RunsX P ro' c a w (At B r h w n x t' D' h') := by
    intro c hc ro t D h x t' D' h' hv B r w a ro' hr ha hd ho
    rw [hc] at hv
    exact body_ok hm hng hex ro n c t D h x t' D' h' hv r w a ro' hr ha hd ho
  intro c
  induction c with
  | skip =>
    intro ro t D h x t' D' h' hv B r w a ro' hr ha hd ho
    change R.ok .normal t D h = _ at hv
    cases hv
    exact runs_skip ⟨rfl, r, Step.refl hr, ha, hd⟩
  | label l =>
    intro ro t D h x t' D' h' hv B r w a ro' hr ha hd ho
    change R.ok .normal t D h = _ at hv
    cases hv
    exact runs_label ⟨rfl, r, Step.refl hr, ha, hd⟩
  | ret =>
    intro ro t D h x t' D' h' hv B r w a ro' hr ha hd ho
    change R.ok .ret t D h = _ at hv
    cases hv
    exact runs_ret ⟨rfl, r, Step.refl hr, ha, hd⟩
  | exit id =>
    intro ro t D h x t' D' h' hv B r w a ro' hr ha hd ho
    change R.ok (.exit id) t D h = _ at hv
    cases hv
    exact runs_exit ⟨rfl, r, Step.refl hr, ha, hd⟩
  | scope c ih =>
    intro ro t D h x t' D' h' hv B r w a ro' hr ha hd ho
    exact runs_scope (ih ro t D h x t' D' h' hv r w a ro' hr ha hd ho).runs
  | seq c d ihc ihd =>
    intro ro t D h x t' D' h' hv B r w a ro' hr ha hd ho
    change okF (exC P ex cf yf ro n (comp P n c) t D h) .bad (fun x t1 D1 h1 => Ex.rec (motive := fun _ => R) (exC P ex cf yf ro n (comp P n d) t1 D1 h1) (fun id => .ok (.exit id) t1 D1 h1) (.ok .ret t1 D1 h1) x) = _ at hv
    rw [okF_eq] at hv
    refine runs_seq ?_
    split at hv
    · rename_i x1 t1 D1 h1 hq
      refine ((ihc ro t D h x1 t1 D1 h1 hq r w a ro' hr ha hd ho).runs).mono fun y a1 w1 hy => ?_
      have hy' := hy
      obtain ⟨rfl, r1, s1, a1', d1⟩ := hy
      cases y with
      | normal => exact ((ihd ro t1 D1 h1 x t' D' h' hv r1 w1 a1 ro' s1.hr a1' d1 (ho.ext s1.ext)).runs).mono fun _ _ _ q => q.step s1
      | exit i => change R.ok (.exit i) t1 D1 h1 = _ at hv; cases hv; exact hy'
      | ret => change R.ok .ret t1 D1 h1 = _ at hv; cases hv; exact hy'
    · cases hv
  | block id c ih =>
    intro ro t D h x t' D' h' hv B r w a ro' hr ha hd ho
    change okF (exC P ex cf yf ro n (comp P n c) t D h) .bad (fun x t1 D1 h1 => Ex.rec (motive := fun _ => R) (.ok .normal t1 D1 h1) (fun i => ifF (Nat.beq i id) (.ok .normal t1 D1 h1) (.ok (.exit i) t1 D1 h1)) (.ok .ret t1 D1 h1) x) = _ at hv
    rw [okF_eq] at hv
    refine runs_block ?_
    split at hv
    · rename_i x1 t1 D1 h1 hq
      refine ((ih ro t D h x1 t1 D1 h1 hq r w a ro' hr ha hd ho).runs).mono fun y a1 w1 hy => ?_
      have hy' := hy
      obtain ⟨rfl, r1, s1, a1', d1⟩ := hy
      cases y with
      | exit i =>
        change ifF (Nat.beq i id) (R.ok .normal t1 D1 h1) (.ok (.exit i) t1 D1 h1) = _ at hv
        rw [ifF_eq] at hv
        simp only [Ex.inBlock]
        cases hi : Nat.beq i id with
        | true =>
          rw [hi] at hv
          cases hv
          rw [if_pos (Nat.eq_of_beq_eq_true hi)]
          exact ⟨rfl, r1, s1, a1', d1⟩
        | false =>
          rw [hi] at hv
          cases hv
          rw [if_neg (ne_of_beq hi)]
          exact hy'
      | normal => change R.ok .normal t1 D1 h1 = _ at hv; cases hv; exact hy'
      | ret => change R.ok .ret t1 D1 h1 = _ at hv; cases hv; exact hy'
    · cases hv
  | loop c ih =>
    intro ro t D h x t' D' h' hv B r w a ro' hr ha hd ho
    change okF (exC P ex cf yf ro n (comp P n c) t D h) .bad (fun x t1 D1 h1 => Ex.rec (motive := fun _ => R) (ex ro n (.loop c) t1 D1 h1) (fun id => .ok (.exit id) t1 D1 h1) (.ok .ret t1 D1 h1) x) = _ at hv
    rw [okF_eq] at hv
    refine loop_round ?_
    split at hv
    · rename_i x1 t1 D1 h1 hq
      refine ((ih ro t D h x1 t1 D1 h1 hq r w a ro' hr ha hd ho).runs).mono fun y a1 w1 hy => ?_
      have hy' := hy
      obtain ⟨rfl, r1, s1, a1', d1⟩ := hy
      cases y with
      | normal =>
        have := hex _ _ _ _ _ _ _ _ _ _ hv r1 w1 a1 ro' s1.hr a1' d1 (ho.ext s1.ext)
        exact fun b k cs hk hro => (this b k cs hk hro).imp id fun ⟨x, a', w', q, f⟩ => ⟨x, a', w', q.step s1, f⟩
      | exit i => change R.ok (.exit i) t1 D1 h1 = _ at hv; cases hv; exact hy'
      | ret => change R.ok .ret t1 D1 h1 = _ at hv; cases hv; exact hy'
    · cases hv
  | cond y c d ihc ihd =>
    cases hf : fo y with
    | none => exact hslow _ (by simp only [comp, hf])
    | some z =>
      intro ro t D h x t' D' h' hv B r w a ro' hr ha hd ho
      have hc : comp P n (.cond y c d) = .cond z (comp P n c) (comp P n d) := by simp only [comp, hf]
      rw [hc] at hv
      change vBool (fev z t) .bad (fun q => ifF q (exC P ex cf yf ro n (comp P n c) t D h) (exC P ex cf yf ro n (comp P n d) t D h)) = _ at hv
      rw [vBool_eq] at hv
      split at hv
      · rename_i q hq
        have he := evO_ok hr ha (fo_ok hf (by rw [hq]; rfl) h.g)
        rw [hq] at he
        refine runs_cond he.to_bool ?_
        rw [ifF_eq] at hv
        cases q with
        | true => exact (ihc ro t D h x t' D' h' hv r w a ro' hr ha hd ho).runs
        | false => exact (ihd ro t D h x t' D' h' hv r w a ro' hr ha hd ho).runs
      · cases hv
  | region id ops draw =>
    cases draw with
    | false =>
      intro ro t D h x t' D' h' hv B r w a ro' hr ha hd ho
      change exL P cf yf D (compL P n ops.toList ops.toList) t h = _ at hv
      have hv := exL_ok _ _ _ _ hv
      intro b k cs hk hro
      obtain ⟨rfl, rfl, h3⟩ := runOps_ok (k := k) (cs := cs) hcf hyf ops D hk ops.toList 0 r h w t a rfl hr ha hv
      have hrg : List.range ops.size = List.range' 0 ops.toList.length := by rw [List.range_eq_range', Array.length_toList]
      have hst : Steps P (lone (b.atR a (.code (.region id ops false) :: k)) cs w) (lone (b.atR a (.inRegion ops (List.range' 0 ops.toList.length) :: k)) cs w) := by
        have := stepR_region (P := P) (b := b) (a := a) (k := k) (cs := cs) (w := w) (ops := ops) (id := id)
        rw [hrg] at this
        exact .one this
      refine Goes.of_steps hst ?_
      rcases h3 with h3 | ⟨r2, a2, w2, f1, f2, f3, f4⟩
      · exact .inl h3
      · exact .inr ⟨.normal, a2, w2, ⟨rfl, r2, f1, f2, by rw [f3]; exact hd.ext f1.ext⟩, f4.trans (.one stepR_region_end)⟩
    | true =>
      cases hok : drawOk P ops.toList with
      | false => exact hslow _ (by simp only [comp, hok, cond_false])
      | true =>
        intro ro t D h x t' D' h' hv B r w a ro' hr ha hd ho
        have hc : comp P n (.region id ops true) = .drawn (compDD P n ops.toList (bef ops.toList) (ord P ops.toList)) ops.toList.length := by simp only [comp, hok, cond_true]
        rw [hc] at hv
        obtain ⟨ht, hk, lo, g⟩ := h
        change nowN (Nat.add hk ops.toList.length) (fun k1 => exDr P cf yf hk ⟨ht, k1, lo, g⟩ (fun t h => .ok .normal t D h) (compDD P n ops.toList (bef ops.toList) (ord P ops.toList)) t ⟨ht, k1, lo, g⟩ ⟨ht, k1, lo, g⟩ [] []) = _ at hv
        rw [nowN_eq] at hv
        have hok' := hok
        simp only [drawOk, Bool.and_eq_true] at hok'
        obtain ⟨T', hF, hrun, hfin⟩ := exDr_ok _ _ _ _ _ _ (ordOk_lt _ _ hok'.2) hv
        cases hfin
        exact draw_ok hm hcf hyf hok hrun hr ha hd
  | rangeFunc g ps as bd => exact hslow _ rfl
  | goto l => exact hslow _ rfl
  | refuse w => exact hslow _ rfl
theorem callFF_eq {tab : T Func} (htab : ∀ f fn, tab.get (f + 1) = some fn → P.funcs[f]? = some fn) {f : Nat} {args : List Value} {y : Value × H} (hv : callFF P tab ex f args h = some y) : callF P ex f args h = some y := by
  unfold callFF at hv
  simp only [oF_eq, okF_eq, exE_eq, nowN_eq] at hv
  split at hv
  · rename_i fn hfn
    unfold callF
    rw [htab _ _ hfn]
    simp only []
    split at hv
    · rename_i c hc
      simp only [hc]
      split at hv
      · rename_i x t D h1 hq
        rw [hq]
        simp only []
        cases x with
        | exit i => cases hv
        | normal =>
          simp only [] at hv ⊢
          split at hv
          · rename_i h2 hu; rw [hu]; exact hv
          · cases hv
        | ret =>
          simp only [] at hv ⊢
          split at hv
          · rename_i h2 hu; rw [hu]; exact hv
          · cases hv
      · cases hv
    · cases hv
  · cases hv
theorem callFF_ok {tab : T Func} (htab : ∀ f fn, tab.get (f + 1) = some fn → P.funcs[f]? = some fn) (hng : NoNG P) (hex : ExOk P ex) : CfOk P (callFF P tab ex) := by
  intro r h w g args args' v h' hr hl hv
  exact callF_ok hng hex r h w g args args' v h' hr hl (callFF_eq htab hv)
theorem mkT_ok : ∀ (l : List Func) (i : Nat) (t : T Func), (∀ f fn, t.get (f + 1) = some fn → P.funcs[f]? = some fn) → (∀ j fn, l[j]? = some fn → P.funcs[i + j]? = some fn) → ∀ f fn, (mkT l (i + 1) t).get (f + 1) = some fn → P.funcs[f]? = some fn := by
  intro l
  induction l with
  | nil => intro i t ht _ f fn hf; exact ht f fn hf
  | cons a l ih =>
    intro i t ht hl f fn hf
    refine ih (i + 1) (t.set a (i + 1)) (fun f fn hf => ?_) (fun j fn hj => ?_) f fn hf
    · rw [T.set_get _ _ _ _ (by omega)] at hf
      split at hf
      · rename_i q
        cases hf
        have := hl 0 a rfl
        rw [show f = i + 0 by omega]
        exact this
      · exact ht f fn hf
    · have := hl (j + 1) fn (by simpa using hj)
      rw [show i + 1 + j = i + (j + 1) by omega]
      exact this
theorem mkT_tab (P : Program) : ∀ f fn, (mkT P.funcs.toList 1 .e).get (f + 1) = some fn → P.funcs[f]? = some fn :=
  mkT_ok P.funcs.toList 0 .e (fun f fn hf => by rw [T.get_e] at hf; cases hf) (fun j fn hj => by rw [Nat.zero_add, ← Array.getElem?_toList]; exact hj)
/-- The fast machine runs what the model runs. -/
theorem fast_ok (hm : P.follows .mixedOrders = true) (hng : NoNG P) {tab : T Func} (htab : ∀ f fn, tab.get (f + 1) = some fn → P.funcs[f]? = some fn) : ∀ k, ExOk P (fast P tab k) := by
  intro k
  induction k with
  | zero => intro ro n c t D h x t' D' h' hv; cases hv
  | succ k ih =>
    intro ro n c t D h x t' D' h' hv
    exact exC_ok hm hng ih (callFF_ok htab hng ih) (yieldF_ok ih) n c ro t D h x t' D' h' hv
end
end Ev
end Go.Proofs.YtilnneogbpnkkaaGreatDoor
/- A law without arguments: the fast machine's run is the model's call. -/
set_option maxRecDepth 10000
namespace Go.Proofs.YtilnneogbpnkkaaGreatDoor
namespace Ev
noncomputable section
open Go.RowKit
variable {P : Program}
def txt (l : List UInt8) : Value := .string ⟨⟨l⟩⟩
/-- The texts of the errors. -/
def wordsV : List Value := [txt [], txt [35, 68, 73, 86, 47, 48, 33], txt [35, 86, 65, 76, 85, 69, 33], txt [35, 78, 85, 77, 33], txt [35, 78, 47, 65], txt [35, 82, 69, 70, 33], txt [35, 67, 89, 67, 76, 69, 33], txt [35, 68, 69, 78, 73, 69, 68]]
/-- Memory at the start: variable number wi (the last one that is looked at) holds the texts of the errors. -/
def H0 (wi : Nat) : H := { t := T.set (.cells 8 .e wordsV 1) .e (2 * wi + 1), k := wi + 1, lo := 2 * (wi + 1), g := wi + 1 }
def r0 (wi : Nat) : Ren := fun x => if x = 2 * wi then some ⟨wi, 0, 8, 0⟩ else if x % 2 = 0 ∧ x < 2 * wi then some ⟨x / 2, 0, 0, 0⟩ else none
theorem H0_get (wi x : Nat) (b : Blk) (h : (H0 wi).get x = some b) : x = 2 * wi ∧ b = .cells 8 .e wordsV 1 := by
  have : (H0 wi).get x = if x + 1 = 2 * wi + 1 then some (.cells 8 .e wordsV 1) else T.e.get (x + 1) := by
    show (T.set (Blk.cells 8 .e wordsV 1) T.e (2 * wi + 1)).get (x + 1) = _
    exact T.set_get _ _ _ _ (by omega)
  rw [this] at h
  split at h
  · cases h; exact ⟨by omega, rfl⟩
  · rw [T.get_e] at h; cases h
theorem HR0 {W : World} {wi : Nat} (hW : ∃ t fz, W.heap[wi]? = some (.cells wordsV.toArray t fz)) : HR (r0 wi) (H0 wi) W := by
  obtain ⟨t, fz, hW⟩ := hW
  have hlt : wi < W.heap.size := (Array.getElem?_eq_some_iff.1 hW).1
  refine ⟨fun x b hx => ?_, fun x y b c e f hx _ _ _ hlo => ?_, fun x hx => ?_, Nat.le_refl _, fun i hi => ?_, fun x e hx => ?_⟩
  · obtain ⟨rfl, rfl⟩ := H0_get wi x b hx
    refine ⟨⟨wi, 0, 8, 0⟩, if_pos rfl, hlt, wordsV.toArray, t, fz, hW, rfl, fun i hi => ?_, fun q => ?_, ?_⟩
    · have hl : wordsV.length = 8 := rfl
      have hi' : i < wordsV.length := by omega
      refine ⟨wordsV[i], wordsV[i], ?_, ?_, VR.of_plain _ _ ?_⟩
      · simp only [cg, T.get_e, hl, Nat.mod_eq_of_lt hi]
        exact List.getElem?_eq_getElem hi'
      · simp [hi']
      · have hall : ∀ v ∈ wordsV, plain v = true := by
          intro v hv
          simp only [wordsV, List.mem_cons, List.mem_nil_iff, or_false] at hv
          rcases hv with rfl | rfl | rfl | rfl | rfl | rfl | rfl | rfl <;> rfl
        exact hall _ (List.getElem_mem hi')
    · exfalso
      have hm : Nat.mod (2 * wi) 2 = 0 := by show 2 * wi % 2 = 0; omega
      simp only [wrt, hm] at q
      cases q
    · rw [if_pos (by omega)]
      exact ⟨rfl, rfl⟩
  · obtain ⟨rfl, _⟩ := H0_get wi x b hx
    have hlo : 2 * (wi + 1) ≤ 2 * wi := hlo
    omega
  · have hx : 2 * (wi + 1) ≤ x := hx
    simp [r0, show x ≠ 2 * wi by omega, show ¬ x < 2 * wi by omega]
  · have hi : i < wi + 1 := hi
    by_cases q : i = wi
    · subst q; exact ⟨_, if_pos rfl, rfl, rfl⟩
    · refine ⟨_, (if_neg (by omega)).trans (if_pos ⟨by omega, by omega⟩), ?_, rfl⟩
      show 2 * i / 2 = i
      omega
  · unfold r0 at hx
    split at hx
    · cases hx; exact hlt
    · split at hx
      · cases hx; show x / 2 < _; omega
      · cases hx
theorem noNG_of (h : (P.funcs.toList.all fun fn => !(fn.name == "runtime.NumGoroutine")) = true) : NoNG P := by
  intro g fn hg
  have := List.all_eq_true.1 h fn (by rw [← Array.getElem?_toList] at hg; exact List.mem_of_getElem? hg)
  simpa using this
/-- A law without arguments that our own machine runs to 'true' is true. -/
theorem closed_of {cf : CallF} (hcf : CfOk P cf) {W : World} {wi : Nat} (hW : ∃ t fz, W.heap[wi]? = some (.cells wordsV.toArray t fz)) {f : Nat} {h' : H} (hrun : cf f [] (H0 wi) = some (.bool true, h')) :
    Calls P f #[] W fun e w' => e = .returned (.bool true) ∧ Below W.heap.size W w' := by
  obtain ⟨_, hcall⟩ := hcf (r0 wi) (H0 wi) W f [] [] _ h' (HR0 hW) .nil hrun
  refine Calls.mono hcall fun e w' he => ?_
  cases e with
  | returned v =>
    obtain ⟨r', s, hv⟩ := he
    cases hv
    refine ⟨rfl, s.os, s.tape, s.output, s.size, fun j hj => (s.old j hj ?_).1⟩
    rintro ⟨x, b, e, h1, h2, _⟩
    obtain ⟨rfl, _⟩ := H0_get wi x b h1
    have h2 : 2 * (wi + 1) ≤ 2 * wi := h2
    omega
  | panicked c => exact he.elim
  | outgrown => exact he.elim
theorem closed_ok (hm : P.follows .mixedOrders = true) (hng : NoNG P) {W : World} {wi : Nat} (hW : ∃ t fz, W.heap[wi]? = some (.cells wordsV.toArray t fz)) {f k : Nat} {h' : H}
    (hrun : callFF P (mkT P.funcs.toList 1 .e) (fast P (mkT P.funcs.toList 1 .e) k) f [] (H0 wi) = some (.bool true, h')) :
    Calls P f #[] W fun e w' => e = .returned (.bool true) ∧ Below W.heap.size W w' :=
  closed_of (callFF_ok (mkT_tab P) hng (fast_ok hm hng (mkT_tab P) k)) hW hrun
/-- Is it true? -/
def yes (x : Option (Value × H)) : Bool :=
  Option.rec (motive := fun _ => Bool) false (fun p => Prod.rec (motive := fun _ => Bool) (fun v _ => vBool v false fun q => q) p) x
theorem yes_ok {x : Option (Value × H)} (h : yes x = true) : ∃ h', x = some (.bool true, h') := by
  cases x with
  | none => cases h
  | some p =>
    obtain ⟨v, h'⟩ := p
    change vBool v false (fun q => q) = true at h
    rw [vBool_eq] at h
    split at h
    · rename_i q; subst h; exact ⟨h', rfl⟩
    · cases h
end
end Ev
end Go.Proofs.YtilnneogbpnkkaaGreatDoor
/- The fast machine with calls that are proved apart. -/
set_option maxRecDepth 10000
namespace Go.Proofs.YtilnneogbpnkkaaGreatDoor
namespace Ev
noncomputable section
variable {P : Program}
/-- Calls that are known, ahead of those that are run. -/
def withO (ov cf : CallF) : CallF := fun f args h => Option.rec (motive := fun _ => Option (Value × H)) (cf f args h) (fun x => some x) (ov f args h)
theorem withO_ok {ov cf : CallF} (hov : CfOk P ov) (hcf : CfOk P cf) : CfOk P (withO ov cf) := by
  intro r h w g args args' v h' hr hl hv
  unfold withO at hv
  cases ho : ov g args h with
  | none => rw [ho] at hv; exact hcf r h w g args args' v h' hr hl hv
  | some x => rw [ho] at hv; cases hv; exact hov r h w g args args' v h' hr hl ho
/-- The fast machine, with calls that are known. -/
def fastO (P : Program) (tab : T Func) (ov : CallF) (k : Nat) : CodeF :=
  Nat.rec (motive := fun _ => CodeF) (fun _ _ _ _ _ _ => .bad) (fun _ ih ro n c t D h => exC P ih (withO ov (callFF P tab ih)) (yieldF ih) ro n (comp P n c) t D h) k
theorem fastO_ok (hm : P.follows .mixedOrders = true) (hng : NoNG P) {tab : T Func} (htab : ∀ f fn, tab.get (f + 1) = some fn → P.funcs[f]? = some fn) {ov : CallF} (hov : CfOk P ov) : ∀ k, ExOk P (fastO P tab ov k) := by
  intro k
  induction k with
  | zero => intro ro n c t D h x t' D' h' hv; cases hv
  | succ k ih =>
    intro ro n c t D h x t' D' h' hv
    exact exC_ok hm hng ih (withO_ok hov (callFF_ok htab hng ih)) (yieldF_ok ih) n c ro t D h x t' D' h' hv
/-- What a call that is known may be said to be: two lists of such calls. -/
theorem none_ok : CfOk P (fun _ _ _ => none) := by
  intro r h w g args args' v h' _ _ hv
  cases hv
/-- Pieces of a run: a sequence is its first part, then its second. -/
theorem exC_seq {ex : CodeF} {cf yf : CallF} {ro : Option Nat} {n : Nat} {a b : FC} {t t1 t2 : T Value} {D D1 D2 : List Nat} {h h1 h2 : H} {x : Ex}
    (ha : exC P ex cf yf ro n a t D h = .ok .normal t1 D1 h1) (hb : exC P ex cf yf ro n b t1 D1 h1 = .ok x t2 D2 h2) : exC P ex cf yf ro n (.seq a b) t D h = .ok x t2 D2 h2 := by
  show okF (exC P ex cf yf ro n a t D h) R.bad _ = _
  rw [ha]
  exact hb
theorem exC_loop {k : Nat} {tab : T Func} {ov : CallF} {ro : Option Nat} {n : Nat} {c : Code} {t t1 t2 : T Value} {D D1 D2 : List Nat} {h h1 h2 : H} {x : Ex}
    (ha : exC P (fastO P tab ov k) (withO ov (callFF P tab (fastO P tab ov k))) (yieldF (fastO P tab ov k)) ro n (comp P n c) t D h = .ok .normal t1 D1 h1) (hb : fastO P tab ov k ro n (.loop c) t1 D1 h1 = .ok x t2 D2 h2) :
    fastO P tab ov (k + 1) ro n (.loop c) t D h = .ok x t2 D2 h2 := by
  show okF (exC P (fastO P tab ov k) (withO ov (callFF P tab (fastO P tab ov k))) (yieldF (fastO P tab ov k)) ro n (comp P n c) t D h) R.bad _ = _
  rw [ha]
  exact hb
end
end Ev
end Go.Proofs.YtilnneogbpnkkaaGreatDoor
