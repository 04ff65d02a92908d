/- Known calls that are run twice: a row that is full, or not. -/
import Derived.Test.YtilnneogbpnkkaaGreatDoorEvM24
import Derived.Lib.Join
set_option maxRecDepth 10000
namespace Go.Proofs.YtilnneogbpnkkaaGreatDoor
namespace Ev
noncomputable section
variable {P : Program}
/-- A row of m cells of which the first are known. -/
def extB (m : Nat) : Blk → Blk
  | .cells n c d s => match ldN c d n 0 with
    | some l => .cells m .e (l ++ List.replicate (m - n) junk) s
    | none => .cells n c d s
  | b => b
def extF (b m : Nat) : List (Nat × Blk) → List (Nat × Blk)
  | [] => []
  | p :: l => (p.1, bif Nat.beq p.1 b then extB m p.2 else p.2) :: extF b m l
def MC.sX (c : MC) (b m : Nat) : H := mkH (extF b m c.fp) c.k (2 * c.gl) c.gl
theorem extF_look (b m : Nat) : ∀ (l : List (Nat × Blk)) (x : Nat), look (extF b m l) x = (look l x).map fun B => bif Nat.beq x b then extB m B else B := by
  intro l
  induction l with
  | nil => intro x; rfl
  | cons p l ih =>
    intro x
    simp only [extF, look]
    by_cases h : x = p.1
    · rw [beqT h, h]; rfl
    · rw [beqF h]; exact ih x
theorem extB_ok {r : Ren} {x : Nat} {e : E} {w : World} {n : Nat} {c : T Value} {d : List Value} {s m : Nat} (hx : x % 2 = 1) (hm : e.base + m ≤ e.size) (hn : n ≤ m) (h : BR r x e w (.cells n c d s)) : BR r x e w (extB m (.cells n c d s)) := by
  simp only [extB]
  split
  · rename_i l hl
    obtain ⟨C, t, fz, h1, h2, h3, h4, h5⟩ := h
    obtain ⟨a1, a2⟩ := ldN_get n 0 hl
    rw [if_neg (by omega)] at h5
    refine ⟨C, t, fz, h1, h2, fun i hi => ?_, fun _ => h4 (wrt_odd hx), ?_⟩
    · have hlen : (l ++ List.replicate (m - n) junk).length = m := by simp [a1]; omega
      have hC : e.base + i < C.size := by omega
      rw [cg_e (by rw [hlen]; exact hi)]
      by_cases hin : i < n
      · obtain ⟨v, v', q1, q2, q3⟩ := h3 i hin
        have := a2 i hin
        rw [Nat.zero_add, q1] at this
        refine ⟨v, v', ?_, q2, q3⟩
        rw [List.getElem_append_left (by omega)]
        rw [List.getElem?_eq_getElem (by omega)] at this
        exact this.symm
      · refine ⟨junk, C[e.base + i], ?_, Array.getElem?_eq_getElem hC, .any⟩
        rw [List.getElem_append_right (by omega)]
        simp
    · rw [if_neg (by omega)]; exact ⟨hm, h5.2⟩
  · exact h
theorem HR.ext_ {c : MC} {r : Ren} {w : World} {b : Nat} {e : E} {n : Nat} {cs : T Value} {d : List Value} {s m : Nat} (hb : c.s.get b = some (.cells n cs d s)) (hodd : b % 2 = 1) (he : r b = some e) (hm : e.base + m ≤ e.size) (hn : n ≤ m) (hr : HR r c.s w) : HR r (c.sX b m) w := by
  have hget : ∀ x B, (c.sX b m).get x = some B → ∃ B0, c.s.get x = some B0 ∧ B = bif Nat.beq x b then extB m B0 else B0 := fun x B hx => by
    unfold MC.sX at hx
    rw [mkH_get, extF_look] at hx
    rw [MC.s, mkH_get]
    cases hq : look c.fp x with
    | none => rw [hq] at hx; cases hx
    | some B0 =>
      rw [hq] at hx
      simp only [Option.map_some, Option.some.injEq] at hx
      exact ⟨B0, rfl, hx.symm⟩
  refine ⟨fun x B hx => ?_, fun x y B D f g hx hy hf hg hlo hne => ?_, hr.new, hr.lo, hr.gl, hr.bnd⟩
  · obtain ⟨B0, q1, rfl⟩ := hget x B hx
    obtain ⟨f, f1, f2, f3⟩ := hr.blk x B0 q1
    refine ⟨f, f1, f2, ?_⟩
    by_cases hxb : x = b
    · subst hxb
      rw [hb] at q1; cases q1
      rw [he] at f1; cases f1
      rw [beqT rfl]
      exact extB_ok hodd hm hn f3
    · rw [beqF hxb]; exact f3
  · obtain ⟨B0, q1, _⟩ := hget x B hx
    obtain ⟨D0, q2, _⟩ := hget y D hy
    exact hr.inj x y B0 D0 f g q1 q2 hf hg hlo hne
theorem Owns.ext_ {c : MC} {r : Ren} {b m k : Nat} (h : Owns r (c.sX b m) k) : Owns r c.s k := by
  obtain ⟨x, B, e, h1, h2, h3, h4⟩ := h
  unfold MC.sX at h1
  rw [mkH_get, extF_look] at h1
  cases hq : look c.fp x with
  | none => rw [hq] at h1; cases h1
  | some B0 => exact ⟨x, B0, e, by rw [MC.s, mkH_get]; exact hq, h2, h3, h4⟩
theorem Step.ext_ {c : MC} {r r' : Ren} {w w' : World} {b m : Nat} {h' : H} (st : Step r (c.sX b m) w r' h' w') : Step r c.s w r' h' w' :=
  ⟨st.ext, st.keep, st.hr, st.k, st.lo, st.g, st.size, fun k hk ho => st.old k hk fun q => ho q.ext_, st.os, st.tape, st.output⟩
/-- One run. -/
def MC.out1 (c : MC) (x : Option (Value × H)) : Bool :=
  match x with
  | some p => c.outAt (bdU c p.2 c.up (bdV c.v p.1 .e)) p.1 p.2
  | none => false
theorem MC.out1_ok {c : MC} {r r' : Ren} {w w' : World} {v v' : Value} {h : H} (hr : HR r c.s w) (ho : c.out1 (some (v, h)) = true) (st : Step r c.s w r' h w') (hv : VR r' v v') : Kt r c.s w c.v c.s' v' w' := by
  simp only [MC.out1, MC.outAt, Bool.and_eq_true] at ho
  obtain ⟨⟨⟨o1, o2⟩, o3⟩, o4⟩ := ho
  have o3 := Nat.eq_of_beq_eq_true o3
  have o4 := Nat.eq_of_beq_eq_true o4
  have s2 := Step.cov (m := bdU c h c.up (bdV c.v v .e)) (h := c.s) o2 hr st
  rw [o3, o4] at s2
  rw [o3] at o1
  exact ⟨_, s2, eqR_ok (plk_par _ _ _ _ _) _ _ _ o1 hv⟩
/-- A call that is run once, told by other numbers. -/
theorem MC.of1 {c : MC} {cf : CallF} (hcf : CfOk P cf) (h : (allDiff (c.up.map (·.1)) && c.out1 (cf c.g c.args c.s)) = true) : c.Good P := by
  simp only [Bool.and_eq_true] at h
  cases hq : cf c.g c.args c.s with
  | none => rw [hq] at h; cases h.2
  | some p =>
    obtain ⟨v, h'⟩ := p
    rw [hq] at h
    refine ⟨fun r w args' hr hl => ?_, allDiff_spec _ h.1⟩
    obtain ⟨q1, q2⟩ := Known.of hcf hq r w args' hr hl
    exact ⟨q1, Calls.mono q2 (RC.imp fun v' w' ⟨r', st, hv⟩ => MC.out1_ok hr h.2 st hv)⟩
/-- The machine that goes all the ways of a walk over a map and puts no states together. -/
def waysI (P : Program) (tab : T Func) (ov : CallF) (k : Nat) : LmF :=
  lmRun P (fastO P tab ov k) (withO ov (callFF P tab (fastO P tab ov k))) (yieldF (fastO P tab ov k)) (fun _ fr => fr) 1000
theorem waysI_ok (hm : P.follows .mixedOrders = true) (hng : NoNG P) {tab : T Func} (htab : ∀ f fn, tab.get (f + 1) = some fn → P.funcs[f]? = some fn) {ov : CallF} (hov : CfOk P ov) (k : Nat) : LxOk P (waysI P tab ov k) := by
  have hex := fastO_ok hm hng htab hov k
  exact lmRun_ok hex (withO_ok hov (callFF_ok htab hng hex)) (yieldF_ok hex) (fun _ s hs _ _ _ _ _ _ _ _ hh => ⟨s, hs, hh⟩) 1000
/-- Are these calls, told by other numbers, what is said of them? -/
def allOut1 (cf : CallF) : List MC → Bool
  | [] => true
  | c :: l => bif allDiff (c.up.map (·.1)) && c.out1 (cf c.g c.args c.s) then allOut1 cf l else false
theorem allOut1_ok {cf : CallF} (hcf : CfOk P cf) : ∀ (l : List MC), allOut1 cf l = true → ∀ c ∈ l, c.Good P := by
  intro l
  induction l with
  | nil => intro _ c hc; cases hc
  | cons d l ih =>
    intro h c hc
    simp only [allOut1] at h
    cases hd : allDiff (d.up.map (·.1)) && d.out1 (cf d.g d.args d.s) with
    | false => rw [hd] at h; cases h
    | true =>
      rw [hd] at h
      cases hc with
      | head => exact MC.of1 hcf hd
      | tail _ hc => exact ih h c hc
/-- A call whose first argument is a row that may be full or not: both are run. -/
def MC.two (c : MC) (cf : CallF) (b o l s : Nat) (rest : List Value) : Bool :=
  Nat.beq (b % 2) 1 && Nat.blt 0 l && (match c.s.get b with
    | some (.cells n _ _ s') => Nat.beq s' s && Nat.ble n (o + (l + 1) * s)
    | _ => false) && allDiff (c.up.map (·.1)) && c.out1 (cf c.g (sl b o l (l + 1) :: rest) c.s) && c.out1 (cf c.g (sl b o l 0 :: rest) (c.sX b (o + (l + 1) * s)))
theorem MC.of2 {c : MC} {cf : CallF} (hcf : CfOk P cf) {b o l s : Nat} {rest : List Value} (ha : c.args = sl b o l 0 :: rest) (h : c.two cf b o l s rest = true) : c.Good P := by
  simp only [MC.two, Bool.and_eq_true] at h
  obtain ⟨⟨⟨⟨⟨h1, h2⟩, h3⟩, h4⟩, h5⟩, h6⟩ := h
  have h1 := Nat.eq_of_beq_eq_true h1
  have h2 : 0 < l := Nat.le_of_ble_eq_true h2
  refine ⟨fun r w args' hr hl => ?_, allDiff_spec _ h4⟩
  split at h3
  · rename_i n cs d s' hb
    simp only [Bool.and_eq_true] at h3
    have h3a := Nat.eq_of_beq_eq_true h3.1
    have h3b := Nat.le_of_ble_eq_true h3.2
    subst h3a
    rw [ha] at hl
    cases hl with
    | cons hv ht =>
      cases hv with
      | sl he hb0 => omega
      | slz he hb0 hc => omega
      | slo he hb0 hc hle =>
        rename_i c' e
        have hsz : e.sz = s' := by
          obtain ⟨e', e1, e2, C, t, fz, e3, e4, e5, e6, e7⟩ := hr.blk b _ hb
          rw [he] at e1; cases e1
          rw [if_neg (by omega)] at e7
          exact e7.2
        by_cases hcl : c' = l
        · subst hcl
          cases hq : cf c.g (sl b o c' (c' + 1) :: rest) c.s with
          | none => rw [hq] at h5; cases h5
          | some p =>
            obtain ⟨v, h'⟩ := p
            rw [hq] at h5
            obtain ⟨q1, q2⟩ := Known.of hcf hq r w _ hr (.cons (.slk he hb0 (fun _ => rfl) (Nat.le_of_eq hc) (Nat.le_refl _)) ht)
            exact ⟨q1, Calls.mono q2 (RC.imp fun v' w' ⟨r', st, hv⟩ => MC.out1_ok hr h5 st hv)⟩
        · cases hq : cf c.g (sl b o l 0 :: rest) (c.sX b (o + (l + 1) * s')) with
          | none => rw [hq] at h6; cases h6
          | some p =>
            obtain ⟨v, h'⟩ := p
            rw [hq] at h6
            have hm : e.base + (o + (l + 1) * s') ≤ e.size := by
              rw [hsz] at hc
              have : (l + 1) * s' ≤ c' * s' := Nat.mul_le_mul_right _ (by omega)
              omega
            have hr2 := HR.ext_ hb h1 he hm h3b hr
            obtain ⟨q1, q2⟩ := Known.of hcf hq r w _ hr2 (.cons (.slo he hb0 hc hle) ht)
            exact ⟨q1, Calls.mono q2 (RC.imp fun v' w' ⟨r', st, hv⟩ => MC.out1_ok hr h6 st.ext_ hv)⟩
  · cases h3
end
end Ev
end Go.Proofs.YtilnneogbpnkkaaGreatDoor
/- strings.Join, of which a contract is known: a call that is answered at once. -/
set_option maxRecDepth 10000
namespace Go.Proofs.YtilnneogbpnkkaaGreatDoor
namespace Ev
open Go.RowKit
noncomputable section
variable {P : Program}
/-- Texts out of cells. -/
def strs : List Value → Option (List ByteArray)
  | [] => some []
  | .string s :: l => (match strs l with
    | some r => some (s :: r)
    | none => none)
  | _ :: _ => none
theorem strs_ok {r : Ren} : ∀ (vs vs' : List Value) (xs : List ByteArray), strs vs = some xs → VRL r vs vs' → vs' = xs.map Value.string := by
  intro vs
  induction vs with
  | nil => intro vs' xs h hv; simp only [strs, Option.some.injEq] at h; subst h; cases hv; rfl
  | cons v vs ih =>
    intro vs' xs h hv
    cases hv with
    | cons h1 h2 =>
      cases v <;> simp only [strs, reduceCtorEq] at h
      rename_i s
      split at h
      · rename_i q hq
        simp only [Option.some.injEq] at h
        subst h
        cases h1
        rw [ih _ _ hq h2]
        rfl
      · cases h
def joined (xs : List ByteArray) (sep : ByteArray) : List UInt8 := Lib.join (xs.map (·.data.toList)) sep.data.toList
/-- strings.Join is function fi. -/
def joinO (fi : Nat) : CallF := fun f args h => bif Nat.beq f fi then (match args with
  | [.slice (some ⟨b, o, none⟩) l c, .string sep] => (match h.get b with
    | some (.cells n cs d _) => bif Nat.ble (o + l) n && (bif Nat.beq (b % 2) 0 then Nat.ble l c else Nat.blt 0 l) && Nat.ble l 1000000 then (match ldN cs d l o with
      | some vs => (match strs vs with
        | some xs => bif Nat.ble (lenL (joined xs sep)) 1000000 then some (.string ⟨⟨joined xs sep⟩⟩, h) else none
        | none => none)
      | none => none) else none
    | _ => none)
  | _ => none) else none
/-- What is known of strings.Join. -/
def Joins (P : Program) (fi : Nat) : Prop := ∀ (bk o c : Nat) (xs : List ByteArray) (sep : ByteArray) (w : World),
  (∀ (j : Nat) x, xs[j]? = some x → w.cell? ⟨bk, o + j, none⟩ = some (.string x)) → bk < w.heap.size → xs.length ≤ 140737488355328 → xs.length ≤ c → (Lib.join (xs.map (·.data.toList)) sep.data.toList).length ≤ 140737488355328 →
  Calls P fi #[.slice (some ⟨bk, o, none⟩) xs.length c, .string sep] w fun e w' => e = .returned (.string ⟨(Lib.join (xs.map (·.data.toList)) sep.data.toList).toArray⟩) ∧ Below w.heap.size w w'
theorem Step.below {r : Ren} {h : H} {w w' : World} (hr : HR r h w) (hb : Below w.heap.size w w') : Step r h w r h w' := by
  obtain ⟨h1, h2, h3, h4, h5⟩ := hb
  exact ⟨Ext.refl r, fun _ _ => rfl, ⟨fun x b hx => by
    obtain ⟨e, e1, e2, e3⟩ := hr.blk x b hx
    exact ⟨e, e1, Nat.lt_of_lt_of_le e2 h4, e3.same (Ext.refl r) (h5 _ e2)⟩, hr.inj, hr.new, hr.lo, hr.gl, fun x e hx => Nat.lt_of_lt_of_le (hr.bnd x e hx) h4⟩, Nat.le_refl _, rfl, rfl, h4, fun k hk ho => ⟨h5 k hk, ho⟩, h1, h2, h3⟩
theorem joinO_ok {fi : Nat} (hfn : ∃ fn, P.funcs[fi]? = some fn ∧ fn.body.isNone = false ∧ (fn.name == "runtime.NumGoroutine") = false) (hj : Joins P fi) : CfOk P (joinO fi) := by
  intro r h w g args args' v h' hr hl hv
  unfold joinO at hv
  replace hv := bif_some hv
  obtain ⟨hg, hv⟩ := hv
  replace hg := Nat.eq_of_beq_eq_true hg
  subst hg
  refine ⟨hfn, ?_⟩
  split at hv
  · rename_i b o l c sep
    split at hv
    · rename_i n cs d s hb
      obtain ⟨hc, hv⟩ := bif_some hv
      simp only [Bool.and_eq_true] at hc
      obtain ⟨⟨c1, c2⟩, c3⟩ := hc
      have c1 := Nat.le_of_ble_eq_true c1
      have c3 := Nat.le_of_ble_eq_true c3
      split at hv
      · rename_i vs hvs
        split at hv
        · rename_i xs hxs
          obtain ⟨hlen, hv⟩ := bif_some hv
          have hlen := Nat.le_of_ble_eq_true hlen
          rw [lenL_eq] at hlen
          simp only [Option.some.injEq, Prod.mk.injEq] at hv
          obtain ⟨rfl, rfl⟩ := hv
          cases hl with
          | cons v1 t1 =>
            cases t1 with
            | cons v2 t2 =>
              cases t2
              cases v2
              have key : ∀ (E' : E) (k c' : Nat), r b = some E' → k = E'.base + o → l ≤ c' → Calls P g #[.slice (some ⟨E'.blk, k, none⟩) l c', .string sep] w (RC (Kt r h w (.string ⟨⟨joined xs sep⟩⟩) h)) := fun E' k c' he hk hlc => by
                subst hk
                obtain ⟨old', o1, o2, o3⟩ := ldN_ok hr hb he l o hvs c1
                have hold := strs_ok _ _ _ hxs o1
                have hxl : xs.length = l := by rw [hold] at o2; simpa using o2
                obtain ⟨f, _, f2, _⟩ := hr.blk b _ hb
                have hlt : E'.blk < w.heap.size := hr.bnd _ _ he
                have := hj E'.blk (E'.base + o) c' xs sep w (fun j x hx => o3 j _ (by rw [hold]; simp [hx])) hlt (by omega) (by omega) (by have : (joined xs sep).length ≤ 1000000 := hlen; unfold joined at this; omega)
                rw [hxl] at this
                exact this.mono fun e w' ⟨he', hb'⟩ => by
                  subst he'
                  exact ⟨r, Step.below hr hb', .string _⟩
              cases v1 with
              | sl he hb0 =>
                rw [beqT hb0] at c2
                exact key _ _ _ he rfl (Nat.le_of_ble_eq_true c2)
              | slo he hb0 hcc hle => exact key _ _ _ he rfl hle
              | slz he hb0 hcc =>
                rw [beqF (by omega)] at c2
                cases c2
              | slk he hb0 hx hcc hle =>
                rw [beqF (by omega)] at c2
                have c2 : 0 < l := Nat.le_of_ble_eq_true c2
                exact key _ _ _ he (hx (by omega)) hle
        · cases hv
      · cases hv
    · cases hv
  · cases hv
end
end Ev
end Go.Proofs.YtilnneogbpnkkaaGreatDoor
/- A run that ends in a panic, where it is told which way it goes: a list of numbers. -/
set_option maxRecDepth 10000
namespace Go.Proofs.YtilnneogbpnkkaaGreatDoor
namespace Ev
noncomputable section
variable {P : Program}
def badX : CodeF := fun _ _ _ _ _ _ => .bad
def skipF (n : Nat) (cf : CallF) : CallF := fun f args h => bif Nat.beq f n then none else cf f args h
theorem badX_ok : ExOk P badX := by
  intro ro n c t D h x t' D' h' hv
  cases hv
theorem skipF_ok {n : Nat} {cf : CallF} (hcf : CfOk P cf) : CfOk P (skipF n cf) := by
  intro r h w g args args' v h' hr hl hv
  unfold skipF at hv
  cases hq : Nat.beq g n with
  | true => rw [hq] at hv; cases hv
  | false => rw [hq] at hv; exact hcf r h w g args args' v h' hr hl hv
/-- 0: what is first ends without a panic; 1: it does not; n + 2: function number n panics. -/
def panRunG (P : Program) (ex : CodeF) (cf yf : CallF) : List Nat → PanF
  | [] => fun _ _ _ _ _ _ => none
  | q :: l => panBody P (bif Nat.beq q 1 then badX else ex) (bif Nat.ble 2 q then skipF (q - 2) cf else cf) yf (callPan P (panRunG P ex cf yf l)) (panRunG P ex cf yf l)
theorem panRunG_ok (hng : NoNG P) {ex : CodeF} (hex : ExOk P ex) {cf yf : CallF} (hcf : CfOk P cf) (hyf : YfOk P yf) : ∀ l, PxOk P (panRunG P ex cf yf l) := by
  intro l
  induction l with
  | nil => intro ro n c t D h t' D' h' v hv; cases hv
  | cons q l ih =>
    refine panBody_ok ?_ ?_ hyf (callPan_ok hng ih) ih
    · cases Nat.beq q 1 with
      | true => exact badX_ok
      | false => exact hex
    · cases Nat.ble 2 q with
      | true => exact skipF_ok hcf
      | false => exact hcf
/-- Function number fm, whose run goes the way l to a panic and is recovered. -/
def panO (P : Program) (tab : T Func) (ov : CallF) (fm k : Nat) (l : List Nat) : CallF := fun f args h =>
  bif Nat.beq f fm then dCall P (fastO P tab ov k) (withO ov (callFF P tab (fastO P tab ov k))) (yieldF (fastO P tab ov k)) (panRunG P (fastO P tab ov k) (withO ov (callFF P tab (fastO P tab ov k))) (yieldF (fastO P tab ov k)) l) f args h else none
theorem panO_ok (hm : P.follows .mixedOrders = true) (hng : NoNG P) {tab : T Func} (htab : ∀ f fn, tab.get (f + 1) = some fn → P.funcs[f]? = some fn) {ov : CallF} (hov : CfOk P ov) (fm k : Nat) (l : List Nat) : CfOk P (panO P tab ov fm k l) := by
  have hex := fastO_ok hm hng htab hov k
  have hcf := withO_ok hov (callFF_ok htab hng hex)
  have hyf := yieldF_ok hex
  intro r h w g args args' v h' hr hl hv
  unfold panO at hv
  obtain ⟨_, hv⟩ := bif_some hv
  exact dCall_ok hng hex hcf hyf (panRunG_ok hng hex hcf hyf l) r h w g args args' v h' hr hl hv
end
end Ev
end Go.Proofs.YtilnneogbpnkkaaGreatDoor
/- A call whose long loop is run piece by piece: each piece leads from one telling of the memory to the next. -/
set_option maxRecDepth 10000
namespace Go.Proofs.YtilnneogbpnkkaaGreatDoor
namespace Ev
open Go.RowKit
noncomputable section
variable {P : Program} {r : Ren} {h : H} {w : World} {n : Nat}
/-- A loop's run from one state leads to its run from another. -/
def Leads (P : Program) (n : Nat) (c : Code) (s s' : St) : Prop := ∀ (B : List Deferred) (r : Ren) (w : World) (a : Act), HR r s.h w → AR r s.h n s.t a → DR r B s.D a.defers →
  ∀ Q : Ex → Act → World → Prop, (∀ a1 w1, Here B r s.h w n s' a1 w1 → LoopRuns P none c a1 w1 Q) → LoopRuns P none c a w Q
theorem Leads.refl {c : Code} {s : St} : Leads P n c s s := fun _B r w a hr ha hd _Q hq => hq a w ⟨r, Step.refl hr, ha, hd⟩
theorem Leads.trans {c : Code} {s s1 s2 : St} (h1 : Leads P n c s s1) (h2 : Leads P n c s1 s2) : Leads P n c s s2 := by
  intro B r w a hr ha hd Q hq
  refine h1 B r w a hr ha hd Q fun a1 w1 ⟨r1, st1, ar1, dr1⟩ => ?_
  refine h2 B r1 w1 a1 st1.hr ar1 dr1 Q fun a2 w2 ⟨r2, st2, ar2, dr2⟩ => ?_
  exact hq a2 w2 ⟨r2, st1.trans st2, ar2, dr2⟩
/-- So many rounds. -/
def rounds (ex : CodeF) (n : Nat) (c : Code) : Nat → St → Option St
  | 0, s => some s
  | k + 1, s => match ex none n c s.t s.D s.h with
    | .ok .normal t D h => rounds ex n c k ⟨t, D, h⟩
    | _ => none
theorem rounds_ok {ex : CodeF} (hex : ExOk P ex) {c : Code} : ∀ (k : Nat) (s s' : St), rounds ex n c k s = some s' → Leads P n c s s' := by
  intro k
  induction k with
  | zero => intro s s' hv; simp only [rounds, Option.some.injEq] at hv; subst hv; exact Leads.refl
  | succ k ih =>
    intro s s' hv
    simp only [rounds] at hv
    split at hv
    · rename_i t D h1 hq
      refine Leads.trans (s1 := ⟨t, D, h1⟩) ?_ (ih _ _ hv)
      intro B r w a hr ha hd Q hn
      refine loop_round ((hex _ _ _ _ _ _ _ _ _ _ hq (B := B) r w a none hr ha hd trivial).runs.mono fun x a1 w1 hx => ?_)
      obtain ⟨rfl, r1, st, ar, dr⟩ := hx
      exact hn a1 w1 ⟨r1, st, ar, dr⟩
    · cases hv
def chunk (ex : CodeF) (n : Nat) (c : Code) (k : Nat) (s : St) (q : Rep) (tp : T Bool) : Bool := match rounds ex n c k s with
  | some s1 => q.cov (cn tp [] s.h.k s1).2 s.h.k s1
  | none => false
theorem chunk_ok {ex : CodeF} (hex : ExOk P ex) {c : Code} {k : Nat} {s : St} {q : Rep} {tp : T Bool} (hc : chunk ex n c k s q tp = true) : Leads P n c s q.st := by
  unfold chunk at hc
  split at hc
  · rename_i s1 hs
    intro B r w a hr ha hd Q hq
    exact rounds_ok hex _ _ _ hs B r w a hr ha hd Q fun a1 w1 hh => hq a1 w1 (Rep.cov_ok hc hr hh)
  · cases hc
/-- How a loop ends. -/
def Ends (P : Program) (n : Nat) (c : Code) (s : St) (x : Ex) (s' : St) : Prop := ∀ (B : List Deferred) (r : Ren) (w : World) (a : Act), HR r s.h w → AR r s.h n s.t a → DR r B s.D a.defers →
  LoopRuns P none c a w (At B r s.h w n x s'.t s'.D s'.h)
def exEq : Ex → Ex → Bool
  | .normal, .normal => true
  | .ret, .ret => true
  | .exit i, .exit j => Nat.beq i j
  | _, _ => false
theorem exEq_ok {x y : Ex} (hq : exEq x y = true) : x = y := by
  cases x <;> cases y <;> simp [exEq] at hq ⊢
  exact hq
def ends (ex : CodeF) (n : Nat) (c : Code) (s : St) (x : Ex) (q : Rep) (tp : T Bool) : Bool := match ex none n (.loop c) s.t s.D s.h with
  | .ok y t D h => exEq x y && q.cov (cn tp [] s.h.k ⟨t, D, h⟩).2 s.h.k ⟨t, D, h⟩
  | .bad => false
theorem ends_ok {ex : CodeF} (hex : ExOk P ex) {c : Code} {s : St} {x : Ex} {q : Rep} {tp : T Bool} (hc : ends ex n c s x q tp = true) : Ends P n c s x q.st := by
  unfold ends at hc
  split at hc
  · rename_i y t D h1 hq
    simp only [Bool.and_eq_true] at hc
    intro B r w a hr ha hd
    have hy := exEq_ok hc.1
    subst hy
    have := hex _ _ _ _ _ _ _ _ _ _ hq (B := B) r w a none hr ha hd trivial
    exact fun b k cs hk hro => (this b k cs hk hro).imp id fun ⟨z, a', w', ⟨e1, r1, e2, e3, e4⟩, g⟩ => by
      obtain ⟨r2, f1, f2, f3⟩ := Rep.cov_ok (s := ⟨t, D, h1⟩) hc.2 hr ⟨r1, e2, e3, e4⟩
      exact ⟨z, a', w', ⟨e1, r2, f1, f2, f3⟩, g⟩
  · cases hc
/-- A piece of code, run by f; seen from h0. -/
def SOk (P : Program) (n : Nat) (h0 : H) (c : Code) (f : St → Option (List Out)) : Prop := ∀ (s : St) (outs : List Out), f s = some outs → ∀ (B : List Deferred) (r0 : Ren) (w0 w : World) (a : Act), HR r0 h0 w0 → Here B r0 h0 w0 n s a w →
  RunsX P none c a w (AtL B r0 h0 w0 n outs)
def klO (tp : T Bool) (k0 : Nat) (q : Rep) (x : Ex) (q' : Rep) : St → Option (List Out) := fun s => bif q.cov (cn tp [] k0 s).2 k0 s then some [⟨x, q'.st⟩] else none
theorem klO_ok {c : Code} {h0 : H} {q q1 q' : Rep} {tp : T Bool} {x : Ex} (h1 : Leads P n c q.st q1.st) (h2 : Ends P n c q1.st x q'.st) : SOk P n h0 (.loop c) (klO tp h0.k q x q') := by
  intro s outs hv B r w0 w a hr hh
  unfold klO at hv
  obtain ⟨hc, hv⟩ := bif_some hv
  simp only [Option.some.injEq] at hv
  subst hv
  obtain ⟨r0, st0, ar0, dr0⟩ := Rep.cov_ok hc hr hh
  refine h1 B r0 w a st0.hr ar0 dr0 _ fun a1 w1 ⟨r1, st1, ar1, dr1⟩ => ?_
  have := h2 B r1 w1 a1 st1.hr ar1 dr1
  exact fun b k cs hk hro => (this b k cs hk hro).imp id fun ⟨z, a', w', hat, g⟩ => ⟨z, a', w', ⟨_, List.mem_singleton.2 rfl, (hat.step st1).step st0⟩, g⟩
/-- The way to a place in code: 0: to the right (the left is run), 1: to the left. -/
def codeAt : List Nat → Code → Option Code
  | [], c => some c
  | q :: l, c => match c with
    | .seq x y => bif Nat.beq q 0 then codeAt l y else codeAt l x
    | .scope x => codeAt l x
    | .block _ x => codeAt l x
    | .cond _ y z => bif Nat.beq q 0 then codeAt l y else codeAt l z
    | _ => none
/-- Code, run as it stands but for the loop at that place, which kl runs. -/
def spn (ex : CodeF) (kl : St → Option (List Out)) (n : Nat) : List Nat → Code → St → Option (List Out)
  | [], c, s => match c with
    | .loop _ => kl s
    | _ => none
  | q :: l, c, s => match c with
    | .seq x y => bif Nat.beq q 0 then (match ex none n x s.t s.D s.h with
        | .ok .normal t D h => spn ex kl n l y ⟨t, D, h⟩
        | _ => none)
      else (match spn ex kl n l x s with
        | some outs => bindO (fun o => match o.x with
          | .normal => (match ex none n y o.s.t o.s.D o.s.h with
            | .ok z t D h => some [⟨z, ⟨t, D, h⟩⟩]
            | .bad => none)
          | _ => some [o]) outs
        | none => none)
    | .scope x => spn ex kl n l x s
    | .block id x => match spn ex kl n l x s with
      | some outs => some (outs.map (outB id))
      | none => none
    | .cond x y z => match evT s.t x with
      | .bool b => bif Nat.beq q 0 then (bif b then spn ex kl n l y s else none) else (bif b then none else spn ex kl n l z s)
      | _ => none
    | _ => none
theorem spn_ok {ex : CodeF} (hex : ExOk P ex) {h0 : H} {kl : St → Option (List Out)} : ∀ (l : List Nat) (c : Code), (∀ c', codeAt l c = some (.loop c') → SOk P n h0 (.loop c') kl) → SOk P n h0 c (spn ex kl n l c) := by
  intro l
  induction l with
  | nil =>
    intro c hk s outs hv
    simp only [spn] at hv
    split at hv
    · exact hk _ rfl s outs hv
    · cases hv
  | cons q l ih =>
    intro c hk s outs hv B r w0 w a hr0 hh
    have hh0 := hh
    obtain ⟨rr, st, ha, hd⟩ := hh
    have hr := st.hr
    simp only [spn] at hv
    split at hv
    · rename_i x y
      cases hq : Nat.beq q 0 with
      | true =>
        rw [hq] at hv
        simp only [cond_true] at hv
        split at hv
        · rename_i t D h1 hx
          have hk' : ∀ c', codeAt l y = some (.loop c') → SOk P n h0 (.loop c') kl := fun c' e => hk c' (by simp only [codeAt, hq, cond_true]; exact e)
          refine runs_seq ((hex _ _ _ _ _ _ _ _ _ _ hx (B := B) rr w a none hr ha hd trivial).runs.mono fun z a1 w1 hz => ?_)
          obtain ⟨rfl, r1, s1, ar1, d1⟩ := hz
          exact (ih y hk' _ _ hv B r w0 w1 a1 hr0 ⟨r1, st.trans s1, ar1, d1⟩).runs
        · cases hv
      | false =>
        rw [hq] at hv
        simp only [cond_false] at hv
        have hk' : ∀ c', codeAt l x = some (.loop c') → SOk P n h0 (.loop c') kl := fun c' e => hk c' (by simp only [codeAt, hq, cond_false]; exact e)
        split at hv
        · rename_i os hos
          refine runs_seq ((ih x hk' _ _ hos B r w0 w a hr0 hh0).runs.mono fun z a1 w1 hz => ?_)
          obtain ⟨o, q1, hat⟩ := hz
          obtain ⟨zs, z1, z2⟩ := bindO_mem hv o q1
          have hat' := hat
          obtain ⟨rfl, r1, s1, ar1, d1⟩ := hat
          cases hox : o.x with
          | normal =>
            rw [hox] at z1 hat'
            simp only at z1
            split at z1
            · rename_i z t D h1 hx
              cases z1
              exact ((hex _ _ _ _ _ _ _ _ _ _ hx (B := B) r1 w1 a1 none s1.hr ar1 d1 trivial).runs).mono fun y a2 w2 p => ⟨_, z2 _ (List.mem_singleton.2 rfl), At.step s1 p⟩
            · cases z1
          | exit i => rw [hox] at z1 hat'; cases z1; exact ⟨o, z2 o (by simp), by rw [hox]; exact hat'⟩
          | ret => rw [hox] at z1 hat'; cases z1; exact ⟨o, z2 o (by simp), by rw [hox]; exact hat'⟩
        · cases hv
    · rename_i x
      exact runs_scope (ih x (fun c' e => hk c' e) _ _ hv B r w0 w a hr0 hh0).runs
    · rename_i id x
      split at hv
      · rename_i os hos
        cases hv
        refine runs_block ((ih x (fun c' e => hk c' e) _ _ hos B r w0 w a hr0 hh0).runs.mono fun z a1 w1 hz => ?_)
        obtain ⟨o, q1, hat⟩ := hz
        have hin := List.mem_map_of_mem (f := outB id) q1
        unfold outB at hin
        obtain ⟨rfl, r1, s1, ar1, d1⟩ := hat
        cases hox : o.x with
        | exit i =>
          simp only [hox] at hin
          simp only [Ex.inBlock]
          cases hi : Nat.beq i id with
          | true =>
            rw [hi] at hin
            rw [if_pos (Nat.eq_of_beq_eq_true hi)]
            exact ⟨⟨.normal, o.s⟩, hin, rfl, r1, s1, ar1, d1⟩
          | false =>
            rw [hi] at hin
            rw [if_neg (ne_of_beq hi)]
            exact ⟨o, hin, hox.symm, r1, s1, ar1, d1⟩
        | normal => simp only [hox] at hin; exact ⟨o, hin, hox.symm, r1, s1, ar1, d1⟩
        | ret => simp only [hox] at hin; exact ⟨o, hin, hox.symm, r1, s1, ar1, d1⟩
      · cases hv
    · rename_i x y z
      split at hv
      · rename_i b hb
        have hc : a.eval x = .bool b := by
          cases x with
          | tmp i =>
            have := ha.t i
            simp only [evT] at hb
            rw [hb] at this
            exact (this.vr rfl).to_bool
          | const u => exact hb
          | global g => simp [evT] at hb
          | func g => simp [evT] at hb
        refine runs_cond hc ?_
        cases hq : Nat.beq q 0 with
        | true =>
          rw [hq] at hv
          cases b with
          | true => exact (ih y (fun c' e => hk c' (by simp only [codeAt, hq, cond_true]; exact e)) _ _ hv B r w0 w a hr0 hh0).runs
          | false => cases hv
        | false =>
          rw [hq] at hv
          cases b with
          | true => cases hv
          | false => exact (ih z (fun c' e => hk c' (by simp only [codeAt, hq, cond_false]; exact e)) _ _ hv B r w0 w a hr0 hh0).runs
      · cases hv
    · cases hv
def bodyOf (P : Program) (g : Nat) : Code := match P.funcs[g]? with
  | some fn => match fn.body with
    | some c => c
    | none => .skip
  | none => .skip
def nOf (P : Program) (g k : Nat) : Nat := match P.funcs[g]? with
  | some fn => k + (fn.ntmps - k)
  | none => 0
/-- The loop at that place. -/
def loopAt (P : Program) (g : Nat) (l : List Nat) : Code := match codeAt l (bodyOf P g) with
  | some (.loop c) => c
  | _ => .skip
open Classical in
/-- A known call out of it. -/
theorem MC.ofJ {c : MC} {tab : T Func} (htab : ∀ f fn, tab.get (f + 1) = some fn → P.funcs[f]? = some fn) (hng : NoNG P) {ex : CodeF} (hex : ExOk P ex) {l : List Nat} {kl : St → Option (List Out)} {n0 : Nat} (hn : nOf P c.g c.args.length = n0)
    (hk : SOk P n0 c.s (.loop (loopAt P c.g l)) kl) (hv : c.outs (lmCall P tab (fun _ n cc s => spn ex kl n l cc s) c.g c.args c.s) = true) : c.Good P := by
  have hs : SOk P n0 c.s (bodyOf P c.g) (spn ex kl n0 l (bodyOf P c.g)) := spn_ok hex l _ fun c' e => by
    have : loopAt P c.g l = c' := by unfold loopAt; rw [e]
    rw [← this]; exact hk
  let lxG : LmF := fun ro n cc s => if cc = bodyOf P c.g ∧ n = n0 ∧ ro = none ∧ s.h = c.s then spn ex kl n0 l (bodyOf P c.g) s else none
  have hlx : LxOk P lxG := by
    intro ro n cc s outs hv B r w a ro' hr ha hd ho
    simp only [lxG] at hv
    split at hv
    · rename_i he
      obtain ⟨rfl, rfl, rfl, he⟩ := he
      cases ro' with
      | none =>
        rw [he] at hr ha ⊢
        exact hs s outs hv B r w w a hr ⟨r, he ▸ Step.refl (he ▸ hr), he ▸ ha, hd⟩
      | some _ => exact ho.elim
    · cases hv
  refine MC.ofN htab hng hlx ?_
  rw [← hv]
  congr 1
  unfold lmCall
  cases ht : tab.get (c.g + 1) with
  | none => rfl
  | some fn =>
    have hf := htab _ _ ht
    simp only
    cases hb : fn.body with
    | none => rfl
    | some cb =>
      have e1 : bodyOf P c.g = cb := by unfold bodyOf; rw [hf]; simp only [hb]
      have e2 : c.args.length + (fn.ntmps - c.args.length) = n0 := by rw [← hn]; unfold nOf; rw [hf]
      simp only [lxG, e1, e2, and_self, if_true]
end
end Ev
end Go.Proofs.YtilnneogbpnkkaaGreatDoor
