/- Known calls that are run twice: a row that is full, or not. -/
import Derived.Test.YtfhilhjdlkhilaaGreatDoorEvM24
import Derived.Lib.Join
set_option maxRecDepth 10000
namespace Go.Proofs.YtfhilhjdlkhilaaGreatDoor
namespace Ev
noncomputable section
variable {P : Program}
/-- A row of m cells of which the first are known. -/
def extB (m : Nat) : Blk → Blk
  | .cells n c d s => match ldN c d n 0 with
    | some l => .cells m .e (l ++ List.replicate (m - n) junk) s
    | none => .cells n c d s
  | b => b
def extF (b m : Nat) : List (Nat × Blk) → List (Nat × Blk)
  | [] => []
  | p :: l => (p.1, bif Nat.beq p.1 b then extB m p.2 else p.2) :: extF b m l
def MC.sX (c : MC) (b m : Nat) : H := mkH (extF b m c.fp) c.k (2 * c.gl) c.gl
theorem extF_look (b m : Nat) : ∀ (l : List (Nat × Blk)) (x : Nat), look (extF b m l) x = (look l x).map fun B => bif Nat.beq x b then extB m B else B := by
  intro l
  induction l with
  | nil => intro x; rfl
  | cons p l ih =>
    intro x
    simp only [extF, look]
    by_cases h : x = p.1
    · rw [beqT h, h]; rfl
    · rw [beqF h]; exact ih x
theorem extB_ok {r : Ren} {x : Nat} {e : E} {w : World} {n : Nat} {c : T Value} {d : List Value} {s m : Nat} (hx : x % 2 = 1) (hm : e.base + m ≤ e.size) (hn : n ≤ m) (h : BR r x e w (.cells n c d s)) : BR r x e w (extB m (.cells n c d s)) := by
  simp only [extB]
  split
  · rename_i l hl
    obtain ⟨C, t, fz, h1, h2, h3, h4, h5⟩ := h
    obtain ⟨a1, a2⟩ := ldN_get n 0 hl
    rw [if_neg (by omega)] at h5
    refine ⟨C, t, fz, h1, h2, fun i hi => ?_, fun _ => h4 (wrt_odd hx), ?_⟩
    · have hlen : (l ++ List.replicate (m - n) junk).length = m := by simp [a1]; omega
      have hC : e.base + i < C.size := by omega
      rw [cg_e (by rw [hlen]; exact hi)]
      by_cases hin : i < n
      · obtain ⟨v, v', q1, q2, q3⟩ := h3 i hin
        have := a2 i hin
        rw [Nat.zero_add, q1] at this
        refine ⟨v, v', ?_, q2, q3⟩
        rw [List.getElem_append_left (by omega)]
        rw [List.getElem?_eq_getElem (by omega)] at this
        exact this.symm
      · refine ⟨junk, C[e.base + i], ?_, Array.getElem?_eq_getElem hC, .any⟩
        rw [List.getElem_append_right (by omega)]
        simp
    · rw [if_neg (by omega)]; exact ⟨hm, h5.2⟩
  · exact h
theorem HR.ext_ {c : MC} {r : Ren} {w : World} {b : Nat} {e : E} {n : Nat} {cs : T Value} {d : List Value} {s m : Nat} (hb : c.s.get b = some (.cells n cs d s)) (hodd : b % 2 = 1) (he : r b = some e) (hm : e.base + m ≤ e.size) (hn : n ≤ m) (hr : HR r c.s w) : HR r (c.sX b m) w := by
  have hget : ∀ x B, (c.sX b m).get x = some B → ∃ B0, c.s.get x = some B0 ∧ B = bif Nat.beq x b then extB m B0 else B0 := fun x B hx => by
    unfold MC.sX at hx
    rw [mkH_get, extF_look] at hx
    rw [MC.s, mkH_get]
    cases hq : look c.fp x with
    | none => rw [hq] at hx; cases hx
    | some B0 =>
      rw [hq] at hx
      simp only [Option.map_some, Option.some.injEq] at hx
      exact ⟨B0, rfl, hx.symm⟩
  refine ⟨fun x B hx => ?_, fun x y B D f g hx hy hf hg hlo hne => ?_, hr.new, hr.lo, hr.gl, hr.bnd⟩
  · obtain ⟨B0, q1, rfl⟩ := hget x B hx
    obtain ⟨f, f1, f2, f3⟩ := hr.blk x B0 q1
    refine ⟨f, f1, f2, ?_⟩
    by_cases hxb : x = b
    · subst hxb
      rw [hb] at q1; cases q1
      rw [he] at f1; cases f1
      rw [beqT rfl]
      exact extB_ok hodd hm hn f3
    · rw [beqF hxb]; exact f3
  · obtain ⟨B0, q1, _⟩ := hget x B hx
    obtain ⟨D0, q2, _⟩ := hget y D hy
    exact hr.inj x y B0 D0 f g q1 q2 hf hg hlo hne
theorem Owns.ext_ {c : MC} {r : Ren} {b m k : Nat} (h : Owns r (c.sX b m) k) : Owns r c.s k := by
  obtain ⟨x, B, e, h1, h2, h3, h4⟩ := h
  unfold MC.sX at h1
  rw [mkH_get, extF_look] at h1
  cases hq : look c.fp x with
  | none => rw [hq] at h1; cases h1
  | some B0 => exact ⟨x, B0, e, by rw [MC.s, mkH_get]; exact hq, h2, h3, h4⟩
theorem Step.ext_ {c : MC} {r r' : Ren} {w w' : World} {b m : Nat} {h' : H} (st : Step r (c.sX b m) w r' h' w') : Step r c.s w r' h' w' :=
  ⟨st.ext, st.keep, st.hr, st.k, st.lo, st.g, st.size, fun k hk ho => st.old k hk fun q => ho q.ext_, st.os, st.tape, st.output⟩
/-- One run. -/
def MC.out1 (c : MC) (x : Option (Value × H)) : Bool :=
  match x with
  | some p => c.outAt (bdU c p.2 c.up (bdV c.v p.1 .e)) p.1 p.2
  | none => false
theorem MC.out1_ok {c : MC} {r r' : Ren} {w w' : World} {v v' : Value} {h : H} (hr : HR r c.s w) (ho : c.out1 (some (v, h)) = true) (st : Step r c.s w r' h w') (hv : VR r' v v') : Kt r c.s w c.v c.s' v' w' := by
  simp only [MC.out1, MC.outAt, Bool.and_eq_true] at ho
  obtain ⟨⟨⟨o1, o2⟩, o3⟩, o4⟩ := ho
  have o3 := Nat.eq_of_beq_eq_true o3
  have o4 := Nat.eq_of_beq_eq_true o4
  have s2 := Step.cov (m := bdU c h c.up (bdV c.v v .e)) (h := c.s) o2 hr st
  rw [o3, o4] at s2
  rw [o3] at o1
  exact ⟨_, s2, eqR_ok (plk_par _ _ _ _ _) _ _ _ o1 hv⟩
/-- A call that is run once, told by other numbers. -/
theorem MC.of1 {c : MC} {cf : CallF} (hcf : CfOk P cf) (h : (allDiff (c.up.map (·.1)) && c.out1 (cf c.g c.args c.s)) = true) : c.Good P := by
  simp only [Bool.and_eq_true] at h
  cases hq : cf c.g c.args c.s with
  | none => rw [hq] at h; cases h.2
  | some p =>
    obtain ⟨v, h'⟩ := p
    rw [hq] at h
    refine ⟨fun r w args' hr hl => ?_, allDiff_spec _ h.1⟩
    obtain ⟨q1, q2⟩ := Known.of hcf hq r w args' hr hl
    exact ⟨q1, Calls.mono q2 (RC.imp fun v' w' ⟨r', st, hv⟩ => MC.out1_ok hr h.2 st hv)⟩
/-- The machine that goes all the ways of a walk over a map and puts no states together. -/
def waysI (P : Program) (tab : T Func) (ov : CallF) (k : Nat) : LmF :=
  lmRun P (fastO P tab ov k) (withO ov (callFF P tab (fastO P tab ov k))) (yieldF (fastO P tab ov k)) (fun _ fr => fr) 1000
theorem waysI_ok (hm : P.follows .mixedOrders = true) (hng : NoNG P) {tab : T Func} (htab : ∀ f fn, tab.get (f + 1) = some fn → P.funcs[f]? = some fn) {ov : CallF} (hov : CfOk P ov) (k : Nat) : LxOk P (waysI P tab ov k) := by
  have hex := fastO_ok hm hng htab hov k
  exact lmRun_ok hex (withO_ok hov (callFF_ok htab hng hex)) (yieldF_ok hex) (fun _ s hs _ _ _ _ _ _ _ _ hh => ⟨s, hs, hh⟩) 1000
/-- Are these calls, told by other numbers, what is said of them? -/
def allOut1 (cf : CallF) : List MC → Bool
  | [] => true
  | c :: l => bif allDiff (c.up.map (·.1)) && c.out1 (cf c.g c.args c.s) then allOut1 cf l else false
theorem allOut1_ok {cf : CallF} (hcf : CfOk P cf) : ∀ (l : List MC), allOut1 cf l = true → ∀ c ∈ l, c.Good P := by
  intro l
  induction l with
  | nil => intro _ c hc; cases hc
  | cons d l ih =>
    intro h c hc
    simp only [allOut1] at h
    cases hd : allDiff (d.up.map (·.1)) && d.out1 (cf d.g d.args d.s) with
    | false => rw [hd] at h; cases h
    | true =>
      rw [hd] at h
      cases hc with
      | head => exact MC.of1 hcf hd
      | tail _ hc => exact ih h c hc
/-- A call whose first argument is a row that may be full or not: both are run. -/
def MC.two (c : MC) (cf : CallF) (b o l s : Nat) (rest : List Value) : Bool :=
  Nat.beq (b % 2) 1 && Nat.blt 0 l && (match c.s.get b with
    | some (.cells n _ _ s') => Nat.beq s' s && Nat.ble n (o + (l + 1) * s)
    | _ => false) && allDiff (c.up.map (·.1)) && c.out1 (cf c.g (sl b o l (l + 1) :: rest) c.s) && c.out1 (cf c.g (sl b o l 0 :: rest) (c.sX b (o + (l + 1) * s)))
theorem MC.of2 {c : MC} {cf : CallF} (hcf : CfOk P cf) {b o l s : Nat} {rest : List Value} (ha : c.args = sl b o l 0 :: rest) (h : c.two cf b o l s rest = true) : c.Good P := by
  simp only [MC.two, Bool.and_eq_true] at h
  obtain ⟨⟨⟨⟨⟨h1, h2⟩, h3⟩, h4⟩, h5⟩, h6⟩ := h
  have h1 := Nat.eq_of_beq_eq_true h1
  have h2 : 0 < l := Nat.le_of_ble_eq_true h2
  refine ⟨fun r w args' hr hl => ?_, allDiff_spec _ h4⟩
  split at h3
  · rename_i n cs d s' hb
    simp only [Bool.and_eq_true] at h3
    have h3a := Nat.eq_of_beq_eq_true h3.1
    have h3b := Nat.le_of_ble_eq_true h3.2
    subst h3a
    rw [ha] at hl
    cases hl with
    | cons hv ht =>
      cases hv with
      | sl he hb0 => omega
      | slz he hb0 hc => omega
      | slo he hb0 hc hle =>
        rename_i c' e
        have hsz : e.sz = s' := by
          obtain ⟨e', e1, e2, C, t, fz, e3, e4, e5, e6, e7⟩ := hr.blk b _ hb
          rw [he] at e1; cases e1
          rw [if_neg (by omega)] at e7
          exact e7.2
        by_cases hcl : c' = l
        · subst hcl
          cases hq : cf c.g (sl b o c' (c' + 1) :: rest) c.s with
          | none => rw [hq] at h5; cases h5
          | some p =>
            obtain ⟨v, h'⟩ := p
            rw [hq] at h5
            obtain ⟨q1, q2⟩ := Known.of hcf hq r w _ hr (.cons (.slk he hb0 (fun _ => rfl) (Nat.le_of_eq hc) (Nat.le_refl _)) ht)
            exact ⟨q1, Calls.mono q2 (RC.imp fun v' w' ⟨r', st, hv⟩ => MC.out1_ok hr h5 st hv)⟩
        · cases hq : cf c.g (sl b o l 0 :: rest) (c.sX b (o + (l + 1) * s')) with
          | none => rw [hq] at h6; cases h6
          | some p =>
            obtain ⟨v, h'⟩ := p
            rw [hq] at h6
            have hm : e.base + (o + (l + 1) * s') ≤ e.size := by
              rw [hsz] at hc
              have : (l + 1) * s' ≤ c' * s' := Nat.mul_le_mul_right _ (by omega)
              omega
            have hr2 := HR.ext_ hb h1 he hm h3b hr
            obtain ⟨q1, q2⟩ := Known.of hcf hq r w _ hr2 (.cons (.slo he hb0 hc hle) ht)
            exact ⟨q1, Calls.mono q2 (RC.imp fun v' w' ⟨r', st, hv⟩ => MC.out1_ok hr h6 st.ext_ hv)⟩
  · cases h3
end
end Ev
end Go.Proofs.YtfhilhjdlkhilaaGreatDoor
/- strings.Join, of which a contract is known: a call that is answered at once. -/
set_option maxRecDepth 10000
namespace Go.Proofs.YtfhilhjdlkhilaaGreatDoor
namespace Ev
open Go.RowKit
noncomputable section
variable {P : Program}
/-- Texts out of cells. -/
def strs : List Value → Option (List ByteArray)
  | [] => some []
  | .string s :: l => (match strs l with
    | some r => some (s :: r)
    | none => none)
  | _ :: _ => none
theorem strs_ok {r : Ren} : ∀ (vs vs' : List Value) (xs : List ByteArray), strs vs = some xs → VRL r vs vs' → vs' = xs.map Value.string := by
  intro vs
  induction vs with
  | nil => intro vs' xs h hv; simp only [strs, Option.some.injEq] at h; subst h; cases hv; rfl
  | cons v vs ih =>
    intro vs' xs h hv
    cases hv with
    | cons h1 h2 =>
      cases v <;> simp only [strs, reduceCtorEq] at h
      rename_i s
      split at h
      · rename_i q hq
        simp only [Option.some.injEq] at h
        subst h
        cases h1
        rw [ih _ _ hq h2]
        rfl
      · cases h
def joined (xs : List ByteArray) (sep : ByteArray) : List UInt8 := Lib.join (xs.map (·.data.toList)) sep.data.toList
/-- strings.Join is function fi. -/
def joinO (fi : Nat) : CallF := fun f args h => bif Nat.beq f fi then (match args with
  | [.slice (some ⟨b, o, none⟩) l c, .string sep] => (match h.get b with
    | some (.cells n cs d _) => bif Nat.ble (o + l) n && (bif Nat.beq (b % 2) 0 then Nat.ble l c else Nat.blt 0 l) && Nat.ble l 1000000 then (match ldN cs d l o with
      | some vs => (match strs vs with
        | some xs => bif Nat.ble (lenL (joined xs sep)) 1000000 then some (.string ⟨⟨joined xs sep⟩⟩, h) else none
        | none => none)
      | none => none) else none
    | _ => none)
  | _ => none) else none
/-- What is known of strings.Join. -/
def Joins (P : Program) (fi : Nat) : Prop := ∀ (bk o c : Nat) (xs : List ByteArray) (sep : ByteArray) (w : World),
  (∀ (j : Nat) x, xs[j]? = some x → w.cell? ⟨bk, o + j, none⟩ = some (.string x)) → bk < w.heap.size → xs.length ≤ 140737488355328 → xs.length ≤ c → (Lib.join (xs.map (·.data.toList)) sep.data.toList).length ≤ 140737488355328 →
  Calls P fi #[.slice (some ⟨bk, o, none⟩) xs.length c, .string sep] w fun e w' => e = .returned (.string ⟨(Lib.join (xs.map (·.data.toList)) sep.data.toList).toArray⟩) ∧ Below w.heap.size w w'
theorem Step.below {r : Ren} {h : H} {w w' : World} (hr : HR r h w) (hb : Below w.heap.size w w') : Step r h w r h w' := by
  obtain ⟨h1, h2, h3, h4, h5⟩ := hb
  exact ⟨Ext.refl r, fun _ _ => rfl, ⟨fun x b hx => by
    obtain ⟨e, e1, e2, e3⟩ := hr.blk x b hx
    exact ⟨e, e1, Nat.lt_of_lt_of_le e2 h4, e3.same (Ext.refl r) (h5 _ e2)⟩, hr.inj, hr.new, hr.lo, hr.gl, fun x e hx => Nat.lt_of_lt_of_le (hr.bnd x e hx) h4⟩, Nat.le_refl _, rfl, rfl, h4, fun k hk ho => ⟨h5 k hk, ho⟩, h1, h2, h3⟩
theorem joinO_ok {fi : Nat} (hfn : ∃ fn, P.funcs[fi]? = some fn ∧ fn.body.isNone = false ∧ (fn.name == "runtime.NumGoroutine") = false) (hj : Joins P fi) : CfOk P (joinO fi) := by
  intro r h w g args args' v h' hr hl hv
  unfold joinO at hv
  replace hv := bif_some hv
  obtain ⟨hg, hv⟩ := hv
  replace hg := Nat.eq_of_beq_eq_true hg
  subst hg
  refine ⟨hfn, ?_⟩
  split at hv
  · rename_i b o l c sep
    split at hv
    · rename_i n cs d s hb
      obtain ⟨hc, hv⟩ := bif_some hv
      simp only [Bool.and_eq_true] at hc
      obtain ⟨⟨c1, c2⟩, c3⟩ := hc
      have c1 := Nat.le_of_ble_eq_true c1
      have c3 := Nat.le_of_ble_eq_true c3
      split at hv
      · rename_i vs hvs
        split at hv
        · rename_i xs hxs
          obtain ⟨hlen, hv⟩ := bif_some hv
          have hlen := Nat.le_of_ble_eq_true hlen
          rw [lenL_eq] at hlen
          simp only [Option.some.injEq, Prod.mk.injEq] at hv
          obtain ⟨rfl, rfl⟩ := hv
          cases hl with
          | cons v1 t1 =>
            cases t1 with
            | cons v2 t2 =>
              cases t2
              cases v2
              have key : ∀ (E' : E) (k c' : Nat), r b = some E' → k = E'.base + o → l ≤ c' → Calls P g #[.slice (some ⟨E'.blk, k, none⟩) l c', .string sep] w (RC (Kt r h w (.string ⟨⟨joined xs sep⟩⟩) h)) := fun E' k c' he hk hlc => by
                subst hk
                obtain ⟨old', o1, o2, o3⟩ := ldN_ok hr hb he l o hvs c1
                have hold := strs_ok _ _ _ hxs o1
                have hxl : xs.length = l := by rw [hold] at o2; simpa using o2
                obtain ⟨f, _, f2, _⟩ := hr.blk b _ hb
                have hlt : E'.blk < w.heap.size := hr.bnd _ _ he
                have := hj E'.blk (E'.base + o) c' xs sep w (fun j x hx => o3 j _ (by rw [hold]; simp [hx])) hlt (by omega) (by omega) (by have : (joined xs sep).length ≤ 1000000 := hlen; unfold joined at this; omega)
                rw [hxl] at this
                exact this.mono fun e w' ⟨he', hb'⟩ => by
                  subst he'
                  exact ⟨r, Step.below hr hb', .string _⟩
              cases v1 with
              | sl he hb0 =>
                rw [beqT hb0] at c2
                exact key _ _ _ he rfl (Nat.le_of_ble_eq_true c2)
              | slo he hb0 hcc hle => exact key _ _ _ he rfl hle
              | slz he hb0 hcc =>
                rw [beqF (by omega)] at c2
                cases c2
              | slk he hb0 hx hcc hle =>
                rw [beqF (by omega)] at c2
                have c2 : 0 < l := Nat.le_of_ble_eq_true c2
                exact key _ _ _ he (hx (by omega)) hle
        · cases hv
      · cases hv
    · cases hv
  · cases hv
end
end Ev
end Go.Proofs.YtfhilhjdlkhilaaGreatDoor
