/- Lists of api.Release: equal or not (the kit's loop and the library's). · Lists of api.Op: equal or not (the kit's loop and the library's). · Books and scripts as values; equal or not. · Scripts as values; equal or not. · Copies of lists. · A region that draws its order, loads its operands, and then stores into the very cells tha -/
import Derived.Deep.QuietTactic
import Derived.BigQuiet
import Derived.Maps.AppendAt
import Derived.OwnWalk
import Derived.OrdersHeld
import Derived.Test.YtamcgggmfghljaaGreatDoorB2
set_option maxRecDepth 100000
set_option maxHeartbeats 8000000
namespace Go.Proofs.YtamcgggmfghljaaGreatDoor
open Go.RowKit
theorem kit_equal_rls (v u : Value) (l m : List Rls) (B1 B2 : Nat) (w : World) (hv : Sls cRls w B1 v l) (hu : Sls cRls w B2 u m) :
    Calls Tryz.prog 122 #[v, u] w fun e w' => e = .returned (.bool (decide (l = m))) ∧ Same w w' := by
  obtain ⟨A1, cap1, rfl, hc1, hm1, hr1⟩ := id hv
  obtain ⟨A2, cap2, rfl, hc2, hm2, hr2⟩ := id hu
  have HV := Lib.hid hv
  have HU := Lib.hid hu
  clear hr1 hr2 hv hu
  unfold maxLen at hm1 hm2
  by_cases hl : l.length = m.length
  · have h0 : ((l.length : Int) != (m.length : Int)) = false := by simp [hl]
    have h1 : (l.length != m.length) = false := by simp [hl]
    have HL := Lib.hid hl
    clear hl
    go_enter Tryz.func122, Tryz.ntmps122
    go_wp2
    go_loopw [5] (fun i wr => ∃ k : Nat, k ≤ l.length ∧ i = .int .i64 k ∧ l.take k = m.take k ∧ Same w wr) (fun i _ => l.length - (intOf i).toNat)
    case atStart => exact ⟨0, by omega, rfl, by simp, Same.refl _⟩
    case round =>
      obtain ⟨k, hk, rfl, he, hs⟩ := hrel
      have HE := Lib.hid he
      clear he
      by_cases hlt : k < l.length
      · have hx : l[k]? = some l[k] := List.getElem?_eq_getElem hlt
        have hlt2 : k < m.length := by rw [← HL.out]; exact hlt
        have hy : m[k]? = some m[k] := List.getElem?_eq_getElem hlt2
        obtain ⟨b1, o1, rfl, _, r1⟩ := (HV.out.same hs).get 11 cRls_len hx
        obtain ⟨b2, o2, rfl, _, r2⟩ := (HU.out.same hs).get 11 cRls_len hy
        have ht1 : l.take (k + 1) = l.take k ++ [l[k]] := by rw [List.take_succ_eq_append_getElem hlt]
        have ht2 : m.take (k + 1) = m.take k ++ [m[k]] := by rw [List.take_succ_eq_append_getElem hlt2]
        have HT1 := Lib.hid ht1
        have HT2 := Lib.hid ht2
        have HS := Lib.hid hs
        clear hx hy ht1 ht2 hs
        generalize l[k] = x at *
        generalize m[k] = y at *
        have r1_0 : wr.cell? ⟨b1, o1 + k * 11, none⟩ = some (.int .i64 x.step) := r1 0 _ rfl
        have r1_1 : wr.cell? ⟨b1, o1 + k * 11 + 1, none⟩ = some (.int .i64 x.at_.col) := r1 1 _ rfl
        have r1_2 : wr.cell? ⟨b1, o1 + k * 11 + 2, none⟩ = some (.int .i64 x.at_.row) := r1 2 _ rfl
        have r1_3 : wr.cell? ⟨b1, o1 + k * 11 + 3, none⟩ = some (.int .i64 x.node) := r1 3 _ rfl
        have r1_4 : wr.cell? ⟨b1, o1 + k * 11 + 4, none⟩ = some (.int .u8 x.fn) := r1 4 _ rfl
        have r1_5 : wr.cell? ⟨b1, o1 + k * 11 + 5, none⟩ = some (.int .i64 x.rect.c1) := r1 5 _ rfl
        have r1_6 : wr.cell? ⟨b1, o1 + k * 11 + 6, none⟩ = some (.int .i64 x.rect.r1) := r1 6 _ rfl
        have r1_7 : wr.cell? ⟨b1, o1 + k * 11 + 7, none⟩ = some (.int .i64 x.rect.c2) := r1 7 _ rfl
        have r1_8 : wr.cell? ⟨b1, o1 + k * 11 + 8, none⟩ = some (.int .i64 x.rect.r2) := r1 8 _ rfl
        have r1_9 : wr.cell? ⟨b1, o1 + k * 11 + 9, none⟩ = some (.int .i64 x.grant) := r1 9 _ rfl
        have r1_10 : wr.cell? ⟨b1, o1 + k * 11 + 10, none⟩ = some (.int .u64 x.to_) := r1 10 _ rfl
        have r2_0 : wr.cell? ⟨b2, o2 + k * 11, none⟩ = some (.int .i64 y.step) := r2 0 _ rfl
        have r2_1 : wr.cell? ⟨b2, o2 + k * 11 + 1, none⟩ = some (.int .i64 y.at_.col) := r2 1 _ rfl
        have r2_2 : wr.cell? ⟨b2, o2 + k * 11 + 2, none⟩ = some (.int .i64 y.at_.row) := r2 2 _ rfl
        have r2_3 : wr.cell? ⟨b2, o2 + k * 11 + 3, none⟩ = some (.int .i64 y.node) := r2 3 _ rfl
        have r2_4 : wr.cell? ⟨b2, o2 + k * 11 + 4, none⟩ = some (.int .u8 y.fn) := r2 4 _ rfl
        have r2_5 : wr.cell? ⟨b2, o2 + k * 11 + 5, none⟩ = some (.int .i64 y.rect.c1) := r2 5 _ rfl
        have r2_6 : wr.cell? ⟨b2, o2 + k * 11 + 6, none⟩ = some (.int .i64 y.rect.r1) := r2 6 _ rfl
        have r2_7 : wr.cell? ⟨b2, o2 + k * 11 + 7, none⟩ = some (.int .i64 y.rect.c2) := r2 7 _ rfl
        have r2_8 : wr.cell? ⟨b2, o2 + k * 11 + 8, none⟩ = some (.int .i64 y.rect.r2) := r2 8 _ rfl
        have r2_9 : wr.cell? ⟨b2, o2 + k * 11 + 9, none⟩ = some (.int .i64 y.grant) := r2 9 _ rfl
        have r2_10 : wr.cell? ⟨b2, o2 + k * 11 + 10, none⟩ = some (.int .u64 y.to_) := r2 10 _ rfl
        have hn : ∀ W, (binOp .neq 116 (.agg #[.int .i64 x.step, .int .i64 x.at_.col, .int .i64 x.at_.row, .int .i64 x.node, .int .u8 x.fn, .int .i64 x.rect.c1, .int .i64 x.rect.r1, .int .i64 x.rect.c2, .int .i64 x.rect.r2, .int .i64 x.grant, .int .u64 x.to_]) (.agg #[.int .i64 y.step, .int .i64 y.at_.col, .int .i64 y.at_.row, .int .i64 y.node, .int .u8 y.fn, .int .i64 y.rect.c1, .int .i64 y.rect.r1, .int .i64 y.rect.c2, .int .i64 y.rect.r2, .int .i64 y.grant, .int .u64 y.to_])).run Tryz.prog W = .ok (.bool (!decide (x = y))) W := fun W => neq_rls x y W
        have hi0 : (0 : Int) ≤ (k : Int) := Int.natCast_nonneg _
        have hi1 : (k : Int) < (l.length : Int) := by omega
        have hi2 : (k : Int) < (m.length : Int) := by omega
        clear r1 r2
        by_cases hxy : x = y
        · have hd : decide (x = y) = true := by simpa using hxy
          rw [hd] at hn
          have HXY := Lib.hid hxy
          clear hd hxy
          go_wp2
          go_quiet (fail)
          go_wp2
          exact ⟨⟨k + 1, by omega, by go_num, by rw [HT1.out, HT2.out, HE.out, HXY.out], HS.out.drewN _⟩, by simp [intOf]; omega⟩
        · have hd : decide (x = y) = false := by simpa using hxy
          rw [hd] at hn
          have HXY := Lib.hid hxy
          clear hd hxy
          go_wp2
          go_quiet (fail)
          go_wp2
          go_ret
          have hne : ¬ l = m := by
            intro e
            have h2 := HT1.out
            rw [e, HT2.out, ← HE.out] at h2
            exact HXY.out (by simpa using h2.symm)
          exact ⟨by simp [hne], HS.out.drewN _⟩
      · go_wp2
        go_ret
        have h1 : k = l.length := by omega
        have h2 := HE.out
        rw [h1, List.take_length, HL.out, List.take_length] at h2
        exact ⟨by simp [h2], hs⟩
  · have h0 : ((l.length : Int) != (m.length : Int)) = true := by simpa using fun e => hl (by omega)
    have h1 : (l.length != m.length) = true := by simpa using hl
    have hne : ¬ l = m := fun e => hl (by rw [e])
    have HN := Lib.hid hne
    clear hne
    go_enter Tryz.func122, Tryz.ntmps122
    go_wp2
    go_ret
    exact ⟨by simp [HN.out], Same.refl _⟩
theorem kit_equal_opr (v u : Value) (l m : List Opr) (B1 B2 : Nat) (w : World) (hv : Sls cOpr w B1 v l) (hu : Sls cOpr w B2 u m) :
    Calls Tryz.prog 34 #[v, u] w fun e w' => e = .returned (.bool (decide (l = m))) ∧ Same w w' := by
  obtain ⟨A1, cap1, rfl, hc1, hm1, hr1⟩ := id hv
  obtain ⟨A2, cap2, rfl, hc2, hm2, hr2⟩ := id hu
  have HV := Lib.hid hv
  have HU := Lib.hid hu
  clear hr1 hr2 hv hu
  unfold maxLen at hm1 hm2
  by_cases hl : l.length = m.length
  · have h0 : ((l.length : Int) != (m.length : Int)) = false := by simp [hl]
    have h1 : (l.length != m.length) = false := by simp [hl]
    have HL := Lib.hid hl
    clear hl
    go_enter Tryz.func34, Tryz.ntmps34
    go_wp2
    go_loopw [5] (fun i wr => ∃ k : Nat, k ≤ l.length ∧ i = .int .i64 k ∧ l.take k = m.take k ∧ Same w wr) (fun i _ => l.length - (intOf i).toNat)
    case atStart => exact ⟨0, by omega, rfl, by simp, Same.refl _⟩
    case round =>
      obtain ⟨k, hk, rfl, he, hs⟩ := hrel
      have HE := Lib.hid he
      clear he
      by_cases hlt : k < l.length
      · have hx : l[k]? = some l[k] := List.getElem?_eq_getElem hlt
        have hlt2 : k < m.length := by rw [← HL.out]; exact hlt
        have hy : m[k]? = some m[k] := List.getElem?_eq_getElem hlt2
        obtain ⟨b1, o1, rfl, _, r1⟩ := (HV.out.same hs).get 13 cOpr_len hx
        obtain ⟨b2, o2, rfl, _, r2⟩ := (HU.out.same hs).get 13 cOpr_len hy
        have ht1 : l.take (k + 1) = l.take k ++ [l[k]] := by rw [List.take_succ_eq_append_getElem hlt]
        have ht2 : m.take (k + 1) = m.take k ++ [m[k]] := by rw [List.take_succ_eq_append_getElem hlt2]
        have HT1 := Lib.hid ht1
        have HT2 := Lib.hid ht2
        have HS := Lib.hid hs
        clear hx hy ht1 ht2 hs
        generalize l[k] = x at *
        generalize m[k] = y at *
        have r1_0 : wr.cell? ⟨b1, o1 + k * 13, none⟩ = some (.int .u8 x.kind) := r1 0 _ rfl
        have r1_1 : wr.cell? ⟨b1, o1 + k * 13 + 1, none⟩ = some (.int .i64 x.user) := r1 1 _ rfl
        have r1_2 : wr.cell? ⟨b1, o1 + k * 13 + 2, none⟩ = some (.int .i64 x.rect.c1) := r1 2 _ rfl
        have r1_3 : wr.cell? ⟨b1, o1 + k * 13 + 3, none⟩ = some (.int .i64 x.rect.r1) := r1 3 _ rfl
        have r1_4 : wr.cell? ⟨b1, o1 + k * 13 + 4, none⟩ = some (.int .i64 x.rect.c2) := r1 4 _ rfl
        have r1_5 : wr.cell? ⟨b1, o1 + k * 13 + 5, none⟩ = some (.int .i64 x.rect.r2) := r1 5 _ rfl
        have r1_6 : wr.cell? ⟨b1, o1 + k * 13 + 6, none⟩ = some (str x.input) := r1 6 _ rfl
        have r1_7 : wr.cell? ⟨b1, o1 + k * 13 + 7, none⟩ = some (.int .u64 x.rights.rd) := r1 7 _ rfl
        have r1_8 : wr.cell? ⟨b1, o1 + k * 13 + 8, none⟩ = some (.int .u64 x.rights.wr) := r1 8 _ rfl
        have r1_9 : wr.cell? ⟨b1, o1 + k * 13 + 9, none⟩ = some (.int .u64 x.rights.ow) := r1 9 _ rfl
        have r1_10 : wr.cell? ⟨b1, o1 + k * 13 + 10, none⟩ = some (.int .u8 x.fns) := r1 10 _ rfl
        have r1_11 : wr.cell? ⟨b1, o1 + k * 13 + 11, none⟩ = some (.int .u64 x.to_) := r1 11 _ rfl
        have r1_12 : wr.cell? ⟨b1, o1 + k * 13 + 12, none⟩ = some (.int .i64 x.index) := r1 12 _ rfl
        have r2_0 : wr.cell? ⟨b2, o2 + k * 13, none⟩ = some (.int .u8 y.kind) := r2 0 _ rfl
        have r2_1 : wr.cell? ⟨b2, o2 + k * 13 + 1, none⟩ = some (.int .i64 y.user) := r2 1 _ rfl
        have r2_2 : wr.cell? ⟨b2, o2 + k * 13 + 2, none⟩ = some (.int .i64 y.rect.c1) := r2 2 _ rfl
        have r2_3 : wr.cell? ⟨b2, o2 + k * 13 + 3, none⟩ = some (.int .i64 y.rect.r1) := r2 3 _ rfl
        have r2_4 : wr.cell? ⟨b2, o2 + k * 13 + 4, none⟩ = some (.int .i64 y.rect.c2) := r2 4 _ rfl
        have r2_5 : wr.cell? ⟨b2, o2 + k * 13 + 5, none⟩ = some (.int .i64 y.rect.r2) := r2 5 _ rfl
        have r2_6 : wr.cell? ⟨b2, o2 + k * 13 + 6, none⟩ = some (str y.input) := r2 6 _ rfl
        have r2_7 : wr.cell? ⟨b2, o2 + k * 13 + 7, none⟩ = some (.int .u64 y.rights.rd) := r2 7 _ rfl
        have r2_8 : wr.cell? ⟨b2, o2 + k * 13 + 8, none⟩ = some (.int .u64 y.rights.wr) := r2 8 _ rfl
        have r2_9 : wr.cell? ⟨b2, o2 + k * 13 + 9, none⟩ = some (.int .u64 y.rights.ow) := r2 9 _ rfl
        have r2_10 : wr.cell? ⟨b2, o2 + k * 13 + 10, none⟩ = some (.int .u8 y.fns) := r2 10 _ rfl
        have r2_11 : wr.cell? ⟨b2, o2 + k * 13 + 11, none⟩ = some (.int .u64 y.to_) := r2 11 _ rfl
        have r2_12 : wr.cell? ⟨b2, o2 + k * 13 + 12, none⟩ = some (.int .i64 y.index) := r2 12 _ rfl
        have hn : ∀ W, (binOp .neq 48 (.agg #[.int .u8 x.kind, .int .i64 x.user, .int .i64 x.rect.c1, .int .i64 x.rect.r1, .int .i64 x.rect.c2, .int .i64 x.rect.r2, str x.input, .int .u64 x.rights.rd, .int .u64 x.rights.wr, .int .u64 x.rights.ow, .int .u8 x.fns, .int .u64 x.to_, .int .i64 x.index]) (.agg #[.int .u8 y.kind, .int .i64 y.user, .int .i64 y.rect.c1, .int .i64 y.rect.r1, .int .i64 y.rect.c2, .int .i64 y.rect.r2, str y.input, .int .u64 y.rights.rd, .int .u64 y.rights.wr, .int .u64 y.rights.ow, .int .u8 y.fns, .int .u64 y.to_, .int .i64 y.index])).run Tryz.prog W = .ok (.bool (!decide (x = y))) W := fun W => neq_opr x y W
        have hi0 : (0 : Int) ≤ (k : Int) := Int.natCast_nonneg _
        have hi1 : (k : Int) < (l.length : Int) := by omega
        have hi2 : (k : Int) < (m.length : Int) := by omega
        clear r1 r2
        by_cases hxy : x = y
        · have hd : decide (x = y) = true := by simpa using hxy
          rw [hd] at hn
          have HXY := Lib.hid hxy
          clear hd hxy
          go_wp2
          go_quiet (fail)
          go_wp2
          exact ⟨⟨k + 1, by omega, by go_num, by rw [HT1.out, HT2.out, HE.out, HXY.out], HS.out.drewN _⟩, by simp [intOf]; omega⟩
        · have hd : decide (x = y) = false := by simpa using hxy
          rw [hd] at hn
          have HXY := Lib.hid hxy
          clear hd hxy
          go_wp2
          go_quiet (fail)
          go_wp2
          go_ret
          have hne : ¬ l = m := by
            intro e
            have h2 := HT1.out
            rw [e, HT2.out, ← HE.out] at h2
            exact HXY.out (by simpa using h2.symm)
          exact ⟨by simp [hne], HS.out.drewN _⟩
      · go_wp2
        go_ret
        have h1 : k = l.length := by omega
        have h2 := HE.out
        rw [h1, List.take_length, HL.out, List.take_length] at h2
        exact ⟨by simp [h2], hs⟩
  · have h0 : ((l.length : Int) != (m.length : Int)) = true := by simpa using fun e => hl (by omega)
    have h1 : (l.length != m.length) = true := by simpa using hl
    have hne : ¬ l = m := fun e => hl (by rw [e])
    have HN := Lib.hid hne
    clear hne
    go_enter Tryz.func34, Tryz.ntmps34
    go_wp2
    go_ret
    exact ⟨by simp [HN.out], Same.refl _⟩
/-- A book's five lists, in memory below block B. -/
structure RdBok (w : World) (B : Nat) (b : Bok) (e r g l x : Value) : Prop where
  ents : Sls cEnt w B e b.entries
  ruls : Sls cRul w B r b.rules
  grts : Sls cGrt w B g b.grants
  evts : Sls cEvt w B l b.log
  rlss : Sls cRls w B x b.releases
theorem RdBok.below {w w' : World} {B : Nat} {b : Bok} {e r g l x : Value} (h : RdBok w B b e r g l x) (hb : Below B w w') : RdBok w' B b e r g l x :=
  ⟨h.ents.below hb, h.ruls.below hb, h.grts.below hb, h.evts.below hb, h.rlss.below hb⟩
/-- A book as one value. -/
abbrev vBok (b : Bok) (e r g l x : Value) : Value := .agg #[.int .i64 b.users, e, r, g, l, x, .int .i64 b.step]
theorem bok_ext {b c : Bok} : b = c ↔ b.users = c.users ∧ b.step = c.step ∧ b.entries = c.entries ∧ b.rules = c.rules ∧ b.grants = c.grants ∧ b.log = c.log ∧ b.releases = c.releases := by
  obtain ⟨a1, a2, a3, a4, a5, a6, a7⟩ := b
  obtain ⟨b1, b2, b3, b4, b5, b6, b7⟩ := c
  simp only [Bok.mk.injEq]
  constructor
  · rintro ⟨h1, h2, h3, h4, h5, h6, h7⟩; exact ⟨h1, h7, h2, h3, h4, h5, h6⟩
  · rintro ⟨h1, h7, h2, h3, h4, h5, h6⟩; exact ⟨h1, h2, h3, h4, h5, h6, h7⟩
theorem ret_bool {a b : Bool} (h : a = b) : Ending.returned (.bool a) = .returned (.bool b) := by rw [h]
theorem kit_equal_book (b c : Bok) (e r g l x e' r' g' l' x' : Value) (B : Nat) (w : World) (hB : B ≤ w.heap.size) (hb : RdBok w B b e r g l x) (hc : RdBok w B c e' r' g' l' x') :
    Calls Tryz.prog 33 #[vBok b e r g l x, vBok c e' r' g' l' x'] w fun e w' => e = .returned (.bool (decide (b = c))) ∧ Below w.heap.size w w' := by
  have HB := Lib.hid hb
  have HC := Lib.hid hc
  clear hb hc
  have H := Lib.hid (@bok_ext b c)
  by_cases q1 : b.users = c.users
  · have t1 : (b.users == c.users) = true := by simpa using q1
    by_cases q2 : b.step = c.step
    · have t2 : (b.step == c.step) = true := by simpa using q2
      have Q1 := Lib.hid q1
      have Q2 := Lib.hid q2
      clear q1 q2
      go_enter Tryz.func33, Tryz.ntmps33
      go_wp2_with fail
      refine (kit_equal_ent _ _ _ _ B B _ (HB.out.ents.below (Below.mono (B := w.heap.size) (by go_grown) hB)) (HC.out.ents.below (Below.mono (B := w.heap.size) (by go_grown) hB))).mono ?_
      rintro e w1 ⟨rfl, hs1⟩
      have hc1 := hs1.cell
      have hz1 : w1.heap.size = _ := congrArg Array.size hs1.heap
      have hB1 : Below w.heap.size w w1 := Below.trans (by go_grown) (hs1.below _)
      clear hz1
      by_cases p1 : b.entries = c.entries
      · rw [decide_eq_true p1]
        have P1 := Lib.hid p1
        clear p1
        go_wp2_with fail
        refine (kit_equal_rul _ _ _ _ B B _ (HB.out.ruls.below (Below.mono (B := w.heap.size) (by go_grown) hB)) (HC.out.ruls.below (Below.mono (B := w.heap.size) (by go_grown) hB))).mono ?_
        rintro e w2 ⟨rfl, hs2⟩
        have hc2 := hs2.cell
        have hz2 : w2.heap.size = _ := congrArg Array.size hs2.heap
        have hB2 : Below w.heap.size w w2 := Below.trans (by go_grown) (hs2.below _)
        clear hz2
        by_cases p2 : b.rules = c.rules
        · rw [decide_eq_true p2]
          have P2 := Lib.hid p2
          clear p2
          go_wp2_with fail
          refine (kit_equal_grt _ _ _ _ B B _ (HB.out.grts.below (Below.mono (B := w.heap.size) (by go_grown) hB)) (HC.out.grts.below (Below.mono (B := w.heap.size) (by go_grown) hB))).mono ?_
          rintro e w3 ⟨rfl, hs3⟩
          have hc3 := hs3.cell
          have hz3 : w3.heap.size = _ := congrArg Array.size hs3.heap
          have hB3 : Below w.heap.size w w3 := Below.trans (by go_grown) (hs3.below _)
          clear hz3
          by_cases p3 : b.grants = c.grants
          · rw [decide_eq_true p3]
            have P3 := Lib.hid p3
            clear p3
            go_wp2_with fail
            refine (kit_equal_evt _ _ _ _ B B _ (HB.out.evts.below (Below.mono (B := w.heap.size) (by go_grown) hB)) (HC.out.evts.below (Below.mono (B := w.heap.size) (by go_grown) hB))).mono ?_
            rintro e w4 ⟨rfl, hs4⟩
            have hc4 := hs4.cell
            have hz4 : w4.heap.size = _ := congrArg Array.size hs4.heap
            have hB4 : Below w.heap.size w w4 := Below.trans (by go_grown) (hs4.below _)
            clear hz4
            by_cases p4 : b.log = c.log
            · rw [decide_eq_true p4]
              have P4 := Lib.hid p4
              clear p4
              go_wp2_with fail
              refine (kit_equal_rls _ _ _ _ B B _ (HB.out.rlss.below (Below.mono (B := w.heap.size) (by go_grown) hB)) (HC.out.rlss.below (Below.mono (B := w.heap.size) (by go_grown) hB))).mono ?_
              rintro e w5 ⟨rfl, hs5⟩
              have hc5 := hs5.cell
              have hz5 : w5.heap.size = _ := congrArg Array.size hs5.heap
              have hB5 : Below w.heap.size w w5 := Below.trans (by go_grown) (hs5.below _)
              clear hz5
              by_cases p5 : b.releases = c.releases
              · rw [decide_eq_true p5]
                have P5 := Lib.hid p5
                clear p5
                go_wp2
                go_ret
                exact ⟨ret_bool (decide_eq_true (H.out.2 ⟨Q1.out, Q2.out, P1.out, P2.out, P3.out, P4.out, P5.out⟩)).symm, by go_grown⟩
              · rw [decide_eq_false p5]
                go_wp2
                go_ret
                exact ⟨ret_bool (decide_eq_false (fun h => p5 (H.out.1 h).2.2.2.2.2.2)).symm, by go_grown⟩
            · rw [decide_eq_false p4]
              go_wp2
              go_ret
              exact ⟨ret_bool (decide_eq_false (fun h => p4 (H.out.1 h).2.2.2.2.2.1)).symm, by go_grown⟩
          · rw [decide_eq_false p3]
            go_wp2
            go_ret
            exact ⟨ret_bool (decide_eq_false (fun h => p3 (H.out.1 h).2.2.2.2.1)).symm, by go_grown⟩
        · rw [decide_eq_false p2]
          go_wp2
          go_ret
          exact ⟨ret_bool (decide_eq_false (fun h => p2 (H.out.1 h).2.2.2.1)).symm, by go_grown⟩
      · rw [decide_eq_false p1]
        go_wp2
        go_ret
        exact ⟨ret_bool (decide_eq_false (fun h => p1 (H.out.1 h).2.2.1)).symm, by go_grown⟩
    · have t2 : (b.step == c.step) = false := by simpa using q2
      have hd : Hid (decide (b = c) = false) := decide_eq_false (fun h => q2 (H.out.1 h).2.1)
      clear q1 q2
      go_enter Tryz.func33, Tryz.ntmps33
      go_wp2
      go_ret
      exact ⟨ret_bool hd.out.symm, by go_grown⟩
  · have t1 : (b.users == c.users) = false := by simpa using q1
    have hd : Hid (decide (b = c) = false) := decide_eq_false (fun h => q1 (H.out.1 h).1)
    clear q1
    go_enter Tryz.func33, Tryz.ntmps33
    go_wp2
    go_ret
    exact ⟨ret_bool hd.out.symm, by go_grown⟩
/-- A script as one value. -/
abbrev vScp (s : Scp) (e r g l x o : Value) : Value := .agg #[.int .i64 s.book.users, e, r, g, l, x, .int .i64 s.book.step, o]
structure RdScp (w : World) (B : Nat) (s : Scp) (e r g l x o : Value) : Prop where
  book : RdBok w B s.book e r g l x
  ops : Sls cOpr w B o s.ops
theorem RdScp.below {w w' : World} {B : Nat} {s : Scp} {e r g l x o : Value} (h : RdScp w B s e r g l x o) (hb : Below B w w') : RdScp w' B s e r g l x o := ⟨h.book.below hb, h.ops.below hb⟩
theorem scp_ext {b c : Scp} : b = c ↔ b.book = c.book ∧ b.ops = c.ops := by
  obtain ⟨b1, b2⟩ := b
  obtain ⟨c1, c2⟩ := c
  simp only [Scp.mk.injEq]
theorem kit_equal_script (b c : Scp) (e r g l x o e' r' g' l' x' o' : Value) (B : Nat) (w : World) (hB : B ≤ w.heap.size) (hb : RdScp w B b e r g l x o) (hc : RdScp w B c e' r' g' l' x' o') :
    Calls Tryz.prog 16 #[vScp b e r g l x o, vScp c e' r' g' l' x' o'] w fun e w' => e = .returned (.bool (decide (b = c))) ∧ Below w.heap.size w w' := by
  have HB := Lib.hid hb
  have HC := Lib.hid hc
  clear hb hc
  have H := Lib.hid (@scp_ext b c)
  go_enter Tryz.func16, Tryz.ntmps16
  go_wp2_with fail
  refine (kit_equal_book b.book c.book e r g l x e' r' g' l' x' B _ (by simp; omega) (HB.out.book.below (Below.mono (B := w.heap.size) (by go_grown) hB)) (HC.out.book.below (Below.mono (B := w.heap.size) (by go_grown) hB))).mono ?_
  rintro e w1 ⟨rfl, hb1⟩
  have hz1 := hb1.size
  try simp at hz1
  have hB1 : Below w.heap.size w w1 := Below.next (by go_grown) hb1 (by first | (simp; done) | (simp; omega) | omega)
  have hc1_0 : ∀ o, w1.cell? ⟨w.heap.size, o, none⟩ = _ := fun o => hb1.cell (p := ⟨w.heap.size, o, none⟩) (by first | (simp; done) | (simp; omega) | omega)
  have hl1_0 : w.heap.size < w1.heap.size := by omega
  have hm1_0 : w.heap.size ≤ w1.heap.size := by omega
  have hn1_0 : w.heap.size ≤ w1.heap.size + 1 := by omega
  have ho1_0 : w.heap.size ≤ w1.heap.size + 1 + 1 := by omega
  have hf1_0 : ∀ o, w1.frozen? ⟨w.heap.size, o, none⟩ = _ := fun o => hb1.frozen (p := ⟨w.heap.size, o, none⟩) (by first | (simp; done) | (simp; omega) | omega)
  have hc1_1 : ∀ o, w1.cell? ⟨w.heap.size + 1, o, none⟩ = _ := fun o => hb1.cell (p := ⟨w.heap.size + 1, o, none⟩) (by first | (simp; done) | (simp; omega) | omega)
  have hl1_1 : w.heap.size + 1 < w1.heap.size := by omega
  have hm1_1 : w.heap.size + 1 ≤ w1.heap.size := by omega
  have hn1_1 : w.heap.size + 1 ≤ w1.heap.size + 1 := by omega
  have ho1_1 : w.heap.size + 1 ≤ w1.heap.size + 1 + 1 := by omega
  have hf1_1 : ∀ o, w1.frozen? ⟨w.heap.size + 1, o, none⟩ = _ := fun o => hb1.frozen (p := ⟨w.heap.size + 1, o, none⟩) (by first | (simp; done) | (simp; omega) | omega)
  by_cases p1 : b.book = c.book
  · rw [decide_eq_true p1]
    have P1 := Lib.hid p1
    clear p1
    go_wp2_with fail
    refine (kit_equal_opr _ _ _ _ B B _ (HB.out.ops.below (Below.mono (B := w.heap.size) (by go_grown) hB)) (HC.out.ops.below (Below.mono (B := w.heap.size) (by go_grown) hB))).mono ?_
    rintro e w2 ⟨rfl, hs2⟩
    have hc2 := hs2.cell
    have hz2 : w2.heap.size = _ := congrArg Array.size hs2.heap
    have hB2 : Below w.heap.size w w2 := Below.trans (by go_grown) (hs2.below _)
    clear hz2
    by_cases p2 : b.ops = c.ops
    · rw [decide_eq_true p2]
      go_wp2
      go_ret
      exact ⟨ret_bool (decide_eq_true (H.out.2 ⟨P1.out, p2⟩)).symm, by go_grown⟩
    · rw [decide_eq_false p2]
      go_wp2
      go_ret
      exact ⟨ret_bool (decide_eq_false (fun h => p2 (H.out.1 h).2)).symm, by go_grown⟩
  · rw [decide_eq_false p1]
    go_wp2
    go_ret
    exact ⟨ret_bool (decide_eq_false (fun h => p1 (H.out.1 h).1)).symm, by go_grown⟩
/-- A slice that reads as a list, in memory that is newer than base. -/
def SlsN {α : Type} (c : α → List Value) (base : Nat) (w : World) (v : Value) (l : List α) : Prop := Sls c w w.heap.size v l ∧ ∀ q, v.ownBlock = some q → base ≤ q
theorem SlsN.below {α : Type} {c : α → List Value} {base : Nat} {w w' : World} {v : Value} {l : List α} (h : SlsN c base w v l) (hb : Below w.heap.size w w') : SlsN c base w' v l := ⟨(h.1.below hb).more hb.size, h.2⟩
theorem SlsN.older {α : Type} {c : α → List Value} {base base' : Nat} {w : World} {v : Value} {l : List α} (h : SlsN c base w v l) (hb : base' ≤ base) : SlsN c base' w v l := ⟨h.1, fun q hq => by have := h.2 q hq; omega⟩
theorem SlsN.set {α : Type} {c : α → List Value} {base : Nat} {w : World} {v : Value} {l : List α} (h : SlsN c base w v l) {p : Addr} (hp : p.block < base) (u : Value) : SlsN c base (w.setCell p u) v l := by
  refine ⟨?_, h.2⟩
  obtain ⟨A, cap, rfl, h1, hm, h2⟩ := h.1
  refine ⟨A, cap, rfl, h1, hm, fun hn => ?_⟩
  obtain ⟨b, o, rfl, hlt, hr⟩ := h2 hn
  refine ⟨b, o, rfl, by simpa [World.setCell] using hlt, fun j t ht => ?_⟩
  have hq := h.2 b rfl
  rw [World.cell?_setCell_other w p _ u (fun e => by subst e; simp at hp; omega)]
  exact hr j t ht
/-- append onto nil: a copy. -/
theorem run_copy {P : Program} {α : Type} (w : World) (c : α → List Value) (t ty e : TypeId) (i : TypeInfo) (z : Value) (size bytes : Nat) (ht : P.underlying t = some (.slice e)) (hi : P.info? e = some i) (hz : i.zero = some z)
    (hsize : i.size = size) (hby : i.bytes = bytes) (hzs : z.cells.size = size) (hsz : 0 < size) (B : Nat) (v : Value) (l : List α) (hl : Sls c w B v l)
    (hk : ∀ x, (c x).length = size) (h1 : ∀ x, ∀ u ∈ c x, u.oneCell' = true) (hbytes : l.length * bytes ≤ 140737488355328) :
    ∃ v' w', (Builtin.append_ #[t, t] ty #[.slice none 0 0, v]).run P w = .ok v' w' ∧ SlsN c w.heap.size w' v' l ∧ Below w.heap.size w w' := by
  obtain ⟨A, cap, rfl, hc, hm, hr⟩ := hl
  rcases A with _ | ad
  · have h0 : l.length = 0 := by
      rcases Nat.eq_zero_or_pos l.length with h0 | h0
      · exact h0
      · obtain ⟨b, o, h, _⟩ := hr h0
        cases h
    have hn : l = [] := List.eq_nil_of_length_eq_zero h0
    subst hn
    exact ⟨.slice none 0 0, w, by simp [Builtin.append_, run_underlying ht, sizeOf, typeInfo, hi, Builtin.lenOf, Builtin.firstCells], ⟨Sls.nil _ _ _ _ _, by simp [Value.ownBlock]⟩, Below.refl _ _⟩
  · have hown : w.ownsRow w.heap.size e size (.slice none 0 0) 0 [] := ⟨by simp, .inl ⟨rfl, rfl⟩⟩
    have hcells : ∀ j u, (l.flatMap c)[j]? = some u → w.cell? (ad.add j) = some u := by
      intro j u hu
      rcases Nat.eq_zero_or_pos l.length with h0 | h0
      · have hn : l = [] := List.eq_nil_of_length_eq_zero h0
        subst hn
        simp at hu
      · obtain ⟨b, o, h, _, hg⟩ := hr h0
        injection h with h
        subst h
        rw [Addr.add_mid]
        exact hg j u hu
    obtain ⟨v', w', hrun, h2, h3, h4, h5⟩ := run_append_own_at (P := P) w w.heap.size t ty e i z size bytes ht hi hz hsize hby hzs hsz (.slice none 0 0) 0 [] hown ad l.length cap (l.flatMap c) (flatMap_length c size hk l) hcells
      (by intro u hu; obtain ⟨x, _, hx⟩ := List.mem_flatMap.1 hu; exact h1 x u hx) (by omega) (by simpa using hbytes) (Nat.le_refl _)
    refine ⟨v', w', hrun, ⟨Sls.of_own (e := e) (size := size) (base := w.heap.size) (by simpa using h2) hm, fun q hq => by rcases h5 with h | h <;> rw [h] at hq <;> simp [Value.ownBlock] at hq; omega⟩, (Below.refl _ _).grown h3 (Nat.le_refl _) (by simp [Value.ownBlock])⟩
theorem wpList_copy {P : Program} {w : World} {α : Type} (c : α → List Value) {ops : Array Oper} {rest : List Oper} {o : Oper} {a : Act} {Q : Exit → Act → World → Prop} (hgd : o.guard = none) (s x : Operand) (t : TypeId)
    (ho : o.op = .call { callee := .builtin .append, args := #[s, x], argTypes := #[t, t] })
    (e : TypeId) (i : TypeInfo) (z : Value) (size bytes : Nat) (ht : P.underlying t = some (.slice e)) (hi : P.info? e = some i) (hz : i.zero = some z)
    (hsize : i.size = size) (hby : i.bytes = bytes) (hzs : z.cells.size = size) (hsz : 0 < size) (hs : a.eval s = .slice none 0 0) (B : Nat) (v : Value) (l : List α) (hx : a.eval x = v) (hl : Sls c w B v l)
    (hk : ∀ x, (c x).length = size) (h1 : ∀ x, ∀ u ∈ c x, u.oneCell' = true) (hbytes : l.length * bytes ≤ 140737488355328)
    (h : ∀ v' w', SlsN c w.heap.size w' v' l → Below w.heap.size w w' → wpList P ops Q rest (a.put o.dst v') w') : wpList P ops Q (o :: rest) a w := by
  obtain ⟨v', w', hrun, h2, h3⟩ := run_copy (P := P) w c t o.type e i z size bytes ht hi hz hsize hby hzs hsz B v l hl hk h1 hbytes
  refine wpList_plain hgd fun K hK => ?_
  unfold Oper.wp execOp
  simp only [ho, resolve, invoke, builtin, Sem.run_bind, Sem.run_pure, Result.andThen_ok, List.map_toArray, List.map_cons, List.map_nil, hs, hx, hrun]
  exact hK _ _ (h v' w' h2 h3)
theorem cEnt_one (x : Ent) : ∀ u ∈ cEnt x, u.oneCell' = true := by
  simp [cEnt, Value.oneCell']
theorem cRul_one (x : Rul) : ∀ u ∈ cRul x, u.oneCell' = true := by
  simp [cRul, Value.oneCell']
theorem cGrt_one (x : Grt) : ∀ u ∈ cGrt x, u.oneCell' = true := by
  simp [cGrt, Value.oneCell']
theorem cEvt_one (x : Evt) : ∀ u ∈ cEvt x, u.oneCell' = true := by
  simp [cEvt, Value.oneCell']
theorem cRls_one (x : Rls) : ∀ u ∈ cRls x, u.oneCell' = true := by
  simp [cRls, Value.oneCell']
theorem cOpr_one (x : Opr) : ∀ u ∈ cOpr x, u.oneCell' = true := by
  simp [cOpr, Value.oneCell']
section
variable {P : Program} {ops : Array Oper} {Q : Exit → Act → World → Prop} {md : Region.Mode} {S : World → Prop} {s : Nat}
/-- Whatever order is picked from here on; and S holds behind each operation till number s has come up. -/
def wpAnyU (P : Program) (md : Region.Mode) (ops : Array Oper) (Q : Exit → Act → World → Prop) (S : World → Prop) (s : Nat) : Nat → Array Bool → Act → World → Prop
  | 0, listed, a, w => Region.ready md ops listed = [] ∧ Q .normal a w
  | fuel + 1, listed, a, w =>
    (Region.ready md ops listed = [] → Q .normal a w) ∧
    ∀ i ∈ Region.ready md ops listed, wpOp P ops Q i (fun a' w' => ((listed.setIfInBounds i true).getD s true = false → S w') ∧ wpAnyU P md ops Q S s fuel (listed.setIfInBounds i true) a' w') a w
theorem wpAny_of_U : ∀ (fuel : Nat) (listed : Array Bool) (a : Act) (w : World), wpAnyU P md ops Q S s fuel listed a w → wpAny P md ops Q fuel listed a w
  | 0, _, _, _, h => h
  | fuel + 1, _, _, _, h => ⟨h.1, fun i hi => wpOp_mono (fun a' w' h' => wpAny_of_U fuel _ a' w' h'.2) (h.2 i hi)⟩
/-- Number s waits for number i. -/
def waitsFor (md : Region.Mode) (ops : Array Oper) (s i : Nat) : Bool := match ops[s]? with
  | some o => o.after.any fun e => Region.binds md e && e.on == i
  | none => false
theorem wpAnyU_first {i : Nat} {oi : Oper} {v : Value} (hi : ops[i]? = some oi) (hsel : ∀ (j : Nat) (o : Oper) cs b, ops[j]? = some o → o.op ≠ .select cs b)
    (hQ : ∀ c a w, Q (.panic c) (a.put oi.dst v) w → Q (.panic c) a w) (hw : waitsFor md ops s i = true) (hsi : i ≠ s) :
    ∀ (fuel : Nat) (listed : Array Bool) (a : Act) (w : World),
      (∀ j oj, ops[j]? = some oj → j ≠ i → listed.getD j true = false → (∀ e ∈ oj.after, Region.binds md e = true → e.on ≠ i) → oi.apart ops oj = true) →
      i ∈ Region.ready md ops listed → YieldsIf P ops S oi v a → S w → listed.getD s true = false →
      wpAnyU P md ops Q S s fuel (listed.setIfInBounds i true) (a.put oi.dst v) w → wpAnyU P md ops Q S s (fuel + 1) listed a w := by
  intro fuel
  induction fuel with
  | zero =>
    intro listed a w _ hr hy hS hl H
    refine ⟨fun h => (by rw [h] at hr; cases hr), fun j hj => ?_⟩
    by_cases hji : j = i
    · subst hji; exact hy.wpOp hi hS ⟨fun _ => hS, H⟩
    · have := ready_mono hj hji
      rw [H.1] at this
      cases this
  | succ fuel ih =>
    intro listed a w hfree hr hy hS hl H
    refine ⟨fun h => (by rw [h] at hr; cases hr), fun j hj => ?_⟩
    by_cases hji : j = i
    · subst hji; exact hy.wpOp hi hS ⟨fun _ => hS, H⟩
    · have h1 := H.2 j (ready_mono hj hji)
      obtain ⟨hjun, oj, hoj, hall⟩ := mem_ready.1 hj
      have hnot : ∀ e ∈ oj.after, Region.binds md e = true → e.on ≠ i := fun e he hb heq => by
        have h1 := hall e he hb
        have h0 := (mem_ready.1 hr).1
        rw [heq] at h1
        rcases Nat.lt_or_ge i listed.size with h' | h'
        · simp [h'] at h0 h1; rw [h0] at h1; cases h1
        · simp [Array.getElem?_eq_none h'] at h1
      have hjs : j ≠ s := by
        rintro rfl
        unfold waitsFor at hw
        rw [hoj] at hw
        simp only [Array.any_eq_true, Bool.and_eq_true, beq_iff_eq] at hw
        obtain ⟨x, hx, hb, ho⟩ := hw
        exact hnot _ (Array.getElem_mem hx) hb ho
      have hl' : ((listed.setIfInBounds i true).setIfInBounds j true).getD s true = false := by
        rw [getD_set_ne true hjs, getD_set_ne true hsi]; exact hl
      have h2 := wpOp_putIf hoj (hfree j oj hoj hji hjun hnot) (fun cs b => hsel i oi cs b hi) (fun cs b => hsel j oj cs b hoj) hQ hy h1
      have hfree' : ∀ k ok, ops[k]? = some ok → k ≠ i → (listed.setIfInBounds j true).getD k true = false →
          (∀ e ∈ ok.after, Region.binds md e = true → e.on ≠ i) → oi.apart ops ok = true := fun k ok hk hki hun hno => by
        refine hfree k ok hk hki ?_ hno
        by_cases hjk : j = k
        · subst hjk; exact hjun
        · rw [getD_set_ne true hjk] at hun; exact hun
      refine wpOp_mono (fun a' w' h3 => ⟨fun _ => h3.2.1 hl', ih (listed.setIfInBounds j true) a' w' hfree' (ready_mono hr (Ne.symm hji)) h3.1 (h3.2.1 hl') (by rw [getD_set_ne true hjs]; exact hl) ?_⟩) h2
      rw [Array.setIfInBounds_comm _ _ hji]
      exact h3.2.2
/-- .. and so may one that yields its value in whatever world. -/
theorem wpAnyU_first0 {i : Nat} {oi : Oper} {v : Value} (hi : ops[i]? = some oi) (hsel : ∀ (j : Nat) (o : Oper) cs b, ops[j]? = some o → o.op ≠ .select cs b)
    (hQ : ∀ c a w, Q (.panic c) (a.put oi.dst v) w → Q (.panic c) a w) (hsi : i ≠ s) :
    ∀ (fuel : Nat) (listed : Array Bool) (a : Act) (w : World),
      (∀ j oj, ops[j]? = some oj → j ≠ i → listed.getD j true = false → (∀ e ∈ oj.after, Region.binds md e = true → e.on ≠ i) → oi.apart ops oj = true) →
      i ∈ Region.ready md ops listed → YieldsIf P ops (fun _ => True) oi v a → (listed.getD s true = false → S w) →
      wpAnyU P md ops Q S s fuel (listed.setIfInBounds i true) (a.put oi.dst v) w → wpAnyU P md ops Q S s (fuel + 1) listed a w := by
  intro fuel
  induction fuel with
  | zero =>
    intro listed a w _ hr hy hS H
    refine ⟨fun h => (by rw [h] at hr; cases hr), fun j hj => ?_⟩
    by_cases hji : j = i
    · subst hji; exact hy.wpOp hi trivial ⟨fun h => hS (by rwa [getD_set_ne true hsi] at h), H⟩
    · have := ready_mono hj hji
      rw [H.1] at this
      cases this
  | succ fuel ih =>
    intro listed a w hfree hr hy hS H
    refine ⟨fun h => (by rw [h] at hr; cases hr), fun j hj => ?_⟩
    by_cases hji : j = i
    · subst hji; exact hy.wpOp hi trivial ⟨fun h => hS (by rwa [getD_set_ne true hsi] at h), H⟩
    · have h1 := H.2 j (ready_mono hj hji)
      obtain ⟨hjun, oj, hoj, hall⟩ := mem_ready.1 hj
      have hnot : ∀ e ∈ oj.after, Region.binds md e = true → e.on ≠ i := fun e he hb heq => by
        have h1 := hall e he hb
        have h0 := (mem_ready.1 hr).1
        rw [heq] at h1
        rcases Nat.lt_or_ge i listed.size with h' | h'
        · simp [h'] at h0 h1; rw [h0] at h1; cases h1
        · simp [Array.getElem?_eq_none h'] at h1
      have h2 := wpOp_putIf hoj (hfree j oj hoj hji hjun hnot) (fun cs b => hsel i oi cs b hi) (fun cs b => hsel j oj cs b hoj) hQ hy h1
      have hfree' : ∀ k ok, ops[k]? = some ok → k ≠ i → (listed.setIfInBounds j true).getD k true = false →
          (∀ e ∈ ok.after, Region.binds md e = true → e.on ≠ i) → oi.apart ops ok = true := fun k ok hk hki hun hno => by
        refine hfree k ok hk hki ?_ hno
        by_cases hjk : j = k
        · subst hjk; exact hjun
        · rw [getD_set_ne true hjk] at hun; exact hun
      have hS' : ∀ w', (((listed.setIfInBounds i true).setIfInBounds j true).getD s true = false → S w') → (listed.setIfInBounds j true).getD s true = false → S w' := fun w' h hl => by
        refine h ?_
        rw [Array.setIfInBounds_comm _ _ (Ne.symm hji), getD_set_ne true hsi]
        exact hl
      refine wpOp_mono (fun a' w' h3 => ⟨hS' w' h3.2.1, ih (listed.setIfInBounds j true) a' w' hfree' (ready_mono hr (Ne.symm hji)) h3.1 (hS' w' h3.2.1) ?_⟩) h2
      rw [Array.setIfInBounds_comm _ _ hji]
      exact h3.2.2
/-! ### The moves -/
/-- Number i is taken first: it yields v in whatever world. -/
theorem wpAnyU_take0 (i : Nat) {oi : Oper} {v : Value} {fuel : Nat} {listed : Array Bool} {a : Act} {w : World} (hi : ops[i]? = some oi)
    (hs : Region.noSelect ops = true) (hf : Region.free md ops listed i = true) (hr : (Region.ready md ops listed).contains i = true) (hsi : i ≠ s)
    (hQ : ∀ c a w, Q (.panic c) (a.put oi.dst v) w → Q (.panic c) a w) (hy : YieldsIf P ops (fun _ => True) oi v a) (hS : listed.getD s true = false → S w)
    (h : wpAnyU P md ops Q S s fuel (listed.setIfInBounds i true) (a.put oi.dst v) w) : wpAnyU P md ops Q S s (fuel + 1) listed a w :=
  wpAnyU_first0 hi (Region.noSelect_spec hs) hQ hsi fuel listed a w (Region.free_spec hi hf) (by simpa using hr) hy hS h
/-- Number i is taken first: it yields v in each world that meets S, and s waits for it. -/
theorem wpAnyU_take (i : Nat) {oi : Oper} {v : Value} {fuel : Nat} {listed : Array Bool} {a : Act} {w : World} (hi : ops[i]? = some oi)
    (hs : Region.noSelect ops = true) (hf : Region.free md ops listed i = true) (hr : (Region.ready md ops listed).contains i = true)
    (hw : waitsFor md ops s i = true) (hsi : i ≠ s) (hl : listed.getD s true = false)
    (hQ : ∀ c a w, Q (.panic c) (a.put oi.dst v) w → Q (.panic c) a w) (hy : YieldsIf P ops S oi v a) (hS : S w)
    (h : wpAnyU P md ops Q S s fuel (listed.setIfInBounds i true) (a.put oi.dst v) w) : wpAnyU P md ops Q S s (fuel + 1) listed a w :=
  wpAnyU_first hi (Region.noSelect_spec hs) hQ hw hsi fuel listed a w (Region.free_spec hi hf) (by simpa using hr) hy hS hl h
theorem wpOp_of {i : Nat} {o : Oper} {a : Act} {w : World} {K : Act → World → Prop} (ho : ops[i]? = some o) (hg : o.guard = none) (h : o.wp P a w K Q) : wpOp P ops Q i K a w := by
  unfold wpOp
  simp only [ho, Region.wanted, hg, if_true]
  exact .inl h
/-- One operation can come up. -/
theorem wpAnyU_one (i : Nat) {o : Oper} {fuel : Nat} {listed : Array Bool} {a : Act} {w : World} (hr : Region.ready md ops listed = [i]) (ho : ops[i]? = some o) (hg : o.guard = none)
    (h : o.wp P a w (fun a' w' => ((listed.setIfInBounds i true).getD s true = false → S w') ∧ wpAnyU P md ops Q S s fuel (listed.setIfInBounds i true) a' w') Q) : wpAnyU P md ops Q S s (fuel + 1) listed a w := by
  refine ⟨fun h0 => (by rw [hr] at h0; cases h0), fun j hj => ?_⟩
  rw [hr] at hj
  have e : j = i := by simpa using hj
  subst e
  exact wpOp_of ho hg h
theorem wpAnyU_done {fuel : Nat} {listed : Array Bool} {a : Act} {w : World} (hr : Region.ready md ops listed = []) (h : Q .normal a w) : wpAnyU P md ops Q S s fuel listed a w := by
  cases fuel with
  | zero => exact ⟨hr, h⟩
  | succ n => exact ⟨fun _ => h, by rw [hr]; simp⟩
theorem wp_region_U {id : Nat} {a : Act} {w : World} (S : World → Prop) (s : Nat) (hm : P.follows .mixedOrders = true)
    (h : wpAnyU P .any ops Q S s ops.size (Array.replicate ops.size false) a w.drew) : (Code.region id ops true).wp P Q a w :=
  wp_region_any hm (wpAny_of_U _ _ _ _ h)
end
end Go.Proofs.YtamcgggmfghljaaGreatDoor
