/- Books and scripts as values; equal or not. · Scripts as values; equal or not. · Copies of lists. · A region that draws its order, loads its operands, and then stores into the very cells that it has loaded: 'a.x, a.y = f(a.x), g(a.y)'. What is loaded is asked only till the store number s has come up. -/
import Derived.Maps.AppendAt
import Derived.OwnWalk
import Derived.OrdersHeld
import Derived.Test.YtamcgggmfghljaaGreatDoorR3
import Derived.Test.YtamcgggmfghljaaGreatDoorR4
import Derived.Test.YtamcgggmfghljaaGreatDoorR5
import Derived.Test.YtamcgggmfghljaaGreatDoorR2
namespace Go.Proofs.YtamcgggmfghljaaGreatDoor
open Go.RowKit

/-- A book's five lists, in memory below block B. -/
structure RdBok (w : World) (B : Nat) (b : Bok) (e r g l x : Value) : Prop where
  ents : Sls cEnt w B e b.entries
  ruls : Sls cRul w B r b.rules
  grts : Sls cGrt w B g b.grants
  evts : Sls cEvt w B l b.log
  rlss : Sls cRls w B x b.releases
theorem RdBok.below {w w' : World} {B : Nat} {b : Bok} {e r g l x : Value} (h : RdBok w B b e r g l x) (hb : Below B w w') : RdBok w' B b e r g l x :=
  ⟨h.ents.below hb, h.ruls.below hb, h.grts.below hb, h.evts.below hb, h.rlss.below hb⟩
/-- A book as one value. -/
abbrev vBok (b : Bok) (e r g l x : Value) : Value := .agg #[.int .i64 b.users, e, r, g, l, x, .int .i64 b.step]

theorem bok_ext {b c : Bok} : b = c ↔ b.users = c.users ∧ b.step = c.step ∧ b.entries = c.entries ∧ b.rules = c.rules ∧ b.grants = c.grants ∧ b.log = c.log ∧ b.releases = c.releases := by
  obtain ⟨a1, a2, a3, a4, a5, a6, a7⟩ := b
  obtain ⟨b1, b2, b3, b4, b5, b6, b7⟩ := c
  simp only [Bok.mk.injEq]
  constructor
  · rintro ⟨h1, h2, h3, h4, h5, h6, h7⟩; exact ⟨h1, h7, h2, h3, h4, h5, h6⟩
  · rintro ⟨h1, h7, h2, h3, h4, h5, h6⟩; exact ⟨h1, h2, h3, h4, h5, h6, h7⟩

theorem ret_bool {a b : Bool} (h : a = b) : Ending.returned (.bool a) = .returned (.bool b) := by rw [h]

set_option maxRecDepth 100000 in
set_option maxHeartbeats 4000000 in
theorem kit_equal_book (b c : Bok) (e r g l x e' r' g' l' x' : Value) (B : Nat) (w : World) (hB : B ≤ w.heap.size) (hb : RdBok w B b e r g l x) (hc : RdBok w B c e' r' g' l' x') :
    Calls Tryz.prog 33 #[vBok b e r g l x, vBok c e' r' g' l' x'] w fun e w' => e = .returned (.bool (decide (b = c))) ∧ Below w.heap.size w w' := by
  have HB := Lib.hid hb
  have HC := Lib.hid hc
  clear hb hc
  have H := Lib.hid (@bok_ext b c)
  by_cases q1 : b.users = c.users
  · have t1 : (b.users == c.users) = true := by simpa using q1
    by_cases q2 : b.step = c.step
    · have t2 : (b.step == c.step) = true := by simpa using q2
      have Q1 := Lib.hid q1
      have Q2 := Lib.hid q2
      clear q1 q2
      go_enter Tryz.func33, Tryz.ntmps33
      go_wp2_with fail
      refine (kit_equal_ent _ _ _ _ B B _ (HB.out.ents.below (Below.mono (B := w.heap.size) (by go_grown) hB)) (HC.out.ents.below (Below.mono (B := w.heap.size) (by go_grown) hB))).mono ?_
      rintro e w1 ⟨rfl, hs1⟩
      have hc1 := hs1.cell
      have hz1 : w1.heap.size = _ := congrArg Array.size hs1.heap
      have hB1 : Below w.heap.size w w1 := Below.trans (by go_grown) (hs1.below _)
      clear hz1
      by_cases p1 : b.entries = c.entries
      · rw [decide_eq_true p1]
        have P1 := Lib.hid p1
        clear p1
        go_wp2_with fail
        refine (kit_equal_rul _ _ _ _ B B _ (HB.out.ruls.below (Below.mono (B := w.heap.size) (by go_grown) hB)) (HC.out.ruls.below (Below.mono (B := w.heap.size) (by go_grown) hB))).mono ?_
        rintro e w2 ⟨rfl, hs2⟩
        have hc2 := hs2.cell
        have hz2 : w2.heap.size = _ := congrArg Array.size hs2.heap
        have hB2 : Below w.heap.size w w2 := Below.trans (by go_grown) (hs2.below _)
        clear hz2
        by_cases p2 : b.rules = c.rules
        · rw [decide_eq_true p2]
          have P2 := Lib.hid p2
          clear p2
          go_wp2_with fail
          refine (kit_equal_grt _ _ _ _ B B _ (HB.out.grts.below (Below.mono (B := w.heap.size) (by go_grown) hB)) (HC.out.grts.below (Below.mono (B := w.heap.size) (by go_grown) hB))).mono ?_
          rintro e w3 ⟨rfl, hs3⟩
          have hc3 := hs3.cell
          have hz3 : w3.heap.size = _ := congrArg Array.size hs3.heap
          have hB3 : Below w.heap.size w w3 := Below.trans (by go_grown) (hs3.below _)
          clear hz3
          by_cases p3 : b.grants = c.grants
          · rw [decide_eq_true p3]
            have P3 := Lib.hid p3
            clear p3
            go_wp2_with fail
            refine (kit_equal_evt _ _ _ _ B B _ (HB.out.evts.below (Below.mono (B := w.heap.size) (by go_grown) hB)) (HC.out.evts.below (Below.mono (B := w.heap.size) (by go_grown) hB))).mono ?_
            rintro e w4 ⟨rfl, hs4⟩
            have hc4 := hs4.cell
            have hz4 : w4.heap.size = _ := congrArg Array.size hs4.heap
            have hB4 : Below w.heap.size w w4 := Below.trans (by go_grown) (hs4.below _)
            clear hz4
            by_cases p4 : b.log = c.log
            · rw [decide_eq_true p4]
              have P4 := Lib.hid p4
              clear p4
              go_wp2_with fail
              refine (kit_equal_rls _ _ _ _ B B _ (HB.out.rlss.below (Below.mono (B := w.heap.size) (by go_grown) hB)) (HC.out.rlss.below (Below.mono (B := w.heap.size) (by go_grown) hB))).mono ?_
              rintro e w5 ⟨rfl, hs5⟩
              have hc5 := hs5.cell
              have hz5 : w5.heap.size = _ := congrArg Array.size hs5.heap
              have hB5 : Below w.heap.size w w5 := Below.trans (by go_grown) (hs5.below _)
              clear hz5
              by_cases p5 : b.releases = c.releases
              · rw [decide_eq_true p5]
                have P5 := Lib.hid p5
                clear p5
                go_wp2
                go_ret
                exact ⟨ret_bool (decide_eq_true (H.out.2 ⟨Q1.out, Q2.out, P1.out, P2.out, P3.out, P4.out, P5.out⟩)).symm, by go_grown⟩
              · rw [decide_eq_false p5]
                go_wp2
                go_ret
                exact ⟨ret_bool (decide_eq_false (fun h => p5 (H.out.1 h).2.2.2.2.2.2)).symm, by go_grown⟩
            · rw [decide_eq_false p4]
              go_wp2
              go_ret
              exact ⟨ret_bool (decide_eq_false (fun h => p4 (H.out.1 h).2.2.2.2.2.1)).symm, by go_grown⟩
          · rw [decide_eq_false p3]
            go_wp2
            go_ret
            exact ⟨ret_bool (decide_eq_false (fun h => p3 (H.out.1 h).2.2.2.2.1)).symm, by go_grown⟩
        · rw [decide_eq_false p2]
          go_wp2
          go_ret
          exact ⟨ret_bool (decide_eq_false (fun h => p2 (H.out.1 h).2.2.2.1)).symm, by go_grown⟩
      · rw [decide_eq_false p1]
        go_wp2
        go_ret
        exact ⟨ret_bool (decide_eq_false (fun h => p1 (H.out.1 h).2.2.1)).symm, by go_grown⟩
    · have t2 : (b.step == c.step) = false := by simpa using q2
      have hd : Hid (decide (b = c) = false) := decide_eq_false (fun h => q2 (H.out.1 h).2.1)
      clear q1 q2
      go_enter Tryz.func33, Tryz.ntmps33
      go_wp2
      go_ret
      exact ⟨ret_bool hd.out.symm, by go_grown⟩
  · have t1 : (b.users == c.users) = false := by simpa using q1
    have hd : Hid (decide (b = c) = false) := decide_eq_false (fun h => q1 (H.out.1 h).1)
    clear q1
    go_enter Tryz.func33, Tryz.ntmps33
    go_wp2
    go_ret
    exact ⟨ret_bool hd.out.symm, by go_grown⟩

set_option maxRecDepth 100000 in
set_option maxHeartbeats 4000000 in
theorem book_equal (b c : Bok) (e r g l x e' r' g' l' x' : Value) (B : Nat) (w : World) (hB : B ≤ w.heap.size) (hb : RdBok w B b e r g l x) (hc : RdBok w B c e' r' g' l' x') :
    Calls Tryz.prog 53 #[vBok b e r g l x, vBok c e' r' g' l' x'] w fun e w' => e = .returned (.bool (decide (b = c))) ∧ Below w.heap.size w w' := by
  have HB := Lib.hid hb
  have HC := Lib.hid hc
  clear hb hc
  have H := Lib.hid (@bok_ext b c)
  by_cases q1 : b.users = c.users
  · have t1 : (b.users == c.users) = true := by simpa using q1
    by_cases q2 : b.step = c.step
    · have t2 : (b.step == c.step) = true := by simpa using q2
      have Q1 := Lib.hid q1
      have Q2 := Lib.hid q2
      clear q1 q2
      go_enter Tryz.func53, Tryz.ntmps53
      go_wp2_with fail
      refine (sl_equal_ent _ _ _ _ B B _ (HB.out.ents.below (Below.mono (B := w.heap.size) (by go_grown) hB)) (HC.out.ents.below (Below.mono (B := w.heap.size) (by go_grown) hB))).mono ?_
      rintro e w1 ⟨rfl, hs1⟩
      have hc1 := hs1.cell
      have hz1 : w1.heap.size = _ := congrArg Array.size hs1.heap
      have hB1 : Below w.heap.size w w1 := Below.trans (by go_grown) (hs1.below _)
      clear hz1
      by_cases p1 : b.entries = c.entries
      · rw [decide_eq_true p1]
        have P1 := Lib.hid p1
        clear p1
        go_wp2_with fail
        refine (sl_equal_rul _ _ _ _ B B _ (HB.out.ruls.below (Below.mono (B := w.heap.size) (by go_grown) hB)) (HC.out.ruls.below (Below.mono (B := w.heap.size) (by go_grown) hB))).mono ?_
        rintro e w2 ⟨rfl, hs2⟩
        have hc2 := hs2.cell
        have hz2 : w2.heap.size = _ := congrArg Array.size hs2.heap
        have hB2 : Below w.heap.size w w2 := Below.trans (by go_grown) (hs2.below _)
        clear hz2
        by_cases p2 : b.rules = c.rules
        · rw [decide_eq_true p2]
          have P2 := Lib.hid p2
          clear p2
          go_wp2_with fail
          refine (sl_equal_grt _ _ _ _ B B _ (HB.out.grts.below (Below.mono (B := w.heap.size) (by go_grown) hB)) (HC.out.grts.below (Below.mono (B := w.heap.size) (by go_grown) hB))).mono ?_
          rintro e w3 ⟨rfl, hs3⟩
          have hc3 := hs3.cell
          have hz3 : w3.heap.size = _ := congrArg Array.size hs3.heap
          have hB3 : Below w.heap.size w w3 := Below.trans (by go_grown) (hs3.below _)
          clear hz3
          by_cases p3 : b.grants = c.grants
          · rw [decide_eq_true p3]
            have P3 := Lib.hid p3
            clear p3
            go_wp2_with fail
            refine (sl_equal_evt _ _ _ _ B B _ (HB.out.evts.below (Below.mono (B := w.heap.size) (by go_grown) hB)) (HC.out.evts.below (Below.mono (B := w.heap.size) (by go_grown) hB))).mono ?_
            rintro e w4 ⟨rfl, hs4⟩
            have hc4 := hs4.cell
            have hz4 : w4.heap.size = _ := congrArg Array.size hs4.heap
            have hB4 : Below w.heap.size w w4 := Below.trans (by go_grown) (hs4.below _)
            clear hz4
            by_cases p4 : b.log = c.log
            · rw [decide_eq_true p4]
              have P4 := Lib.hid p4
              clear p4
              go_wp2_with fail
              refine (sl_equal_rls _ _ _ _ B B _ (HB.out.rlss.below (Below.mono (B := w.heap.size) (by go_grown) hB)) (HC.out.rlss.below (Below.mono (B := w.heap.size) (by go_grown) hB))).mono ?_
              rintro e w5 ⟨rfl, hs5⟩
              have hc5 := hs5.cell
              have hz5 : w5.heap.size = _ := congrArg Array.size hs5.heap
              have hB5 : Below w.heap.size w w5 := Below.trans (by go_grown) (hs5.below _)
              clear hz5
              by_cases p5 : b.releases = c.releases
              · rw [decide_eq_true p5]
                have P5 := Lib.hid p5
                clear p5
                go_wp2
                go_ret
                exact ⟨ret_bool (decide_eq_true (H.out.2 ⟨Q1.out, Q2.out, P1.out, P2.out, P3.out, P4.out, P5.out⟩)).symm, by go_grown⟩
              · rw [decide_eq_false p5]
                go_wp2
                go_ret
                exact ⟨ret_bool (decide_eq_false (fun h => p5 (H.out.1 h).2.2.2.2.2.2)).symm, by go_grown⟩
            · rw [decide_eq_false p4]
              go_wp2
              go_ret
              exact ⟨ret_bool (decide_eq_false (fun h => p4 (H.out.1 h).2.2.2.2.2.1)).symm, by go_grown⟩
          · rw [decide_eq_false p3]
            go_wp2
            go_ret
            exact ⟨ret_bool (decide_eq_false (fun h => p3 (H.out.1 h).2.2.2.2.1)).symm, by go_grown⟩
        · rw [decide_eq_false p2]
          go_wp2
          go_ret
          exact ⟨ret_bool (decide_eq_false (fun h => p2 (H.out.1 h).2.2.2.1)).symm, by go_grown⟩
      · rw [decide_eq_false p1]
        go_wp2
        go_ret
        exact ⟨ret_bool (decide_eq_false (fun h => p1 (H.out.1 h).2.2.1)).symm, by go_grown⟩
    · have t2 : (b.step == c.step) = false := by simpa using q2
      have hd : Hid (decide (b = c) = false) := decide_eq_false (fun h => q2 (H.out.1 h).2.1)
      clear q1 q2
      go_enter Tryz.func53, Tryz.ntmps53
      go_wp2
      go_ret
      exact ⟨ret_bool hd.out.symm, by go_grown⟩
  · have t1 : (b.users == c.users) = false := by simpa using q1
    have hd : Hid (decide (b = c) = false) := decide_eq_false (fun h => q1 (H.out.1 h).1)
    clear q1
    go_enter Tryz.func53, Tryz.ntmps53
    go_wp2
    go_ret
    exact ⟨ret_bool hd.out.symm, by go_grown⟩

end Go.Proofs.YtamcgggmfghljaaGreatDoor

namespace Go.Proofs.YtamcgggmfghljaaGreatDoor
open Go.RowKit

/-- A script as one value. -/
abbrev vScp (s : Scp) (e r g l x o : Value) : Value := .agg #[.int .i64 s.book.users, e, r, g, l, x, .int .i64 s.book.step, o]
structure RdScp (w : World) (B : Nat) (s : Scp) (e r g l x o : Value) : Prop where
  book : RdBok w B s.book e r g l x
  ops : Sls cOpr w B o s.ops
theorem RdScp.below {w w' : World} {B : Nat} {s : Scp} {e r g l x o : Value} (h : RdScp w B s e r g l x o) (hb : Below B w w') : RdScp w' B s e r g l x o := ⟨h.book.below hb, h.ops.below hb⟩
theorem scp_ext {b c : Scp} : b = c ↔ b.book = c.book ∧ b.ops = c.ops := by
  obtain ⟨b1, b2⟩ := b
  obtain ⟨c1, c2⟩ := c
  simp only [Scp.mk.injEq]

set_option maxRecDepth 100000 in
set_option maxHeartbeats 4000000 in
theorem kit_equal_script (b c : Scp) (e r g l x o e' r' g' l' x' o' : Value) (B : Nat) (w : World) (hB : B ≤ w.heap.size) (hb : RdScp w B b e r g l x o) (hc : RdScp w B c e' r' g' l' x' o') :
    Calls Tryz.prog 16 #[vScp b e r g l x o, vScp c e' r' g' l' x' o'] w fun e w' => e = .returned (.bool (decide (b = c))) ∧ Below w.heap.size w w' := by
  have HB := Lib.hid hb
  have HC := Lib.hid hc
  clear hb hc
  have H := Lib.hid (@scp_ext b c)
  go_enter Tryz.func16, Tryz.ntmps16
  go_wp2_with fail
  refine (kit_equal_book b.book c.book e r g l x e' r' g' l' x' B _ (by simp; omega) (HB.out.book.below (Below.mono (B := w.heap.size) (by go_grown) hB)) (HC.out.book.below (Below.mono (B := w.heap.size) (by go_grown) hB))).mono ?_
  rintro e w1 ⟨rfl, hb1⟩
  have hz1 := hb1.size
  try simp at hz1
  have hB1 : Below w.heap.size w w1 := Below.next (by go_grown) hb1 (by first | (simp; done) | (simp; omega) | omega)
  have hc1_0 : ∀ o, w1.cell? ⟨w.heap.size, o, none⟩ = _ := fun o => hb1.cell (p := ⟨w.heap.size, o, none⟩) (by first | (simp; done) | (simp; omega) | omega)
  have hl1_0 : w.heap.size < w1.heap.size := by omega
  have hm1_0 : w.heap.size ≤ w1.heap.size := by omega
  have hn1_0 : w.heap.size ≤ w1.heap.size + 1 := by omega
  have ho1_0 : w.heap.size ≤ w1.heap.size + 1 + 1 := by omega
  have hf1_0 : ∀ o, w1.frozen? ⟨w.heap.size, o, none⟩ = _ := fun o => hb1.frozen (p := ⟨w.heap.size, o, none⟩) (by first | (simp; done) | (simp; omega) | omega)
  have hc1_1 : ∀ o, w1.cell? ⟨w.heap.size + 1, o, none⟩ = _ := fun o => hb1.cell (p := ⟨w.heap.size + 1, o, none⟩) (by first | (simp; done) | (simp; omega) | omega)
  have hl1_1 : w.heap.size + 1 < w1.heap.size := by omega
  have hm1_1 : w.heap.size + 1 ≤ w1.heap.size := by omega
  have hn1_1 : w.heap.size + 1 ≤ w1.heap.size + 1 := by omega
  have ho1_1 : w.heap.size + 1 ≤ w1.heap.size + 1 + 1 := by omega
  have hf1_1 : ∀ o, w1.frozen? ⟨w.heap.size + 1, o, none⟩ = _ := fun o => hb1.frozen (p := ⟨w.heap.size + 1, o, none⟩) (by first | (simp; done) | (simp; omega) | omega)
  by_cases p1 : b.book = c.book
  · rw [decide_eq_true p1]
    have P1 := Lib.hid p1
    clear p1
    go_wp2_with fail
    refine (kit_equal_opr _ _ _ _ B B _ (HB.out.ops.below (Below.mono (B := w.heap.size) (by go_grown) hB)) (HC.out.ops.below (Below.mono (B := w.heap.size) (by go_grown) hB))).mono ?_
    rintro e w2 ⟨rfl, hs2⟩
    have hc2 := hs2.cell
    have hz2 : w2.heap.size = _ := congrArg Array.size hs2.heap
    have hB2 : Below w.heap.size w w2 := Below.trans (by go_grown) (hs2.below _)
    clear hz2
    by_cases p2 : b.ops = c.ops
    · rw [decide_eq_true p2]
      go_wp2
      go_ret
      exact ⟨ret_bool (decide_eq_true (H.out.2 ⟨P1.out, p2⟩)).symm, by go_grown⟩
    · rw [decide_eq_false p2]
      go_wp2
      go_ret
      exact ⟨ret_bool (decide_eq_false (fun h => p2 (H.out.1 h).2)).symm, by go_grown⟩
  · rw [decide_eq_false p1]
    go_wp2
    go_ret
    exact ⟨ret_bool (decide_eq_false (fun h => p1 (H.out.1 h).1)).symm, by go_grown⟩

set_option maxRecDepth 100000 in
set_option maxHeartbeats 4000000 in
theorem script_equal (b c : Scp) (e r g l x o e' r' g' l' x' o' : Value) (B : Nat) (w : World) (hB : B ≤ w.heap.size) (hb : RdScp w B b e r g l x o) (hc : RdScp w B c e' r' g' l' x' o') :
    Calls Tryz.prog 19 #[vScp b e r g l x o, vScp c e' r' g' l' x' o'] w fun e w' => e = .returned (.bool (decide (b = c))) ∧ Below w.heap.size w w' := by
  have HB := Lib.hid hb
  have HC := Lib.hid hc
  clear hb hc
  have H := Lib.hid (@scp_ext b c)
  go_enter Tryz.func19, Tryz.ntmps19
  go_wp2_with fail
  refine (book_equal b.book c.book e r g l x e' r' g' l' x' B _ (by simp; omega) (HB.out.book.below (Below.mono (B := w.heap.size) (by go_grown) hB)) (HC.out.book.below (Below.mono (B := w.heap.size) (by go_grown) hB))).mono ?_
  rintro e w1 ⟨rfl, hb1⟩
  have hz1 := hb1.size
  try simp at hz1
  have hB1 : Below w.heap.size w w1 := Below.next (by go_grown) hb1 (by first | (simp; done) | (simp; omega) | omega)
  have hc1_0 : ∀ o, w1.cell? ⟨w.heap.size, o, none⟩ = _ := fun o => hb1.cell (p := ⟨w.heap.size, o, none⟩) (by first | (simp; done) | (simp; omega) | omega)
  have hl1_0 : w.heap.size < w1.heap.size := by omega
  have hm1_0 : w.heap.size ≤ w1.heap.size := by omega
  have hn1_0 : w.heap.size ≤ w1.heap.size + 1 := by omega
  have ho1_0 : w.heap.size ≤ w1.heap.size + 1 + 1 := by omega
  have hf1_0 : ∀ o, w1.frozen? ⟨w.heap.size, o, none⟩ = _ := fun o => hb1.frozen (p := ⟨w.heap.size, o, none⟩) (by first | (simp; done) | (simp; omega) | omega)
  have hc1_1 : ∀ o, w1.cell? ⟨w.heap.size + 1, o, none⟩ = _ := fun o => hb1.cell (p := ⟨w.heap.size + 1, o, none⟩) (by first | (simp; done) | (simp; omega) | omega)
  have hl1_1 : w.heap.size + 1 < w1.heap.size := by omega
  have hm1_1 : w.heap.size + 1 ≤ w1.heap.size := by omega
  have hn1_1 : w.heap.size + 1 ≤ w1.heap.size + 1 := by omega
  have ho1_1 : w.heap.size + 1 ≤ w1.heap.size + 1 + 1 := by omega
  have hf1_1 : ∀ o, w1.frozen? ⟨w.heap.size + 1, o, none⟩ = _ := fun o => hb1.frozen (p := ⟨w.heap.size + 1, o, none⟩) (by first | (simp; done) | (simp; omega) | omega)
  by_cases p1 : b.book = c.book
  · rw [decide_eq_true p1]
    have P1 := Lib.hid p1
    clear p1
    go_wp2_with fail
    refine (sl_equal_opr _ _ _ _ B B _ (HB.out.ops.below (Below.mono (B := w.heap.size) (by go_grown) hB)) (HC.out.ops.below (Below.mono (B := w.heap.size) (by go_grown) hB))).mono ?_
    rintro e w2 ⟨rfl, hs2⟩
    have hc2 := hs2.cell
    have hz2 : w2.heap.size = _ := congrArg Array.size hs2.heap
    have hB2 : Below w.heap.size w w2 := Below.trans (by go_grown) (hs2.below _)
    clear hz2
    by_cases p2 : b.ops = c.ops
    · rw [decide_eq_true p2]
      go_wp2
      go_ret
      exact ⟨ret_bool (decide_eq_true (H.out.2 ⟨P1.out, p2⟩)).symm, by go_grown⟩
    · rw [decide_eq_false p2]
      go_wp2
      go_ret
      exact ⟨ret_bool (decide_eq_false (fun h => p2 (H.out.1 h).2)).symm, by go_grown⟩
  · rw [decide_eq_false p1]
    go_wp2
    go_ret
    exact ⟨ret_bool (decide_eq_false (fun h => p1 (H.out.1 h).1)).symm, by go_grown⟩

set_option maxRecDepth 100000 in
set_option maxHeartbeats 4000000 in
theorem r41_equal (b c : Scp) (e r g l x o e' r' g' l' x' o' : Value) (B : Nat) (w : World) (hB : B ≤ w.heap.size) (hb : RdScp w B b e r g l x o) (hc : RdScp w B c e' r' g' l' x' o') :
    Calls Tryz.prog 20 #[vScp b e r g l x o, vScp c e' r' g' l' x' o'] w fun e w' => e = .returned (.bool (decide (b = c))) ∧ Below w.heap.size w w' := by
  have HB := Lib.hid hb
  have HC := Lib.hid hc
  clear hb hc
  go_enter Tryz.func20, Tryz.ntmps20
  go_wp2_with fail
  refine (kit_equal_script b c e r g l x o e' r' g' l' x' o' B _ (by simp; omega) (HB.out.below (Below.mono (B := w.heap.size) (by go_grown) hB)) (HC.out.below (Below.mono (B := w.heap.size) (by go_grown) hB))).mono ?_
  rintro e w1 ⟨rfl, hb1⟩
  have hz1 := hb1.size
  try simp at hz1
  have hB1 : Below w.heap.size w w1 := Below.next (by go_grown) hb1 (by first | (simp; done) | (simp; omega) | omega)
  go_wp2
  go_ret
  exact ⟨rfl, by go_grown⟩

end Go.Proofs.YtamcgggmfghljaaGreatDoor

namespace Go.Proofs.YtamcgggmfghljaaGreatDoor
open Go.RowKit

/-- A slice that reads as a list, in memory that is newer than base. -/
def SlsN {α : Type} (c : α → List Value) (base : Nat) (w : World) (v : Value) (l : List α) : Prop := Sls c w w.heap.size v l ∧ ∀ q, v.ownBlock = some q → base ≤ q
theorem SlsN.below {α : Type} {c : α → List Value} {base : Nat} {w w' : World} {v : Value} {l : List α} (h : SlsN c base w v l) (hb : Below w.heap.size w w') : SlsN c base w' v l := ⟨(h.1.below hb).more hb.size, h.2⟩
theorem SlsN.older {α : Type} {c : α → List Value} {base base' : Nat} {w : World} {v : Value} {l : List α} (h : SlsN c base w v l) (hb : base' ≤ base) : SlsN c base' w v l := ⟨h.1, fun q hq => by have := h.2 q hq; omega⟩
theorem SlsN.set {α : Type} {c : α → List Value} {base : Nat} {w : World} {v : Value} {l : List α} (h : SlsN c base w v l) {p : Addr} (hp : p.block < base) (u : Value) : SlsN c base (w.setCell p u) v l := by
  refine ⟨?_, h.2⟩
  obtain ⟨A, cap, rfl, h1, hm, h2⟩ := h.1
  refine ⟨A, cap, rfl, h1, hm, fun hn => ?_⟩
  obtain ⟨b, o, rfl, hlt, hr⟩ := h2 hn
  refine ⟨b, o, rfl, by simpa [World.setCell] using hlt, fun j t ht => ?_⟩
  have hq := h.2 b rfl
  rw [World.cell?_setCell_other w p _ u (fun e => by subst e; simp at hp; omega)]
  exact hr j t ht

/-- append onto nil: a copy. -/
theorem run_copy {P : Program} {α : Type} (w : World) (c : α → List Value) (t ty e : TypeId) (i : TypeInfo) (z : Value) (size bytes : Nat) (ht : P.underlying t = some (.slice e)) (hi : P.info? e = some i) (hz : i.zero = some z)
    (hsize : i.size = size) (hby : i.bytes = bytes) (hzs : z.cells.size = size) (hsz : 0 < size) (B : Nat) (v : Value) (l : List α) (hl : Sls c w B v l)
    (hk : ∀ x, (c x).length = size) (h1 : ∀ x, ∀ u ∈ c x, u.oneCell' = true) (hbytes : l.length * bytes ≤ 140737488355328) :
    ∃ v' w', (Builtin.append_ #[t, t] ty #[.slice none 0 0, v]).run P w = .ok v' w' ∧ SlsN c w.heap.size w' v' l ∧ Below w.heap.size w w' := by
  obtain ⟨A, cap, rfl, hc, hm, hr⟩ := hl
  rcases A with _ | ad
  · have h0 : l.length = 0 := by
      rcases Nat.eq_zero_or_pos l.length with h0 | h0
      · exact h0
      · obtain ⟨b, o, h, _⟩ := hr h0
        cases h
    have hn : l = [] := List.eq_nil_of_length_eq_zero h0
    subst hn
    exact ⟨.slice none 0 0, w, by simp [Builtin.append_, run_underlying ht, sizeOf, typeInfo, hi, Builtin.lenOf, Builtin.firstCells], ⟨Sls.nil _ _ _ _ _, by simp [Value.ownBlock]⟩, Below.refl _ _⟩
  · have hown : w.ownsRow w.heap.size e size (.slice none 0 0) 0 [] := ⟨by simp, .inl ⟨rfl, rfl⟩⟩
    have hcells : ∀ j u, (l.flatMap c)[j]? = some u → w.cell? (ad.add j) = some u := by
      intro j u hu
      rcases Nat.eq_zero_or_pos l.length with h0 | h0
      · have hn : l = [] := List.eq_nil_of_length_eq_zero h0
        subst hn
        simp at hu
      · obtain ⟨b, o, h, _, hg⟩ := hr h0
        injection h with h
        subst h
        rw [Addr.add_mid]
        exact hg j u hu
    obtain ⟨v', w', hrun, h2, h3, h4, h5⟩ := run_append_own_at (P := P) w w.heap.size t ty e i z size bytes ht hi hz hsize hby hzs hsz (.slice none 0 0) 0 [] hown ad l.length cap (l.flatMap c) (flatMap_length c size hk l) hcells
      (by intro u hu; obtain ⟨x, _, hx⟩ := List.mem_flatMap.1 hu; exact h1 x u hx) (by omega) (by simpa using hbytes) (Nat.le_refl _)
    refine ⟨v', w', hrun, ⟨Sls.of_own (e := e) (size := size) (base := w.heap.size) (by simpa using h2) hm, fun q hq => by rcases h5 with h | h <;> rw [h] at hq <;> simp [Value.ownBlock] at hq; omega⟩, (Below.refl _ _).grown h3 (Nat.le_refl _) (by simp [Value.ownBlock])⟩

theorem wpList_copy {P : Program} {w : World} {α : Type} (c : α → List Value) {ops : Array Oper} {rest : List Oper} {o : Oper} {a : Act} {Q : Exit → Act → World → Prop} (hgd : o.guard = none) (s x : Operand) (t : TypeId)
    (ho : o.op = .call { callee := .builtin .append, args := #[s, x], argTypes := #[t, t] })
    (e : TypeId) (i : TypeInfo) (z : Value) (size bytes : Nat) (ht : P.underlying t = some (.slice e)) (hi : P.info? e = some i) (hz : i.zero = some z)
    (hsize : i.size = size) (hby : i.bytes = bytes) (hzs : z.cells.size = size) (hsz : 0 < size) (hs : a.eval s = .slice none 0 0) (B : Nat) (v : Value) (l : List α) (hx : a.eval x = v) (hl : Sls c w B v l)
    (hk : ∀ x, (c x).length = size) (h1 : ∀ x, ∀ u ∈ c x, u.oneCell' = true) (hbytes : l.length * bytes ≤ 140737488355328)
    (h : ∀ v' w', SlsN c w.heap.size w' v' l → Below w.heap.size w w' → wpList P ops Q rest (a.put o.dst v') w') : wpList P ops Q (o :: rest) a w := by
  obtain ⟨v', w', hrun, h2, h3⟩ := run_copy (P := P) w c t o.type e i z size bytes ht hi hz hsize hby hzs hsz B v l hl hk h1 hbytes
  refine wpList_plain hgd fun K hK => ?_
  unfold Oper.wp execOp
  simp only [ho, resolve, invoke, builtin, Sem.run_bind, Sem.run_pure, Result.andThen_ok, List.map_toArray, List.map_cons, List.map_nil, hs, hx, hrun]
  exact hK _ _ (h v' w' h2 h3)

theorem cEnt_one (x : Ent) : ∀ u ∈ cEnt x, u.oneCell' = true := by
  simp [cEnt, Value.oneCell']
set_option maxRecDepth 100000 in
set_option maxHeartbeats 2000000 in
theorem copy_ent (v : Value) (l : List Ent) (B : Nat) (w : World) (hv : Sls cEnt w B v l) (hn : l.length ≤ 8192) :
    Calls Tryz.prog 79 #[v] w fun e w' => ∃ v', e = .returned v' ∧ SlsN cEnt w.heap.size w' v' l ∧ Below w.heap.size w w' := by
  obtain ⟨i0, hi0, hz0, hz1, hz2⟩ := info_parts (show (Tryz.prog.info? 58).map (fun i => (i.zero, i.size, i.bytes)) = some (some (.agg #[.int .i64 0, .int .i64 0, .string ⟨#[]⟩]), 3, 32) by kernel_rfl)
  go_enter Tryz.func79, Tryz.ntmps79
  go_wp2_with (first
    | (at_builtin
       refine wpList_copy cEnt rfl (.const (.slice none 0 0)) (.tmp 3) _ rfl 58 i0 _ 3 32 rfl hi0 hz0 hz1 hz2 rfl (by omega) rfl B v l rfl hv cEnt_len cEnt_one (by omega) ?_
       intro v1 w1 hs1 hb1))
  go_ret
  exact ⟨v1, rfl, hs1, hb1⟩

theorem cRul_one (x : Rul) : ∀ u ∈ cRul x, u.oneCell' = true := by
  simp [cRul, Value.oneCell']
set_option maxRecDepth 100000 in
set_option maxHeartbeats 2000000 in
theorem copy_rul (v : Value) (l : List Rul) (B : Nat) (w : World) (hv : Sls cRul w B v l) (hn : l.length ≤ 8192) :
    Calls Tryz.prog 80 #[v] w fun e w' => ∃ v', e = .returned v' ∧ SlsN cRul w.heap.size w' v' l ∧ Below w.heap.size w w' := by
  obtain ⟨i0, hi0, hz0, hz1, hz2⟩ := info_parts (show (Tryz.prog.info? 79).map (fun i => (i.zero, i.size, i.bytes)) = some (some (.agg #[.int .i64 0, .int .i64 0, .int .i64 0, .int .i64 0, .int .u64 0, .int .u64 0, .int .u64 0]), 7, 56) by kernel_rfl)
  go_enter Tryz.func80, Tryz.ntmps80
  go_wp2_with (first
    | (at_builtin
       refine wpList_copy cRul rfl (.const (.slice none 0 0)) (.tmp 3) _ rfl 79 i0 _ 7 56 rfl hi0 hz0 hz1 hz2 rfl (by omega) rfl B v l rfl hv cRul_len cRul_one (by omega) ?_
       intro v1 w1 hs1 hb1))
  go_ret
  exact ⟨v1, rfl, hs1, hb1⟩

theorem cGrt_one (x : Grt) : ∀ u ∈ cGrt x, u.oneCell' = true := by
  simp [cGrt, Value.oneCell']
set_option maxRecDepth 100000 in
set_option maxHeartbeats 2000000 in
theorem copy_grt (v : Value) (l : List Grt) (B : Nat) (w : World) (hv : Sls cGrt w B v l) (hn : l.length ≤ 8192) :
    Calls Tryz.prog 81 #[v] w fun e w' => ∃ v', e = .returned v' ∧ SlsN cGrt w.heap.size w' v' l ∧ Below w.heap.size w w' := by
  obtain ⟨i0, hi0, hz0, hz1, hz2⟩ := info_parts (show (Tryz.prog.info? 85).map (fun i => (i.zero, i.size, i.bytes)) = some (some (.agg #[.int .i64 0, .int .i64 0, .int .i64 0, .int .i64 0, .int .u8 0, .int .u64 0, .int .i64 0, .bool false]), 8, 64) by kernel_rfl)
  go_enter Tryz.func81, Tryz.ntmps81
  go_wp2_with (first
    | (at_builtin
       refine wpList_copy cGrt rfl (.const (.slice none 0 0)) (.tmp 3) _ rfl 85 i0 _ 8 64 rfl hi0 hz0 hz1 hz2 rfl (by omega) rfl B v l rfl hv cGrt_len cGrt_one (by omega) ?_
       intro v1 w1 hs1 hb1))
  go_ret
  exact ⟨v1, rfl, hs1, hb1⟩

theorem cEvt_one (x : Evt) : ∀ u ∈ cEvt x, u.oneCell' = true := by
  simp [cEvt, Value.oneCell']
set_option maxRecDepth 100000 in
set_option maxHeartbeats 2000000 in
theorem copy_evt (v : Value) (l : List Evt) (B : Nat) (w : World) (hv : Sls cEvt w B v l) (hn : l.length ≤ 8192) :
    Calls Tryz.prog 82 #[v] w fun e w' => ∃ v', e = .returned v' ∧ SlsN cEvt w.heap.size w' v' l ∧ Below w.heap.size w w' := by
  obtain ⟨i0, hi0, hz0, hz1, hz2⟩ := info_parts (show (Tryz.prog.info? 110).map (fun i => (i.zero, i.size, i.bytes)) = some (some (.agg #[.int .i64 0, .int .i64 0, .int .u8 0, .int .i64 0, .int .i64 0, .int .i64 0, .int .i64 0, .bool false, .int .u64 0]), 9, 72) by kernel_rfl)
  go_enter Tryz.func82, Tryz.ntmps82
  go_wp2_with (first
    | (at_builtin
       refine wpList_copy cEvt rfl (.const (.slice none 0 0)) (.tmp 3) _ rfl 110 i0 _ 9 72 rfl hi0 hz0 hz1 hz2 rfl (by omega) rfl B v l rfl hv cEvt_len cEvt_one (by omega) ?_
       intro v1 w1 hs1 hb1))
  go_ret
  exact ⟨v1, rfl, hs1, hb1⟩

theorem cRls_one (x : Rls) : ∀ u ∈ cRls x, u.oneCell' = true := by
  simp [cRls, Value.oneCell']
set_option maxRecDepth 100000 in
set_option maxHeartbeats 2000000 in
theorem copy_rls (v : Value) (l : List Rls) (B : Nat) (w : World) (hv : Sls cRls w B v l) (hn : l.length ≤ 8192) :
    Calls Tryz.prog 83 #[v] w fun e w' => ∃ v', e = .returned v' ∧ SlsN cRls w.heap.size w' v' l ∧ Below w.heap.size w w' := by
  obtain ⟨i0, hi0, hz0, hz1, hz2⟩ := info_parts (show (Tryz.prog.info? 116).map (fun i => (i.zero, i.size, i.bytes)) = some (some (.agg #[.int .i64 0, .int .i64 0, .int .i64 0, .int .i64 0, .int .u8 0, .int .i64 0, .int .i64 0, .int .i64 0, .int .i64 0, .int .i64 0, .int .u64 0]), 11, 88) by kernel_rfl)
  go_enter Tryz.func83, Tryz.ntmps83
  go_wp2_with (first
    | (at_builtin
       refine wpList_copy cRls rfl (.const (.slice none 0 0)) (.tmp 3) _ rfl 116 i0 _ 11 88 rfl hi0 hz0 hz1 hz2 rfl (by omega) rfl B v l rfl hv cRls_len cRls_one (by omega) ?_
       intro v1 w1 hs1 hb1))
  go_ret
  exact ⟨v1, rfl, hs1, hb1⟩

theorem cOpr_one (x : Opr) : ∀ u ∈ cOpr x, u.oneCell' = true := by
  simp [cOpr, Value.oneCell']
set_option maxRecDepth 100000 in
set_option maxHeartbeats 2000000 in
theorem copy_opr (v : Value) (l : List Opr) (B : Nat) (w : World) (hv : Sls cOpr w B v l) (hn : l.length ≤ 8192) :
    Calls Tryz.prog 26 #[v] w fun e w' => ∃ v', e = .returned v' ∧ SlsN cOpr w.heap.size w' v' l ∧ Below w.heap.size w w' := by
  obtain ⟨i0, hi0, hz0, hz1, hz2⟩ := info_parts (show (Tryz.prog.info? 48).map (fun i => (i.zero, i.size, i.bytes)) = some (some (.agg #[.int .u8 0, .int .i64 0, .int .i64 0, .int .i64 0, .int .i64 0, .int .i64 0, .string ⟨#[]⟩, .int .u64 0, .int .u64 0, .int .u64 0, .int .u8 0, .int .u64 0, .int .i64 0]), 13, 112) by kernel_rfl)
  go_enter Tryz.func26, Tryz.ntmps26
  go_wp2_with (first
    | (at_builtin
       refine wpList_copy cOpr rfl (.const (.slice none 0 0)) (.tmp 3) _ rfl 48 i0 _ 13 112 rfl hi0 hz0 hz1 hz2 rfl (by omega) rfl B v l rfl hv cOpr_len cOpr_one (by omega) ?_
       intro v1 w1 hs1 hb1))
  go_ret
  exact ⟨v1, rfl, hs1, hb1⟩

end Go.Proofs.YtamcgggmfghljaaGreatDoor

namespace Go.Proofs.YtamcgggmfghljaaGreatDoor
open Go.RowKit

section
variable {P : Program} {ops : Array Oper} {Q : Exit → Act → World → Prop} {md : Region.Mode} {S : World → Prop} {s : Nat}

/-- Whatever order is picked from here on; and S holds behind each operation till number s has come up. -/
def wpAnyU (P : Program) (md : Region.Mode) (ops : Array Oper) (Q : Exit → Act → World → Prop) (S : World → Prop) (s : Nat) : Nat → Array Bool → Act → World → Prop
  | 0, listed, a, w => Region.ready md ops listed = [] ∧ Q .normal a w
  | fuel + 1, listed, a, w =>
    (Region.ready md ops listed = [] → Q .normal a w) ∧
    ∀ i ∈ Region.ready md ops listed, wpOp P ops Q i (fun a' w' => ((listed.setIfInBounds i true).getD s true = false → S w') ∧ wpAnyU P md ops Q S s fuel (listed.setIfInBounds i true) a' w') a w

theorem wpAny_of_U : ∀ (fuel : Nat) (listed : Array Bool) (a : Act) (w : World), wpAnyU P md ops Q S s fuel listed a w → wpAny P md ops Q fuel listed a w
  | 0, _, _, _, h => h
  | fuel + 1, _, _, _, h => ⟨h.1, fun i hi => wpOp_mono (fun a' w' h' => wpAny_of_U fuel _ a' w' h'.2) (h.2 i hi)⟩

/-- Number s waits for number i. -/
def waitsFor (md : Region.Mode) (ops : Array Oper) (s i : Nat) : Bool := match ops[s]? with
  | some o => o.after.any fun e => Region.binds md e && e.on == i
  | none => false

theorem wpAnyU_first {i : Nat} {oi : Oper} {v : Value} (hi : ops[i]? = some oi) (hsel : ∀ (j : Nat) (o : Oper) cs b, ops[j]? = some o → o.op ≠ .select cs b)
    (hQ : ∀ c a w, Q (.panic c) (a.put oi.dst v) w → Q (.panic c) a w) (hw : waitsFor md ops s i = true) (hsi : i ≠ s) :
    ∀ (fuel : Nat) (listed : Array Bool) (a : Act) (w : World),
      (∀ j oj, ops[j]? = some oj → j ≠ i → listed.getD j true = false → (∀ e ∈ oj.after, Region.binds md e = true → e.on ≠ i) → oi.apart ops oj = true) →
      i ∈ Region.ready md ops listed → YieldsIf P ops S oi v a → S w → listed.getD s true = false →
      wpAnyU P md ops Q S s fuel (listed.setIfInBounds i true) (a.put oi.dst v) w → wpAnyU P md ops Q S s (fuel + 1) listed a w := by
  intro fuel
  induction fuel with
  | zero =>
    intro listed a w _ hr hy hS hl H
    refine ⟨fun h => (by rw [h] at hr; cases hr), fun j hj => ?_⟩
    by_cases hji : j = i
    · subst hji; exact hy.wpOp hi hS ⟨fun _ => hS, H⟩
    · have := ready_mono hj hji
      rw [H.1] at this
      cases this
  | succ fuel ih =>
    intro listed a w hfree hr hy hS hl H
    refine ⟨fun h => (by rw [h] at hr; cases hr), fun j hj => ?_⟩
    by_cases hji : j = i
    · subst hji; exact hy.wpOp hi hS ⟨fun _ => hS, H⟩
    · have h1 := H.2 j (ready_mono hj hji)
      obtain ⟨hjun, oj, hoj, hall⟩ := mem_ready.1 hj
      have hnot : ∀ e ∈ oj.after, Region.binds md e = true → e.on ≠ i := fun e he hb heq => by
        have h1 := hall e he hb
        have h0 := (mem_ready.1 hr).1
        rw [heq] at h1
        rcases Nat.lt_or_ge i listed.size with h' | h'
        · simp [h'] at h0 h1; rw [h0] at h1; cases h1
        · simp [Array.getElem?_eq_none h'] at h1
      have hjs : j ≠ s := by
        rintro rfl
        unfold waitsFor at hw
        rw [hoj] at hw
        simp only [Array.any_eq_true, Bool.and_eq_true, beq_iff_eq] at hw
        obtain ⟨x, hx, hb, ho⟩ := hw
        exact hnot _ (Array.getElem_mem hx) hb ho
      have hl' : ((listed.setIfInBounds i true).setIfInBounds j true).getD s true = false := by
        rw [getD_set_ne true hjs, getD_set_ne true hsi]; exact hl
      have h2 := wpOp_putIf hoj (hfree j oj hoj hji hjun hnot) (fun cs b => hsel i oi cs b hi) (fun cs b => hsel j oj cs b hoj) hQ hy h1
      have hfree' : ∀ k ok, ops[k]? = some ok → k ≠ i → (listed.setIfInBounds j true).getD k true = false →
          (∀ e ∈ ok.after, Region.binds md e = true → e.on ≠ i) → oi.apart ops ok = true := fun k ok hk hki hun hno => by
        refine hfree k ok hk hki ?_ hno
        by_cases hjk : j = k
        · subst hjk; exact hjun
        · rw [getD_set_ne true hjk] at hun; exact hun
      refine wpOp_mono (fun a' w' h3 => ⟨fun _ => h3.2.1 hl', ih (listed.setIfInBounds j true) a' w' hfree' (ready_mono hr (Ne.symm hji)) h3.1 (h3.2.1 hl') (by rw [getD_set_ne true hjs]; exact hl) ?_⟩) h2
      rw [Array.setIfInBounds_comm _ _ hji]
      exact h3.2.2

/-- .. and so may one that yields its value in whatever world. -/
theorem wpAnyU_first0 {i : Nat} {oi : Oper} {v : Value} (hi : ops[i]? = some oi) (hsel : ∀ (j : Nat) (o : Oper) cs b, ops[j]? = some o → o.op ≠ .select cs b)
    (hQ : ∀ c a w, Q (.panic c) (a.put oi.dst v) w → Q (.panic c) a w) (hsi : i ≠ s) :
    ∀ (fuel : Nat) (listed : Array Bool) (a : Act) (w : World),
      (∀ j oj, ops[j]? = some oj → j ≠ i → listed.getD j true = false → (∀ e ∈ oj.after, Region.binds md e = true → e.on ≠ i) → oi.apart ops oj = true) →
      i ∈ Region.ready md ops listed → YieldsIf P ops (fun _ => True) oi v a → (listed.getD s true = false → S w) →
      wpAnyU P md ops Q S s fuel (listed.setIfInBounds i true) (a.put oi.dst v) w → wpAnyU P md ops Q S s (fuel + 1) listed a w := by
  intro fuel
  induction fuel with
  | zero =>
    intro listed a w _ hr hy hS H
    refine ⟨fun h => (by rw [h] at hr; cases hr), fun j hj => ?_⟩
    by_cases hji : j = i
    · subst hji; exact hy.wpOp hi trivial ⟨fun h => hS (by rwa [getD_set_ne true hsi] at h), H⟩
    · have := ready_mono hj hji
      rw [H.1] at this
      cases this
  | succ fuel ih =>
    intro listed a w hfree hr hy hS H
    refine ⟨fun h => (by rw [h] at hr; cases hr), fun j hj => ?_⟩
    by_cases hji : j = i
    · subst hji; exact hy.wpOp hi trivial ⟨fun h => hS (by rwa [getD_set_ne true hsi] at h), H⟩
    · have h1 := H.2 j (ready_mono hj hji)
      obtain ⟨hjun, oj, hoj, hall⟩ := mem_ready.1 hj
      have hnot : ∀ e ∈ oj.after, Region.binds md e = true → e.on ≠ i := fun e he hb heq => by
        have h1 := hall e he hb
        have h0 := (mem_ready.1 hr).1
        rw [heq] at h1
        rcases Nat.lt_or_ge i listed.size with h' | h'
        · simp [h'] at h0 h1; rw [h0] at h1; cases h1
        · simp [Array.getElem?_eq_none h'] at h1
      have h2 := wpOp_putIf hoj (hfree j oj hoj hji hjun hnot) (fun cs b => hsel i oi cs b hi) (fun cs b => hsel j oj cs b hoj) hQ hy h1
      have hfree' : ∀ k ok, ops[k]? = some ok → k ≠ i → (listed.setIfInBounds j true).getD k true = false →
          (∀ e ∈ ok.after, Region.binds md e = true → e.on ≠ i) → oi.apart ops ok = true := fun k ok hk hki hun hno => by
        refine hfree k ok hk hki ?_ hno
        by_cases hjk : j = k
        · subst hjk; exact hjun
        · rw [getD_set_ne true hjk] at hun; exact hun
      have hS' : ∀ w', (((listed.setIfInBounds i true).setIfInBounds j true).getD s true = false → S w') → (listed.setIfInBounds j true).getD s true = false → S w' := fun w' h hl => by
        refine h ?_
        rw [Array.setIfInBounds_comm _ _ (Ne.symm hji), getD_set_ne true hsi]
        exact hl
      refine wpOp_mono (fun a' w' h3 => ⟨hS' w' h3.2.1, ih (listed.setIfInBounds j true) a' w' hfree' (ready_mono hr (Ne.symm hji)) h3.1 (hS' w' h3.2.1) ?_⟩) h2
      rw [Array.setIfInBounds_comm _ _ hji]
      exact h3.2.2

/-! ### The moves -/
/-- Number i is taken first: it yields v in whatever world. -/
theorem wpAnyU_take0 (i : Nat) {oi : Oper} {v : Value} {fuel : Nat} {listed : Array Bool} {a : Act} {w : World} (hi : ops[i]? = some oi)
    (hs : Region.noSelect ops = true) (hf : Region.free md ops listed i = true) (hr : (Region.ready md ops listed).contains i = true) (hsi : i ≠ s)
    (hQ : ∀ c a w, Q (.panic c) (a.put oi.dst v) w → Q (.panic c) a w) (hy : YieldsIf P ops (fun _ => True) oi v a) (hS : listed.getD s true = false → S w)
    (h : wpAnyU P md ops Q S s fuel (listed.setIfInBounds i true) (a.put oi.dst v) w) : wpAnyU P md ops Q S s (fuel + 1) listed a w :=
  wpAnyU_first0 hi (Region.noSelect_spec hs) hQ hsi fuel listed a w (Region.free_spec hi hf) (by simpa using hr) hy hS h
/-- Number i is taken first: it yields v in each world that meets S, and s waits for it. -/
theorem wpAnyU_take (i : Nat) {oi : Oper} {v : Value} {fuel : Nat} {listed : Array Bool} {a : Act} {w : World} (hi : ops[i]? = some oi)
    (hs : Region.noSelect ops = true) (hf : Region.free md ops listed i = true) (hr : (Region.ready md ops listed).contains i = true)
    (hw : waitsFor md ops s i = true) (hsi : i ≠ s) (hl : listed.getD s true = false)
    (hQ : ∀ c a w, Q (.panic c) (a.put oi.dst v) w → Q (.panic c) a w) (hy : YieldsIf P ops S oi v a) (hS : S w)
    (h : wpAnyU P md ops Q S s fuel (listed.setIfInBounds i true) (a.put oi.dst v) w) : wpAnyU P md ops Q S s (fuel + 1) listed a w :=
  wpAnyU_first hi (Region.noSelect_spec hs) hQ hw hsi fuel listed a w (Region.free_spec hi hf) (by simpa using hr) hy hS hl h

theorem wpOp_of {i : Nat} {o : Oper} {a : Act} {w : World} {K : Act → World → Prop} (ho : ops[i]? = some o) (hg : o.guard = none) (h : o.wp P a w K Q) : wpOp P ops Q i K a w := by
  unfold wpOp
  simp only [ho, Region.wanted, hg, if_true]
  exact .inl h

/-- One operation can come up. -/
theorem wpAnyU_one (i : Nat) {o : Oper} {fuel : Nat} {listed : Array Bool} {a : Act} {w : World} (hr : Region.ready md ops listed = [i]) (ho : ops[i]? = some o) (hg : o.guard = none)
    (h : o.wp P a w (fun a' w' => ((listed.setIfInBounds i true).getD s true = false → S w') ∧ wpAnyU P md ops Q S s fuel (listed.setIfInBounds i true) a' w') Q) : wpAnyU P md ops Q S s (fuel + 1) listed a w := by
  refine ⟨fun h0 => (by rw [hr] at h0; cases h0), fun j hj => ?_⟩
  rw [hr] at hj
  have e : j = i := by simpa using hj
  subst e
  exact wpOp_of ho hg h
/-- Two can come up. -/
theorem wpAnyU_two (i k : Nat) {o o' : Oper} {fuel : Nat} {listed : Array Bool} {a : Act} {w : World} (hr : Region.ready md ops listed = [i, k]) (ho : ops[i]? = some o) (hg : o.guard = none) (ho' : ops[k]? = some o') (hg' : o'.guard = none)
    (h : o.wp P a w (fun a' w' => ((listed.setIfInBounds i true).getD s true = false → S w') ∧ wpAnyU P md ops Q S s fuel (listed.setIfInBounds i true) a' w') Q)
    (h' : o'.wp P a w (fun a' w' => ((listed.setIfInBounds k true).getD s true = false → S w') ∧ wpAnyU P md ops Q S s fuel (listed.setIfInBounds k true) a' w') Q) : wpAnyU P md ops Q S s (fuel + 1) listed a w := by
  refine ⟨fun h0 => (by rw [hr] at h0; cases h0), fun j hj => ?_⟩
  rw [hr] at hj
  simp only [List.mem_cons, List.not_mem_nil, or_false] at hj
  rcases hj with rfl | rfl
  · exact wpOp_of ho hg h
  · exact wpOp_of ho' hg' h'
theorem wpAnyU_done {fuel : Nat} {listed : Array Bool} {a : Act} {w : World} (hr : Region.ready md ops listed = []) (h : Q .normal a w) : wpAnyU P md ops Q S s fuel listed a w := by
  cases fuel with
  | zero => exact ⟨hr, h⟩
  | succ n => exact ⟨fun _ => h, by rw [hr]; simp⟩

theorem wp_region_U {id : Nat} {a : Act} {w : World} (S : World → Prop) (s : Nat) (hm : P.follows .mixedOrders = true)
    (h : wpAnyU P .any ops Q S s ops.size (Array.replicate ops.size false) a w.drew) : (Code.region id ops true).wp P Q a w :=
  wp_region_any hm (wpAny_of_U _ _ _ _ h)
end

/-- The operations of the region number n. -/
def opsOf (n : Nat) : Code → Option (Array Oper)
  | .region k ops _ => if k = n then some ops else none
  | .seq a b => (opsOf n a).or (opsOf n b)
  | _ => none

end Go.Proofs.YtamcgggmfghljaaGreatDoor
