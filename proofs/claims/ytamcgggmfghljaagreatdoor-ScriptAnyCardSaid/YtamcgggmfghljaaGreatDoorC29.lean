/- Layer 21 (program): grants checked (printed by tools/gen_chk.py). · Layer 30 (program): logs checked (printed by tools/gen_chk.py). -/
import Derived.Test.YtamcgggmfghljaaGreatDoorC28
set_option maxRecDepth 100000
set_option maxHeartbeats 8000000
namespace Go.Proofs.YtamcgggmfghljaaGreatDoor
open Go.RowKit
/-- A grant's error among users. -/
def grtE (u : Int) (x : Grt) : Int :=
  if rctE x.rect ≠ 0 then 3 else if x.fns < 1 ∨ 31 < x.fns ∨ bits .andNot .u64 x.to_ (allI u) ≠ 0 ∨ hasI (allI u) x.by_ = false then 2 else 0
def grtsE (u : Int) (l : List Grt) : Int := if u < 1 ∨ 64 < u then 2 else if 64 < l.length then 5 else firstE (grtE u) l
theorem grant_check (u : Int) (sv : Value) (l : List Grt) (B : Nat) (w : World) (hB : B ≤ w.heap.size) (hs : Sls cGrt w B sv l) :
    Calls Tryz.prog 112 #[.int .i64 u, sv] w fun e w' => ∃ i, e = .returned (.tuple #[.int .i64 i, .int .i64 (grtsE u l)]) ∧ Below w.heap.size w w' := by
  obtain ⟨A, cap, rfl, hc, hm, hr⟩ := id hs
  have HS := Lib.hid hs
  clear hs hr
  unfold maxLen at hm
  by_cases hu : u < 0 ∨ 64 < u
  · have HE := Lib.hid (show grtsE u l = 2 by unfold grtsE; rw [if_pos (by omega)])
    go_enter Tryz.func112, Tryz.ntmps112
    go_wp2_with fail
    refine (all_no u _ hu).mono ?_
    rintro e w1 ⟨rfl, rfl⟩
    go_wp2
    go_ret2
    exact ⟨_, by rw [HE.out]; rfl, by go_grown⟩
  by_cases h0 : u = 0
  · subst h0
    have HE := Lib.hid (show grtsE 0 l = 2 by unfold grtsE; rw [if_pos (by omega)])
    go_enter Tryz.func112, Tryz.ntmps112
    go_wp2_with fail
    refine (all_yes 0 _ (by omega) (by omega)).mono ?_
    rintro e w1 ⟨rfl, rfl⟩
    go_wp2
    go_ret2
    exact ⟨_, by rw [HE.out]; rfl, by go_grown⟩
  have u0 : (u == 0) = false := by simpa using h0
  by_cases h64 : 64 < l.length
  · have HE := Lib.hid (show grtsE u l = 5 by unfold grtsE; rw [if_neg (by omega), if_pos h64])
    have l64 : (64 : Int) < (l.length : Int) := by omega
    go_enter Tryz.func112, Tryz.ntmps112
    go_wp2_with fail
    refine (all_yes u _ (by omega) (by omega)).mono ?_
    rintro e w1 ⟨rfl, rfl⟩
    go_wp2
    go_ret2
    exact ⟨_, by rw [HE.out]; rfl, by go_grown⟩
  have HE := Lib.hid (show grtsE u l = firstE (grtE u) l by unfold grtsE; rw [if_neg (by omega), if_neg h64])
  have HU := Lib.hid (allI_bd u (by omega))
  have l64 : ¬ (64 : Int) < (l.length : Int) := by omega
  go_enter Tryz.func112, Tryz.ntmps112
  go_wp2_with fail
  refine (all_yes u _ (by omega) (by omega)).mono ?_
  rintro e w1 ⟨rfl, rfl⟩
  go_wp2_with fail
  go_loopw [25] (fun i wr => ∃ k : Nat, k ≤ l.length ∧ i = .int .i64 k ∧ Below w.heap.size w wr ∧ firstE (grtE u) l = firstE (grtE u) (l.drop k)) (fun i _ => l.length - (intOf i).toNat)
  case atStart => exact ⟨0, by omega, rfl, by go_grown, by simp⟩
  case round =>
    obtain ⟨k, hk, rfl, hbw, hfe⟩ := hrel
    have HF := Lib.hid hfe
    have HBW := Lib.hid hbw
    clear hfe
    by_cases hlt : k < l.length
    · have hy : l[k]? = some l[k] := List.getElem?_eq_getElem hlt
      obtain ⟨b, o, hA, hb2, r⟩ := (HS.out.below (hbw.mono hB)).get 8 cGrt_len hy
      have HD := Lib.hid (firstE_drop (grtE u) hy)
      generalize l[k] = y at *
      subst hA
      have r0 : wr.cell? ⟨b, o + k * 8, none⟩ = some (.int .i64 y.rect.c1) := r 0 _ rfl
      have r1 : wr.cell? ⟨b, o + k * 8 + 1, none⟩ = some (.int .i64 y.rect.r1) := r 1 _ rfl
      have r2 : wr.cell? ⟨b, o + k * 8 + 2, none⟩ = some (.int .i64 y.rect.c2) := r 2 _ rfl
      have r3 : wr.cell? ⟨b, o + k * 8 + 3, none⟩ = some (.int .i64 y.rect.r2) := r 3 _ rfl
      have r4 : wr.cell? ⟨b, o + k * 8 + 4, none⟩ = some (.int .u8 y.fns) := r 4 _ rfl
      have r5 : wr.cell? ⟨b, o + k * 8 + 5, none⟩ = some (.int .u64 y.to_) := r 5 _ rfl
      have r6 : wr.cell? ⟨b, o + k * 8 + 6, none⟩ = some (.int .i64 y.by_) := r 6 _ rfl
      have r7 : wr.cell? ⟨b, o + k * 8 + 7, none⟩ = some (.bool y.revoked) := r 7 _ rfl
      have hi0 : (0 : Int) ≤ (k : Int) := Int.natCast_nonneg _
      have hi1 : (k : Int) < (l.length : Int) := by omega
      clear r hy hbw
      go_wp2_with fail
      refine (rect_check _ _ _ _ _).mono ?_
      rintro e w3 ⟨rfl, hb3⟩
      have q4 : w3.cell? ⟨wr.heap.size, 4, none⟩ = some (.int .u8 y.fns) := (hb3.cell (p := ⟨wr.heap.size, 4, none⟩) (by simp)).trans (by go_simp)
      have q5 : w3.cell? ⟨wr.heap.size, 5, none⟩ = some (.int .u64 y.to_) := (hb3.cell (p := ⟨wr.heap.size, 5, none⟩) (by simp)).trans (by go_simp)
      have q6 : w3.cell? ⟨wr.heap.size, 6, none⟩ = some (.int .i64 y.by_) := (hb3.cell (p := ⟨wr.heap.size, 6, none⟩) (by simp)).trans (by go_simp)
      have HB3 := Lib.hid (Below.trans (HBW.out.alloc HBW.out.size _) (hb3.mono (by have := HBW.out.size; simp; omega)))
      clear hb3 r0 r1 r2 r3 r4 r5 r6 r7
      by_cases hre : rctE ⟨y.rect.c1, y.rect.r1, y.rect.c2, y.rect.r2⟩ = 0
      · rw [hre]
        by_cases c1 : y.fns < 1
        · have HY := Lib.hid (show grtE u y = 2 by unfold grtE; rw [if_neg (by simpa using hre), if_pos (.inl c1)])
          clear hre
          go_wp2
          go_ret2
          refine ⟨k, ?_, HB3.out⟩
          rw [HE.out, HF.out, HD.out, HY.out]
          rfl
        by_cases c2 : 31 < y.fns
        · have HY := Lib.hid (show grtE u y = 2 by unfold grtE; rw [if_neg (by simpa using hre), if_pos (.inr (.inl c2))])
          clear hre
          go_wp2
          go_ret2
          refine ⟨k, ?_, HB3.out⟩
          rw [HE.out, HF.out, HD.out, HY.out]
          rfl
        by_cases c3 : bits .andNot .u64 y.to_ (allI u) = 0
        rotate_left
        · have HY := Lib.hid (show grtE u y = 2 by unfold grtE; rw [if_neg (by simpa using hre), if_pos (.inr (.inr (.inl c3)))])
          have t3 : (bits .andNot .u64 y.to_ (allI u) != 0) = true := by simpa using c3
          clear hre c3
          go_wp2
          go_ret2
          refine ⟨k, ?_, HB3.out⟩
          rw [HE.out, HF.out, HD.out, HY.out]
          rfl
        have t3 : (bits .andNot .u64 y.to_ (allI u) != 0) = false := by simpa using c3
        cases c4 : hasI (allI u) y.by_ with
        | true =>
          have HY := Lib.hid (show grtE u y = 0 by unfold grtE; rw [if_neg (by simpa using hre), if_neg (by rw [c4]; simp [c3]; omega)])
          clear hre c3
          go_wp2_with fail
          refine (has_any _ _ _ HU.out.1 HU.out.2).mono ?_
          rintro e w4 ⟨rfl, rfl⟩
          rw [c4]
          go_wp2
          exact ⟨⟨k + 1, by omega, by go_num, HB3.out, by rw [HF.out, HD.out, HY.out]; rfl⟩, by simp [intOf]; omega⟩
        | false =>
          have HY := Lib.hid (show grtE u y = 2 by unfold grtE; rw [if_neg (by simpa using hre), if_pos (.inr (.inr (.inr c4)))])
          clear hre c3
          go_wp2_with fail
          refine (has_any _ _ _ HU.out.1 HU.out.2).mono ?_
          rintro e w4 ⟨rfl, rfl⟩
          rw [c4]
          go_wp2
          go_ret2
          refine ⟨k, ?_, HB3.out⟩
          rw [HE.out, HF.out, HD.out, HY.out]
          rfl
      · have HY := Lib.hid (show grtE u y = 3 by unfold grtE; rw [if_pos (by simpa using hre)])
        have t1 : (rctE ⟨y.rect.c1, y.rect.r1, y.rect.c2, y.rect.r2⟩ != 0) = true := by simpa using hre
        clear hre
        go_wp2
        go_ret2
        refine ⟨k, ?_, HB3.out⟩
        rw [HE.out, HF.out, HD.out, HY.out]
        rfl
    · go_wp2
      go_ret2
      refine ⟨0, ?_, HBW.out⟩
      rw [HE.out, HF.out, List.drop_eq_nil_of_le (by omega)]
      rfl
def mutB (k : Int) : Bool := decide (k = 3) || decide (k = 4) || decide (k = 7) || decide (k = 8) || decide (k = 9)
/-- An event's error behind the step z. -/
def evE (u z : Int) (x : Evt) : Int :=
  if x.step ≤ z then 12 else if mutB x.kind = false ∨ hasI (allI u) x.user = false then 2 else if rctE x.rect ≠ 0 then 3
  else if bits .andNot .u64 x.to_ (allI u) ≠ 0 ∨ hasI x.to_ x.user = false then 2 else 0
def rlE (u z : Int) (x : Rls) : Int :=
  if x.step < z then 12 else if validB x.at_.col x.at_.row = false ∨ rctE x.rect ≠ 0 then 3
  else if x.node < 0 ∨ 256 ≤ x.node ∨ x.fn < 46 ∨ 50 < x.fn ∨ x.grant < 0 ∨ 64 ≤ x.grant ∨ bits .andNot .u64 x.to_ (allI u) ≠ 0 then 2 else 0
def evsE (u : Int) : Int → List Evt → Int
  | _, [] => 0
  | z, x :: l => if evE u z x ≠ 0 then evE u z x else evsE u x.step l
def rlsE (u : Int) : Int → List Rls → Int
  | _, [] => 0
  | z, x :: l => if rlE u z x ≠ 0 then rlE u z x else rlsE u x.step l
def audE (u : Int) (l : List Evt) (m : List Rls) : Int := if u < 1 ∨ 64 < u then 2 else if evsE u (-1) l ≠ 0 then evsE u (-1) l else rlsE u (-1) m
theorem evsE_drop (u z : Int) {l : List Evt} {k : Nat} {x : Evt} (h : l[k]? = some x) : evsE u z (l.drop k) = if evE u z x ≠ 0 then evE u z x else evsE u x.step (l.drop (k + 1)) := by
  have hk := (List.getElem?_eq_some_iff.1 h).1
  rw [List.drop_eq_getElem_cons hk]
  have : l[k] = x := by rw [List.getElem?_eq_getElem hk] at h; simpa using h
  rw [this]
  rfl
theorem rlsE_drop (u z : Int) {l : List Rls} {k : Nat} {x : Rls} (h : l[k]? = some x) : rlsE u z (l.drop k) = if rlE u z x ≠ 0 then rlE u z x else rlsE u x.step (l.drop (k + 1)) := by
  have hk := (List.getElem?_eq_some_iff.1 h).1
  rw [List.drop_eq_getElem_cons hk]
  have : l[k] = x := by rw [List.getElem?_eq_getElem hk] at h; simpa using h
  rw [this]
  rfl
theorem op_mutates (k : Int) (w : World) :
    Calls Tryz.prog 174 #[.agg #[.int .u8 k, .int .i64 0, .int .i64 0, .int .i64 0, .int .i64 0, .int .i64 0, str [], .int .u64 0, .int .u64 0, .int .u64 0, .int .u8 0, .int .u64 0, .int .i64 0]] w fun e w' => e = .returned (.bool (mutB k)) ∧ Below w.heap.size w w' := by
  by_cases h3 : k = 3
  · subst h3
    go_enter Tryz.func174, Tryz.ntmps174
    go_wp2
    go_ret
    exact ⟨rfl, by go_grown⟩
  by_cases h4 : k = 4
  · subst h4
    go_enter Tryz.func174, Tryz.ntmps174
    go_wp2
    go_ret
    exact ⟨rfl, by go_grown⟩
  by_cases h7 : k = 7
  · subst h7
    go_enter Tryz.func174, Tryz.ntmps174
    go_wp2
    go_ret
    exact ⟨rfl, by go_grown⟩
  by_cases h8 : k = 8
  · subst h8
    go_enter Tryz.func174, Tryz.ntmps174
    go_wp2
    go_ret
    exact ⟨rfl, by go_grown⟩
  by_cases h9 : k = 9
  · subst h9
    go_enter Tryz.func174, Tryz.ntmps174
    go_wp2
    go_ret
    exact ⟨rfl, by go_grown⟩
  have b3 : (k == 3) = false := by simpa using h3
  have b4 : (k == 4) = false := by simpa using h4
  have b7 : (k == 7) = false := by simpa using h7
  have b8 : (k == 8) = false := by simpa using h8
  have b9 : (k == 9) = false := by simpa using h9
  have HM := Lib.hid (show mutB k = false by simp [mutB, h3, h4, h7, h8, h9])
  clear h3 h4 h7 h8 h9
  go_enter Tryz.func174, Tryz.ntmps174
  go_wp2
  go_ret
  exact ⟨by rw [HM.out]; rfl, by go_grown⟩
theorem audit_check (u : Int) (sv sv2 : Value) (l : List Evt) (m : List Rls) (B : Nat) (w : World) (hB : B ≤ w.heap.size) (hs : Sls cEvt w B sv l) (hs2 : Sls cRls w B sv2 m) (hto : ∀ x ∈ l, 0 ≤ x.to_ ∧ x.to_ < 18446744073709551616) :
    Calls Tryz.prog 113 #[.int .i64 u, sv, sv2] w fun e w' => e = .returned (.int .i64 (audE u l m)) ∧ Below w.heap.size w w' := by
  obtain ⟨A, cap, rfl, hc, hm, hr⟩ := id hs
  obtain ⟨A2, cap2, rfl, hc2, hm2, hr2⟩ := id hs2
  have HS := Lib.hid hs
  have HS2 := Lib.hid hs2
  have HTO := Lib.hid hto
  clear hs hr hs2 hr2 hto
  unfold maxLen at hm hm2
  by_cases hu : u < 0 ∨ 64 < u
  · have HE := Lib.hid (show audE u l m = 2 by unfold audE; rw [if_pos (by omega)])
    go_enter Tryz.func113, Tryz.ntmps113
    go_wp2_with fail
    refine (all_no u _ hu).mono ?_
    rintro e w1 ⟨rfl, rfl⟩
    go_wp2
    go_ret
    exact ⟨by rw [HE.out]; rfl, by go_grown⟩
  by_cases h0 : u = 0
  · subst h0
    have HE := Lib.hid (show audE 0 l m = 2 by unfold audE; rw [if_pos (by omega)])
    go_enter Tryz.func113, Tryz.ntmps113
    go_wp2_with fail
    refine (all_yes 0 _ (by omega) (by omega)).mono ?_
    rintro e w1 ⟨rfl, rfl⟩
    go_wp2
    go_ret
    exact ⟨by rw [HE.out]; rfl, by go_grown⟩
  have u0 : (u == 0) = false := by simpa using h0
  have HE0 := Lib.hid (show audE u l m = if evsE u (-1) l ≠ 0 then evsE u (-1) l else rlsE u (-1) m by unfold audE; rw [if_neg (by omega)])
  have HU := Lib.hid (allI_bd u (by omega))
  go_enter Tryz.func113, Tryz.ntmps113
  go_wp2_with fail
  refine (all_yes u _ (by omega) (by omega)).mono ?_
  rintro e w1 ⟨rfl, rfl⟩
  clear hu
  go_wp2_with fail
  go_loopw [9, 27] (fun last i wr => ∃ (k : Nat) (z : Int), k ≤ l.length ∧ last = .int .i64 z ∧ i = .int .i64 k ∧ Below w.heap.size w wr ∧ evsE u (-1) l = evsE u z (l.drop k)) (fun _ i _ => l.length - (intOf i).toNat)
  case atStart => exact ⟨0, -1, by omega, rfl, rfl, by go_grown, by simp⟩
  case round =>
    obtain ⟨k, z, hk, rfl, rfl, hbw, hfe⟩ := hrel
    have HF := Lib.hid hfe
    have HBW := Lib.hid hbw
    clear hfe
    by_cases hlt : k < l.length
    · have hy : l[k]? = some l[k] := List.getElem?_eq_getElem hlt
      obtain ⟨b, o, hA, hb2, r⟩ := (HS.out.below (hbw.mono hB)).get 9 cEvt_len hy
      have HD := Lib.hid (evsE_drop u z hy)
      have HT := Lib.hid (HTO.out l[k] (List.getElem_mem hlt))
      generalize l[k] = y at *
      subst hA
      have HE : RowKit.Hid (evE u z y ≠ 0 → audE u l m = evE u z y) := Lib.hid (fun h => by
        have e1 : evsE u (-1) l = evE u z y := by rw [HF.out, HD.out, if_pos h]
        rw [HE0.out, e1, if_pos h])
      have r0 : wr.cell? ⟨b, o + k * 9, none⟩ = some (.int .i64 y.step) := r 0 _ rfl
      have r1 : wr.cell? ⟨b, o + k * 9 + 1, none⟩ = some (.int .i64 y.user) := r 1 _ rfl
      have r2 : wr.cell? ⟨b, o + k * 9 + 2, none⟩ = some (.int .u8 y.kind) := r 2 _ rfl
      have r3 : wr.cell? ⟨b, o + k * 9 + 3, none⟩ = some (.int .i64 y.rect.c1) := r 3 _ rfl
      have r4 : wr.cell? ⟨b, o + k * 9 + 4, none⟩ = some (.int .i64 y.rect.r1) := r 4 _ rfl
      have r5 : wr.cell? ⟨b, o + k * 9 + 5, none⟩ = some (.int .i64 y.rect.c2) := r 5 _ rfl
      have r6 : wr.cell? ⟨b, o + k * 9 + 6, none⟩ = some (.int .i64 y.rect.r2) := r 6 _ rfl
      have r7 : wr.cell? ⟨b, o + k * 9 + 7, none⟩ = some (.bool y.done_) := r 7 _ rfl
      have r8 : wr.cell? ⟨b, o + k * 9 + 8, none⟩ = some (.int .u64 y.to_) := r 8 _ rfl
      have K0 := Lib.hid (Blk.new wr 110 (cEvt y).toArray)
      have HB0 := Lib.hid (show Below w.heap.size w (wr.alloc (.cells (cEvt y).toArray 110)) from HBW.out.alloc HBW.out.size _)
      rw [show (cEvt y).toArray = #[.int .i64 y.step, .int .i64 y.user, .int .u8 y.kind, .int .i64 y.rect.c1, .int .i64 y.rect.r1, .int .i64 y.rect.c2, .int .i64 y.rect.r2, .bool y.done_, .int .u64 y.to_] from rfl] at K0 HB0
      have hi0 : (0 : Int) ≤ (k : Int) := Int.natCast_nonneg _
      have hi1 : (k : Int) < (l.length : Int) := by omega
      clear r hy hbw
      by_cases c1 : y.step ≤ z
      · have HY := Lib.hid (show evE u z y = 12 by unfold evE; rw [if_pos c1])
        go_wp2
        go_ret
        exact ⟨by rw [HE.out (by rw [HY.out]; decide), HY.out]; rfl, HB0.out⟩
      go_wp2_with fail
      refine (op_mutates y.kind _).mono ?_
      rintro e w3 ⟨rfl, hb3⟩
      have K3 := Lib.hid (K0.out.below_ hb3)
      have HB3 := Lib.hid (Below.next HB0.out hb3 HB0.out.size)
      clear hb3 r0 r1 r2 r3 r4 r5 r6 r7 r8
      have q1 : w3.cell? ⟨wr.heap.size, 1, none⟩ = some (.int .i64 y.user) := K3.out.cell 1
      have q3 : w3.cell? ⟨wr.heap.size, 3, none⟩ = some (.int .i64 y.rect.c1) := K3.out.cell 3
      have q4 : w3.cell? ⟨wr.heap.size, 4, none⟩ = some (.int .i64 y.rect.r1) := K3.out.cell 4
      have q5 : w3.cell? ⟨wr.heap.size, 5, none⟩ = some (.int .i64 y.rect.c2) := K3.out.cell 5
      have q6 : w3.cell? ⟨wr.heap.size, 6, none⟩ = some (.int .i64 y.rect.r2) := K3.out.cell 6
      cases c2 : mutB y.kind with
      | false =>
        have HY := Lib.hid (show evE u z y = 2 by unfold evE; rw [if_neg (by omega), if_pos (.inl c2)])
        go_wp2
        go_ret
        exact ⟨by rw [HE.out (by rw [HY.out]; decide), HY.out]; rfl, HB3.out⟩
      | true =>
      cases c3 : hasI (allI u) y.user with
      | false =>
        have HY := Lib.hid (show evE u z y = 2 by unfold evE; rw [if_neg (by omega), if_pos (.inr c3)])
        go_wp2_with fail
        refine (has_any _ _ _ HU.out.1 HU.out.2).mono ?_
        rintro e w4 ⟨rfl, rfl⟩
        rw [c3]
        go_wp2
        go_ret
        exact ⟨by rw [HE.out (by rw [HY.out]; decide), HY.out]; rfl, HB3.out⟩
      | true =>
      go_wp2_with fail
      refine (has_any _ _ _ HU.out.1 HU.out.2).mono ?_
      rintro e w4 ⟨rfl, rfl⟩
      rw [c3]
      go_wp2_with fail
      refine (rect_check _ _ _ _ _).mono ?_
      rintro e w4 ⟨rfl, hb4⟩
      have K4 := Lib.hid (K3.out.below_ hb4)
      have HB4 := Lib.hid (Below.next HB3.out hb4 HB3.out.size)
      clear hb4 q1 q3 q4 q5 q6
      by_cases hre : rctE ⟨y.rect.c1, y.rect.r1, y.rect.c2, y.rect.r2⟩ = 0
      rotate_left
      · have HY := Lib.hid (show evE u z y = 3 by unfold evE; rw [if_neg (by omega), if_neg (by rw [c2, c3]; simp), if_pos (by simpa using hre)])
        have t1 : (rctE ⟨y.rect.c1, y.rect.r1, y.rect.c2, y.rect.r2⟩ != 0) = true := by simpa using hre
        clear hre
        go_wp2
        go_ret
        exact ⟨by rw [HE.out (by rw [HY.out]; decide), HY.out]; rfl, HB4.out⟩
      rw [hre]
      have q0 : w4.cell? ⟨wr.heap.size, 0, none⟩ = some (.int .i64 y.step) := K4.out.cell 0
      have q1 : w4.cell? ⟨wr.heap.size, 1, none⟩ = some (.int .i64 y.user) := K4.out.cell 1
      have q8 : w4.cell? ⟨wr.heap.size, 8, none⟩ = some (.int .u64 y.to_) := K4.out.cell 8
      by_cases c4 : bits .andNot .u64 y.to_ (allI u) = 0
      rotate_left
      · have HY := Lib.hid (show evE u z y = 2 by unfold evE; rw [if_neg (by omega), if_neg (by rw [c2, c3]; simp), if_neg (by simpa using hre), if_pos (.inl c4)])
        have t3 : (bits .andNot .u64 y.to_ (allI u) != 0) = true := by simpa using c4
        clear hre c4
        go_wp2
        go_ret
        exact ⟨by rw [HE.out (by rw [HY.out]; decide), HY.out]; rfl, HB4.out⟩
      have t3 : (bits .andNot .u64 y.to_ (allI u) != 0) = false := by simpa using c4
      cases c5 : hasI y.to_ y.user with
      | false =>
        have HY := Lib.hid (show evE u z y = 2 by unfold evE; rw [if_neg (by omega), if_neg (by rw [c2, c3]; simp), if_neg (by simpa using hre), if_pos (.inr c5)])
        clear hre c4
        go_wp2_with fail
        refine (has_any _ _ _ HT.out.1 HT.out.2).mono ?_
        rintro e w5 ⟨rfl, rfl⟩
        rw [c5]
        go_wp2
        go_ret
        exact ⟨by rw [HE.out (by rw [HY.out]; decide), HY.out]; rfl, HB4.out⟩
      | true =>
      have HY := Lib.hid (show evE u z y = 0 by unfold evE; rw [if_neg (by omega), if_neg (by rw [c2, c3]; simp), if_neg (by simpa using hre), if_neg (by rw [c5]; simp [c4])])
      clear hre c4
      go_wp2_with fail
      refine (has_any _ _ _ HT.out.1 HT.out.2).mono ?_
      rintro e w5 ⟨rfl, rfl⟩
      rw [c5]
      go_wp2
      exact ⟨⟨k + 1, y.step, by omega, rfl, by go_num, HB4.out, by rw [HF.out, HD.out, HY.out]; rfl⟩, by simp [intOf]; omega⟩
    · have HE := Lib.hid (show audE u l m = rlsE u (-1) m by
        rw [HE0.out, HF.out, List.drop_eq_nil_of_le (by omega)]
        rfl)
      clear HF HE0 hbw
      go_wp2_with fail
      go_loopw [9, 73] (fun last i wr => ∃ (k : Nat) (z : Int), k ≤ m.length ∧ last = .int .i64 z ∧ i = .int .i64 k ∧ Below w.heap.size w wr ∧ rlsE u (-1) m = rlsE u z (m.drop k)) (fun _ i _ => m.length - (intOf i).toNat)
      case atStart => exact ⟨0, -1, by omega, rfl, rfl, HBW.out, by simp⟩
      case round =>
        obtain ⟨k2, z, hk2, rfl, rfl, hbw, hfe⟩ := hrel
        have HF := Lib.hid hfe
        clear HBW
        have HBW := Lib.hid hbw
        clear hfe
        by_cases hlt2 : k2 < m.length
        · have hy : m[k2]? = some m[k2] := List.getElem?_eq_getElem hlt2
          obtain ⟨b, o, hA, hb2, r⟩ := (HS2.out.below (hbw.mono hB)).get 11 cRls_len hy
          have HD := Lib.hid (rlsE_drop u z hy)
          generalize m[k2] = y at *
          subst hA
          have HE1 : RowKit.Hid (rlE u z y ≠ 0 → audE u l m = rlE u z y) := Lib.hid (fun h => by rw [HE.out, HF.out, HD.out, if_pos h])
          have r0 : wr.cell? ⟨b, o + k2 * 11, none⟩ = some (.int .i64 y.step) := r 0 _ rfl
          have r1 : wr.cell? ⟨b, o + k2 * 11 + 1, none⟩ = some (.int .i64 y.at_.col) := r 1 _ rfl
          have r2 : wr.cell? ⟨b, o + k2 * 11 + 2, none⟩ = some (.int .i64 y.at_.row) := r 2 _ rfl
          have r3 : wr.cell? ⟨b, o + k2 * 11 + 3, none⟩ = some (.int .i64 y.node) := r 3 _ rfl
          have r4 : wr.cell? ⟨b, o + k2 * 11 + 4, none⟩ = some (.int .u8 y.fn) := r 4 _ rfl
          have r5 : wr.cell? ⟨b, o + k2 * 11 + 5, none⟩ = some (.int .i64 y.rect.c1) := r 5 _ rfl
          have r6 : wr.cell? ⟨b, o + k2 * 11 + 6, none⟩ = some (.int .i64 y.rect.r1) := r 6 _ rfl
          have r7 : wr.cell? ⟨b, o + k2 * 11 + 7, none⟩ = some (.int .i64 y.rect.c2) := r 7 _ rfl
          have r8 : wr.cell? ⟨b, o + k2 * 11 + 8, none⟩ = some (.int .i64 y.rect.r2) := r 8 _ rfl
          have r9 : wr.cell? ⟨b, o + k2 * 11 + 9, none⟩ = some (.int .i64 y.grant) := r 9 _ rfl
          have r10 : wr.cell? ⟨b, o + k2 * 11 + 10, none⟩ = some (.int .u64 y.to_) := r 10 _ rfl
          have K0 := Lib.hid (Blk.new wr 116 (cRls y).toArray)
          have HB0 := Lib.hid (show Below w.heap.size w (wr.alloc (.cells (cRls y).toArray 116)) from HBW.out.alloc HBW.out.size _)
          rw [show (cRls y).toArray = #[.int .i64 y.step, .int .i64 y.at_.col, .int .i64 y.at_.row, .int .i64 y.node, .int .u8 y.fn, .int .i64 y.rect.c1, .int .i64 y.rect.r1, .int .i64 y.rect.c2, .int .i64 y.rect.r2, .int .i64 y.grant, .int .u64 y.to_] from rfl] at K0 HB0
          have hi0 : (0 : Int) ≤ (k2 : Int) := Int.natCast_nonneg _
          have hi1 : (k2 : Int) < (m.length : Int) := by omega
          clear r hy hbw
          by_cases c1 : y.step < z
          · have HY := Lib.hid (show rlE u z y = 12 by unfold rlE; rw [if_pos c1])
            go_wp2
            go_ret
            exact ⟨by rw [HE1.out (by rw [HY.out]; decide), HY.out]; rfl, HB0.out⟩
          go_wp2_with fail
          refine (addr_valid _ _ _).mono ?_
          rintro e w3 ⟨rfl, hb3⟩
          have K3 := Lib.hid (K0.out.below_ hb3)
          have HB3 := Lib.hid (Below.next HB0.out hb3 HB0.out.size)
          clear hb3 r0 r1 r2 r3 r4 r5 r6 r7 r8 r9 r10
          have q5 : w3.cell? ⟨wr.heap.size, 5, none⟩ = some (.int .i64 y.rect.c1) := K3.out.cell 5
          have q6 : w3.cell? ⟨wr.heap.size, 6, none⟩ = some (.int .i64 y.rect.r1) := K3.out.cell 6
          have q7 : w3.cell? ⟨wr.heap.size, 7, none⟩ = some (.int .i64 y.rect.c2) := K3.out.cell 7
          have q8 : w3.cell? ⟨wr.heap.size, 8, none⟩ = some (.int .i64 y.rect.r2) := K3.out.cell 8
          cases c2 : validB y.at_.col y.at_.row with
          | false =>
            have HY := Lib.hid (show rlE u z y = 3 by unfold rlE; rw [if_neg (by omega), if_pos (.inl c2)])
            go_wp2
            go_ret
            exact ⟨by rw [HE1.out (by rw [HY.out]; decide), HY.out]; rfl, HB3.out⟩
          | true =>
          go_wp2_with fail
          refine (rect_check _ _ _ _ _).mono ?_
          rintro e w4 ⟨rfl, hb4⟩
          have K4 := Lib.hid (K3.out.below_ hb4)
          have HB4 := Lib.hid (Below.next HB3.out hb4 HB3.out.size)
          clear hb4 q5 q6 q7 q8
          by_cases hre : rctE ⟨y.rect.c1, y.rect.r1, y.rect.c2, y.rect.r2⟩ = 0
          rotate_left
          · have HY := Lib.hid (show rlE u z y = 3 by unfold rlE; rw [if_neg (by omega), if_pos (.inr (by simpa using hre))])
            have t1 : (rctE ⟨y.rect.c1, y.rect.r1, y.rect.c2, y.rect.r2⟩ != 0) = true := by simpa using hre
            clear hre
            go_wp2
            go_ret
            exact ⟨by rw [HE1.out (by rw [HY.out]; decide), HY.out]; rfl, HB4.out⟩
          rw [hre]
          have HN := Lib.hid (show ¬ (validB y.at_.col y.at_.row = false ∨ rctE y.rect ≠ 0) by rw [c2]; simpa using hre)
          clear hre
          have q0 : w4.cell? ⟨wr.heap.size, 0, none⟩ = some (.int .i64 y.step) := K4.out.cell 0
          have q3 : w4.cell? ⟨wr.heap.size, 3, none⟩ = some (.int .i64 y.node) := K4.out.cell 3
          have q4 : w4.cell? ⟨wr.heap.size, 4, none⟩ = some (.int .u8 y.fn) := K4.out.cell 4
          have q9 : w4.cell? ⟨wr.heap.size, 9, none⟩ = some (.int .i64 y.grant) := K4.out.cell 9
          have q10 : w4.cell? ⟨wr.heap.size, 10, none⟩ = some (.int .u64 y.to_) := K4.out.cell 10
          by_cases d1 : y.node < 0
          · have HY := Lib.hid (show rlE u z y = 2 by unfold rlE; rw [if_neg (by omega), if_neg HN.out, if_pos (.inl d1)])
            go_wp2
            go_ret
            exact ⟨by rw [HE1.out (by rw [HY.out]; decide), HY.out]; rfl, HB4.out⟩
          by_cases d2 : 256 ≤ y.node
          · have HY := Lib.hid (show rlE u z y = 2 by unfold rlE; rw [if_neg (by omega), if_neg HN.out, if_pos (.inr (.inl d2))])
            go_wp2
            go_ret
            exact ⟨by rw [HE1.out (by rw [HY.out]; decide), HY.out]; rfl, HB4.out⟩
          by_cases d3 : y.fn < 46
          · have HY := Lib.hid (show rlE u z y = 2 by unfold rlE; rw [if_neg (by omega), if_neg HN.out, if_pos (.inr (.inr (.inl d3)))])
            go_wp2
            go_ret
            exact ⟨by rw [HE1.out (by rw [HY.out]; decide), HY.out]; rfl, HB4.out⟩
          by_cases d4 : 50 < y.fn
          · have HY := Lib.hid (show rlE u z y = 2 by unfold rlE; rw [if_neg (by omega), if_neg HN.out, if_pos (.inr (.inr (.inr (.inl d4))))])
            go_wp2
            go_ret
            exact ⟨by rw [HE1.out (by rw [HY.out]; decide), HY.out]; rfl, HB4.out⟩
          by_cases d5 : y.grant < 0
          · have HY := Lib.hid (show rlE u z y = 2 by unfold rlE; rw [if_neg (by omega), if_neg HN.out, if_pos (.inr (.inr (.inr (.inr (.inl d5)))))])
            go_wp2
            go_ret
            exact ⟨by rw [HE1.out (by rw [HY.out]; decide), HY.out]; rfl, HB4.out⟩
          by_cases d6 : 64 ≤ y.grant
          · have HY := Lib.hid (show rlE u z y = 2 by unfold rlE; rw [if_neg (by omega), if_neg HN.out, if_pos (.inr (.inr (.inr (.inr (.inr (.inl d6))))))])
            go_wp2
            go_ret
            exact ⟨by rw [HE1.out (by rw [HY.out]; decide), HY.out]; rfl, HB4.out⟩
          by_cases d7 : bits .andNot .u64 y.to_ (allI u) ≠ 0
          · have HY := Lib.hid (show rlE u z y = 2 by unfold rlE; rw [if_neg (by omega), if_neg HN.out, if_pos (.inr (.inr (.inr (.inr (.inr (.inr (d7)))))))])
            have t3 : (bits .andNot .u64 y.to_ (allI u) != 0) = true := by simpa using d7
            clear d7
            go_wp2
            go_ret
            exact ⟨by rw [HE1.out (by rw [HY.out]; decide), HY.out]; rfl, HB4.out⟩
          have HY := Lib.hid (show rlE u z y = 0 by unfold rlE; rw [if_neg (by omega), if_neg HN.out, if_neg (by rw [not_or, not_or, not_or, not_or, not_or, not_or]; exact ⟨by omega, by omega, by omega, by omega, by omega, by omega, d7⟩)])
          have t3 : (bits .andNot .u64 y.to_ (allI u) != 0) = false := by simpa using d7
          clear d7
          go_wp2
          exact ⟨⟨k2 + 1, y.step, by omega, rfl, by go_num, HB4.out, by rw [HF.out, HD.out, HY.out]; rfl⟩, by simp [intOf]; omega⟩
        · go_wp2
          go_ret
          refine ⟨?_, HBW.out⟩
          rw [HE.out, HF.out, List.drop_eq_nil_of_le (by omega)]
          rfl
end Go.Proofs.YtamcgggmfghljaaGreatDoor
