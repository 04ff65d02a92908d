/- long: is a script too long for a short statement? · long: is a script too long for a short statement? · long: is a script too long for a short statement? · long: is a script too long for a short statement? · Go's strconv.Itoa below ten. -/
import Derived.Test.YtamcgggmfghljaaGreatDoorM9
import Derived.Test.YtamcgggmfghljaaGreatDoorM10
import Derived.Test.YtamcgggmfghljaaGreatDoorM2
namespace Go.Proofs.YtamcgggmfghljaaGreatDoor
open Go.RowKit

set_option maxRecDepth 100000 in
set_option maxHeartbeats 4000000 in
theorem long_2 (s : Scp) (e r g l x o : Value) (B : Nat) (w : World) (_hB : B ≤ w.heap.size) (hb : RdScp w B s e r g l x o) (hr : Reach s) (P1 : ¬ (160 : Int) < (s.book.entries.length : Int) + (s.book.rules.length : Int) + (s.book.grants.length : Int) + (s.book.log.length : Int) + (s.book.releases.length : Int))(P2 : (300 : Int) < (s.ops.length : Int))(P3 : (4096 : Int) < (s.ops.length : Int))(P4 : (4101 : Int) < (s.ops.length : Int)) :
    Calls Tryz.prog 9 #[vScp s e r g l x o] w fun u w' => u = .returned (.bool (longS s)) ∧ Below w.heap.size w w' := by
  obtain ⟨Ae, ce, rfl, _⟩ := id hb.book.ents
  obtain ⟨Ar, cr, rfl, _⟩ := id hb.book.ruls
  obtain ⟨Ag, cg, rfl, _⟩ := id hb.book.grts
  obtain ⟨Al, cl, rfl, _⟩ := id hb.book.evts
  obtain ⟨Ax, cx, rfl, _⟩ := id hb.book.rlss
  obtain ⟨Ao, co, rfl, _⟩ := id hb.ops
  obtain ⟨q1, q2, q3, q4⟩ := sum_q hr
  have HR := Lib.hid hr
  have HB := Lib.hid (show RdScp w B s _ _ _ _ _ _ from hb)
  clear hb hr
  have P1S := sum_0 P1
  have HS := Lib.hid (long_head (head_3 (sumS s.book) P2 P4))
  clear P1S
  have f1 : ((160 : Int) < (s.book.entries.length : Int) + (s.book.rules.length : Int) + (s.book.grants.length : Int) + (s.book.log.length : Int) + (s.book.releases.length : Int)) = False := eq_false P1
  have f2 : ((300 : Int) < (s.ops.length : Int)) = True := eq_true P2
  have f3 : ((s.ops.length : Int) ≤ (4096 : Int)) = False := eq_false (Int.not_le.2 P3)
  have f4 : ((4101 : Int) < (s.ops.length : Int)) = True := eq_true P4
  clear P1 P2 P3 P4
  go_enter Tryz.func9, Tryz.ntmps9
  go_wp2
  go_ret
  exact ⟨by rw [HS.out]; rfl, by go_grown⟩

set_option maxRecDepth 100000 in
set_option maxHeartbeats 4000000 in
theorem long_3 (s : Scp) (e r g l x o : Value) (B : Nat) (w : World) (_hB : B ≤ w.heap.size) (hb : RdScp w B s e r g l x o) (hr : Reach s) (P1 : ¬ (160 : Int) < (s.book.entries.length : Int) + (s.book.rules.length : Int) + (s.book.grants.length : Int) + (s.book.log.length : Int) + (s.book.releases.length : Int))(P2 : (300 : Int) < (s.ops.length : Int))(P3 : ¬ (4096 : Int) < (s.ops.length : Int)) :
    Calls Tryz.prog 9 #[vScp s e r g l x o] w fun u w' => u = .returned (.bool (longS s)) ∧ Below w.heap.size w w' := by
  obtain ⟨Ae, ce, rfl, _⟩ := id hb.book.ents
  obtain ⟨Ar, cr, rfl, _⟩ := id hb.book.ruls
  obtain ⟨Ag, cg, rfl, _⟩ := id hb.book.grts
  obtain ⟨Al, cl, rfl, _⟩ := id hb.book.evts
  obtain ⟨Ax, cx, rfl, _⟩ := id hb.book.rlss
  obtain ⟨Ao, co, rfl, _⟩ := id hb.ops
  obtain ⟨q1, q2, q3, q4⟩ := sum_q hr
  have HR := Lib.hid hr
  have HB := Lib.hid (show RdScp w B s _ _ _ _ _ _ from hb)
  clear hb hr
  have P1S := sum_0 P1
  have HS := Lib.hid (long_head (head_2 (sumS s.book) P2 P3))
  clear P1S
  have f1 : ((160 : Int) < (s.book.entries.length : Int) + (s.book.rules.length : Int) + (s.book.grants.length : Int) + (s.book.log.length : Int) + (s.book.releases.length : Int)) = False := eq_false P1
  have f2 : ((300 : Int) < (s.ops.length : Int)) = True := eq_true P2
  have f3 : ((s.ops.length : Int) ≤ (4096 : Int)) = True := eq_true (Int.not_lt.1 P3)
  clear P1 P2 P3
  go_enter Tryz.func9, Tryz.ntmps9
  go_wp2
  go_ret
  exact ⟨by rw [HS.out]; rfl, by go_grown⟩

end Go.Proofs.YtamcgggmfghljaaGreatDoor

namespace Go.Proofs.YtamcgggmfghljaaGreatDoor
open Go.RowKit

set_option maxRecDepth 100000 in
set_option maxHeartbeats 4000000 in
theorem long_4 (s : Scp) (e r g l x o : Value) (B : Nat) (w : World) (hB : B ≤ w.heap.size) (hb : RdScp w B s e r g l x o) (hr : Reach s) (P1 : ¬ (160 : Int) < (s.book.entries.length : Int) + (s.book.rules.length : Int) + (s.book.grants.length : Int) + (s.book.log.length : Int) + (s.book.releases.length : Int))(P2 : (300 : Int) < (s.ops.length : Int))(P3 : (4096 : Int) < (s.ops.length : Int))(P4 : ¬ (4101 : Int) < (s.ops.length : Int)) :
    Calls Tryz.prog 9 #[vScp s e r g l x o] w fun u w' => u = .returned (.bool (longS s)) ∧ Below w.heap.size w w' := by
  obtain ⟨Ae, ce, rfl, -⟩ := id hb.book.ents
  obtain ⟨Ar, cr, rfl, -⟩ := id hb.book.ruls
  obtain ⟨Ag, cg, rfl, -⟩ := id hb.book.grts
  obtain ⟨Al, cl, rfl, -⟩ := id hb.book.evts
  obtain ⟨Ax, cx, rfl, -⟩ := id hb.book.rlss
  obtain ⟨Ao, co, rfl, -⟩ := id hb.ops
  obtain ⟨q1, q2, q3, q4⟩ := sum_q hr
  have HR := Lib.hid hr
  have HB := Lib.hid (show RdScp w B s _ _ _ _ _ _ from hb)
  clear hb hr
  have P1S := sum_0 P1
  have HS := Lib.hid (head_5 P1S P3 P4)
  clear P1S
  have f1 : ((160 : Int) < (s.book.entries.length : Int) + (s.book.rules.length : Int) + (s.book.grants.length : Int) + (s.book.log.length : Int) + (s.book.releases.length : Int)) = False := eq_false P1
  have f2 : ((300 : Int) < (s.ops.length : Int)) = True := eq_true P2
  have f3 : ((s.ops.length : Int) ≤ (4096 : Int)) = False := eq_false (Int.not_le.2 P3)
  have f4 : ((4101 : Int) < (s.ops.length : Int)) = False := eq_false P4
  clear P1 P2 P3 P4
  go_enter Tryz.func9, Tryz.ntmps9
  go_wp2_with fail
  clear q1 q2 q3 q4 f1 f2 f3 f4
  go_loopw [4] (fun i wr => ∃ k : Nat, k ≤ s.book.entries.length ∧ i = .int .i64 k ∧ (s.book.entries.take k).any (fun x => decide (600 < x.input.length)) = false ∧ (Blk wr w.heap.size 31 #[.int .i64 s.book.users, .slice Ae s.book.entries.length ce, .slice Ar s.book.rules.length cr, .slice Ag s.book.grants.length cg, .slice Al s.book.log.length cl, .slice Ax s.book.releases.length cx, .int .i64 s.book.step, .slice Ao s.ops.length co] ∧ Blk wr (w.heap.size + 1) 28 #[.int .i64 s.book.users, .slice Ae s.book.entries.length ce, .slice Ar s.book.rules.length cr, .slice Ag s.book.grants.length cg, .slice Al s.book.log.length cl, .slice Ax s.book.releases.length cx, .int .i64 s.book.step] ∧ Below w.heap.size w wr)) (fun i _ => s.book.entries.length - (intOf i).toNat)
  case atStart => exact ⟨0, by omega, rfl, by simp, (Blk.new w _ _).alloc _, by simpa using Blk.new (w.alloc _) 28 _, by go_grown⟩
  case round =>
    obtain ⟨k, hk, rfl, ha, ka, kb, hbw⟩ := hrel
    have HA := Lib.hid ha
    have KA := Lib.hid ka
    have KB := Lib.hid kb
    have HW := Lib.hid hbw
    have y1 := kb.cell 1
    have z7 := ka.cell 7
    clear ha ka kb hbw
    by_cases hlt : k < s.book.entries.length
    · have hx : s.book.entries[k]? = some s.book.entries[k] := List.getElem?_eq_getElem hlt
      have HK := Lib.hid (show k + 1 ≤ s.book.entries.length from hlt)
      have HW1 := Lib.hid (reach_next HR.out.n1 hlt)
      obtain ⟨b1, o1, rfl, _, r1⟩ := (HB.out.book.ents.below (HW.out.mono hB)).get 3 cEnt_len hx
      have HX := Lib.hid hx
      clear hx
      generalize s.book.entries[k] = x at *
      have r2 : wr.cell? ⟨b1, o1 + k * 3 + 2, none⟩ = some (str x.input) := r1 2 _ rfl
      clear r1
      by_cases hin : (600 : Int) < (x.input.length : Int)
      · go_wp2
        go_ret
        exact ⟨by rw [long_ent (any_at _ HX.out (decide_eq_true (by omega)))]; rfl, HW.out⟩
      · go_wp2
        exact ⟨⟨k + 1, HK.out, val_next HW1.out, any_take _ HX.out HA.out (decide_eq_false (by omega)), KA.out, KB.out, HW.out⟩, meas_next HW1.out HK.out⟩
    · have hke : k = s.book.entries.length := by omega
      subst hke
      have he := HA.out
      rw [List.take_length] at he
      have HE := Lib.hid he
      clear he HA
      go_wp2
      go_loopw [5] (fun i wr => ∃ k : Nat, k ≤ s.ops.length ∧ i = .int .i64 k ∧ (s.ops.take k).any (fun x => decide (600 < x.input.length)) = false ∧ (Blk wr w.heap.size 31 #[.int .i64 s.book.users, .slice Ae s.book.entries.length ce, .slice Ar s.book.rules.length cr, .slice Ag s.book.grants.length cg, .slice Al s.book.log.length cl, .slice Ax s.book.releases.length cx, .int .i64 s.book.step, .slice Ao s.ops.length co] ∧ Blk wr (w.heap.size + 1) 28 #[.int .i64 s.book.users, .slice Ae s.book.entries.length ce, .slice Ar s.book.rules.length cr, .slice Ag s.book.grants.length cg, .slice Al s.book.log.length cl, .slice Ax s.book.releases.length cx, .int .i64 s.book.step] ∧ Below w.heap.size w wr)) (fun i _ => s.ops.length - (intOf i).toNat)
      case atStart => exact ⟨0, by omega, rfl, by simp, KA.out, KB.out, HW.out⟩
      case round =>
        clear KA KB HW y1 z7
        obtain ⟨k, hk, rfl, ha, ka, kb, hbw⟩ := hrel
        have HA := Lib.hid ha
        have KA := Lib.hid ka
        have KB := Lib.hid kb
        have HW := Lib.hid hbw
        have z7 := ka.cell 7
        clear ha ka kb hbw
        by_cases hlt : k < s.ops.length
        · have hx : s.ops[k]? = some s.ops[k] := List.getElem?_eq_getElem hlt
          have HK := Lib.hid (show k + 1 ≤ s.ops.length from hlt)
          have HW1 := Lib.hid (reach_next HR.out.n6 hlt)
          obtain ⟨b1, o1, rfl, _, r1⟩ := (HB.out.ops.below (HW.out.mono hB)).get 13 cOpr_len hx
          have HX := Lib.hid hx
          clear hx
          generalize s.ops[k] = x at *
          have r2 : wr.cell? ⟨b1, o1 + k * 13 + 6, none⟩ = some (str x.input) := r1 6 _ rfl
          clear r1
          by_cases hin : (600 : Int) < (x.input.length : Int)
          · go_wp2
            go_ret
            exact ⟨by rw [long_opr (any_at _ HX.out (decide_eq_true (by omega)))]; rfl, HW.out⟩
          · go_wp2
            exact ⟨⟨k + 1, HK.out, val_next HW1.out, any_take _ HX.out HA.out (decide_eq_false (by omega)), KA.out, KB.out, HW.out⟩, meas_next HW1.out HK.out⟩
        · have hke : k = s.ops.length := by omega
          subst hke
          have he := HA.out
          rw [List.take_length] at he
          go_wp2
          go_ret
          exact ⟨by rw [long_not HS.out HE.out he]; rfl, HW.out⟩

end Go.Proofs.YtamcgggmfghljaaGreatDoor

namespace Go.Proofs.YtamcgggmfghljaaGreatDoor
open Go.RowKit

set_option maxRecDepth 100000 in
set_option maxHeartbeats 4000000 in
theorem long_5 (s : Scp) (e r g l x o : Value) (B : Nat) (w : World) (hB : B ≤ w.heap.size) (hb : RdScp w B s e r g l x o) (hr : Reach s) (P1 : ¬ (160 : Int) < (s.book.entries.length : Int) + (s.book.rules.length : Int) + (s.book.grants.length : Int) + (s.book.log.length : Int) + (s.book.releases.length : Int))(P2 : ¬ (300 : Int) < (s.ops.length : Int)) :
    Calls Tryz.prog 9 #[vScp s e r g l x o] w fun u w' => u = .returned (.bool (longS s)) ∧ Below w.heap.size w w' := by
  obtain ⟨Ae, ce, rfl, -⟩ := id hb.book.ents
  obtain ⟨Ar, cr, rfl, -⟩ := id hb.book.ruls
  obtain ⟨Ag, cg, rfl, -⟩ := id hb.book.grts
  obtain ⟨Al, cl, rfl, -⟩ := id hb.book.evts
  obtain ⟨Ax, cx, rfl, -⟩ := id hb.book.rlss
  obtain ⟨Ao, co, rfl, -⟩ := id hb.ops
  obtain ⟨q1, q2, q3, q4⟩ := sum_q hr
  have HR := Lib.hid hr
  have HB := Lib.hid (show RdScp w B s _ _ _ _ _ _ from hb)
  clear hb hr
  have P1S := sum_0 P1
  have HS := Lib.hid (head_4 P1S P2)
  clear P1S
  have f1 : ((160 : Int) < (s.book.entries.length : Int) + (s.book.rules.length : Int) + (s.book.grants.length : Int) + (s.book.log.length : Int) + (s.book.releases.length : Int)) = False := eq_false P1
  have f2 : ((300 : Int) < (s.ops.length : Int)) = False := eq_false P2
  clear P1 P2
  go_enter Tryz.func9, Tryz.ntmps9
  go_wp2_with fail
  clear q1 q2 q3 q4 f1 f2
  go_loopw [4] (fun i wr => ∃ k : Nat, k ≤ s.book.entries.length ∧ i = .int .i64 k ∧ (s.book.entries.take k).any (fun x => decide (600 < x.input.length)) = false ∧ (Blk wr w.heap.size 31 #[.int .i64 s.book.users, .slice Ae s.book.entries.length ce, .slice Ar s.book.rules.length cr, .slice Ag s.book.grants.length cg, .slice Al s.book.log.length cl, .slice Ax s.book.releases.length cx, .int .i64 s.book.step, .slice Ao s.ops.length co] ∧ Blk wr (w.heap.size + 1) 28 #[.int .i64 s.book.users, .slice Ae s.book.entries.length ce, .slice Ar s.book.rules.length cr, .slice Ag s.book.grants.length cg, .slice Al s.book.log.length cl, .slice Ax s.book.releases.length cx, .int .i64 s.book.step] ∧ Below w.heap.size w wr)) (fun i _ => s.book.entries.length - (intOf i).toNat)
  case atStart => exact ⟨0, by omega, rfl, by simp, (Blk.new w _ _).alloc _, by simpa using Blk.new (w.alloc _) 28 _, by go_grown⟩
  case round =>
    obtain ⟨k, hk, rfl, ha, ka, kb, hbw⟩ := hrel
    have HA := Lib.hid ha
    have KA := Lib.hid ka
    have KB := Lib.hid kb
    have HW := Lib.hid hbw
    have y1 := kb.cell 1
    have z7 := ka.cell 7
    clear ha ka kb hbw
    by_cases hlt : k < s.book.entries.length
    · have hx : s.book.entries[k]? = some s.book.entries[k] := List.getElem?_eq_getElem hlt
      have HK := Lib.hid (show k + 1 ≤ s.book.entries.length from hlt)
      have HW1 := Lib.hid (reach_next HR.out.n1 hlt)
      obtain ⟨b1, o1, rfl, _, r1⟩ := (HB.out.book.ents.below (HW.out.mono hB)).get 3 cEnt_len hx
      have HX := Lib.hid hx
      clear hx
      generalize s.book.entries[k] = x at *
      have r2 : wr.cell? ⟨b1, o1 + k * 3 + 2, none⟩ = some (str x.input) := r1 2 _ rfl
      clear r1
      by_cases hin : (600 : Int) < (x.input.length : Int)
      · go_wp2
        go_ret
        exact ⟨by rw [long_ent (any_at _ HX.out (decide_eq_true (by omega)))]; rfl, HW.out⟩
      · go_wp2
        exact ⟨⟨k + 1, HK.out, val_next HW1.out, any_take _ HX.out HA.out (decide_eq_false (by omega)), KA.out, KB.out, HW.out⟩, meas_next HW1.out HK.out⟩
    · have hke : k = s.book.entries.length := by omega
      subst hke
      have he := HA.out
      rw [List.take_length] at he
      have HE := Lib.hid he
      clear he HA
      go_wp2
      go_loopw [5] (fun i wr => ∃ k : Nat, k ≤ s.ops.length ∧ i = .int .i64 k ∧ (s.ops.take k).any (fun x => decide (600 < x.input.length)) = false ∧ (Blk wr w.heap.size 31 #[.int .i64 s.book.users, .slice Ae s.book.entries.length ce, .slice Ar s.book.rules.length cr, .slice Ag s.book.grants.length cg, .slice Al s.book.log.length cl, .slice Ax s.book.releases.length cx, .int .i64 s.book.step, .slice Ao s.ops.length co] ∧ Blk wr (w.heap.size + 1) 28 #[.int .i64 s.book.users, .slice Ae s.book.entries.length ce, .slice Ar s.book.rules.length cr, .slice Ag s.book.grants.length cg, .slice Al s.book.log.length cl, .slice Ax s.book.releases.length cx, .int .i64 s.book.step] ∧ Below w.heap.size w wr)) (fun i _ => s.ops.length - (intOf i).toNat)
      case atStart => exact ⟨0, by omega, rfl, by simp, KA.out, KB.out, HW.out⟩
      case round =>
        clear KA KB HW y1 z7
        obtain ⟨k, hk, rfl, ha, ka, kb, hbw⟩ := hrel
        have HA := Lib.hid ha
        have KA := Lib.hid ka
        have KB := Lib.hid kb
        have HW := Lib.hid hbw
        have z7 := ka.cell 7
        clear ha ka kb hbw
        by_cases hlt : k < s.ops.length
        · have hx : s.ops[k]? = some s.ops[k] := List.getElem?_eq_getElem hlt
          have HK := Lib.hid (show k + 1 ≤ s.ops.length from hlt)
          have HW1 := Lib.hid (reach_next HR.out.n6 hlt)
          obtain ⟨b1, o1, rfl, _, r1⟩ := (HB.out.ops.below (HW.out.mono hB)).get 13 cOpr_len hx
          have HX := Lib.hid hx
          clear hx
          generalize s.ops[k] = x at *
          have r2 : wr.cell? ⟨b1, o1 + k * 13 + 6, none⟩ = some (str x.input) := r1 6 _ rfl
          clear r1
          by_cases hin : (600 : Int) < (x.input.length : Int)
          · go_wp2
            go_ret
            exact ⟨by rw [long_opr (any_at _ HX.out (decide_eq_true (by omega)))]; rfl, HW.out⟩
          · go_wp2
            exact ⟨⟨k + 1, HK.out, val_next HW1.out, any_take _ HX.out HA.out (decide_eq_false (by omega)), KA.out, KB.out, HW.out⟩, meas_next HW1.out HK.out⟩
        · have hke : k = s.ops.length := by omega
          subst hke
          have he := HA.out
          rw [List.take_length] at he
          go_wp2
          go_ret
          exact ⟨by rw [long_not HS.out HE.out he]; rfl, HW.out⟩

end Go.Proofs.YtamcgggmfghljaaGreatDoor

namespace Go.Proofs.YtamcgggmfghljaaGreatDoor
open Go.RowKit

theorem long_any (s : Scp) (e r g l x o : Value) (B : Nat) (w : World) (hB : B ≤ w.heap.size) (hb : RdScp w B s e r g l x o) (hr : Reach s) :
    Calls Tryz.prog 9 #[vScp s e r g l x o] w fun u w' => u = .returned (.bool (longS s)) ∧ Below w.heap.size w w' := by
  by_cases P1 : (160 : Int) < (s.book.entries.length : Int) + (s.book.rules.length : Int) + (s.book.grants.length : Int) + (s.book.log.length : Int) + (s.book.releases.length : Int)
  · exact long_1 s e r g l x o B w hB hb hr P1
  · by_cases P2 : (300 : Int) < (s.ops.length : Int)
    · by_cases P3 : (4096 : Int) < (s.ops.length : Int)
      · by_cases P4 : (4101 : Int) < (s.ops.length : Int)
        · exact long_2 s e r g l x o B w hB hb hr P1 P2 P3 P4
        · exact long_4 s e r g l x o B w hB hb hr P1 P2 P3 P4
      · exact long_3 s e r g l x o B w hB hb hr P1 P2 P3
    · exact long_5 s e r g l x o B w hB hb hr P1 P2

theorem short_lists {s : Scp} (h : longS s = false) : sumS s.book ≤ 160 ∧ s.ops.length ≤ 4101 := by
  unfold longS headS at h
  simp only [Bool.or_eq_false_iff, Bool.and_eq_false_iff, decide_eq_false_iff_not] at h
  omega

end Go.Proofs.YtamcgggmfghljaaGreatDoor

namespace Go.Proofs.YtamcgggmfghljaaGreatDoor
open Go.RowKit

theorem dig_at (n : Nat) (h : n < 10) : (⟨#[48, 49, 50, 51, 52, 53, 54, 55, 56, 57, 97, 98, 99, 100, 101, 102, 103, 104, 105, 106, 107, 108, 109, 110, 111, 112, 113, 114, 115, 116, 117, 118, 119, 120, 121, 122]⟩ : ByteArray).extract n (n + 1) = ⟨[dig n].toArray⟩ := by
  have e : n = 0 ∨ n = 1 ∨ n = 2 ∨ n = 3 ∨ n = 4 ∨ n = 5 ∨ n = 6 ∨ n = 7 ∨ n = 8 ∨ n = 9 := by omega
  rcases e with rfl | rfl | rfl | rfl | rfl | rfl | rfl | rfl | rfl | rfl <;> rfl
set_option maxRecDepth 100000 in
set_option maxHeartbeats 4000000 in
theorem small_any (n : Nat) (h : n < 10) (w : World) :
    Calls Tryz.prog 233 #[.int .i64 n] w fun u w' => u = .returned (str [dig n]) ∧ w = w' := by
  have H := Lib.hid (dig_at n h)
  go_enter Tryz.func233, Tryz.ntmps233
  go_wp2
  go_ret
  exact ⟨by rw [H.out]; rfl, rfl⟩

set_option maxRecDepth 100000 in
set_option maxHeartbeats 4000000 in
theorem itoa_small (n : Nat) (h : n < 10) (w : World) :
    Calls Tryz.prog 129 #[.int .i64 n] w fun u w' => u = .returned (str [dig n]) ∧ w = w' := by
  go_enter Tryz.func129, Tryz.ntmps129
  go_wp2_with (first | (go_at_call 233; refine (small_any n h _).mono ?_; rintro e w1 ⟨rfl, rfl⟩) | go_in)
  go_ret
  exact ⟨rfl, rfl⟩

end Go.Proofs.YtamcgggmfghljaaGreatDoor
