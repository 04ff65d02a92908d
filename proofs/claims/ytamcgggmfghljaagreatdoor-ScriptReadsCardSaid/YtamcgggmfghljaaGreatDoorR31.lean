/- Layer 5 (program): conversions of texts to bools. · Layer 1 (program): numbers read: that something is handed back. -/
import Derived.BigQuiet
import Derived.Deep.QuietTactic
import Derived.Laws.IdiomStrings
import Derived.Test.YtamcgggmfghljaaGreatDoorR30
import Derived.Test.YtamcgggmfghljaaGreatDoorR2
namespace Go.Proofs.YtamcgggmfghljaaGreatDoor
open Go.RowKit

theorem boolV_form (s : Bytes) : ∃ k m, boolV s = .agg #[.int .u8 k, .int .i64 m, str []] := by
  unfold boolV
  split
  · exact ⟨_, _, rfl⟩
  · split
    · exact ⟨_, _, rfl⟩
    · exact ⟨_, _, rfl⟩

set_option maxRecDepth 100000 in
set_option maxHeartbeats 4000000 in
theorem convert_bool (s : Bytes) (w : World) (hs : txtE s = 0) (hl : s.length ≤ 1000000) :
    Calls Tryz.prog 238 #[vVal 3 0 s, .func (.func 239) #[] #[]] w fun u w' => u = .returned (boolV s) ∧ Below w.heap.size w w' := by
  have HS := Lib.hid hs
  clear hs
  go_enter Tryz.func238, Tryz.ntmps238
  go_wp2_with fail
  go_region_held3 (fun W : World => W.cell? ⟨w.heap.size, 0, none⟩ = some (.int .u8 3) ∧ W.cell? ⟨w.heap.size, 1, none⟩ = some (.int .i64 0) ∧ W.cell? ⟨w.heap.size, 2, none⟩ = some (str s))
    (first
     | (go_simp; done)
     | exact ⟨(hb1.cell (p := ⟨w.heap.size, 0, none⟩) (by simp; omega)).trans (by go_simp), (hb1.cell (p := ⟨w.heap.size, 1, none⟩) (by simp; omega)).trans (by go_simp), (hb1.cell (p := ⟨w.heap.size, 2, none⟩) (by simp; omega)).trans (by go_simp)⟩)
    (first
     | (go_at_call 239; refine (tobool_1 s _).mono ?_; rintro e w1 ⟨n, rfl, hmp, hb1⟩; have hlk := run_look_at (P := Tryz.prog) _ _ _ Tryz.underlying253 Tryz.underlying5 w1 n (boolMap s) 5 3 3 _ hmp rfl; clear hmp))
  have hb9 := hb1
  have c0 : w1.cell? ⟨w.heap.size, 0, none⟩ = some (.int .u8 3) := (hb1.cell (p := ⟨w.heap.size, 0, none⟩) (by simp; omega)).trans (by go_simp)
  have c1 : w1.cell? ⟨w.heap.size, 1, none⟩ = some (.int .i64 0) := (hb1.cell (p := ⟨w.heap.size, 1, none⟩) (by simp; omega)).trans (by go_simp)
  have c2 : w1.cell? ⟨w.heap.size, 2, none⟩ = some (str s) := (hb1.cell (p := ⟨w.heap.size, 2, none⟩) (by simp; omega)).trans (by go_simp)
  have hz := hb1.size
  have HB := Lib.hid (show Below w.heap.size w w1 from Below.next (by go_grown) hb1 (by simp; omega))
  have hf : ∀ o, w1.frozen? ⟨w.heap.size + 1, o, none⟩ = _ := fun o => hb1.frozen (p := ⟨w.heap.size + 1, o, none⟩) (by simp)
  have hc : ∀ o, w1.cell? ⟨w.heap.size + 1, o, none⟩ = _ := fun o => hb1.cell (p := ⟨w.heap.size + 1, o, none⟩) (by simp)
  clear hb1 hb9 hlk
  go_wp2_with fail
  refine (val_check s _ HS.out hl).mono ?_
  rintro e w2 ⟨rfl, hb2⟩
  have hz2 := hb2.size
  have HB2 := Lib.hid (show Below w.heap.size w w2 from Below.next HB.out hb2 HB.out.size)
  simp at hz
  have hf2 : ∀ o, w2.frozen? ⟨w.heap.size + 1, o, none⟩ = _ := fun o => (hb2.frozen (p := ⟨w.heap.size + 1, o, none⟩) (by simp; omega)).trans (hf o)
  have hc2 : ∀ o, w2.cell? ⟨w.heap.size + 1, o, none⟩ = _ := fun o => (hb2.cell (p := ⟨w.heap.size + 1, o, none⟩) (by simp; omega)).trans (hc o)
  clear hb2 hf hc c0 c1 c2
  go_wp2_with fail
  refine (named_any s _ hl).mono ?_
  rintro e w3 ⟨rfl, hb3⟩
  obtain ⟨k, m, hk⟩ := boolV_form s
  rw [hk]
  have HK := Lib.hid hk
  have hz3 := hb3.size
  have HB3 := Lib.hid (show Below w.heap.size w w3 from Below.next HB2.out hb3 HB2.out.size)
  have hf3 : ∀ o, w3.frozen? ⟨w.heap.size + 1, o, none⟩ = _ := fun o => (hb3.frozen (p := ⟨w.heap.size + 1, o, none⟩) (by simp; omega)).trans (hf2 o)
  have hc3 : ∀ o, w3.cell? ⟨w.heap.size + 1, o, none⟩ = _ := fun o => (hb3.cell (p := ⟨w.heap.size + 1, o, none⟩) (by simp; omega)).trans (hc2 o)
  have hl3 : w.heap.size + 1 < w3.heap.size := by omega
  clear hb3 hf2 hc2 hk
  go_wp2
  refine bodyPost_ret (v := .agg #[.int .u8 k, .int .i64 m, str []]) (by simp (maxDischargeDepth := 9) [results, Tryz.results238, go_sem, hc3]) rfl ?_
  exact ⟨by rw [HK.out], Below.setCell (Below.setCell (Below.setCell HB3.out (by simp) _) (by simp) _) (by simp) _⟩

set_option maxRecDepth 100000 in
set_option maxHeartbeats 4000000 in
theorem tobool_any (s : Bytes) (w : World) (hs : txtE s = 0) (hl : s.length ≤ 1000000) :
    Calls Tryz.prog 215 #[vVal 3 0 s] w fun u w' => u = .returned (boolV s) ∧ Below w.heap.size w w' := by
  have HS := Lib.hid hs
  clear hs
  obtain ⟨k, m, hk⟩ := boolV_form s
  have HK := Lib.hid hk
  clear hk
  go_enter Tryz.func215, Tryz.ntmps215
  go_wp2_with fail
  refine (convert_bool s _ HS.out hl).mono ?_
  rintro e w1 ⟨rfl, hb1⟩
  have hz1 := hb1.size
  try simp at hz1
  have hB1 : Below w.heap.size w w1 := Below.next (by go_grown) hb1 (by first | (simp; done) | (simp; omega) | omega)
  have hc1_0 : ∀ o, w1.cell? ⟨w.heap.size, o, none⟩ = _ := fun o => hb1.cell (p := ⟨w.heap.size, o, none⟩) (by first | (simp; done) | (simp; omega) | omega)
  have hl1_0 : w.heap.size < w1.heap.size := by omega
  have hm1_0 : w.heap.size ≤ w1.heap.size := by omega
  have hn1_0 : w.heap.size ≤ w1.heap.size + 1 := by omega
  have ho1_0 : w.heap.size ≤ w1.heap.size + 1 + 1 := by omega
  have hf1_0 : ∀ o, w1.frozen? ⟨w.heap.size, o, none⟩ = _ := fun o => hb1.frozen (p := ⟨w.heap.size, o, none⟩) (by first | (simp; done) | (simp; omega) | omega)
  have hc1_1 : ∀ o, w1.cell? ⟨w.heap.size + 1, o, none⟩ = _ := fun o => hb1.cell (p := ⟨w.heap.size + 1, o, none⟩) (by first | (simp; done) | (simp; omega) | omega)
  have hl1_1 : w.heap.size + 1 < w1.heap.size := by omega
  have hm1_1 : w.heap.size + 1 ≤ w1.heap.size := by omega
  have hn1_1 : w.heap.size + 1 ≤ w1.heap.size + 1 := by omega
  have ho1_1 : w.heap.size + 1 ≤ w1.heap.size + 1 + 1 := by omega
  have hf1_1 : ∀ o, w1.frozen? ⟨w.heap.size + 1, o, none⟩ = _ := fun o => hb1.frozen (p := ⟨w.heap.size + 1, o, none⟩) (by first | (simp; done) | (simp; omega) | omega)
  rw [HK.out]
  go_wp2
  refine bodyPost_ret (v := .agg #[.int .u8 k, .int .i64 m, str []]) (by simp (maxDischargeDepth := 9) [results, Tryz.results215, go_sem, hc1_1]) rfl ?_
  exact ⟨by rw [HK.out], by go_grown⟩

end Go.Proofs.YtamcgggmfghljaaGreatDoor

namespace Go.Proofs.YtamcgggmfghljaaGreatDoor
open Go.RowKit

set_option maxRecDepth 100000 in
set_option maxHeartbeats 4000000 in
theorem signed_any (lo : Int) (n : Bool) (w : World) (h0 : 0 ≤ lo) (h1 : lo < 18446744073709551616) :
    Calls Tryz.prog 245 #[.int .u64 0, .int .u64 lo, .bool n] w fun u w' => ∃ (v : Int) (b : Bool), u = .returned (.tuple #[.int .i64 v, .bool b]) ∧ Below w.heap.size w w' := by
  go_enter Tryz.func245, Tryz.ntmps245
  go_wp2
  all_goals go_ret2
  · exact ⟨0, false, rfl, by go_grown⟩
  · exact ⟨-lo, true, rfl, by go_grown⟩
  · exact ⟨lo, true, rfl, by go_grown⟩

set_option maxRecDepth 100000 in
set_option maxHeartbeats 4000000 in
theorem digits_some (s : ByteArray) (w : World) (hl : s.size ≤ 1000000) :
    Calls Tryz.prog 244 #[.string s] w fun u w' => ∃ n : Nat, n ≤ s.size ∧ u = .returned (.int .i64 n) ∧ Below w.heap.size w w' := by
  go_enter Tryz.func244, Tryz.ntmps244
  go_wp2
  go_loopw [6] (fun i wr => ∃ k : Nat, k ≤ s.size ∧ i = .int .i64 k ∧ w = wr) (fun i _ => s.size - (intOf i).toNat)
  case atStart => exact ⟨0, by omega, rfl, rfl⟩
  case round =>
    obtain ⟨k, hk, rfl, rfl⟩ := hrel
    by_cases hlt : k < s.size
    · have hi0 : (0 : Int) ≤ (k : Int) := Int.natCast_nonneg _
      have hi1 : (k : Int) < (s.size : Int) := by omega
      go_wp2
      all_goals first
        | exact ⟨⟨k + 1, by omega, by go_num, trivial⟩, by simp [intOf]; omega⟩
        | (go_ret
           exact ⟨k, by omega, rfl, by go_grown⟩)
    · go_wp2
      go_ret
      exact ⟨s.size, Nat.le_refl _, rfl, by go_grown⟩

set_option maxRecDepth 100000 in
set_option maxHeartbeats 4000000 in
theorem digits_9 (w : World) :
    Calls Tryz.prog 244 #[str [57]] w fun u w' => u = .returned (.int .i64 1) ∧ Below w.heap.size w w' := by
  go_enter Tryz.func244, Tryz.ntmps244
  go_wp2
  refine wp_loop_rounds 2 ?_
  rw [rounds_succ]
  go_wp2
  rw [rounds_succ]
  go_wp2
  go_ret
  exact ⟨rfl, by go_grown⟩

set_option maxRecDepth 100000 in
set_option maxHeartbeats 4000000 in
theorem parse_9 (w : World) :
    Calls Tryz.prog 220 #[str [57]] w fun u w' => u = .returned (.tuple #[.int .i64 90000, .int .i64 0]) ∧ Below w.heap.size w w' := by
  go_enter Tryz.func220, Tryz.ntmps220
  go_wp2_with fail
  refine (digits_9 _).mono ?_
  rintro e w1 ⟨rfl, hb1⟩
  go_wp2_with fail
  go_quiet (fail)
  have ht : ((⟨#[57]⟩ : ByteArray).extract 0 1 ++ ((⟨#[]⟩ : ByteArray) ++ ⟨#[48, 48, 48, 48, 48]⟩).extract 0 4) = ⟨#[57, 48, 48, 48, 48]⟩ := by rfl
  obtain ⟨row, cap, hcv, r0, r1, r2, r3, r4⟩ : ∃ (row : Array Value) (cap : Nat), (convert 9 59 (.string ((⟨#[57]⟩ : ByteArray).extract 0 1 ++ ((⟨#[]⟩ : ByteArray) ++ ⟨#[48, 48, 48, 48, 48]⟩).extract 0 4))).run Tryz.prog (w1.drewN nq) = .ok (.slice (some ⟨w1.heap.size, 0, none⟩) 5 cap) ((w1.drewN nq).drew.alloc (.cells row 5 (row.size, row.size + 1))) ∧
      row[0]? = some (.int .u8 57) ∧ row[1]? = some (.int .u8 48) ∧ row[2]? = some (.int .u8 48) ∧ row[3]? = some (.int .u8 48) ∧ row[4]? = some (.int .u8 48) := by
    have h := run_bytes_of_string (P := Tryz.prog) (w1.drewN nq) 9 59 5 ⟨#[57, 48, 48, 48, 48]⟩ rfl rfl rfl
    rw [ht]
    exact ⟨_, _, h, bytesRow_at ⟨#[57, 48, 48, 48, 48]⟩ _ 0 (by decide), bytesRow_at ⟨#[57, 48, 48, 48, 48]⟩ _ 1 (by decide), bytesRow_at ⟨#[57, 48, 48, 48, 48]⟩ _ 2 (by decide), bytesRow_at ⟨#[57, 48, 48, 48, 48]⟩ _ 3 (by decide), bytesRow_at ⟨#[57, 48, 48, 48, 48]⟩ _ 4 (by decide)⟩
  have HB1 := Lib.hid hb1
  have c0 : ((w1.drewN (nq + 1)).alloc (.cells row 5 (row.size, row.size + 1))).cell? ⟨w1.heap.size, 0, none⟩ = some (.int .u8 57) := (World.cell?_alloc_mark (w1.drewN (nq + 1)) row 5 (row.size, row.size + 1) 0).trans r0
  have c1 : ((w1.drewN (nq + 1)).alloc (.cells row 5 (row.size, row.size + 1))).cell? ⟨w1.heap.size, 1, none⟩ = some (.int .u8 48) := (World.cell?_alloc_mark (w1.drewN (nq + 1)) row 5 (row.size, row.size + 1) 1).trans r1
  have c2 : ((w1.drewN (nq + 1)).alloc (.cells row 5 (row.size, row.size + 1))).cell? ⟨w1.heap.size, 2, none⟩ = some (.int .u8 48) := (World.cell?_alloc_mark (w1.drewN (nq + 1)) row 5 (row.size, row.size + 1) 2).trans r2
  have c3 : ((w1.drewN (nq + 1)).alloc (.cells row 5 (row.size, row.size + 1))).cell? ⟨w1.heap.size, 3, none⟩ = some (.int .u8 48) := (World.cell?_alloc_mark (w1.drewN (nq + 1)) row 5 (row.size, row.size + 1) 3).trans r3
  have c4 : ((w1.drewN (nq + 1)).alloc (.cells row 5 (row.size, row.size + 1))).cell? ⟨w1.heap.size, 4, none⟩ = some (.int .u8 48) := (World.cell?_alloc_mark (w1.drewN (nq + 1)) row 5 (row.size, row.size + 1) 4).trans r4
  clear ht hb1 r0 r1 r2 r3 r4
  go_wp2
  refine wp_loop_rounds 6 ?_
  rw [rounds_succ]
  go_wp2
  rw [rounds_succ]
  go_wp2
  rw [rounds_succ]
  go_wp2
  rw [rounds_succ]
  go_wp2
  rw [rounds_succ]
  go_wp2
  rw [rounds_succ]
  go_wp2
  go_ret2
  exact ⟨rfl, (Below.drewN_ HB1.out _).alloc HB1.out.size _⟩

end Go.Proofs.YtamcgggmfghljaaGreatDoor
