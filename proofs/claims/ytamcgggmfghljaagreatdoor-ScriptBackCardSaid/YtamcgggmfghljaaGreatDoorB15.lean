/- Layer 41 (program): a number's bytes. · Layer 41 (program): a bool's bytes, a string's. · Layer 41 (program): an address's, rights' bytes (printed by tools/gen_enc.py). · Layer 41 (program): a range's bytes. · Layer 41 (program): the closures that write an element's bytes (printed by tools/gen_enc.p -/
import Derived.Laws.ShiftsVarLaws
import Derived.Deep.RegionHeld3
import Derived.Test.YtamcgggmfghljaaGreatDoorB4
import Derived.Test.YtamcgggmfghljaaGreatDoorB6
set_option maxRecDepth 100000
set_option maxHeartbeats 8000000
namespace Go.Proofs.YtamcgggmfghljaaGreatDoor
open Go.RowKit
theorem num_int (v : Value) (l : Bytes) (n : Int) (w : World) (h : Out w v l) (hl : l.length ≤ 100000000000) :
    Calls Tryz.prog 84 #[v, .int .i64 n] w fun e w' => ∃ v', e = .returned v' ∧ Out w' v' (l ++ numI n) ∧ OutTo w v w' v' := by
  obtain ⟨i0, hi0, hz0, hz1, hz2⟩ := info_parts (show (Tryz.prog.info? 5).map (fun i => (i.zero, i.size, i.bytes)) = some (some (.int .u8 0), 1, 1) by kernel_rfl)
  obtain ⟨m, hm, hm2⟩ : ∃ m : Nat, IntKind.u64.wrap n = (m : Int) ∧ m < 18446744073709551616 := ⟨(n % 18446744073709551616).toNat, by rw [IntKind.wrap_u64]; omega, by omega⟩
  have hN : Hid (numI n = numB m) := by
    unfold Hid numI
    rw [← IntKind.wrap_u64, hm]
    rfl
  have h8 := beB_le8 hm2
  have H0 := Lib.hid h
  clear h
  go_enter Tryz.func84, Tryz.ntmps84
  go_wp2
  go_loop [6, 7] (fun s x => ∃ k y : Nat, s = .int .i64 k ∧ x = .int .u64 y ∧ (beB m).length = k + (beB y).length) (fun _ x => (intOf x).toNat)
  case atStart => exact ⟨0, m, rfl, rfl, by simp⟩
  case round =>
    obtain ⟨k, y, rfl, rfl, hk⟩ := hrel
    by_cases hy : 0 < y
    · have hk2 := beB_pos_len (n := y) (by omega)
      have HK := Lib.hid hk
      go_wp2
      exact ⟨⟨k + 1, y / 256, rfl, rfl, by omega⟩, by simp [intOf]; omega⟩
    · obtain rfl : y = 0 := by omega
      rw [beB_zero] at hk
      have hk1 : k = (beB m).length := by simpa using hk.symm
      have HK := Lib.hid hk1
      have e1 : l ++ [UInt8.ofNat (k : Int).toNat] = l ++ [UInt8.ofNat (beB m).length] := by rw [hk1]; rfl
      have E1 := Lib.hid e1
      have hk9 : k ≤ 8 := by omega
      clear hk hk1 e1
      go_wp2_with (at_builtin; refine wpList_push rfl _ _ 59 rfl i0 rfl hi0 hz0 hz1 hz2 v l rfl (H0.out.alloc _) w.heap.size k rfl (by omega) (by omega) (World.cell?_alloc_at _ _ _ _ rfl) (by omega) ?_; intro v1 w1 o1 t1)
      have T1 := Lib.hid (((OutTo.refl w v).alloc _).trans t1)
      rw [E1.out] at o1
      have O1 := Lib.hid o1
      clear t1 o1
      go_wp2
      go_loopw [0, 8] (fun u i wr => ∃ j : Nat, j ≤ k ∧ i = .int .i64 ((k : Int) - 1 - j) ∧ Out wr u (l ++ UInt8.ofNat (beB m).length :: (beB m).take j) ∧ OutTo w v wr u) (fun _ i _ => (intOf i + 1).toNat)
      case atStart => exact ⟨0, by omega, by simp, by simpa using O1.out, T1.out⟩
      case round =>
        obtain ⟨j, hj, rfl, oj, tj⟩ := hrel
        have OJ := Lib.hid oj
        have TJ := Lib.hid tj
        clear oj tj
        by_cases hlt : j < k
        · have b0 : (0 : Int) ≤ (k : Int) - 1 - j := by omega
          have hb := beB_byte m (k - 1 - j)
          rw [HK.out] at hb
          have ht := beB_take (n := m) (j := j) (by rw [← HK.out]; omega)
          rw [← hb, ← HK.out] at ht
          have HT := Lib.hid ht
          clear hb ht
          go_wp2_with (at_builtin; refine wpList_push rfl _ _ 59 rfl i0 rfl hi0 hz0 hz1 hz2 u0 _ rfl (OJ.out.alloc _) wr.heap.size ((m : Int) / 2 ^ (8 * (k - 1 - j)) % 256) rfl (by omega) (by omega) (World.cell?_alloc_at _ _ _ _ rfl) (by simp; omega) ?_; intro v2 w2 o2 t2)
          have T2 := Lib.hid (TJ.out.trans (((OutTo.refl wr u0).alloc _).trans t2))
          have O2 := Lib.hid o2
          clear t2 o2
          go_wp2
          refine ⟨⟨j + 1, by omega, by go_num, ?_, T2.out⟩, by simp [intOf]; omega⟩
          rw [HT.out]
          simpa using O2.out
        · go_wp2
          go_ret
          have hjk : j = (beB m).length := by rw [← HK.out]; omega
          refine ⟨_, rfl, ?_, TJ.out⟩
          have := OJ.out
          rw [hjk, List.take_length] at this
          rw [hN.out]
          exact this
theorem num_u64 (v : Value) (l : Bytes) (n : Int) (w : World) (hn0 : 0 ≤ n) (hn1 : n < 18446744073709551616) (h : Out w v l) (hl : l.length ≤ 100000000000) :
    Calls Tryz.prog 96 #[v, .int .u64 n] w fun e w' => ∃ v', e = .returned v' ∧ Out w' v' (l ++ numI n) ∧ OutTo w v w' v' := by
  obtain ⟨i0, hi0, hz0, hz1, hz2⟩ := info_parts (show (Tryz.prog.info? 5).map (fun i => (i.zero, i.size, i.bytes)) = some (some (.int .u8 0), 1, 1) by kernel_rfl)
  obtain ⟨m, rfl⟩ : ∃ m : Nat, n = (m : Int) := ⟨n.toNat, by omega⟩
  have hm2 : m < 18446744073709551616 := by omega
  have hN : Hid (numI (m : Int) = numB m) := by
    unfold Hid numI
    congr 1
    omega
  clear hn0 hn1
  have h8 := beB_le8 hm2
  have H0 := Lib.hid h
  clear h
  go_enter Tryz.func96, Tryz.ntmps96
  go_wp2
  go_loop [6, 7] (fun s x => ∃ k y : Nat, s = .int .i64 k ∧ x = .int .u64 y ∧ (beB m).length = k + (beB y).length) (fun _ x => (intOf x).toNat)
  case atStart => exact ⟨0, m, rfl, rfl, by simp⟩
  case round =>
    obtain ⟨k, y, rfl, rfl, hk⟩ := hrel
    by_cases hy : 0 < y
    · have hk2 := beB_pos_len (n := y) (by omega)
      have HK := Lib.hid hk
      go_wp2
      exact ⟨⟨k + 1, y / 256, rfl, rfl, by omega⟩, by simp [intOf]; omega⟩
    · obtain rfl : y = 0 := by omega
      rw [beB_zero] at hk
      have hk1 : k = (beB m).length := by simpa using hk.symm
      have HK := Lib.hid hk1
      have e1 : l ++ [UInt8.ofNat (k : Int).toNat] = l ++ [UInt8.ofNat (beB m).length] := by rw [hk1]; rfl
      have E1 := Lib.hid e1
      have hk9 : k ≤ 8 := by omega
      clear hk hk1 e1
      go_wp2_with (at_builtin; refine wpList_push rfl _ _ 59 rfl i0 rfl hi0 hz0 hz1 hz2 v l rfl (H0.out.alloc _) w.heap.size k rfl (by omega) (by omega) (World.cell?_alloc_at _ _ _ _ rfl) (by omega) ?_; intro v1 w1 o1 t1)
      have T1 := Lib.hid (((OutTo.refl w v).alloc _).trans t1)
      rw [E1.out] at o1
      have O1 := Lib.hid o1
      clear t1 o1
      go_wp2
      go_loopw [0, 8] (fun u i wr => ∃ j : Nat, j ≤ k ∧ i = .int .i64 ((k : Int) - 1 - j) ∧ Out wr u (l ++ UInt8.ofNat (beB m).length :: (beB m).take j) ∧ OutTo w v wr u) (fun _ i _ => (intOf i + 1).toNat)
      case atStart => exact ⟨0, by omega, by simp, by simpa using O1.out, T1.out⟩
      case round =>
        obtain ⟨j, hj, rfl, oj, tj⟩ := hrel
        have OJ := Lib.hid oj
        have TJ := Lib.hid tj
        clear oj tj
        by_cases hlt : j < k
        · have b0 : (0 : Int) ≤ (k : Int) - 1 - j := by omega
          have hb := beB_byte m (k - 1 - j)
          rw [HK.out] at hb
          have ht := beB_take (n := m) (j := j) (by rw [← HK.out]; omega)
          rw [← hb, ← HK.out] at ht
          have HT := Lib.hid ht
          clear hb ht
          go_wp2_with (at_builtin; refine wpList_push rfl _ _ 59 rfl i0 rfl hi0 hz0 hz1 hz2 u0 _ rfl (OJ.out.alloc _) wr.heap.size ((m : Int) / 2 ^ (8 * (k - 1 - j)) % 256) rfl (by omega) (by omega) (World.cell?_alloc_at _ _ _ _ rfl) (by simp; omega) ?_; intro v2 w2 o2 t2)
          have T2 := Lib.hid (TJ.out.trans (((OutTo.refl wr u0).alloc _).trans t2))
          have O2 := Lib.hid o2
          clear t2 o2
          go_wp2
          refine ⟨⟨j + 1, by omega, by go_num, ?_, T2.out⟩, by simp [intOf]; omega⟩
          rw [HT.out]
          simpa using O2.out
        · go_wp2
          go_ret
          have hjk : j = (beB m).length := by rw [← HK.out]; omega
          refine ⟨_, rfl, ?_, TJ.out⟩
          have := OJ.out
          rw [hjk, List.take_length] at this
          rw [hN.out]
          exact this
theorem num_u8 (v : Value) (l : Bytes) (n : Int) (w : World) (h : Out w v l) (hl : l.length ≤ 100000000000) :
    Calls Tryz.prog 97 #[v, .int .u8 n] w fun e w' => ∃ v', e = .returned v' ∧ Out w' v' (l ++ numI n) ∧ OutTo w v w' v' := by
  obtain ⟨i0, hi0, hz0, hz1, hz2⟩ := info_parts (show (Tryz.prog.info? 5).map (fun i => (i.zero, i.size, i.bytes)) = some (some (.int .u8 0), 1, 1) by kernel_rfl)
  obtain ⟨m, hm, hm2⟩ : ∃ m : Nat, IntKind.u64.wrap n = (m : Int) ∧ m < 18446744073709551616 := ⟨(n % 18446744073709551616).toNat, by rw [IntKind.wrap_u64]; omega, by omega⟩
  have hN : Hid (numI n = numB m) := by
    unfold Hid numI
    rw [← IntKind.wrap_u64, hm]
    rfl
  have h8 := beB_le8 hm2
  have H0 := Lib.hid h
  clear h
  go_enter Tryz.func97, Tryz.ntmps97
  go_wp2
  go_loop [6, 7] (fun s x => ∃ k y : Nat, s = .int .i64 k ∧ x = .int .u64 y ∧ (beB m).length = k + (beB y).length) (fun _ x => (intOf x).toNat)
  case atStart => exact ⟨0, m, rfl, rfl, by simp⟩
  case round =>
    obtain ⟨k, y, rfl, rfl, hk⟩ := hrel
    by_cases hy : 0 < y
    · have hk2 := beB_pos_len (n := y) (by omega)
      have HK := Lib.hid hk
      go_wp2
      exact ⟨⟨k + 1, y / 256, rfl, rfl, by omega⟩, by simp [intOf]; omega⟩
    · obtain rfl : y = 0 := by omega
      rw [beB_zero] at hk
      have hk1 : k = (beB m).length := by simpa using hk.symm
      have HK := Lib.hid hk1
      have e1 : l ++ [UInt8.ofNat (k : Int).toNat] = l ++ [UInt8.ofNat (beB m).length] := by rw [hk1]; rfl
      have E1 := Lib.hid e1
      have hk9 : k ≤ 8 := by omega
      clear hk hk1 e1
      go_wp2_with (at_builtin; refine wpList_push rfl _ _ 59 rfl i0 rfl hi0 hz0 hz1 hz2 v l rfl (H0.out.alloc _) w.heap.size k rfl (by omega) (by omega) (World.cell?_alloc_at _ _ _ _ rfl) (by omega) ?_; intro v1 w1 o1 t1)
      have T1 := Lib.hid (((OutTo.refl w v).alloc _).trans t1)
      rw [E1.out] at o1
      have O1 := Lib.hid o1
      clear t1 o1
      go_wp2
      go_loopw [0, 8] (fun u i wr => ∃ j : Nat, j ≤ k ∧ i = .int .i64 ((k : Int) - 1 - j) ∧ Out wr u (l ++ UInt8.ofNat (beB m).length :: (beB m).take j) ∧ OutTo w v wr u) (fun _ i _ => (intOf i + 1).toNat)
      case atStart => exact ⟨0, by omega, by simp, by simpa using O1.out, T1.out⟩
      case round =>
        obtain ⟨j, hj, rfl, oj, tj⟩ := hrel
        have OJ := Lib.hid oj
        have TJ := Lib.hid tj
        clear oj tj
        by_cases hlt : j < k
        · have b0 : (0 : Int) ≤ (k : Int) - 1 - j := by omega
          have hb := beB_byte m (k - 1 - j)
          rw [HK.out] at hb
          have ht := beB_take (n := m) (j := j) (by rw [← HK.out]; omega)
          rw [← hb, ← HK.out] at ht
          have HT := Lib.hid ht
          clear hb ht
          go_wp2_with (at_builtin; refine wpList_push rfl _ _ 59 rfl i0 rfl hi0 hz0 hz1 hz2 u0 _ rfl (OJ.out.alloc _) wr.heap.size ((m : Int) / 2 ^ (8 * (k - 1 - j)) % 256) rfl (by omega) (by omega) (World.cell?_alloc_at _ _ _ _ rfl) (by simp; omega) ?_; intro v2 w2 o2 t2)
          have T2 := Lib.hid (TJ.out.trans (((OutTo.refl wr u0).alloc _).trans t2))
          have O2 := Lib.hid o2
          clear t2 o2
          go_wp2
          refine ⟨⟨j + 1, by omega, by go_num, ?_, T2.out⟩, by simp [intOf]; omega⟩
          rw [HT.out]
          simpa using O2.out
        · go_wp2
          go_ret
          have hjk : j = (beB m).length := by rw [← HK.out]; omega
          refine ⟨_, rfl, ?_, TJ.out⟩
          have := OJ.out
          rw [hjk, List.take_length] at this
          rw [hN.out]
          exact this
theorem flag_any (v : Value) (l : Bytes) (b : Bool) (w : World) (h : Out w v l) (hl : l.length ≤ 100000000000) :
    Calls Tryz.prog 95 #[v, .bool b] w fun e w' => ∃ v', e = .returned v' ∧ Out w' v' (l ++ flagB b) ∧ OutTo w v w' v' := by
  have H := Lib.hid h
  clear h
  cases b
  all_goals
    go_enter Tryz.func95, Tryz.ntmps95
    go_wp2_with fail
    refine (num_int v l _ _ H.out hl).mono ?_
    rintro e w1 ⟨v1, rfl, o1, t1⟩
    have O1 := Lib.hid o1
    have T1 := Lib.hid t1
    clear o1 t1
    go_wp2
    go_ret
    exact ⟨_, rfl, O1.out, T1.out⟩
theorem text_any (v : Value) (l s : Bytes) (w : World) (h : Out w v l) (hs : s.length ≤ 1000000000) (hl : l.length ≤ 10000000000) :
    Calls Tryz.prog 87 #[v, str s] w fun e w' => ∃ v', e = .returned v' ∧ Out w' v' (l ++ textB s) ∧ OutTo w v w' v' := by
  obtain ⟨i0, hi0, hz0, hz1, hz2⟩ := info_parts (show (Tryz.prog.info? 5).map (fun i => (i.zero, i.size, i.bytes)) = some (some (.int .u8 0), 1, 1) by kernel_rfl)
  have H := Lib.hid h
  clear h
  have n1 := numI_le s.length
  go_enter Tryz.func87, Tryz.ntmps87
  go_wp2_with fail
  refine (num_int v l _ _ H.out (by omega)).mono ?_
  rintro e w1 ⟨v1, rfl, o1, t1⟩
  have O1 := Lib.hid o1
  have T1 := Lib.hid t1
  clear o1 t1
  go_wp2_with (at_builtin; refine wpList_push_str rfl _ _ 59 9 rfl i0 rfl rfl hi0 hz0 hz1 hz2 v1 _ s rfl O1.out rfl (by simp; omega) (by omega) ?_; intro v2 w2 o2 t2)
  have O2 := Lib.hid o2
  have T2 := Lib.hid (T1.out.trans t2)
  clear o2 t2
  go_wp2
  go_ret
  exact ⟨_, rfl, by simpa [textB] using O2.out, T2.out⟩
theorem place_any (v : Value) (l : Bytes) (c r : Int) (w : World)  (h : Out w v l) (hl : l.length ≤ 1000000000) :
    Calls Tryz.prog 88 #[v, .agg #[.int .i64 c, .int .i64 r]] w fun e w' => ∃ v', e = .returned v' ∧ Out w' v' (l ++ placeB ⟨c, r⟩) ∧ OutTo w v w' v' := by
  have hv : v.ownBlock ≠ some w.heap.size := fun e => by have := h.lt _ e; omega
  have kk : Blk (w.alloc (.cells #[.int .i64 c, .int .i64 r] 56)).drew w.heap.size 56 #[.int .i64 c, .int .i64 r] := (Blk.new _ _ _).drew
  have TT := ((OutTo.refl w v).alloc (.cells #[.int .i64 c, .int .i64 r] 56)).drew
  have oo := (h.alloc (.cells #[.int .i64 c, .int .i64 r] 56)).drew
  clear h
  have n1 := numI_le c
  have n2 := numI_le r
  go_enter Tryz.func88, Tryz.ntmps88
  go_wp2_with fail
  go_region_held3 (fun W : World => W.cell? ⟨w.heap.size, 0, none⟩ = some (.int .i64 c) ∧ W.cell? ⟨w.heap.size, 1, none⟩ = some (.int .i64 r))
    (first
     | exact ⟨kk.cell 0, kk.cell 1⟩)
    (first
     | (go_at_call 84; refine (num_int _ _ _ _ oo (by first | omega | (simp; done) | (simp; omega))).mono ?_; rintro e w1 ⟨v1, rfl, oo, tt⟩; have hv' := tt.ne kk.lt hv; have kk := kk.outTo tt hv; have hv := hv'; have TT := TT.trans tt; clear tt hv'))
  have OO := Lib.hid oo
  have TT := Lib.hid TT
  go_wp2
  go_ret
  exact ⟨_, rfl, by simpa [placeB] using OO.out, TT.out⟩
theorem sets_any (v : Value) (l : Bytes) (a b c : Int) (w : World) (a0 : 0 ≤ a) (a1 : a < 18446744073709551616) (b0 : 0 ≤ b) (b1 : b < 18446744073709551616) (c0 : 0 ≤ c) (c1 : c < 18446744073709551616) (h : Out w v l) (hl : l.length ≤ 1000000000) :
    Calls Tryz.prog 91 #[v, .agg #[.int .u64 a, .int .u64 b, .int .u64 c]] w fun e w' => ∃ v', e = .returned v' ∧ Out w' v' (l ++ setsB ⟨a, b, c⟩) ∧ OutTo w v w' v' := by
  have hv : v.ownBlock ≠ some w.heap.size := fun e => by have := h.lt _ e; omega
  have kk : Blk (w.alloc (.cells #[.int .u64 a, .int .u64 b, .int .u64 c] 46)).drew w.heap.size 46 #[.int .u64 a, .int .u64 b, .int .u64 c] := (Blk.new _ _ _).drew
  have TT := ((OutTo.refl w v).alloc (.cells #[.int .u64 a, .int .u64 b, .int .u64 c] 46)).drew
  have oo := (h.alloc (.cells #[.int .u64 a, .int .u64 b, .int .u64 c] 46)).drew
  clear h
  have n1 := numI_le a
  have n2 := numI_le b
  have n3 := numI_le c
  go_enter Tryz.func91, Tryz.ntmps91
  go_wp2_with fail
  go_region_held3 (fun W : World => W.cell? ⟨w.heap.size, 0, none⟩ = some (.int .u64 a) ∧ W.cell? ⟨w.heap.size, 1, none⟩ = some (.int .u64 b) ∧ W.cell? ⟨w.heap.size, 2, none⟩ = some (.int .u64 c))
    (first
     | exact ⟨kk.cell 0, kk.cell 1, kk.cell 2⟩)
    (first
     | (go_at_call 96; refine (num_u64 _ _ _ _ (by assumption) (by assumption)  oo (by first | omega | (simp; done) | (simp; omega))).mono ?_; rintro e w1 ⟨v1, rfl, oo, tt⟩; have hv' := tt.ne kk.lt hv; have kk := kk.outTo tt hv; have hv := hv'; have TT := TT.trans tt; clear tt hv'))
  have OO := Lib.hid oo
  have TT := Lib.hid TT
  go_wp2
  go_ret
  exact ⟨_, rfl, by simpa [setsB] using OO.out, TT.out⟩
theorem corners_any (v : Value) (l : Bytes) (a b c d : Int) (w : World) (h : Out w v l) (hl : l.length ≤ 1000000000) :
    Calls Tryz.prog 92 #[v, .agg #[.int .i64 a, .int .i64 b, .int .i64 c, .int .i64 d]] w fun e w' => ∃ v', e = .returned v' ∧ Out w' v' (l ++ cornB ⟨a, b, c, d⟩) ∧ OutTo w v w' v' := by
  have H := Lib.hid h
  clear h
  have n1 := numI_le a
  have n2 := numI_le b
  have n3 := numI_le c
  have n4 := numI_le d
  go_enter Tryz.func92, Tryz.ntmps92
  go_wp2_with fail
  have hv : v.ownBlock ≠ some (w.heap.size + 1) := fun e => by have := H.out.lt _ e; omega
  have KK := Lib.hid (show Blk ((w.alloc (.cells #[.int .i64 a, .int .i64 b, .int .i64 c, .int .i64 d] 43)).alloc (.cells #[.int .i64 a, .int .i64 b, .int .i64 c, .int .i64 d] 3)) (w.heap.size + 1) 3 #[.int .i64 a, .int .i64 b, .int .i64 c, .int .i64 d] by have := Blk.new (w.alloc (.cells #[.int .i64 a, .int .i64 b, .int .i64 c, .int .i64 d] 43)) 3 #[.int .i64 a, .int .i64 b, .int .i64 c, .int .i64 d]; simpa using this)
  have hlen : ∀ k, (([a, b, c, d].take k).flatMap numI).length ≤ 36 := by
    intro k
    rcases k with _ | _ | _ | _ | _ | k <;> simp <;> omega
  have HL := Lib.hid hlen
  clear n1 n2 n3 n4 hlen
  go_loopw [0, 17] (fun u i wr => ∃ k : Nat, k ≤ 4 ∧ i = .int .i64 k ∧ Out wr u (l ++ ([a, b, c, d].take k).flatMap numI) ∧ OutTo w v wr u ∧ Blk wr (w.heap.size + 1) 3 #[.int .i64 a, .int .i64 b, .int .i64 c, .int .i64 d] ∧ u.ownBlock ≠ some (w.heap.size + 1)) (fun _ i _ => 4 - (intOf i).toNat)
  case atStart => exact ⟨0, by omega, rfl, by simpa using (H.out.alloc _).alloc _, ((OutTo.refl w v).alloc _).alloc _, KK.out, hv⟩
  case round =>
    obtain ⟨k, hk, rfl, oo, tt, kk, hu⟩ := hrel
    have OO := Lib.hid oo
    have TT := Lib.hid tt
    have KK := Lib.hid kk
    have hl2 := HL.out k
    clear oo tt
    by_cases hlt : k < 4
    · obtain ⟨x, hx, hc, hs⟩ : ∃ x, [a, b, c, d][k]? = some x ∧ (∀ W, Blk W (w.heap.size + 1) 3 #[.int .i64 a, .int .i64 b, .int .i64 c, .int .i64 d] → W.cell? ⟨w.heap.size + 1, k, none⟩ = some (.int .i64 x)) ∧ [a, b, c, d].take (k + 1) = [a, b, c, d].take k ++ [x] := by
        have e : k = 0 ∨ k = 1 ∨ k = 2 ∨ k = 3 := by omega
        rcases e with rfl | rfl | rfl | rfl
        · exact ⟨a, rfl, fun W hW => hW.cell 0, rfl⟩
        · exact ⟨b, rfl, fun W hW => hW.cell 1, rfl⟩
        · exact ⟨c, rfl, fun W hW => hW.cell 2, rfl⟩
        · exact ⟨d, rfl, fun W hW => hW.cell 3, rfl⟩
      have hcw := hc wr kk
      have HS := Lib.hid hs
      have hi0 : (0 : Int) ≤ (k : Int) := by omega
      have hi1 : (k : Int) < 4 := by omega
      have hg := kk.lt
      clear hc hs hx kk
      go_wp2_with fail
      refine (num_int _ _ _ _ OO.out (by rw [List.length_append]; omega)).mono ?_
      rintro e w1 ⟨v1, rfl, o1, t1⟩
      have O1 := Lib.hid o1
      have T1 := Lib.hid (TT.out.trans t1)
      have K1 := Lib.hid (KK.out.outTo t1 hu)
      have hu1 := t1.ne hg hu
      clear o1 t1
      go_wp2
      refine ⟨⟨k + 1, by omega, by go_num, ?_, T1.out, K1.out, hu1⟩, by simp [intOf]; omega⟩
      rw [HS.out]
      simpa using O1.out
    · go_wp2
      go_ret
      obtain rfl : k = 4 := by omega
      exact ⟨_, rfl, by simpa [cornB] using OO.out, TT.out⟩
theorem wr_ent (v : Value) (l : Bytes) (x : Ent) (w : World) (hi : x.input.length ≤ 1000000000) (h : Out w v l) (hl : l.length ≤ 100000000) :
    Calls Tryz.prog 86 #[v, .agg #[.int .i64 x.at_.col, .int .i64 x.at_.row, str x.input]] w fun e w' => ∃ v', e = .returned v' ∧ Out w' v' (l ++ entB x) ∧ OutTo w v w' v' := by
  have hv : v.ownBlock ≠ some w.heap.size := fun e => by have := h.lt _ e; omega
  have kk : Blk (w.alloc (.cells #[.int .i64 x.at_.col, .int .i64 x.at_.row, str x.input] 58)).drew w.heap.size 58 #[.int .i64 x.at_.col, .int .i64 x.at_.row, str x.input] := (Blk.new _ _ _).drew
  have TT := ((OutTo.refl w v).alloc (.cells #[.int .i64 x.at_.col, .int .i64 x.at_.row, str x.input] 58)).drew
  have oo := (h.alloc (.cells #[.int .i64 x.at_.col, .int .i64 x.at_.row, str x.input] 58)).drew
  clear h
  have m0 := numI_le x.at_.col
  have m1 := numI_le x.at_.row
  go_enter Tryz.func86, Tryz.ntmps86
  go_wp2_with fail
  go_region_held3 (fun W : World => W.cell? ⟨w.heap.size, 0, none⟩ = some (.int .i64 x.at_.col) ∧ W.cell? ⟨w.heap.size, 1, none⟩ = some (.int .i64 x.at_.row) ∧ W.cell? ⟨w.heap.size, 2, none⟩ = some (str x.input))
    (first
     | exact ⟨kk.cell 0, kk.cell 1, kk.cell 2⟩)
    (first
     | (go_at_call 87; refine (text_any _ _ _ _ oo (by omega) (by first | omega | (simp [placeB]; omega))).mono ?_; rintro e w1 ⟨v1, rfl, oo, tt⟩; have hv' := tt.ne kk.lt hv; have kk := kk.outTo tt hv; have hv := hv'; have TT := TT.trans tt; clear tt hv')
     | (go_at_call 88; refine (place_any _ _ _ _ _ oo (by first | omega | (simp [placeB, cornB, setsB]; omega))).mono ?_; rintro e w1 ⟨v1, rfl, oo, tt⟩; have hv' := tt.ne kk.lt hv; have kk := kk.outTo tt hv; have hv := hv'; have TT := TT.trans tt; clear tt hv'))
  have OO := Lib.hid oo
  have TT := Lib.hid TT
  go_wp2
  go_ret
  exact ⟨_, rfl, by simpa [cornB, placeB, textB, setsB, entB] using OO.out, TT.out⟩
theorem wr_rul (v : Value) (l : Bytes) (x : Rul) (w : World) (a0 : 0 ≤ x.rights.rd) (a1 : x.rights.rd < 18446744073709551616) (b0 : 0 ≤ x.rights.wr) (b1 : x.rights.wr < 18446744073709551616) (c0 : 0 ≤ x.rights.ow) (c1 : x.rights.ow < 18446744073709551616) (h : Out w v l) (hl : l.length ≤ 100000000) :
    Calls Tryz.prog 90 #[v, .agg #[.int .i64 x.rect.c1, .int .i64 x.rect.r1, .int .i64 x.rect.c2, .int .i64 x.rect.r2, .int .u64 x.rights.rd, .int .u64 x.rights.wr, .int .u64 x.rights.ow]] w fun e w' => ∃ v', e = .returned v' ∧ Out w' v' (l ++ rulB x) ∧ OutTo w v w' v' := by
  have hv : v.ownBlock ≠ some w.heap.size := fun e => by have := h.lt _ e; omega
  have kk : Blk (w.alloc (.cells #[.int .i64 x.rect.c1, .int .i64 x.rect.r1, .int .i64 x.rect.c2, .int .i64 x.rect.r2, .int .u64 x.rights.rd, .int .u64 x.rights.wr, .int .u64 x.rights.ow] 79)).drew w.heap.size 79 #[.int .i64 x.rect.c1, .int .i64 x.rect.r1, .int .i64 x.rect.c2, .int .i64 x.rect.r2, .int .u64 x.rights.rd, .int .u64 x.rights.wr, .int .u64 x.rights.ow] := (Blk.new _ _ _).drew
  have TT := ((OutTo.refl w v).alloc (.cells #[.int .i64 x.rect.c1, .int .i64 x.rect.r1, .int .i64 x.rect.c2, .int .i64 x.rect.r2, .int .u64 x.rights.rd, .int .u64 x.rights.wr, .int .u64 x.rights.ow] 79)).drew
  have oo := (h.alloc (.cells #[.int .i64 x.rect.c1, .int .i64 x.rect.r1, .int .i64 x.rect.c2, .int .i64 x.rect.r2, .int .u64 x.rights.rd, .int .u64 x.rights.wr, .int .u64 x.rights.ow] 79)).drew
  clear h
  have m0 := numI_le x.rect.c1
  have m1 := numI_le x.rect.r1
  have m2 := numI_le x.rect.c2
  have m3 := numI_le x.rect.r2
  go_enter Tryz.func90, Tryz.ntmps90
  go_wp2_with fail
  go_region_held3 (fun W : World => W.cell? ⟨w.heap.size, 0, none⟩ = some (.int .i64 x.rect.c1) ∧ W.cell? ⟨w.heap.size, 1, none⟩ = some (.int .i64 x.rect.r1) ∧ W.cell? ⟨w.heap.size, 2, none⟩ = some (.int .i64 x.rect.c2) ∧ W.cell? ⟨w.heap.size, 3, none⟩ = some (.int .i64 x.rect.r2) ∧ W.cell? ⟨w.heap.size, 4, none⟩ = some (.int .u64 x.rights.rd) ∧ W.cell? ⟨w.heap.size, 5, none⟩ = some (.int .u64 x.rights.wr) ∧ W.cell? ⟨w.heap.size, 6, none⟩ = some (.int .u64 x.rights.ow))
    (first
     | exact ⟨kk.cell 0, kk.cell 1, kk.cell 2, kk.cell 3, kk.cell 4, kk.cell 5, kk.cell 6⟩)
    (first
     | (go_at_call 91; refine (sets_any _ _ _ _ _ _ (by assumption) (by assumption) (by assumption) (by assumption) (by assumption) (by assumption)  oo (by first | omega | (simp [cornB]; omega))).mono ?_; rintro e w1 ⟨v1, rfl, oo, tt⟩; have hv' := tt.ne kk.lt hv; have kk := kk.outTo tt hv; have hv := hv'; have TT := TT.trans tt; clear tt hv')
     | (go_at_call 92; refine (corners_any _ _ _ _ _ _ _ oo (by first | omega | (simp [placeB, cornB, setsB]; omega))).mono ?_; rintro e w1 ⟨v1, rfl, oo, tt⟩; have hv' := tt.ne kk.lt hv; have kk := kk.outTo tt hv; have hv := hv'; have TT := TT.trans tt; clear tt hv'))
  have OO := Lib.hid oo
  have TT := Lib.hid TT
  go_wp2
  go_ret
  exact ⟨_, rfl, by simpa [cornB, placeB, textB, setsB, rulB] using OO.out, TT.out⟩
theorem wr_grt (v : Value) (l : Bytes) (x : Grt) (w : World) (a0 : 0 ≤ x.to_) (a1 : x.to_ < 18446744073709551616) (h : Out w v l) (hl : l.length ≤ 100000000) :
    Calls Tryz.prog 94 #[v, .agg #[.int .i64 x.rect.c1, .int .i64 x.rect.r1, .int .i64 x.rect.c2, .int .i64 x.rect.r2, .int .u8 x.fns, .int .u64 x.to_, .int .i64 x.by_, .bool x.revoked]] w fun e w' => ∃ v', e = .returned v' ∧ Out w' v' (l ++ grtB x) ∧ OutTo w v w' v' := by
  have hv : v.ownBlock ≠ some w.heap.size := fun e => by have := h.lt _ e; omega
  have kk : Blk (w.alloc (.cells #[.int .i64 x.rect.c1, .int .i64 x.rect.r1, .int .i64 x.rect.c2, .int .i64 x.rect.r2, .int .u8 x.fns, .int .u64 x.to_, .int .i64 x.by_, .bool x.revoked] 85)).drew w.heap.size 85 #[.int .i64 x.rect.c1, .int .i64 x.rect.r1, .int .i64 x.rect.c2, .int .i64 x.rect.r2, .int .u8 x.fns, .int .u64 x.to_, .int .i64 x.by_, .bool x.revoked] := (Blk.new _ _ _).drew
  have TT := ((OutTo.refl w v).alloc (.cells #[.int .i64 x.rect.c1, .int .i64 x.rect.r1, .int .i64 x.rect.c2, .int .i64 x.rect.r2, .int .u8 x.fns, .int .u64 x.to_, .int .i64 x.by_, .bool x.revoked] 85)).drew
  have oo := (h.alloc (.cells #[.int .i64 x.rect.c1, .int .i64 x.rect.r1, .int .i64 x.rect.c2, .int .i64 x.rect.r2, .int .u8 x.fns, .int .u64 x.to_, .int .i64 x.by_, .bool x.revoked] 85)).drew
  clear h
  have m0 := numI_le x.rect.c1
  have m1 := numI_le x.rect.r1
  have m2 := numI_le x.rect.c2
  have m3 := numI_le x.rect.r2
  have m4 := numI_le x.fns
  have m5 := numI_le x.to_
  have m6 := numI_le x.by_
  go_enter Tryz.func94, Tryz.ntmps94
  go_wp2_with fail
  go_region_held3 (fun W : World => W.cell? ⟨w.heap.size, 0, none⟩ = some (.int .i64 x.rect.c1) ∧ W.cell? ⟨w.heap.size, 1, none⟩ = some (.int .i64 x.rect.r1) ∧ W.cell? ⟨w.heap.size, 2, none⟩ = some (.int .i64 x.rect.c2) ∧ W.cell? ⟨w.heap.size, 3, none⟩ = some (.int .i64 x.rect.r2) ∧ W.cell? ⟨w.heap.size, 4, none⟩ = some (.int .u8 x.fns) ∧ W.cell? ⟨w.heap.size, 5, none⟩ = some (.int .u64 x.to_) ∧ W.cell? ⟨w.heap.size, 6, none⟩ = some (.int .i64 x.by_) ∧ W.cell? ⟨w.heap.size, 7, none⟩ = some (.bool x.revoked))
    (first
     | exact ⟨kk.cell 0, kk.cell 1, kk.cell 2, kk.cell 3, kk.cell 4, kk.cell 5, kk.cell 6, kk.cell 7⟩)
    (first
     | (go_at_call 95; refine (flag_any _ _ _ _ oo (by first | omega | (simp [cornB]; omega))).mono ?_; rintro e w1 ⟨v1, rfl, oo, tt⟩; have hv' := tt.ne kk.lt hv; have kk := kk.outTo tt hv; have hv := hv'; have TT := TT.trans tt; clear tt hv')
     | (go_at_call 84; refine (num_int _ _ _ _ oo (by first | omega | (simp [cornB]; omega))).mono ?_; rintro e w1 ⟨v1, rfl, oo, tt⟩; have hv' := tt.ne kk.lt hv; have kk := kk.outTo tt hv; have hv := hv'; have TT := TT.trans tt; clear tt hv')
     | (go_at_call 96; refine (num_u64 _ _ _ _ (by assumption) (by assumption)  oo (by first | omega | (simp [cornB]; omega))).mono ?_; rintro e w1 ⟨v1, rfl, oo, tt⟩; have hv' := tt.ne kk.lt hv; have kk := kk.outTo tt hv; have hv := hv'; have TT := TT.trans tt; clear tt hv')
     | (go_at_call 97; refine (num_u8 _ _ _ _ oo (by first | omega | (simp [cornB]; omega))).mono ?_; rintro e w1 ⟨v1, rfl, oo, tt⟩; have hv' := tt.ne kk.lt hv; have kk := kk.outTo tt hv; have hv := hv'; have TT := TT.trans tt; clear tt hv')
     | (go_at_call 92; refine (corners_any _ _ _ _ _ _ _ oo (by first | omega | (simp [placeB, cornB, setsB]; omega))).mono ?_; rintro e w1 ⟨v1, rfl, oo, tt⟩; have hv' := tt.ne kk.lt hv; have kk := kk.outTo tt hv; have hv := hv'; have TT := TT.trans tt; clear tt hv'))
  have OO := Lib.hid oo
  have TT := Lib.hid TT
  go_wp2
  go_ret
  exact ⟨_, rfl, by simpa [cornB, placeB, textB, setsB, grtB] using OO.out, TT.out⟩
theorem wr_evt (v : Value) (l : Bytes) (x : Evt) (w : World) (a0 : 0 ≤ x.to_) (a1 : x.to_ < 18446744073709551616) (h : Out w v l) (hl : l.length ≤ 100000000) :
    Calls Tryz.prog 99 #[v, .agg #[.int .i64 x.step, .int .i64 x.user, .int .u8 x.kind, .int .i64 x.rect.c1, .int .i64 x.rect.r1, .int .i64 x.rect.c2, .int .i64 x.rect.r2, .bool x.done_, .int .u64 x.to_]] w fun e w' => ∃ v', e = .returned v' ∧ Out w' v' (l ++ evtB x) ∧ OutTo w v w' v' := by
  have hv : v.ownBlock ≠ some w.heap.size := fun e => by have := h.lt _ e; omega
  have kk : Blk (w.alloc (.cells #[.int .i64 x.step, .int .i64 x.user, .int .u8 x.kind, .int .i64 x.rect.c1, .int .i64 x.rect.r1, .int .i64 x.rect.c2, .int .i64 x.rect.r2, .bool x.done_, .int .u64 x.to_] 110)).drew w.heap.size 110 #[.int .i64 x.step, .int .i64 x.user, .int .u8 x.kind, .int .i64 x.rect.c1, .int .i64 x.rect.r1, .int .i64 x.rect.c2, .int .i64 x.rect.r2, .bool x.done_, .int .u64 x.to_] := (Blk.new _ _ _).drew
  have TT := ((OutTo.refl w v).alloc (.cells #[.int .i64 x.step, .int .i64 x.user, .int .u8 x.kind, .int .i64 x.rect.c1, .int .i64 x.rect.r1, .int .i64 x.rect.c2, .int .i64 x.rect.r2, .bool x.done_, .int .u64 x.to_] 110)).drew
  have oo := (h.alloc (.cells #[.int .i64 x.step, .int .i64 x.user, .int .u8 x.kind, .int .i64 x.rect.c1, .int .i64 x.rect.r1, .int .i64 x.rect.c2, .int .i64 x.rect.r2, .bool x.done_, .int .u64 x.to_] 110)).drew
  clear h
  have m0 := numI_le x.rect.c1
  have m1 := numI_le x.rect.r1
  have m2 := numI_le x.rect.c2
  have m3 := numI_le x.rect.r2
  have m4 := numI_le x.step
  have m5 := numI_le x.user
  have m6 := numI_le x.kind
  have fl : (flagB x.done_).length ≤ 9 := numI_le _
  go_enter Tryz.func99, Tryz.ntmps99
  go_wp2_with fail
  go_region_held3 (fun W : World => W.cell? ⟨w.heap.size, 0, none⟩ = some (.int .i64 x.step) ∧ W.cell? ⟨w.heap.size, 1, none⟩ = some (.int .i64 x.user) ∧ W.cell? ⟨w.heap.size, 2, none⟩ = some (.int .u8 x.kind) ∧ W.cell? ⟨w.heap.size, 3, none⟩ = some (.int .i64 x.rect.c1) ∧ W.cell? ⟨w.heap.size, 4, none⟩ = some (.int .i64 x.rect.r1) ∧ W.cell? ⟨w.heap.size, 5, none⟩ = some (.int .i64 x.rect.c2) ∧ W.cell? ⟨w.heap.size, 6, none⟩ = some (.int .i64 x.rect.r2) ∧ W.cell? ⟨w.heap.size, 7, none⟩ = some (.bool x.done_) ∧ W.cell? ⟨w.heap.size, 8, none⟩ = some (.int .u64 x.to_))
    (first
     | exact ⟨kk.cell 0, kk.cell 1, kk.cell 2, kk.cell 3, kk.cell 4, kk.cell 5, kk.cell 6, kk.cell 7, kk.cell 8⟩)
    (first
     | (go_at_call 96; refine (num_u64 _ _ _ _ (by assumption) (by assumption)  oo (by first | omega | (simp [cornB]; omega))).mono ?_; rintro e w1 ⟨v1, rfl, oo, tt⟩; have hv' := tt.ne kk.lt hv; have kk := kk.outTo tt hv; have hv := hv'; have TT := TT.trans tt; clear tt hv')
     | (go_at_call 95; refine (flag_any _ _ _ _ oo (by first | omega | (simp [cornB]; omega))).mono ?_; rintro e w1 ⟨v1, rfl, oo, tt⟩; have hv' := tt.ne kk.lt hv; have kk := kk.outTo tt hv; have hv := hv'; have TT := TT.trans tt; clear tt hv')
     | (go_at_call 92; refine (corners_any _ _ _ _ _ _ _ oo (by first | omega | (simp []; omega))).mono ?_; rintro e w1 ⟨v1, rfl, oo, tt⟩; have hv' := tt.ne kk.lt hv; have kk := kk.outTo tt hv; have hv := hv'; have TT := TT.trans tt; clear tt hv')
     | (go_at_call 97; refine (num_u8 _ _ _ _ oo (by first | omega | (simp []; omega))).mono ?_; rintro e w1 ⟨v1, rfl, oo, tt⟩; have hv' := tt.ne kk.lt hv; have kk := kk.outTo tt hv; have hv := hv'; have TT := TT.trans tt; clear tt hv')
     | (go_at_call 84; refine (num_int _ _ _ _ oo (by first | omega | (simp []; omega))).mono ?_; rintro e w1 ⟨v1, rfl, oo, tt⟩; have hv' := tt.ne kk.lt hv; have kk := kk.outTo tt hv; have hv := hv'; have TT := TT.trans tt; clear tt hv'))
  have OO := Lib.hid oo
  have TT := Lib.hid TT
  go_wp2
  go_ret
  exact ⟨_, rfl, by simpa [cornB, placeB, textB, setsB, evtB] using OO.out, TT.out⟩
end Go.Proofs.YtamcgggmfghljaaGreatDoor
