/- Layer 41 (program): the bytes of a release, of an operation's fields (printed by tools/gen -/
import Derived.Test.YtamcgggmfghljaaGreatDoorB15
set_option maxRecDepth 100000
set_option maxHeartbeats 8000000
namespace Go.Proofs.YtamcgggmfghljaaGreatDoor
open Go.RowKit
theorem wr_rls (v : Value) (l : Bytes) (x : Rls) (w : World) (a0 : 0 ≤ x.to_) (a1 : x.to_ < 18446744073709551616) (h : Out w v l) (hl : l.length ≤ 100000000) :
    Calls Tryz.prog 101 #[v, .agg #[.int .i64 x.step, .int .i64 x.at_.col, .int .i64 x.at_.row, .int .i64 x.node, .int .u8 x.fn, .int .i64 x.rect.c1, .int .i64 x.rect.r1, .int .i64 x.rect.c2, .int .i64 x.rect.r2, .int .i64 x.grant, .int .u64 x.to_]] w fun e w' => ∃ v', e = .returned v' ∧ Out w' v' (l ++ rlsB x) ∧ OutTo w v w' v' := by
  have hv : v.ownBlock ≠ some w.heap.size := fun e => by have := h.lt _ e; omega
  have kk : Blk (w.alloc (.cells #[.int .i64 x.step, .int .i64 x.at_.col, .int .i64 x.at_.row, .int .i64 x.node, .int .u8 x.fn, .int .i64 x.rect.c1, .int .i64 x.rect.r1, .int .i64 x.rect.c2, .int .i64 x.rect.r2, .int .i64 x.grant, .int .u64 x.to_] 116)).drew w.heap.size 116 #[.int .i64 x.step, .int .i64 x.at_.col, .int .i64 x.at_.row, .int .i64 x.node, .int .u8 x.fn, .int .i64 x.rect.c1, .int .i64 x.rect.r1, .int .i64 x.rect.c2, .int .i64 x.rect.r2, .int .i64 x.grant, .int .u64 x.to_] := (Blk.new _ _ _).drew
  have TT := ((OutTo.refl w v).alloc (.cells #[.int .i64 x.step, .int .i64 x.at_.col, .int .i64 x.at_.row, .int .i64 x.node, .int .u8 x.fn, .int .i64 x.rect.c1, .int .i64 x.rect.r1, .int .i64 x.rect.c2, .int .i64 x.rect.r2, .int .i64 x.grant, .int .u64 x.to_] 116)).drew
  have oo := (h.alloc (.cells #[.int .i64 x.step, .int .i64 x.at_.col, .int .i64 x.at_.row, .int .i64 x.node, .int .u8 x.fn, .int .i64 x.rect.c1, .int .i64 x.rect.r1, .int .i64 x.rect.c2, .int .i64 x.rect.r2, .int .i64 x.grant, .int .u64 x.to_] 116)).drew
  clear h
  have m0 := numI_le x.rect.c1
  have m1 := numI_le x.rect.r1
  have m2 := numI_le x.rect.c2
  have m3 := numI_le x.rect.r2
  have m4 := numI_le x.step
  have m5 := numI_le x.at_.col
  have m6 := numI_le x.at_.row
  have m7 := numI_le x.node
  have m8 := numI_le x.fn
  have m9 := numI_le x.grant
  go_enter Tryz.func101, Tryz.ntmps101
  go_wp2_with fail
  go_region_held3 (fun W : World => W.cell? ⟨w.heap.size, 0, none⟩ = some (.int .i64 x.step) ∧ W.cell? ⟨w.heap.size, 1, none⟩ = some (.int .i64 x.at_.col) ∧ W.cell? ⟨w.heap.size, 2, none⟩ = some (.int .i64 x.at_.row) ∧ W.cell? ⟨w.heap.size, 3, none⟩ = some (.int .i64 x.node) ∧ W.cell? ⟨w.heap.size, 4, none⟩ = some (.int .u8 x.fn) ∧ W.cell? ⟨w.heap.size, 5, none⟩ = some (.int .i64 x.rect.c1) ∧ W.cell? ⟨w.heap.size, 6, none⟩ = some (.int .i64 x.rect.r1) ∧ W.cell? ⟨w.heap.size, 7, none⟩ = some (.int .i64 x.rect.c2) ∧ W.cell? ⟨w.heap.size, 8, none⟩ = some (.int .i64 x.rect.r2) ∧ W.cell? ⟨w.heap.size, 9, none⟩ = some (.int .i64 x.grant) ∧ W.cell? ⟨w.heap.size, 10, none⟩ = some (.int .u64 x.to_))
    (first
     | exact ⟨kk.cell 0, kk.cell 1, kk.cell 2, kk.cell 3, kk.cell 4, kk.cell 5, kk.cell 6, kk.cell 7, kk.cell 8, kk.cell 9, kk.cell 10⟩)
    (first
     | (go_at_call 97; refine (num_u8 _ _ _ _ oo (by first | omega | (simp [placeB]; omega))).mono ?_; rintro e w1 ⟨v1, rfl, oo, tt⟩; have hv' := tt.ne kk.lt hv; have kk := kk.outTo tt hv; have hv := hv'; have TT := TT.trans tt; clear tt hv')
     | (go_at_call 88; refine (place_any _ _ _ _ _ oo (by first | omega | (simp; omega))).mono ?_; rintro e w1 ⟨v1, rfl, oo, tt⟩; have hv' := tt.ne kk.lt hv; have kk := kk.outTo tt hv; have hv := hv'; have TT := TT.trans tt; clear tt hv')
     | (go_at_call 84; refine (num_int _ _ _ _ oo (by first | omega | (simp [placeB]; omega))).mono ?_; rintro e w1 ⟨v1, rfl, oo, tt⟩; have hv' := tt.ne kk.lt hv; have kk := kk.outTo tt hv; have hv := hv'; have TT := TT.trans tt; clear tt hv'))
  have kk := kk.drew
  have TT := TT.drew
  have oo := oo.drew
  go_wp2_with fail
  go_region_held3 (fun W : World => W.cell? ⟨w.heap.size, 0, none⟩ = some (.int .i64 x.step) ∧ W.cell? ⟨w.heap.size, 1, none⟩ = some (.int .i64 x.at_.col) ∧ W.cell? ⟨w.heap.size, 2, none⟩ = some (.int .i64 x.at_.row) ∧ W.cell? ⟨w.heap.size, 3, none⟩ = some (.int .i64 x.node) ∧ W.cell? ⟨w.heap.size, 4, none⟩ = some (.int .u8 x.fn) ∧ W.cell? ⟨w.heap.size, 5, none⟩ = some (.int .i64 x.rect.c1) ∧ W.cell? ⟨w.heap.size, 6, none⟩ = some (.int .i64 x.rect.r1) ∧ W.cell? ⟨w.heap.size, 7, none⟩ = some (.int .i64 x.rect.c2) ∧ W.cell? ⟨w.heap.size, 8, none⟩ = some (.int .i64 x.rect.r2) ∧ W.cell? ⟨w.heap.size, 9, none⟩ = some (.int .i64 x.grant) ∧ W.cell? ⟨w.heap.size, 10, none⟩ = some (.int .u64 x.to_))
    (first
     | exact ⟨kk.cell 0, kk.cell 1, kk.cell 2, kk.cell 3, kk.cell 4, kk.cell 5, kk.cell 6, kk.cell 7, kk.cell 8, kk.cell 9, kk.cell 10⟩)
    (first
     | (go_at_call 96; refine (num_u64 _ _ _ _ a0 a1 oo (by first | omega | (simp [placeB, cornB]; omega))).mono ?_; rintro e w1 ⟨v1, rfl, oo, tt⟩; have hv' := tt.ne kk.lt hv; have kk := kk.outTo tt hv; have hv := hv'; have TT := TT.trans tt; clear tt hv')
     | (go_at_call 92; refine (corners_any _ _ _ _ _ _ _ oo (by first | omega | (simp [placeB]; omega))).mono ?_; rintro e w1 ⟨v1, rfl, oo, tt⟩; have hv' := tt.ne kk.lt hv; have kk := kk.outTo tt hv; have hv := hv'; have TT := TT.trans tt; clear tt hv')
     | (go_at_call 84; refine (num_int _ _ _ _ oo (by first | omega | (simp [placeB, cornB]; omega))).mono ?_; rintro e w1 ⟨v1, rfl, oo, tt⟩; have hv' := tt.ne kk.lt hv; have kk := kk.outTo tt hv; have hv := hv'; have TT := TT.trans tt; clear tt hv'))
  have OO := Lib.hid oo
  have TT := Lib.hid TT
  go_wp2
  go_ret
  exact ⟨_, rfl, by simpa [cornB, placeB, textB, setsB, rlsB] using OO.out, TT.out⟩
/-! ### The closures that write an operation's fields -/
theorem oc_1 (g : Nat) (x : Opr) (v : Value) (l : Bytes) (w : World) (K : Blk w g 48 #[.int .u8 x.kind, .int .i64 x.user, .int .i64 x.rect.c1, .int .i64 x.rect.r1, .int .i64 x.rect.c2, .int .i64 x.rect.r2, str x.input, .int .u64 x.rights.rd, .int .u64 x.rights.wr, .int .u64 x.rights.ow, .int .u8 x.fns, .int .u64 x.to_, .int .i64 x.index]) (h : Out w v l) (hl : l.length ≤ 100000000) :
    Calls Tryz.prog 160 #[v, .pointer (some ⟨g, 0, none⟩)] w fun e w' => ∃ v', e = .returned v' ∧ Out w' v' (l ++ numI x.user) ∧ OutTo w v w' v' := by
  have c1 : w.cell? ⟨g, 1, none⟩ = some (.int .i64 x.user) := K.cell 1
  clear K
  go_enter Tryz.func160, Tryz.ntmps160
  go_wp2_with fail
  refine (num_int v l _ _ h (by omega)).mono ?_
  rintro e w1 ⟨v1, rfl, o1, t1⟩
  have O1 := Lib.hid o1
  have T1 := Lib.hid t1
  clear o1 t1
  go_wp2
  go_ret
  exact ⟨_, rfl, O1.out, T1.out⟩
theorem oc_2 (g : Nat) (x : Opr) (v : Value) (l : Bytes) (w : World) (K : Blk w g 48 #[.int .u8 x.kind, .int .i64 x.user, .int .i64 x.rect.c1, .int .i64 x.rect.r1, .int .i64 x.rect.c2, .int .i64 x.rect.r2, str x.input, .int .u64 x.rights.rd, .int .u64 x.rights.wr, .int .u64 x.rights.ow, .int .u8 x.fns, .int .u64 x.to_, .int .i64 x.index]) (h : Out w v l) (hl : l.length ≤ 100000000) :
    Calls Tryz.prog 161 #[v, .pointer (some ⟨g, 0, none⟩)] w fun e w' => ∃ v', e = .returned v' ∧ Out w' v' (l ++ cornB x.rect) ∧ OutTo w v w' v' := by
  have c2 : w.cell? ⟨g, 2, none⟩ = some (.int .i64 x.rect.c1) := K.cell 2
  have c3 : w.cell? ⟨g, 3, none⟩ = some (.int .i64 x.rect.r1) := K.cell 3
  have c4 : w.cell? ⟨g, 4, none⟩ = some (.int .i64 x.rect.c2) := K.cell 4
  have c5 : w.cell? ⟨g, 5, none⟩ = some (.int .i64 x.rect.r2) := K.cell 5
  clear K
  go_enter Tryz.func161, Tryz.ntmps161
  go_wp2_with fail
  refine (corners_any v l _ _ _ _ _ h (by omega)).mono ?_
  rintro e w1 ⟨v1, rfl, o1, t1⟩
  have O1 := Lib.hid o1
  have T1 := Lib.hid t1
  clear o1 t1
  go_wp2
  go_ret
  exact ⟨_, rfl, O1.out, T1.out⟩
theorem oc_3 (g : Nat) (x : Opr) (v : Value) (l : Bytes) (w : World) (hi : x.input.length ≤ 1000000000) (K : Blk w g 48 #[.int .u8 x.kind, .int .i64 x.user, .int .i64 x.rect.c1, .int .i64 x.rect.r1, .int .i64 x.rect.c2, .int .i64 x.rect.r2, str x.input, .int .u64 x.rights.rd, .int .u64 x.rights.wr, .int .u64 x.rights.ow, .int .u8 x.fns, .int .u64 x.to_, .int .i64 x.index]) (h : Out w v l) (hl : l.length ≤ 100000000) :
    Calls Tryz.prog 162 #[v, .pointer (some ⟨g, 0, none⟩)] w fun e w' => ∃ v', e = .returned v' ∧ Out w' v' (l ++ textB x.input) ∧ OutTo w v w' v' := by
  have c6 : w.cell? ⟨g, 6, none⟩ = some (str x.input) := K.cell 6
  clear K
  go_enter Tryz.func162, Tryz.ntmps162
  go_wp2_with fail
  refine (text_any v l _ _ h hi (by omega)).mono ?_
  rintro e w1 ⟨v1, rfl, o1, t1⟩
  have O1 := Lib.hid o1
  have T1 := Lib.hid t1
  clear o1 t1
  go_wp2
  go_ret
  exact ⟨_, rfl, O1.out, T1.out⟩
theorem oc_4 (g : Nat) (x : Opr) (v : Value) (l : Bytes) (w : World) (a0 : 0 ≤ x.rights.rd) (a1 : x.rights.rd < 18446744073709551616) (b0 : 0 ≤ x.rights.wr) (b1 : x.rights.wr < 18446744073709551616) (c0 : 0 ≤ x.rights.ow) (c1 : x.rights.ow < 18446744073709551616) (K : Blk w g 48 #[.int .u8 x.kind, .int .i64 x.user, .int .i64 x.rect.c1, .int .i64 x.rect.r1, .int .i64 x.rect.c2, .int .i64 x.rect.r2, str x.input, .int .u64 x.rights.rd, .int .u64 x.rights.wr, .int .u64 x.rights.ow, .int .u8 x.fns, .int .u64 x.to_, .int .i64 x.index]) (h : Out w v l) (hl : l.length ≤ 100000000) :
    Calls Tryz.prog 163 #[v, .pointer (some ⟨g, 0, none⟩)] w fun e w' => ∃ v', e = .returned v' ∧ Out w' v' (l ++ setsB x.rights) ∧ OutTo w v w' v' := by
  have c7 : w.cell? ⟨g, 7, none⟩ = some (.int .u64 x.rights.rd) := K.cell 7
  have c8 : w.cell? ⟨g, 8, none⟩ = some (.int .u64 x.rights.wr) := K.cell 8
  have c9 : w.cell? ⟨g, 9, none⟩ = some (.int .u64 x.rights.ow) := K.cell 9
  clear K
  go_enter Tryz.func163, Tryz.ntmps163
  go_wp2_with fail
  refine (sets_any v l _ _ _ _ a0 a1 b0 b1 c0 c1 h (by omega)).mono ?_
  rintro e w1 ⟨v1, rfl, o1, t1⟩
  have O1 := Lib.hid o1
  have T1 := Lib.hid t1
  clear o1 t1
  go_wp2
  go_ret
  exact ⟨_, rfl, O1.out, T1.out⟩
theorem oc_5 (g : Nat) (x : Opr) (v : Value) (l : Bytes) (w : World) (K : Blk w g 48 #[.int .u8 x.kind, .int .i64 x.user, .int .i64 x.rect.c1, .int .i64 x.rect.r1, .int .i64 x.rect.c2, .int .i64 x.rect.r2, str x.input, .int .u64 x.rights.rd, .int .u64 x.rights.wr, .int .u64 x.rights.ow, .int .u8 x.fns, .int .u64 x.to_, .int .i64 x.index]) (h : Out w v l) (hl : l.length ≤ 100000000) :
    Calls Tryz.prog 164 #[v, .pointer (some ⟨g, 0, none⟩)] w fun e w' => ∃ v', e = .returned v' ∧ Out w' v' (l ++ numI x.fns) ∧ OutTo w v w' v' := by
  have c10 : w.cell? ⟨g, 10, none⟩ = some (.int .u8 x.fns) := K.cell 10
  clear K
  go_enter Tryz.func164, Tryz.ntmps164
  go_wp2_with fail
  refine (num_u8 v l _ _ h (by omega)).mono ?_
  rintro e w1 ⟨v1, rfl, o1, t1⟩
  have O1 := Lib.hid o1
  have T1 := Lib.hid t1
  clear o1 t1
  go_wp2
  go_ret
  exact ⟨_, rfl, O1.out, T1.out⟩
theorem oc_6 (g : Nat) (x : Opr) (v : Value) (l : Bytes) (w : World) (a0 : 0 ≤ x.to_) (a1 : x.to_ < 18446744073709551616) (K : Blk w g 48 #[.int .u8 x.kind, .int .i64 x.user, .int .i64 x.rect.c1, .int .i64 x.rect.r1, .int .i64 x.rect.c2, .int .i64 x.rect.r2, str x.input, .int .u64 x.rights.rd, .int .u64 x.rights.wr, .int .u64 x.rights.ow, .int .u8 x.fns, .int .u64 x.to_, .int .i64 x.index]) (h : Out w v l) (hl : l.length ≤ 100000000) :
    Calls Tryz.prog 165 #[v, .pointer (some ⟨g, 0, none⟩)] w fun e w' => ∃ v', e = .returned v' ∧ Out w' v' (l ++ numI x.to_) ∧ OutTo w v w' v' := by
  have c11 : w.cell? ⟨g, 11, none⟩ = some (.int .u64 x.to_) := K.cell 11
  clear K
  go_enter Tryz.func165, Tryz.ntmps165
  go_wp2_with fail
  refine (num_u64 v l _ _ a0 a1 h (by omega)).mono ?_
  rintro e w1 ⟨v1, rfl, o1, t1⟩
  have O1 := Lib.hid o1
  have T1 := Lib.hid t1
  clear o1 t1
  go_wp2
  go_ret
  exact ⟨_, rfl, O1.out, T1.out⟩
theorem oc_7 (g : Nat) (x : Opr) (v : Value) (l : Bytes) (w : World) (K : Blk w g 48 #[.int .u8 x.kind, .int .i64 x.user, .int .i64 x.rect.c1, .int .i64 x.rect.r1, .int .i64 x.rect.c2, .int .i64 x.rect.r2, str x.input, .int .u64 x.rights.rd, .int .u64 x.rights.wr, .int .u64 x.rights.ow, .int .u8 x.fns, .int .u64 x.to_, .int .i64 x.index]) (h : Out w v l) (hl : l.length ≤ 100000000) :
    Calls Tryz.prog 166 #[v, .pointer (some ⟨g, 0, none⟩)] w fun e w' => ∃ v', e = .returned v' ∧ Out w' v' (l ++ numI x.index) ∧ OutTo w v w' v' := by
  have c12 : w.cell? ⟨g, 12, none⟩ = some (.int .i64 x.index) := K.cell 12
  clear K
  go_enter Tryz.func166, Tryz.ntmps166
  go_wp2_with fail
  refine (num_int v l _ _ h (by omega)).mono ?_
  rintro e w1 ⟨v1, rfl, o1, t1⟩
  have O1 := Lib.hid o1
  have T1 := Lib.hid t1
  clear o1 t1
  go_wp2
  go_ret
  exact ⟨_, rfl, O1.out, T1.out⟩
end Go.Proofs.YtamcgggmfghljaaGreatDoor
