/- Layer 41 (program): the closures that write an element's bytes (printed by tools/gen_enc.py). · Layer 41: the known script, read and written. · ScriptReads: the law's walk. -/
import Derived.BigRegion
import Derived.Test.YtamcgggmfghljaaGreatDoorR35
import Derived.Test.YtamcgggmfghljaaGreatDoorR27
import Derived.Test.YtamcgggmfghljaaGreatDoorR29
import Derived.Test.YtamcgggmfghljaaGreatDoorR34
import Derived.Test.YtamcgggmfghljaaGreatDoorR19
import Derived.Test.YtamcgggmfghljaaGreatDoorR26
import Derived.Test.YtamcgggmfghljaaGreatDoorR6
namespace Go.Proofs.YtamcgggmfghljaaGreatDoor
open Go.RowKit

set_option maxRecDepth 100000 in
set_option maxHeartbeats 4000000 in
theorem wr_ent (v : Value) (l : Bytes) (x : Ent) (w : World) (hi : x.input.length ≤ 1000000000) (h : Out w v l) (hl : l.length ≤ 100000000) :
    Calls Tryz.prog 86 #[v, .agg #[.int .i64 x.at_.col, .int .i64 x.at_.row, str x.input]] w fun e w' => ∃ v', e = .returned v' ∧ Out w' v' (l ++ entB x) ∧ OutTo w v w' v' := by
  have hv : v.ownBlock ≠ some w.heap.size := fun e => by have := h.lt _ e; omega
  have kk : Blk (w.alloc (.cells #[.int .i64 x.at_.col, .int .i64 x.at_.row, str x.input] 58)).drew w.heap.size 58 #[.int .i64 x.at_.col, .int .i64 x.at_.row, str x.input] := (Blk.new _ _ _).drew
  have TT := ((OutTo.refl w v).alloc (.cells #[.int .i64 x.at_.col, .int .i64 x.at_.row, str x.input] 58)).drew
  have oo := (h.alloc (.cells #[.int .i64 x.at_.col, .int .i64 x.at_.row, str x.input] 58)).drew
  clear h
  have m0 := numI_le x.at_.col
  have m1 := numI_le x.at_.row
  go_enter Tryz.func86, Tryz.ntmps86
  go_wp2_with fail
  go_region_held3 (fun W : World => W.cell? ⟨w.heap.size, 0, none⟩ = some (.int .i64 x.at_.col) ∧ W.cell? ⟨w.heap.size, 1, none⟩ = some (.int .i64 x.at_.row) ∧ W.cell? ⟨w.heap.size, 2, none⟩ = some (str x.input))
    (first
     | exact ⟨kk.cell 0, kk.cell 1, kk.cell 2⟩)
    (first
     | (go_at_call 87; refine (text_any _ _ _ _ oo (by omega) (by first | omega | (simp [placeB]; omega))).mono ?_; rintro e w1 ⟨v1, rfl, oo, tt⟩; have hv' := tt.ne kk.lt hv; have kk := kk.outTo tt hv; have hv := hv'; have TT := TT.trans tt; clear tt hv')
     | (go_at_call 88; refine (place_any _ _ _ _ _ oo (by first | omega | (simp [placeB, cornB, setsB]; omega))).mono ?_; rintro e w1 ⟨v1, rfl, oo, tt⟩; have hv' := tt.ne kk.lt hv; have kk := kk.outTo tt hv; have hv := hv'; have TT := TT.trans tt; clear tt hv'))
  have OO := Lib.hid oo
  have TT := Lib.hid TT
  go_wp2
  go_ret
  exact ⟨_, rfl, by simpa [cornB, placeB, textB, setsB, entB] using OO.out, TT.out⟩

set_option maxRecDepth 100000 in
set_option maxHeartbeats 4000000 in
theorem wr_rul (v : Value) (l : Bytes) (x : Rul) (w : World) (a0 : 0 ≤ x.rights.rd) (a1 : x.rights.rd < 18446744073709551616) (b0 : 0 ≤ x.rights.wr) (b1 : x.rights.wr < 18446744073709551616) (c0 : 0 ≤ x.rights.ow) (c1 : x.rights.ow < 18446744073709551616) (h : Out w v l) (hl : l.length ≤ 100000000) :
    Calls Tryz.prog 90 #[v, .agg #[.int .i64 x.rect.c1, .int .i64 x.rect.r1, .int .i64 x.rect.c2, .int .i64 x.rect.r2, .int .u64 x.rights.rd, .int .u64 x.rights.wr, .int .u64 x.rights.ow]] w fun e w' => ∃ v', e = .returned v' ∧ Out w' v' (l ++ rulB x) ∧ OutTo w v w' v' := by
  have hv : v.ownBlock ≠ some w.heap.size := fun e => by have := h.lt _ e; omega
  have kk : Blk (w.alloc (.cells #[.int .i64 x.rect.c1, .int .i64 x.rect.r1, .int .i64 x.rect.c2, .int .i64 x.rect.r2, .int .u64 x.rights.rd, .int .u64 x.rights.wr, .int .u64 x.rights.ow] 79)).drew w.heap.size 79 #[.int .i64 x.rect.c1, .int .i64 x.rect.r1, .int .i64 x.rect.c2, .int .i64 x.rect.r2, .int .u64 x.rights.rd, .int .u64 x.rights.wr, .int .u64 x.rights.ow] := (Blk.new _ _ _).drew
  have TT := ((OutTo.refl w v).alloc (.cells #[.int .i64 x.rect.c1, .int .i64 x.rect.r1, .int .i64 x.rect.c2, .int .i64 x.rect.r2, .int .u64 x.rights.rd, .int .u64 x.rights.wr, .int .u64 x.rights.ow] 79)).drew
  have oo := (h.alloc (.cells #[.int .i64 x.rect.c1, .int .i64 x.rect.r1, .int .i64 x.rect.c2, .int .i64 x.rect.r2, .int .u64 x.rights.rd, .int .u64 x.rights.wr, .int .u64 x.rights.ow] 79)).drew
  clear h
  have m0 := numI_le x.rect.c1
  have m1 := numI_le x.rect.r1
  have m2 := numI_le x.rect.c2
  have m3 := numI_le x.rect.r2
  go_enter Tryz.func90, Tryz.ntmps90
  go_wp2_with fail
  go_region_held3 (fun W : World => W.cell? ⟨w.heap.size, 0, none⟩ = some (.int .i64 x.rect.c1) ∧ W.cell? ⟨w.heap.size, 1, none⟩ = some (.int .i64 x.rect.r1) ∧ W.cell? ⟨w.heap.size, 2, none⟩ = some (.int .i64 x.rect.c2) ∧ W.cell? ⟨w.heap.size, 3, none⟩ = some (.int .i64 x.rect.r2) ∧ W.cell? ⟨w.heap.size, 4, none⟩ = some (.int .u64 x.rights.rd) ∧ W.cell? ⟨w.heap.size, 5, none⟩ = some (.int .u64 x.rights.wr) ∧ W.cell? ⟨w.heap.size, 6, none⟩ = some (.int .u64 x.rights.ow))
    (first
     | exact ⟨kk.cell 0, kk.cell 1, kk.cell 2, kk.cell 3, kk.cell 4, kk.cell 5, kk.cell 6⟩)
    (first
     | (go_at_call 91; refine (sets_any _ _ _ _ _ _ (by assumption) (by assumption) (by assumption) (by assumption) (by assumption) (by assumption)  oo (by first | omega | (simp [cornB]; omega))).mono ?_; rintro e w1 ⟨v1, rfl, oo, tt⟩; have hv' := tt.ne kk.lt hv; have kk := kk.outTo tt hv; have hv := hv'; have TT := TT.trans tt; clear tt hv')
     | (go_at_call 92; refine (corners_any _ _ _ _ _ _ _ oo (by first | omega | (simp [placeB, cornB, setsB]; omega))).mono ?_; rintro e w1 ⟨v1, rfl, oo, tt⟩; have hv' := tt.ne kk.lt hv; have kk := kk.outTo tt hv; have hv := hv'; have TT := TT.trans tt; clear tt hv'))
  have OO := Lib.hid oo
  have TT := Lib.hid TT
  go_wp2
  go_ret
  exact ⟨_, rfl, by simpa [cornB, placeB, textB, setsB, rulB] using OO.out, TT.out⟩

set_option maxRecDepth 100000 in
set_option maxHeartbeats 4000000 in
theorem wr_grt (v : Value) (l : Bytes) (x : Grt) (w : World) (a0 : 0 ≤ x.to_) (a1 : x.to_ < 18446744073709551616) (h : Out w v l) (hl : l.length ≤ 100000000) :
    Calls Tryz.prog 94 #[v, .agg #[.int .i64 x.rect.c1, .int .i64 x.rect.r1, .int .i64 x.rect.c2, .int .i64 x.rect.r2, .int .u8 x.fns, .int .u64 x.to_, .int .i64 x.by_, .bool x.revoked]] w fun e w' => ∃ v', e = .returned v' ∧ Out w' v' (l ++ grtB x) ∧ OutTo w v w' v' := by
  have hv : v.ownBlock ≠ some w.heap.size := fun e => by have := h.lt _ e; omega
  have kk : Blk (w.alloc (.cells #[.int .i64 x.rect.c1, .int .i64 x.rect.r1, .int .i64 x.rect.c2, .int .i64 x.rect.r2, .int .u8 x.fns, .int .u64 x.to_, .int .i64 x.by_, .bool x.revoked] 85)).drew w.heap.size 85 #[.int .i64 x.rect.c1, .int .i64 x.rect.r1, .int .i64 x.rect.c2, .int .i64 x.rect.r2, .int .u8 x.fns, .int .u64 x.to_, .int .i64 x.by_, .bool x.revoked] := (Blk.new _ _ _).drew
  have TT := ((OutTo.refl w v).alloc (.cells #[.int .i64 x.rect.c1, .int .i64 x.rect.r1, .int .i64 x.rect.c2, .int .i64 x.rect.r2, .int .u8 x.fns, .int .u64 x.to_, .int .i64 x.by_, .bool x.revoked] 85)).drew
  have oo := (h.alloc (.cells #[.int .i64 x.rect.c1, .int .i64 x.rect.r1, .int .i64 x.rect.c2, .int .i64 x.rect.r2, .int .u8 x.fns, .int .u64 x.to_, .int .i64 x.by_, .bool x.revoked] 85)).drew
  clear h
  have m0 := numI_le x.rect.c1
  have m1 := numI_le x.rect.r1
  have m2 := numI_le x.rect.c2
  have m3 := numI_le x.rect.r2
  have m4 := numI_le x.fns
  have m5 := numI_le x.to_
  have m6 := numI_le x.by_
  go_enter Tryz.func94, Tryz.ntmps94
  go_wp2_with fail
  go_region_held3 (fun W : World => W.cell? ⟨w.heap.size, 0, none⟩ = some (.int .i64 x.rect.c1) ∧ W.cell? ⟨w.heap.size, 1, none⟩ = some (.int .i64 x.rect.r1) ∧ W.cell? ⟨w.heap.size, 2, none⟩ = some (.int .i64 x.rect.c2) ∧ W.cell? ⟨w.heap.size, 3, none⟩ = some (.int .i64 x.rect.r2) ∧ W.cell? ⟨w.heap.size, 4, none⟩ = some (.int .u8 x.fns) ∧ W.cell? ⟨w.heap.size, 5, none⟩ = some (.int .u64 x.to_) ∧ W.cell? ⟨w.heap.size, 6, none⟩ = some (.int .i64 x.by_) ∧ W.cell? ⟨w.heap.size, 7, none⟩ = some (.bool x.revoked))
    (first
     | exact ⟨kk.cell 0, kk.cell 1, kk.cell 2, kk.cell 3, kk.cell 4, kk.cell 5, kk.cell 6, kk.cell 7⟩)
    (first
     | (go_at_call 95; refine (flag_any _ _ _ _ oo (by first | omega | (simp [cornB]; omega))).mono ?_; rintro e w1 ⟨v1, rfl, oo, tt⟩; have hv' := tt.ne kk.lt hv; have kk := kk.outTo tt hv; have hv := hv'; have TT := TT.trans tt; clear tt hv')
     | (go_at_call 84; refine (num_int _ _ _ _ oo (by first | omega | (simp [cornB]; omega))).mono ?_; rintro e w1 ⟨v1, rfl, oo, tt⟩; have hv' := tt.ne kk.lt hv; have kk := kk.outTo tt hv; have hv := hv'; have TT := TT.trans tt; clear tt hv')
     | (go_at_call 96; refine (num_u64 _ _ _ _ (by assumption) (by assumption)  oo (by first | omega | (simp [cornB]; omega))).mono ?_; rintro e w1 ⟨v1, rfl, oo, tt⟩; have hv' := tt.ne kk.lt hv; have kk := kk.outTo tt hv; have hv := hv'; have TT := TT.trans tt; clear tt hv')
     | (go_at_call 97; refine (num_u8 _ _ _ _ oo (by first | omega | (simp [cornB]; omega))).mono ?_; rintro e w1 ⟨v1, rfl, oo, tt⟩; have hv' := tt.ne kk.lt hv; have kk := kk.outTo tt hv; have hv := hv'; have TT := TT.trans tt; clear tt hv')
     | (go_at_call 92; refine (corners_any _ _ _ _ _ _ _ oo (by first | omega | (simp [placeB, cornB, setsB]; omega))).mono ?_; rintro e w1 ⟨v1, rfl, oo, tt⟩; have hv' := tt.ne kk.lt hv; have kk := kk.outTo tt hv; have hv := hv'; have TT := TT.trans tt; clear tt hv'))
  have OO := Lib.hid oo
  have TT := Lib.hid TT
  go_wp2
  go_ret
  exact ⟨_, rfl, by simpa [cornB, placeB, textB, setsB, grtB] using OO.out, TT.out⟩

set_option maxRecDepth 100000 in
set_option maxHeartbeats 4000000 in
theorem wr_evt (v : Value) (l : Bytes) (x : Evt) (w : World) (a0 : 0 ≤ x.to_) (a1 : x.to_ < 18446744073709551616) (h : Out w v l) (hl : l.length ≤ 100000000) :
    Calls Tryz.prog 99 #[v, .agg #[.int .i64 x.step, .int .i64 x.user, .int .u8 x.kind, .int .i64 x.rect.c1, .int .i64 x.rect.r1, .int .i64 x.rect.c2, .int .i64 x.rect.r2, .bool x.done_, .int .u64 x.to_]] w fun e w' => ∃ v', e = .returned v' ∧ Out w' v' (l ++ evtB x) ∧ OutTo w v w' v' := by
  have hv : v.ownBlock ≠ some w.heap.size := fun e => by have := h.lt _ e; omega
  have kk : Blk (w.alloc (.cells #[.int .i64 x.step, .int .i64 x.user, .int .u8 x.kind, .int .i64 x.rect.c1, .int .i64 x.rect.r1, .int .i64 x.rect.c2, .int .i64 x.rect.r2, .bool x.done_, .int .u64 x.to_] 110)).drew w.heap.size 110 #[.int .i64 x.step, .int .i64 x.user, .int .u8 x.kind, .int .i64 x.rect.c1, .int .i64 x.rect.r1, .int .i64 x.rect.c2, .int .i64 x.rect.r2, .bool x.done_, .int .u64 x.to_] := (Blk.new _ _ _).drew
  have TT := ((OutTo.refl w v).alloc (.cells #[.int .i64 x.step, .int .i64 x.user, .int .u8 x.kind, .int .i64 x.rect.c1, .int .i64 x.rect.r1, .int .i64 x.rect.c2, .int .i64 x.rect.r2, .bool x.done_, .int .u64 x.to_] 110)).drew
  have oo := (h.alloc (.cells #[.int .i64 x.step, .int .i64 x.user, .int .u8 x.kind, .int .i64 x.rect.c1, .int .i64 x.rect.r1, .int .i64 x.rect.c2, .int .i64 x.rect.r2, .bool x.done_, .int .u64 x.to_] 110)).drew
  clear h
  have m0 := numI_le x.rect.c1
  have m1 := numI_le x.rect.r1
  have m2 := numI_le x.rect.c2
  have m3 := numI_le x.rect.r2
  have m4 := numI_le x.step
  have m5 := numI_le x.user
  have m6 := numI_le x.kind
  have fl : (flagB x.done_).length ≤ 9 := numI_le _
  go_enter Tryz.func99, Tryz.ntmps99
  go_wp2_with fail
  go_region_held3 (fun W : World => W.cell? ⟨w.heap.size, 0, none⟩ = some (.int .i64 x.step) ∧ W.cell? ⟨w.heap.size, 1, none⟩ = some (.int .i64 x.user) ∧ W.cell? ⟨w.heap.size, 2, none⟩ = some (.int .u8 x.kind) ∧ W.cell? ⟨w.heap.size, 3, none⟩ = some (.int .i64 x.rect.c1) ∧ W.cell? ⟨w.heap.size, 4, none⟩ = some (.int .i64 x.rect.r1) ∧ W.cell? ⟨w.heap.size, 5, none⟩ = some (.int .i64 x.rect.c2) ∧ W.cell? ⟨w.heap.size, 6, none⟩ = some (.int .i64 x.rect.r2) ∧ W.cell? ⟨w.heap.size, 7, none⟩ = some (.bool x.done_) ∧ W.cell? ⟨w.heap.size, 8, none⟩ = some (.int .u64 x.to_))
    (first
     | exact ⟨kk.cell 0, kk.cell 1, kk.cell 2, kk.cell 3, kk.cell 4, kk.cell 5, kk.cell 6, kk.cell 7, kk.cell 8⟩)
    (first
     | (go_at_call 96; refine (num_u64 _ _ _ _ (by assumption) (by assumption)  oo (by first | omega | (simp [cornB]; omega))).mono ?_; rintro e w1 ⟨v1, rfl, oo, tt⟩; have hv' := tt.ne kk.lt hv; have kk := kk.outTo tt hv; have hv := hv'; have TT := TT.trans tt; clear tt hv')
     | (go_at_call 95; refine (flag_any _ _ _ _ oo (by first | omega | (simp [cornB]; omega))).mono ?_; rintro e w1 ⟨v1, rfl, oo, tt⟩; have hv' := tt.ne kk.lt hv; have kk := kk.outTo tt hv; have hv := hv'; have TT := TT.trans tt; clear tt hv')
     | (go_at_call 92; refine (corners_any _ _ _ _ _ _ _ oo (by first | omega | (simp []; omega))).mono ?_; rintro e w1 ⟨v1, rfl, oo, tt⟩; have hv' := tt.ne kk.lt hv; have kk := kk.outTo tt hv; have hv := hv'; have TT := TT.trans tt; clear tt hv')
     | (go_at_call 97; refine (num_u8 _ _ _ _ oo (by first | omega | (simp []; omega))).mono ?_; rintro e w1 ⟨v1, rfl, oo, tt⟩; have hv' := tt.ne kk.lt hv; have kk := kk.outTo tt hv; have hv := hv'; have TT := TT.trans tt; clear tt hv')
     | (go_at_call 84; refine (num_int _ _ _ _ oo (by first | omega | (simp []; omega))).mono ?_; rintro e w1 ⟨v1, rfl, oo, tt⟩; have hv' := tt.ne kk.lt hv; have kk := kk.outTo tt hv; have hv := hv'; have TT := TT.trans tt; clear tt hv'))
  have OO := Lib.hid oo
  have TT := Lib.hid TT
  go_wp2
  go_ret
  exact ⟨_, rfl, by simpa [cornB, placeB, textB, setsB, evtB] using OO.out, TT.out⟩

end Go.Proofs.YtamcgggmfghljaaGreatDoor

namespace Go.Proofs.YtamcgggmfghljaaGreatDoor
open Go.RowKit

theorem known_writes : WritesS knownS := by
  refine ⟨?_, ?_, ?_, ?_, ?_, ?_⟩ <;> intro x hx
  · simp [knownS] at hx; subst hx
    intro v l w h hl
    exact wr_ent v l ⟨⟨3, 4⟩, [57]⟩ w (by simp) h hl
  · simp [knownS] at hx; subst hx
    intro v l w h hl
    exact wr_rul v l ⟨⟨1, 1, 1024, 1024⟩, ⟨7, 7, 7⟩⟩ w (by decide) (by decide) (by decide) (by decide) (by decide) (by decide) h hl
  all_goals simp [knownS] at hx
theorem known_acl : aclE 3 knownS.book.rules = 0 := by decide
theorem nI0 : numI 0 = [0] := by simp [numI, numB, beB]
theorem nI1 : numI 1 = [1, 1] := by simp [numI, numB, beB]
theorem nI3 : numI 3 = [1, 3] := by simp [numI, numB, beB]
theorem nI4 : numI 4 = [1, 4] := by simp [numI, numB, beB]
theorem nI7 : numI 7 = [1, 7] := by simp [numI, numB, beB]
theorem nI1024 : numI 1024 = [2, 4, 0] := by simp [numI, numB, beB]
theorem known_len0 : (scpB knownS).length = 34 := by simp [scpB, knownS, listB, entB, rulB, placeB, textB, cornB, setsB, nI0, nI1, nI3, nI4, nI7, nI1024]
theorem known_len : 20 < (scpB knownS).length ∧ (scpB knownS).length ≤ 65536 := by rw [known_len0]; exact ⟨by decide, by decide⟩

theorem known_check (e r g l x o : Value) (B : Nat) (w : World) (hB : B ≤ w.heap.size) (hw : Words w) (hb : RdScp w B knownS e r g l x o) :
    Calls Tryz.prog 14 #[vScp knownS e r g l x o] w fun u w' => u = .returned (.int .i64 0) ∧ Below w.heap.size w w' := by
  refine (script_check knownS e r g l x o 0 B w hB hb (fun W hW => ?_)).mono (fun u w' h => ?_)
  · have hb1 := hb.below (hW.mono hB)
    refine book_check knownS.book e r g l x B W (by have := hW.size; omega) hb1.book (by decide) (by decide) known_acl rfl rfl rfl (by decide) (by decide) (fun W2 hW2 => ?_)
    exact entry_check_9 e 3 4 B W2 (hb1.book.below (hW2.mono (by have := hW.size; omega))).ents (by have := hW.size; have := hW2.size; omega) (by decide) ((hw.below hW).below hW2)
  · simpa [knownS] using h

theorem eql_ent (x y : Ent) (w : World) : (binOp .eql 58 (.agg (cEnt x).toArray) (.agg (cEnt y).toArray)).run Tryz.prog w = .ok (.bool (decide (x = y))) w := by
  obtain ⟨⟨a, b⟩, s⟩ := x
  obtain ⟨⟨a', b'⟩, s'⟩ := y
  simp [go_sem, cEnt]
  by_cases q0 : a = a'
  · by_cases q1 : b = b'
    · by_cases q2 : s = s'
      · simp [q0, q1, q2]
      · simp [q0, q1, q2]
    · simp [q0, q1]
  · simp [q0]

def kCells : Array Value := #[.int .u8 2, .int .u8 7, .int .u8 7, .int .u8 7, .int .u8 0, .int .u8 1, .int .u8 2, .int .u8 3, .int .u8 1, .int .u8 9, .int .u8 0]
theorem known_conv (w : World) : (convert 59 9 (.slice (some ⟨w.heap.size, 0, none⟩) 11 11)).run Tryz.prog (w.alloc (.cells #[.int .u8 2, .int .u8 7, .int .u8 7, .int .u8 7, .int .u8 0, .int .u8 1, .int .u8 2, .int .u8 3, .int .u8 1, .int .u8 9, .int .u8 0] 5)) = .ok (str [2, 7, 7, 7, 0, 1, 2, 3, 1, 9, 0]) (w.alloc (.cells #[.int .u8 2, .int .u8 7, .int .u8 7, .int .u8 7, .int .u8 0, .int .u8 1, .int .u8 2, .int .u8 3, .int .u8 1, .int .u8 9, .int .u8 0] 5)) := by
  have hb : Blk (w.alloc (.cells #[.int .u8 2, .int .u8 7, .int .u8 7, .int .u8 7, .int .u8 0, .int .u8 1, .int .u8 2, .int .u8 3, .int .u8 1, .int .u8 9, .int .u8 0] 5)) w.heap.size 5 #[.int .u8 2, .int .u8 7, .int .u8 7, .int .u8 7, .int .u8 0, .int .u8 1, .int .u8 2, .int .u8 3, .int .u8 1, .int .u8 9, .int .u8 0] := Blk.new w _ _
  refine run_convert_bytes_back (P := Tryz.prog) _ 59 9 5 ⟨w.heap.size, 0, none⟩ 11 [2, 7, 7, 7, 0, 1, 2, 3, 1, 9, 0] Tryz.underlying59 Tryz.underlying5 Tryz.underlying9 (fun j hj => ?_)
  rw [addr_add0, hb.cell j]
  match j, hj with
  | 0, _ => rfl
  | 1, _ => rfl
  | 2, _ => rfl
  | 3, _ => rfl
  | 4, _ => rfl
  | 5, _ => rfl
  | 6, _ => rfl
  | 7, _ => rfl
  | 8, _ => rfl
  | 9, _ => rfl
  | 10, _ => rfl
  | j + 11, h => simp at h; omega

set_option maxRecDepth 100000 in
set_option maxHeartbeats 4000000 in
theorem known_any (w : World) (hw : Words w) :
    Calls Tryz.prog 10 #[] w fun u w' => u = .returned (.bool true) ∧ Below w.heap.size w w' := by
  have HW := Lib.hid hw
  clear hw
  have kc := known_conv
  have kl : (20 : Int) < ((scpB knownS).length : Int) := by have := known_len.1; omega
  have KE := Lib.hid (eql_ent ⟨⟨3, 4⟩, [57]⟩ ⟨⟨3, 4⟩, [57]⟩)
  go_enter Tryz.func10, Tryz.ntmps10
  go_wp2_with fail
  refine (known_read _).mono ?_
  rintro u w1 ⟨ve, vr, vg, vl, vx, vo, rfl, hb, hb1⟩
  obtain ⟨Ae, ce, rfl, _⟩ := id hb.book.ents
  obtain ⟨Ar, cr, rfl, _⟩ := id hb.book.ruls
  obtain ⟨Ag, cg, rfl, _⟩ := id hb.book.grts
  obtain ⟨Al, cl, rfl, _⟩ := id hb.book.evts
  obtain ⟨Ax, cx, rfl, _⟩ := id hb.book.rlss
  obtain ⟨Ao, co, rfl, _⟩ := id hb.ops
  have HB := Lib.hid hb
  have HB1 := Lib.hid (show Below w.heap.size w w1 from Below.next (by go_grown) hb1 (by simp))
  obtain ⟨be, oe, rfl, hbe, re⟩ := hb.book.ents.get 3 cEnt_len (i := 0) rfl
  have hwb : Words w1 := (HW.out.below (by go_grown)).below hb1
  have KS := Lib.hid (Blk.new w1 31 #[.int .i64 knownS.book.users, .slice (some ⟨be, oe, none⟩) knownS.book.entries.length ce, .slice Ar knownS.book.rules.length cr, .slice Ag knownS.book.grants.length cg, .slice Al knownS.book.log.length cl, .slice Ax knownS.book.releases.length cx, .int .i64 knownS.book.step, .slice Ao knownS.ops.length co])
  have RE := Lib.hid re
  have HWB := Lib.hid hwb
  have HBE := Lib.hid hbe
  clear hb hb1 kc re hwb hbe
  go_wp2_with fail
  refine (encode_ok knownS _ _ _ _ _ _ w1.heap.size _ (by simp) (HB.out.below (by go_grown)) known_writes known_len.2 (fun W hW => known_check _ _ _ _ _ _ w1.heap.size W (by have := hW.size; simp at this; omega) ((HWB.out.below (by go_grown)).below hW) (HB.out.below (Below.trans (by go_grown) (hW.mono (by simp)))))).mono ?_
  rintro u w2 ⟨rfl, hb2⟩
  have KS2 := Lib.hid (KS.out.below_ hb2)
  have hb3 : Below w1.heap.size w1 w2 := Below.next_ (by go_grown) hb2
  have HB2 := Lib.hid (Below.trans HB1.out (hb3.mono HB1.out.size))
  have e0 : w2.cell? ⟨be, oe, none⟩ = some (.int .i64 3) := (hb3.cell (p := ⟨be, oe, none⟩) HBE.out).trans (by have := RE.out 0 _ rfl; simpa using this)
  have e1 : w2.cell? ⟨be, oe + 1, none⟩ = some (.int .i64 4) := (hb3.cell (p := ⟨be, oe + 1, none⟩) HBE.out).trans (by have := RE.out 1 _ rfl; simpa using this)
  have e2 : w2.cell? ⟨be, oe + 2, none⟩ = some (str [57]) := (hb3.cell (p := ⟨be, oe + 2, none⟩) HBE.out).trans (by have := RE.out 2 _ rfl; simpa using this)
  have ku : knownS.book.users = 3 := rfl
  have kn : (knownS.book.entries.length : Int) = 1 := rfl
  have kn2 : knownS.book.entries.length = 1 := rfl
  have s0 := KS2.out.cell 0
  have s1 := KS2.out.cell 1
  clear hb2 hb3 KS HB1 HWB HB
  go_wp2_with fail
  go_ret
  exact ⟨rfl, HB2.out⟩

end Go.Proofs.YtamcgggmfghljaaGreatDoor

namespace Go.Proofs.YtamcgggmfghljaaGreatDoor
open Go.RowKit

set_option maxRecDepth 100000 in
set_option maxHeartbeats 4000000 in
theorem reads_any (s : Bytes) (w : World) (hw : Words w) (hs : s.length ≤ maxLen) :
    Calls Tryz.prog 4 #[str s] w fun u w' => u = .returned (.bool true) ∧ Below w.heap.size w w' := by
  have HW := Lib.hid hw
  clear hw
  unfold maxLen at hs
  by_cases hl : 2000 < s.length
  · have hl' : (2000 : Int) < (s.length : Int) := by omega
    go_enter Tryz.func4, Tryz.ntmps4
    go_wp2_with fail
    refine (known_any _ HW.out).mono ?_
    rintro u w1 ⟨rfl, hb1⟩
    go_wp2_with fail
    go_ret
    exact ⟨rfl, hb1⟩
  · have hl' : ¬ (2000 : Int) < (s.length : Int) := by omega
    have hl2 : s.length ≤ 2000 := by omega
    go_enter Tryz.func4, Tryz.ntmps4
    go_wp2_with fail
    refine (read_p s _ hl2).mono ?_
    rintro u w1 ⟨e, r, g, l, x, o, rfl, h1, hb1⟩
    have H1 := Lib.hid h1
    have HB1 := Lib.hid hb1
    clear h1 hb1
    go_wp2_with fail
    refine (read_r s _ hl2).mono ?_
    rintro u w2 ⟨e', r', g', l', x', o', rfl, h2, hb2⟩
    have H2 := Lib.hid h2
    have HB2 := Lib.hid hb2
    clear h2 hb2
    go_wp2_with fail
    refine (kit_equal_script _ _ e r g l x o e' r' g' l' x' o' w2.heap.size _ (Nat.le_refl _) ?_ H2.out).mono ?_
    · have h := H1.out.below HB2.out
      have hz := HB2.out.size
      exact ⟨⟨h.book.ents.more hz, h.book.ruls.more hz, h.book.grts.more hz, h.book.evts.more hz, h.book.rlss.more hz⟩, h.ops.more hz⟩
    rintro u w3 ⟨rfl, hb3⟩
    have HB3 := Lib.hid hb3
    clear hb3
    go_wp2_with fail
    go_ret
    refine ⟨?_, ?_⟩
    · rw [read_same]; simp
    · exact Below.next (Below.next HB1.out HB2.out HB1.out.size) HB3.out (Nat.le_trans HB1.out.size HB2.out.size)

end Go.Proofs.YtamcgggmfghljaaGreatDoor
