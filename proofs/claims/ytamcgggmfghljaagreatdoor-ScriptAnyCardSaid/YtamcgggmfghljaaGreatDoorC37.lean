/- Layer 41 (program): the closures that write an element's bytes (printed by tools/gen_enc.p · Layer 41: the known script, read and written. · ScriptAny: the law's walk (printed by tools/gen_any.py). -/
import Derived.BigRegion
import Derived.Deep.QuietTactic
import Derived.BigQuiet
import Derived.Test.YtamcgggmfghljaaGreatDoorC9
import Derived.Test.YtamcgggmfghljaaGreatDoorC36
set_option maxRecDepth 100000
set_option maxHeartbeats 8000000
namespace Go.Proofs.YtamcgggmfghljaaGreatDoor
open Go.RowKit
theorem wr_ent (v : Value) (l : Bytes) (x : Ent) (w : World) (hi : x.input.length ≤ 1000000000) (h : Out w v l) (hl : l.length ≤ 100000000) :
    Calls Tryz.prog 86 #[v, .agg #[.int .i64 x.at_.col, .int .i64 x.at_.row, str x.input]] w fun e w' => ∃ v', e = .returned v' ∧ Out w' v' (l ++ entB x) ∧ OutTo w v w' v' := by
  have hv : v.ownBlock ≠ some w.heap.size := fun e => by have := h.lt _ e; omega
  have kk : Blk (w.alloc (.cells #[.int .i64 x.at_.col, .int .i64 x.at_.row, str x.input] 58)).drew w.heap.size 58 #[.int .i64 x.at_.col, .int .i64 x.at_.row, str x.input] := (Blk.new _ _ _).drew
  have TT := ((OutTo.refl w v).alloc (.cells #[.int .i64 x.at_.col, .int .i64 x.at_.row, str x.input] 58)).drew
  have oo := (h.alloc (.cells #[.int .i64 x.at_.col, .int .i64 x.at_.row, str x.input] 58)).drew
  clear h
  have m0 := numI_le x.at_.col
  have m1 := numI_le x.at_.row
  go_enter Tryz.func86, Tryz.ntmps86
  go_wp2_with fail
  go_region_held3 (fun W : World => W.cell? ⟨w.heap.size, 0, none⟩ = some (.int .i64 x.at_.col) ∧ W.cell? ⟨w.heap.size, 1, none⟩ = some (.int .i64 x.at_.row) ∧ W.cell? ⟨w.heap.size, 2, none⟩ = some (str x.input))
    (first
     | exact ⟨kk.cell 0, kk.cell 1, kk.cell 2⟩)
    (first
     | (go_at_call 87; refine (text_any _ _ _ _ oo (by omega) (by first | omega | (simp [placeB]; omega))).mono ?_; rintro e w1 ⟨v1, rfl, oo, tt⟩; have hv' := tt.ne kk.lt hv; have kk := kk.outTo tt hv; have hv := hv'; have TT := TT.trans tt; clear tt hv')
     | (go_at_call 88; refine (place_any _ _ _ _ _ oo (by first | omega | (simp [placeB, cornB, setsB]; omega))).mono ?_; rintro e w1 ⟨v1, rfl, oo, tt⟩; have hv' := tt.ne kk.lt hv; have kk := kk.outTo tt hv; have hv := hv'; have TT := TT.trans tt; clear tt hv'))
  have OO := Lib.hid oo
  have TT := Lib.hid TT
  go_wp2
  go_ret
  exact ⟨_, rfl, by simpa [cornB, placeB, textB, setsB, entB] using OO.out, TT.out⟩
theorem wr_rul (v : Value) (l : Bytes) (x : Rul) (w : World) (a0 : 0 ≤ x.rights.rd) (a1 : x.rights.rd < 18446744073709551616) (b0 : 0 ≤ x.rights.wr) (b1 : x.rights.wr < 18446744073709551616) (c0 : 0 ≤ x.rights.ow) (c1 : x.rights.ow < 18446744073709551616) (h : Out w v l) (hl : l.length ≤ 100000000) :
    Calls Tryz.prog 90 #[v, .agg #[.int .i64 x.rect.c1, .int .i64 x.rect.r1, .int .i64 x.rect.c2, .int .i64 x.rect.r2, .int .u64 x.rights.rd, .int .u64 x.rights.wr, .int .u64 x.rights.ow]] w fun e w' => ∃ v', e = .returned v' ∧ Out w' v' (l ++ rulB x) ∧ OutTo w v w' v' := by
  have hv : v.ownBlock ≠ some w.heap.size := fun e => by have := h.lt _ e; omega
  have kk : Blk (w.alloc (.cells #[.int .i64 x.rect.c1, .int .i64 x.rect.r1, .int .i64 x.rect.c2, .int .i64 x.rect.r2, .int .u64 x.rights.rd, .int .u64 x.rights.wr, .int .u64 x.rights.ow] 79)).drew w.heap.size 79 #[.int .i64 x.rect.c1, .int .i64 x.rect.r1, .int .i64 x.rect.c2, .int .i64 x.rect.r2, .int .u64 x.rights.rd, .int .u64 x.rights.wr, .int .u64 x.rights.ow] := (Blk.new _ _ _).drew
  have TT := ((OutTo.refl w v).alloc (.cells #[.int .i64 x.rect.c1, .int .i64 x.rect.r1, .int .i64 x.rect.c2, .int .i64 x.rect.r2, .int .u64 x.rights.rd, .int .u64 x.rights.wr, .int .u64 x.rights.ow] 79)).drew
  have oo := (h.alloc (.cells #[.int .i64 x.rect.c1, .int .i64 x.rect.r1, .int .i64 x.rect.c2, .int .i64 x.rect.r2, .int .u64 x.rights.rd, .int .u64 x.rights.wr, .int .u64 x.rights.ow] 79)).drew
  clear h
  have m0 := numI_le x.rect.c1
  have m1 := numI_le x.rect.r1
  have m2 := numI_le x.rect.c2
  have m3 := numI_le x.rect.r2
  go_enter Tryz.func90, Tryz.ntmps90
  go_wp2_with fail
  go_region_held3 (fun W : World => W.cell? ⟨w.heap.size, 0, none⟩ = some (.int .i64 x.rect.c1) ∧ W.cell? ⟨w.heap.size, 1, none⟩ = some (.int .i64 x.rect.r1) ∧ W.cell? ⟨w.heap.size, 2, none⟩ = some (.int .i64 x.rect.c2) ∧ W.cell? ⟨w.heap.size, 3, none⟩ = some (.int .i64 x.rect.r2) ∧ W.cell? ⟨w.heap.size, 4, none⟩ = some (.int .u64 x.rights.rd) ∧ W.cell? ⟨w.heap.size, 5, none⟩ = some (.int .u64 x.rights.wr) ∧ W.cell? ⟨w.heap.size, 6, none⟩ = some (.int .u64 x.rights.ow))
    (first
     | exact ⟨kk.cell 0, kk.cell 1, kk.cell 2, kk.cell 3, kk.cell 4, kk.cell 5, kk.cell 6⟩)
    (first
     | (go_at_call 91; refine (sets_any _ _ _ _ _ _ (by assumption) (by assumption) (by assumption) (by assumption) (by assumption) (by assumption)  oo (by first | omega | (simp [cornB]; omega))).mono ?_; rintro e w1 ⟨v1, rfl, oo, tt⟩; have hv' := tt.ne kk.lt hv; have kk := kk.outTo tt hv; have hv := hv'; have TT := TT.trans tt; clear tt hv')
     | (go_at_call 92; refine (corners_any _ _ _ _ _ _ _ oo (by first | omega | (simp [placeB, cornB, setsB]; omega))).mono ?_; rintro e w1 ⟨v1, rfl, oo, tt⟩; have hv' := tt.ne kk.lt hv; have kk := kk.outTo tt hv; have hv := hv'; have TT := TT.trans tt; clear tt hv'))
  have OO := Lib.hid oo
  have TT := Lib.hid TT
  go_wp2
  go_ret
  exact ⟨_, rfl, by simpa [cornB, placeB, textB, setsB, rulB] using OO.out, TT.out⟩
theorem known_writes : WritesS knownS := by
  refine ⟨?_, ?_, ?_, ?_, ?_, ?_⟩ <;> intro x hx
  · simp [knownS] at hx; subst hx
    intro v l w h hl
    exact wr_ent v l ⟨⟨3, 4⟩, [57]⟩ w (by simp) h hl
  · simp [knownS] at hx; subst hx
    intro v l w h hl
    exact wr_rul v l ⟨⟨1, 1, 1024, 1024⟩, ⟨7, 7, 7⟩⟩ w (by decide) (by decide) (by decide) (by decide) (by decide) (by decide) h hl
  all_goals simp [knownS] at hx
theorem known_acl : aclE 3 knownS.book.rules = 0 := by decide
theorem nI0 : numI 0 = [0] := by simp [numI, numB, beB]
theorem nI1 : numI 1 = [1, 1] := by simp [numI, numB, beB]
theorem nI3 : numI 3 = [1, 3] := by simp [numI, numB, beB]
theorem nI4 : numI 4 = [1, 4] := by simp [numI, numB, beB]
theorem nI7 : numI 7 = [1, 7] := by simp [numI, numB, beB]
theorem nI1024 : numI 1024 = [2, 4, 0] := by simp [numI, numB, beB]
theorem known_len0 : (scpB knownS).length = 34 := by simp [scpB, knownS, listB, entB, rulB, placeB, textB, cornB, setsB, nI0, nI1, nI3, nI4, nI7, nI1024]
theorem known_len : 20 < (scpB knownS).length ∧ (scpB knownS).length ≤ 65536 := by rw [known_len0]; exact ⟨by decide, by decide⟩
theorem known_check (e r g l x o : Value) (B : Nat) (w : World) (hB : B ≤ w.heap.size) (hw : Words w) (hb : RdScp w B knownS e r g l x o) :
    Calls Tryz.prog 14 #[vScp knownS e r g l x o] w fun u w' => u = .returned (.int .i64 0) ∧ Below w.heap.size w w' := by
  refine (script_check knownS e r g l x o 0 B w hB hb (fun W hW => ?_)).mono (fun u w' h => ?_)
  · have hb1 := hb.below (hW.mono hB)
    refine book_check knownS.book e r g l x B W (by have := hW.size; omega) hb1.book (by decide) (by decide) known_acl rfl rfl rfl (by decide) (by decide) (fun W2 hW2 => ?_)
    exact entry_check_9 e 3 4 B W2 (hb1.book.below (hW2.mono (by have := hW.size; omega))).ents (by have := hW.size; have := hW2.size; omega) (by decide) ((hw.below hW).below hW2)
  · simpa [knownS] using h
theorem eql_ent (x y : Ent) (w : World) : (binOp .eql 58 (.agg (cEnt x).toArray) (.agg (cEnt y).toArray)).run Tryz.prog w = .ok (.bool (decide (x = y))) w := by
  obtain ⟨⟨a, b⟩, s⟩ := x
  obtain ⟨⟨a', b'⟩, s'⟩ := y
  simp [go_sem, cEnt]
  by_cases q0 : a = a'
  · by_cases q1 : b = b'
    · by_cases q2 : s = s'
      · simp [q0, q1, q2]
      · simp [q0, q1, q2]
    · simp [q0, q1]
  · simp [q0]
theorem known_conv (w : World) : (convert 59 9 (.slice (some ⟨w.heap.size, 0, none⟩) 11 11)).run Tryz.prog (w.alloc (.cells #[.int .u8 2, .int .u8 7, .int .u8 7, .int .u8 7, .int .u8 0, .int .u8 1, .int .u8 2, .int .u8 3, .int .u8 1, .int .u8 9, .int .u8 0] 5)) = .ok (str [2, 7, 7, 7, 0, 1, 2, 3, 1, 9, 0]) (w.alloc (.cells #[.int .u8 2, .int .u8 7, .int .u8 7, .int .u8 7, .int .u8 0, .int .u8 1, .int .u8 2, .int .u8 3, .int .u8 1, .int .u8 9, .int .u8 0] 5)) := by
  have hb : Blk (w.alloc (.cells #[.int .u8 2, .int .u8 7, .int .u8 7, .int .u8 7, .int .u8 0, .int .u8 1, .int .u8 2, .int .u8 3, .int .u8 1, .int .u8 9, .int .u8 0] 5)) w.heap.size 5 #[.int .u8 2, .int .u8 7, .int .u8 7, .int .u8 7, .int .u8 0, .int .u8 1, .int .u8 2, .int .u8 3, .int .u8 1, .int .u8 9, .int .u8 0] := Blk.new w _ _
  refine run_convert_bytes_back (P := Tryz.prog) _ 59 9 5 ⟨w.heap.size, 0, none⟩ 11 [2, 7, 7, 7, 0, 1, 2, 3, 1, 9, 0] Tryz.underlying59 Tryz.underlying5 Tryz.underlying9 (fun j hj => ?_)
  rw [addr_add0, hb.cell j]
  match j, hj with
  | 0, _ => rfl
  | 1, _ => rfl
  | 2, _ => rfl
  | 3, _ => rfl
  | 4, _ => rfl
  | 5, _ => rfl
  | 6, _ => rfl
  | 7, _ => rfl
  | 8, _ => rfl
  | 9, _ => rfl
  | 10, _ => rfl
  | j + 11, h => simp at h; omega
theorem known_any (w : World) (hw : Words w) :
    Calls Tryz.prog 10 #[] w fun u w' => u = .returned (.bool true) ∧ Below w.heap.size w w' := by
  have HW := Lib.hid hw
  clear hw
  have kc := known_conv
  have kl : (20 : Int) < ((scpB knownS).length : Int) := by have := known_len.1; omega
  have KE := Lib.hid (eql_ent ⟨⟨3, 4⟩, [57]⟩ ⟨⟨3, 4⟩, [57]⟩)
  go_enter Tryz.func10, Tryz.ntmps10
  go_wp2_with fail
  refine (known_read _).mono ?_
  rintro u w1 ⟨ve, vr, vg, vl, vx, vo, rfl, hb, hb1⟩
  obtain ⟨Ae, ce, rfl, _⟩ := id hb.book.ents
  obtain ⟨Ar, cr, rfl, _⟩ := id hb.book.ruls
  obtain ⟨Ag, cg, rfl, _⟩ := id hb.book.grts
  obtain ⟨Al, cl, rfl, _⟩ := id hb.book.evts
  obtain ⟨Ax, cx, rfl, _⟩ := id hb.book.rlss
  obtain ⟨Ao, co, rfl, _⟩ := id hb.ops
  have HB := Lib.hid hb
  have HB1 := Lib.hid (show Below w.heap.size w w1 from Below.next (by go_grown) hb1 (by simp))
  obtain ⟨be, oe, rfl, hbe, re⟩ := hb.book.ents.get 3 cEnt_len (i := 0) rfl
  have hwb : Words w1 := (HW.out.below (by go_grown)).below hb1
  have KS := Lib.hid (Blk.new w1 31 #[.int .i64 knownS.book.users, .slice (some ⟨be, oe, none⟩) knownS.book.entries.length ce, .slice Ar knownS.book.rules.length cr, .slice Ag knownS.book.grants.length cg, .slice Al knownS.book.log.length cl, .slice Ax knownS.book.releases.length cx, .int .i64 knownS.book.step, .slice Ao knownS.ops.length co])
  have RE := Lib.hid re
  have HWB := Lib.hid hwb
  have HBE := Lib.hid hbe
  clear hb hb1 kc re hwb hbe
  go_wp2_with fail
  refine (encode_ok knownS _ _ _ _ _ _ w1.heap.size _ (by simp) (HB.out.below (by go_grown)) known_writes known_len.2 (fun W hW => known_check _ _ _ _ _ _ w1.heap.size W (by have := hW.size; simp at this; omega) ((HWB.out.below (by go_grown)).below hW) (HB.out.below (Below.trans (by go_grown) (hW.mono (by simp)))))).mono ?_
  rintro u w2 ⟨rfl, hb2⟩
  have KS2 := Lib.hid (KS.out.below_ hb2)
  have hb3 : Below w1.heap.size w1 w2 := Below.next_ (by go_grown) hb2
  have HB2 := Lib.hid (Below.trans HB1.out (hb3.mono HB1.out.size))
  have e0 : w2.cell? ⟨be, oe, none⟩ = some (.int .i64 3) := (hb3.cell (p := ⟨be, oe, none⟩) HBE.out).trans (by have := RE.out 0 _ rfl; simpa using this)
  have e1 : w2.cell? ⟨be, oe + 1, none⟩ = some (.int .i64 4) := (hb3.cell (p := ⟨be, oe + 1, none⟩) HBE.out).trans (by have := RE.out 1 _ rfl; simpa using this)
  have e2 : w2.cell? ⟨be, oe + 2, none⟩ = some (str [57]) := (hb3.cell (p := ⟨be, oe + 2, none⟩) HBE.out).trans (by have := RE.out 2 _ rfl; simpa using this)
  have ku : knownS.book.users = 3 := rfl
  have kn : (knownS.book.entries.length : Int) = 1 := rfl
  have kn2 : knownS.book.entries.length = 1 := rfl
  have s0 := KS2.out.cell 0
  have s1 := KS2.out.cell 1
  clear hb2 hb3 KS HB1 HWB HB
  go_wp2_with fail
  go_ret
  exact ⟨rfl, HB2.out⟩
theorem rct_in {r : Rct} (h : rctB r = true) : ¬ r.c1 < 1 ∧ ¬ r.r1 < 1 ∧ ¬ r.c2 < r.c1 ∧ ¬ r.r2 < r.r1 ∧ ¬ 1024 < r.c2 ∧ ¬ 1024 < r.r2 := by
  simp only [rctB, validB, Bool.and_eq_true, decide_eq_true_eq] at h
  omega
theorem any_any (s : Bytes) (w : World) (hw : Words w) (hs : s.length ≤ maxLen) :
    Calls Tryz.prog 6 #[str s] w fun u w' => u = .returned (.bool true) ∧ Below w.heap.size w w' := by
  have HW := Lib.hid hw
  clear hw
  unfold maxLen at hs
  by_cases hl : 2000 < s.length
  · have hl' : (2000 : Int) < (s.length : Int) := by omega
    go_enter Tryz.func6, Tryz.ntmps6
    go_wp2_with fail
    refine (known_any _ HW.out).mono ?_
    rintro u w1 ⟨rfl, hb1⟩
    go_wp2_with fail
    go_ret
    exact ⟨rfl, hb1⟩
  have hl' : ¬ (2000 : Int) < (s.length : Int) := by omega
  have hl2 : s.length ≤ 2000 := by omega
  obtain ⟨x, hx⟩ : ∃ x, readB putB s = x := ⟨_, rfl⟩
  have hok := read_ok s
  have hen := read_ents s
  have hC := read_p s w hl2
  rw [hx] at hok hen hC
  obtain ⟨hE, hln, hall⟩ := hok
  have hln' : ¬ ((s.length : Int) < (x.ops.length : Int)) := by omega
  have hld : decide ((s.length : Int) < (x.ops.length : Int)) = false := decide_eq_false hln'
  have hle : decide (s.length < x.ops.length) = false := decide_eq_false (by omega)
  have HE := Lib.hid hE
  have HEN := Lib.hid hen
  have HAL := Lib.hid hall
  have HC := Lib.hid hC
  clear hE hen hall hC hx
  go_enter Tryz.func6, Tryz.ntmps6
  go_wp2_with fail
  refine HC.out.mono ?_
  rintro u w1 ⟨e, r, g, l, z, o, rfl, h1, hb1⟩
  obtain ⟨Ae, ce, rfl, -⟩ := id h1.book.ents
  obtain ⟨Ar, cr, rfl, -⟩ := id h1.book.ruls
  obtain ⟨Ag, cg, rfl, -⟩ := id h1.book.grts
  obtain ⟨Al, cl, rfl, -⟩ := id h1.book.evts
  obtain ⟨Ax, cx, rfl, -⟩ := id h1.book.rlss
  obtain ⟨Ao, co, rfl, -⟩ := id h1.ops
  have H1 := Lib.hid h1
  have HB1 := Lib.hid (hb1.alloc hb1.size (.cells #[.int .i64 x.book.users, .slice Ae x.book.entries.length ce, .slice Ar x.book.rules.length cr, .slice Ag x.book.grants.length cg, .slice Al x.book.log.length cl, .slice Ax x.book.releases.length cx, .int .i64 x.book.step, .slice Ao x.ops.length co] 31))
  have HB0 := Lib.hid hb1
  clear h1 hb1
  go_wp2_with fail
  refine (script_check_any x _ _ _ _ _ _ w1.heap.size _ (by simp) (H1.out.below (by go_grown)) (HW.out.below HB1.out) HEN.out.1 (fun y hy => by rw [HEN.out.2] at hy; cases hy)).mono ?_
  rintro u w2 ⟨rfl, hb2⟩
  rw [HE.out]
  have HK := Lib.hid ((Blk.new w1 31 #[.int .i64 x.book.users, .slice Ae x.book.entries.length ce, .slice Ar x.book.rules.length cr, .slice Ag x.book.grants.length cg, .slice Al x.book.log.length cl, .slice Ax x.book.releases.length cx, .int .i64 x.book.step, .slice Ao x.ops.length co]).below_ hb2)
  have HR2 := Lib.hid ((H1.out.below (by go_grown : Below w1.heap.size w1 (w1.alloc (.cells #[.int .i64 x.book.users, .slice Ae x.book.entries.length ce, .slice Ar x.book.rules.length cr, .slice Ag x.book.grants.length cg, .slice Al x.book.log.length cl, .slice Ax x.book.releases.length cx, .int .i64 x.book.step, .slice Ao x.ops.length co] 31)))).below (hb2.mono (by simp)))
  have HB2 := Lib.hid (Below.next HB1.out hb2 HB1.out.size)
  have HS2 := Lib.hid (Nat.le_trans (Below.alloc (Below.refl w1.heap.size w1) (Nat.le_refl _) (.cells #[.int .i64 x.book.users, .slice Ae x.book.entries.length ce, .slice Ar x.book.rules.length cr, .slice Ag x.book.grants.length cg, .slice Al x.book.log.length cl, .slice Ax x.book.releases.length cx, .int .i64 x.book.step, .slice Ao x.ops.length co] 31)).size hb2.size)
  have y7 := HK.out.cell 7
  have hlw := HK.out.lt
  clear hb2
  go_wp2
  go_loopw [4] (fun i wr => ∃ k : Nat, k ≤ x.ops.length ∧ i = .int .i64 k ∧ Below w2.heap.size w2 wr) (fun i _ => x.ops.length - (intOf i).toNat)
  case atStart => exact ⟨0, by omega, rfl, Below.refl _ _⟩
  case round =>
    obtain ⟨k, hk, rfl, hb⟩ := hrel
    have KR := Lib.hid (HK.out.below_ hb)
    have RR := Lib.hid (HR2.out.below (hb.mono (by have := HS2.out; omega)))
    have HBW := Lib.hid hb
    have y0 := KR.out.cell 0
    have y7r := KR.out.cell 7
    have hlr := KR.out.lt
    have hbz := hb.size
    clear hb y7
    by_cases hlt : k < x.ops.length
    · have hx : x.ops[k]? = some x.ops[k] := List.getElem?_eq_getElem hlt
      obtain ⟨b, oo, rfl, hbb, rw0⟩ := RR.out.ops.get 13 cOpr_len hx
      have HO := Lib.hid (HAL.out _ (List.getElem_mem hlt))
      clear hx
      generalize x.ops[k] = o at *
      have r0 : wr.cell? ⟨b, oo + k * 13, none⟩ = some (.int .u8 o.kind) := rw0 0 _ rfl
      have r1 : wr.cell? ⟨b, oo + k * 13 + 1, none⟩ = some (.int .i64 o.user) := rw0 1 _ rfl
      have r2 : wr.cell? ⟨b, oo + k * 13 + 2, none⟩ = some (.int .i64 o.rect.c1) := rw0 2 _ rfl
      have r3 : wr.cell? ⟨b, oo + k * 13 + 3, none⟩ = some (.int .i64 o.rect.r1) := rw0 3 _ rfl
      have r4 : wr.cell? ⟨b, oo + k * 13 + 4, none⟩ = some (.int .i64 o.rect.c2) := rw0 4 _ rfl
      have r5 : wr.cell? ⟨b, oo + k * 13 + 5, none⟩ = some (.int .i64 o.rect.r2) := rw0 5 _ rfl
      have r6 : wr.cell? ⟨b, oo + k * 13 + 6, none⟩ = some (str o.input) := rw0 6 _ rfl
      have r7 : wr.cell? ⟨b, oo + k * 13 + 7, none⟩ = some (.int .u64 o.rights.rd) := rw0 7 _ rfl
      have r8 : wr.cell? ⟨b, oo + k * 13 + 8, none⟩ = some (.int .u64 o.rights.wr) := rw0 8 _ rfl
      have r9 : wr.cell? ⟨b, oo + k * 13 + 9, none⟩ = some (.int .u64 o.rights.ow) := rw0 9 _ rfl
      have r10 : wr.cell? ⟨b, oo + k * 13 + 10, none⟩ = some (.int .u8 o.fns) := rw0 10 _ rfl
      have r11 : wr.cell? ⟨b, oo + k * 13 + 11, none⟩ = some (.int .u64 o.to_) := rw0 11 _ rfl
      have r12 : wr.cell? ⟨b, oo + k * 13 + 12, none⟩ = some (.int .i64 o.index) := rw0 12 _ rfl
      clear rw0
      have hi0 : (0 : Int) ≤ (k : Int) := Int.natCast_nonneg _
      have hi1 : (k : Int) < (x.ops.length : Int) := by omega
      have u1 : ¬ o.user < 0 := by have := HO.out.us; omega
      have u2 : ¬ x.book.users ≤ o.user := by have := HO.out.us; omega
      have T1 := Lib.hid (opchk_ok _ o HO.out)
      have T2 := Lib.hid (target_ok _ o HO.out)
      have HB3 := Lib.hid (HBW.out.alloc HBW.out.size (.cells #[.int .u8 o.kind, .int .i64 o.user, .int .i64 o.rect.c1, .int .i64 o.rect.r1, .int .i64 o.rect.c2, .int .i64 o.rect.r2, str o.input, .int .u64 o.rights.rd, .int .u64 o.rights.wr, .int .u64 o.rights.ow, .int .u8 o.fns, .int .u64 o.to_, .int .i64 o.index] 48))
      have KO := Lib.hid (Blk.new wr 48 #[.int .u8 o.kind, .int .i64 o.user, .int .i64 o.rect.c1, .int .i64 o.rect.r1, .int .i64 o.rect.c2, .int .i64 o.rect.r2, str o.input, .int .u64 o.rights.rd, .int .u64 o.rights.wr, .int .u64 o.rights.ow, .int .u8 o.fns, .int .u64 o.to_, .int .i64 o.index])
      have KR3 := Lib.hid (KR.out.alloc (.cells #[.int .u8 o.kind, .int .i64 o.user, .int .i64 o.rect.c1, .int .i64 o.rect.r1, .int .i64 o.rect.c2, .int .i64 o.rect.r2, str o.input, .int .u64 o.rights.rd, .int .u64 o.rights.wr, .int .u64 o.rights.ow, .int .u8 o.fns, .int .u64 o.to_, .int .i64 o.index] 48))
      go_wp2_with fail
      refine (T1.out _).mono ?_
      rintro u w3 ⟨rfl, hb3⟩
      have KO3 := Lib.hid (KO.out.below_ hb3)
      have KX3 := Lib.hid (KR3.out.below_ hb3)
      have HB4 := Lib.hid (Below.next HB3.out hb3 HB3.out.size)
      have c0 := KO3.out.cell 0
      have c1 := KO3.out.cell 1
      have c2 := KO3.out.cell 2
      have c3 := KO3.out.cell 3
      have c4 := KO3.out.cell 4
      have c5 := KO3.out.cell 5
      have c6 := KO3.out.cell 6
      have c7 := KO3.out.cell 7
      have c8 := KO3.out.cell 8
      have c9 := KO3.out.cell 9
      have c10 := KO3.out.cell 10
      have c11 := KO3.out.cell 11
      have c12 := KO3.out.cell 12
      have x0 := KX3.out.cell 0
      clear hb3
      go_wp2_with fail
      refine (T2.out _).mono ?_
      rintro u w4 ⟨rfl, hb4⟩
      have KX4 := Lib.hid (KX3.out.below_ hb4)
      have HB5 := Lib.hid (Below.next HB4.out hb4 HB4.out.size)
      have x07 := KX4.out.cell 7
      clear hb4 c0 c1 c2 c3 c4 c5 c6 c7 c8 c9 c10 c11 c12 x0 r0 r1 r2 r3 r4 r5 r6 r7 r8 r9 r10 r11 r12 y0 y7r
      rw [show (cRct o.rect).toArray = #[.int .i64 o.rect.c1, .int .i64 o.rect.r1, .int .i64 o.rect.c2, .int .i64 o.rect.r2] from rfl]
      have HB6 := Lib.hid (HB5.out.alloc HB5.out.size (.cells #[.int .i64 o.rect.c1, .int .i64 o.rect.r1, .int .i64 o.rect.c2, .int .i64 o.rect.r2] 43))
      by_cases hk38 : 3 ≤ o.kind ∧ o.kind ≤ 8
      · have HD := Lib.hid (show decide (3 ≤ o.kind ∧ o.kind ≤ 8) = true by simpa using hk38)
        have hrc := HO.out.rc
        rw [if_pos hk38] at hrc
        obtain ⟨p1, p2, p3, p4, p5, p6⟩ := rct_in hrc
        rw [HD.out]
        clear hk38 hrc
        go_wp2
        exact ⟨⟨k + 1, by omega, by go_num, HB6.out⟩, by simp [intOf]; omega⟩
      · have HD := Lib.hid (show decide (3 ≤ o.kind ∧ o.kind ≤ 8) = false by simpa using hk38)
        rw [HD.out]
        clear hk38
        go_wp2
        exact ⟨⟨k + 1, by omega, by go_num, HB6.out⟩, by simp [intOf]; omega⟩
    · have hi1 : ¬ (k : Int) < (x.ops.length : Int) := by omega
      have HB7 := Lib.hid (Below.next HB2.out HBW.out HB2.out.size)
      go_wp2_with fail
      refine (known_any _ (HW.out.below HB7.out)).mono ?_
      rintro u w3 ⟨rfl, hb3⟩
      have HB8 := Lib.hid (Below.next HB7.out hb3 HB7.out.size)
      clear hb3
      go_wp2
      go_ret
      exact ⟨rfl, HB8.out⟩
end Go.Proofs.YtamcgggmfghljaaGreatDoor
