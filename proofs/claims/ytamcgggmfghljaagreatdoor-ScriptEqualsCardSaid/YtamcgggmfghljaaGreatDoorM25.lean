/- Layer 41: the known script, read and written. · ScriptEquals: the law's walk. · ScriptEquals: the law's walk where both scripts are short. -/
import Derived.BigRegion
import Derived.Deep.RegionWith
import Derived.Deep.RegionHeld3
import Derived.Deep.MidRow
import Derived.Test.YtamcgggmfghljaaGreatDoorM14
import Derived.Test.YtamcgggmfghljaaGreatDoorM16
import Derived.Test.YtamcgggmfghljaaGreatDoorM21
import Derived.Test.YtamcgggmfghljaaGreatDoorM24
import Derived.Test.YtamcgggmfghljaaGreatDoorM11
import Derived.Test.YtamcgggmfghljaaGreatDoorM8
namespace Go.Proofs.YtamcgggmfghljaaGreatDoor
open Go.RowKit

theorem known_writes : WritesS knownS := by
  refine ⟨?_, ?_, ?_, ?_, ?_, ?_⟩ <;> intro x hx
  · simp [knownS] at hx; subst hx
    intro v l w h hl
    exact wr_ent v l ⟨⟨3, 4⟩, [57]⟩ w (by simp) h hl
  · simp [knownS] at hx; subst hx
    intro v l w h hl
    exact wr_rul v l ⟨⟨1, 1, 1024, 1024⟩, ⟨7, 7, 7⟩⟩ w (by decide) (by decide) (by decide) (by decide) (by decide) (by decide) h hl
  all_goals simp [knownS] at hx
theorem known_acl : aclE 3 knownS.book.rules = 0 := by decide
theorem nI0 : numI 0 = [0] := by simp [numI, numB, beB]
theorem nI1 : numI 1 = [1, 1] := by simp [numI, numB, beB]
theorem nI3 : numI 3 = [1, 3] := by simp [numI, numB, beB]
theorem nI4 : numI 4 = [1, 4] := by simp [numI, numB, beB]
theorem nI7 : numI 7 = [1, 7] := by simp [numI, numB, beB]
theorem nI1024 : numI 1024 = [2, 4, 0] := by simp [numI, numB, beB]
theorem known_len0 : (scpB knownS).length = 34 := by simp [scpB, knownS, listB, entB, rulB, placeB, textB, cornB, setsB, nI0, nI1, nI3, nI4, nI7, nI1024]
theorem known_len : 20 < (scpB knownS).length ∧ (scpB knownS).length ≤ 65536 := by rw [known_len0]; exact ⟨by decide, by decide⟩

theorem known_check (e r g l x o : Value) (B : Nat) (w : World) (hB : B ≤ w.heap.size) (hw : Words w) (hb : RdScp w B knownS e r g l x o) :
    Calls Tryz.prog 14 #[vScp knownS e r g l x o] w fun u w' => u = .returned (.int .i64 0) ∧ Below w.heap.size w w' := by
  refine (script_check knownS e r g l x o 0 B w hB hb (fun W hW => ?_)).mono (fun u w' h => ?_)
  · have hb1 := hb.below (hW.mono hB)
    refine book_check knownS.book e r g l x B W (by have := hW.size; omega) hb1.book (by decide) (by decide) known_acl rfl rfl rfl (by decide) (by decide) (fun W2 hW2 => ?_)
    exact entry_check_9 e 3 4 B W2 (hb1.book.below (hW2.mono (by have := hW.size; omega))).ents (by have := hW.size; have := hW2.size; omega) (by decide) ((hw.below hW).below hW2)
  · simpa [knownS] using h

theorem eql_ent (x y : Ent) (w : World) : (binOp .eql 58 (.agg (cEnt x).toArray) (.agg (cEnt y).toArray)).run Tryz.prog w = .ok (.bool (decide (x = y))) w := by
  obtain ⟨⟨a, b⟩, s⟩ := x
  obtain ⟨⟨a', b'⟩, s'⟩ := y
  simp [go_sem, cEnt]
  by_cases q0 : a = a'
  · by_cases q1 : b = b'
    · by_cases q2 : s = s'
      · simp [q0, q1, q2]
      · simp [q0, q1, q2]
    · simp [q0, q1]
  · simp [q0]

def kCells : Array Value := #[.int .u8 2, .int .u8 7, .int .u8 7, .int .u8 7, .int .u8 0, .int .u8 1, .int .u8 2, .int .u8 3, .int .u8 1, .int .u8 9, .int .u8 0]
theorem known_conv (w : World) : (convert 59 9 (.slice (some ⟨w.heap.size, 0, none⟩) 11 11)).run Tryz.prog (w.alloc (.cells #[.int .u8 2, .int .u8 7, .int .u8 7, .int .u8 7, .int .u8 0, .int .u8 1, .int .u8 2, .int .u8 3, .int .u8 1, .int .u8 9, .int .u8 0] 5)) = .ok (str [2, 7, 7, 7, 0, 1, 2, 3, 1, 9, 0]) (w.alloc (.cells #[.int .u8 2, .int .u8 7, .int .u8 7, .int .u8 7, .int .u8 0, .int .u8 1, .int .u8 2, .int .u8 3, .int .u8 1, .int .u8 9, .int .u8 0] 5)) := by
  have hb : Blk (w.alloc (.cells #[.int .u8 2, .int .u8 7, .int .u8 7, .int .u8 7, .int .u8 0, .int .u8 1, .int .u8 2, .int .u8 3, .int .u8 1, .int .u8 9, .int .u8 0] 5)) w.heap.size 5 #[.int .u8 2, .int .u8 7, .int .u8 7, .int .u8 7, .int .u8 0, .int .u8 1, .int .u8 2, .int .u8 3, .int .u8 1, .int .u8 9, .int .u8 0] := Blk.new w _ _
  refine run_convert_bytes_back (P := Tryz.prog) _ 59 9 5 ⟨w.heap.size, 0, none⟩ 11 [2, 7, 7, 7, 0, 1, 2, 3, 1, 9, 0] Tryz.underlying59 Tryz.underlying5 Tryz.underlying9 (fun j hj => ?_)
  rw [addr_add0, hb.cell j]
  match j, hj with
  | 0, _ => rfl
  | 1, _ => rfl
  | 2, _ => rfl
  | 3, _ => rfl
  | 4, _ => rfl
  | 5, _ => rfl
  | 6, _ => rfl
  | 7, _ => rfl
  | 8, _ => rfl
  | 9, _ => rfl
  | 10, _ => rfl
  | j + 11, h => simp at h; omega

set_option maxRecDepth 100000 in
set_option maxHeartbeats 4000000 in
theorem known_any (w : World) (hw : Words w) :
    Calls Tryz.prog 10 #[] w fun u w' => u = .returned (.bool true) ∧ Below w.heap.size w w' := by
  have HW := Lib.hid hw
  clear hw
  have kc := known_conv
  have kl : (20 : Int) < ((scpB knownS).length : Int) := by have := known_len.1; omega
  have KE := Lib.hid (eql_ent ⟨⟨3, 4⟩, [57]⟩ ⟨⟨3, 4⟩, [57]⟩)
  go_enter Tryz.func10, Tryz.ntmps10
  go_wp2_with fail
  refine (known_read _).mono ?_
  rintro u w1 ⟨ve, vr, vg, vl, vx, vo, rfl, hb, hb1⟩
  obtain ⟨Ae, ce, rfl, _⟩ := id hb.book.ents
  obtain ⟨Ar, cr, rfl, _⟩ := id hb.book.ruls
  obtain ⟨Ag, cg, rfl, _⟩ := id hb.book.grts
  obtain ⟨Al, cl, rfl, _⟩ := id hb.book.evts
  obtain ⟨Ax, cx, rfl, _⟩ := id hb.book.rlss
  obtain ⟨Ao, co, rfl, _⟩ := id hb.ops
  have HB := Lib.hid hb
  have HB1 := Lib.hid (show Below w.heap.size w w1 from Below.next (by go_grown) hb1 (by simp))
  obtain ⟨be, oe, rfl, hbe, re⟩ := hb.book.ents.get 3 cEnt_len (i := 0) rfl
  have hwb : Words w1 := (HW.out.below (by go_grown)).below hb1
  have KS := Lib.hid (Blk.new w1 31 #[.int .i64 knownS.book.users, .slice (some ⟨be, oe, none⟩) knownS.book.entries.length ce, .slice Ar knownS.book.rules.length cr, .slice Ag knownS.book.grants.length cg, .slice Al knownS.book.log.length cl, .slice Ax knownS.book.releases.length cx, .int .i64 knownS.book.step, .slice Ao knownS.ops.length co])
  have RE := Lib.hid re
  have HWB := Lib.hid hwb
  have HBE := Lib.hid hbe
  clear hb hb1 kc re hwb hbe
  go_wp2_with fail
  refine (encode_ok knownS _ _ _ _ _ _ w1.heap.size _ (by simp) (HB.out.below (by go_grown)) known_writes known_len.2 (fun W hW => known_check _ _ _ _ _ _ w1.heap.size W (by have := hW.size; simp at this; omega) ((HWB.out.below (by go_grown)).below hW) (HB.out.below (Below.trans (by go_grown) (hW.mono (by simp)))))).mono ?_
  rintro u w2 ⟨rfl, hb2⟩
  have KS2 := Lib.hid (KS.out.below_ hb2)
  have hb3 : Below w1.heap.size w1 w2 := Below.next_ (by go_grown) hb2
  have HB2 := Lib.hid (Below.trans HB1.out (hb3.mono HB1.out.size))
  have e0 : w2.cell? ⟨be, oe, none⟩ = some (.int .i64 3) := (hb3.cell (p := ⟨be, oe, none⟩) HBE.out).trans (by have := RE.out 0 _ rfl; simpa using this)
  have e1 : w2.cell? ⟨be, oe + 1, none⟩ = some (.int .i64 4) := (hb3.cell (p := ⟨be, oe + 1, none⟩) HBE.out).trans (by have := RE.out 1 _ rfl; simpa using this)
  have e2 : w2.cell? ⟨be, oe + 2, none⟩ = some (str [57]) := (hb3.cell (p := ⟨be, oe + 2, none⟩) HBE.out).trans (by have := RE.out 2 _ rfl; simpa using this)
  have ku : knownS.book.users = 3 := rfl
  have kn : (knownS.book.entries.length : Int) = 1 := rfl
  have kn2 : knownS.book.entries.length = 1 := rfl
  have s0 := KS2.out.cell 0
  have s1 := KS2.out.cell 1
  clear hb2 hb3 KS HB1 HWB HB
  go_wp2_with fail
  go_ret
  exact ⟨rfl, HB2.out⟩

end Go.Proofs.YtamcgggmfghljaaGreatDoor

namespace Go.Proofs.YtamcgggmfghljaaGreatDoor
open Go.RowKit

set_option maxRecDepth 100000 in
set_option maxHeartbeats 4000000 in
theorem equals_long (a b : Scp) (e r g l x o e' r' g' l' x' o' : Value) (w : World) (ha : RdScp w w.heap.size a e r g l x o) (hb : RdScp w w.heap.size b e' r' g' l' x' o') (ra : Reach a) (rb : Reach b) (hw : Words w) (hl : longS a = true ∨ longS b = true) :
    Calls Tryz.prog 5 #[vScp a e r g l x o, vScp b e' r' g' l' x' o'] w fun u w' => u = .returned (.bool true) ∧ Below w.heap.size w w' := by
  obtain ⟨Aae, cae, rfl, -⟩ := id ha.book.ents
  obtain ⟨Aar, car, rfl, -⟩ := id ha.book.ruls
  obtain ⟨Aag, cag, rfl, -⟩ := id ha.book.grts
  obtain ⟨Aal, cal, rfl, -⟩ := id ha.book.evts
  obtain ⟨Aax, cax, rfl, -⟩ := id ha.book.rlss
  obtain ⟨Aao, cao, rfl, -⟩ := id ha.ops
  obtain ⟨Abe, cbe, rfl, -⟩ := id hb.book.ents
  obtain ⟨Abr, cbr, rfl, -⟩ := id hb.book.ruls
  obtain ⟨Abg, cbg, rfl, -⟩ := id hb.book.grts
  obtain ⟨Abl, cbl, rfl, -⟩ := id hb.book.evts
  obtain ⟨Abx, cbx, rfl, -⟩ := id hb.book.rlss
  obtain ⟨Abo, cbo, rfl, -⟩ := id hb.ops
  have HA := Lib.hid (show RdScp w w.heap.size a _ _ _ _ _ _ from ha)
  have HB := Lib.hid (show RdScp w w.heap.size b _ _ _ _ _ _ from hb)
  have RA := Lib.hid ra
  have RB := Lib.hid rb
  have HW := Lib.hid hw
  have HL := Lib.hid hl
  clear ha hb ra rb hw hl
  have KA0 := Lib.hid (show Blk ((w.alloc (.cells #[.int .i64 a.book.users, .slice Aae a.book.entries.length cae, .slice Aar a.book.rules.length car, .slice Aag a.book.grants.length cag, .slice Aal a.book.log.length cal, .slice Aax a.book.releases.length cax, .int .i64 a.book.step, .slice Aao a.ops.length cao] 31)).alloc (.cells #[.int .i64 b.book.users, .slice Abe b.book.entries.length cbe, .slice Abr b.book.rules.length cbr, .slice Abg b.book.grants.length cbg, .slice Abl b.book.log.length cbl, .slice Abx b.book.releases.length cbx, .int .i64 b.book.step, .slice Abo b.ops.length cbo] 31)) w.heap.size 31 #[.int .i64 a.book.users, .slice Aae a.book.entries.length cae, .slice Aar a.book.rules.length car, .slice Aag a.book.grants.length cag, .slice Aal a.book.log.length cal, .slice Aax a.book.releases.length cax, .int .i64 a.book.step, .slice Aao a.ops.length cao] from (Blk.new w _ _).alloc _)
  have KB0 := Lib.hid (show Blk ((w.alloc (.cells #[.int .i64 a.book.users, .slice Aae a.book.entries.length cae, .slice Aar a.book.rules.length car, .slice Aag a.book.grants.length cag, .slice Aal a.book.log.length cal, .slice Aax a.book.releases.length cax, .int .i64 a.book.step, .slice Aao a.ops.length cao] 31)).alloc (.cells #[.int .i64 b.book.users, .slice Abe b.book.entries.length cbe, .slice Abr b.book.rules.length cbr, .slice Abg b.book.grants.length cbg, .slice Abl b.book.log.length cbl, .slice Abx b.book.releases.length cbx, .int .i64 b.book.step, .slice Abo b.ops.length cbo] 31)) (w.heap.size + 1) 31 #[.int .i64 b.book.users, .slice Abe b.book.entries.length cbe, .slice Abr b.book.rules.length cbr, .slice Abg b.book.grants.length cbg, .slice Abl b.book.log.length cbl, .slice Abx b.book.releases.length cbx, .int .i64 b.book.step, .slice Abo b.ops.length cbo] by simpa using Blk.new (w.alloc (.cells #[.int .i64 a.book.users, .slice Aae a.book.entries.length cae, .slice Aar a.book.rules.length car, .slice Aag a.book.grants.length cag, .slice Aal a.book.log.length cal, .slice Aax a.book.releases.length cax, .int .i64 a.book.step, .slice Aao a.ops.length cao] 31)) 31 #[.int .i64 b.book.users, .slice Abe b.book.entries.length cbe, .slice Abr b.book.rules.length cbr, .slice Abg b.book.grants.length cbg, .slice Abl b.book.log.length cbl, .slice Abx b.book.releases.length cbx, .int .i64 b.book.step, .slice Abo b.ops.length cbo])
  go_enter Tryz.func5, Tryz.ntmps5
  go_wp2_with fail
  refine (long_any a _ _ _ _ _ _ w.heap.size _ (by simp; omega) (HA.out.below (by go_grown)) RA.out).mono ?_
  rintro u w1 ⟨rfl, hb1⟩
  have KB := Lib.hid (KB0.out.below_ hb1)
  have HB1 := Lib.hid (show Below w.heap.size w w1 from Below.next (by go_grown) hb1 (by simp; omega))
  clear hb1 KA0 KB0
  by_cases hA : longS a = true
  · rw [hA]
    go_wp2_with fail
    refine (known_any _ (HW.out.below (Below.trans HB1.out (by go_grown)))).mono ?_
    rintro u w2 ⟨rfl, hb2⟩
    have HB2 := Lib.hid (show Below w.heap.size w w2 from Below.next HB1.out hb2 HB1.out.size)
    clear hb2
    go_wp2_with fail
    go_ret
    exact ⟨rfl, HB2.out⟩
  · have hA' : longS a = false := by simpa using hA
    have hB' : longS b = true := by rcases HL.out with h | h; exact absurd h hA; exact h
    rw [hA']
    have y0 := KB.out.cell 0
    have y1 := KB.out.cell 1
    have y2 := KB.out.cell 2
    have y3 := KB.out.cell 3
    have y4 := KB.out.cell 4
    have y5 := KB.out.cell 5
    have y6 := KB.out.cell 6
    have y7 := KB.out.cell 7
    go_wp2_with fail
    refine (long_any b _ _ _ _ _ _ w.heap.size _ (by have := HB1.out.size; simp; omega) (HB.out.below (Below.trans HB1.out (by go_grown))) RB.out).mono ?_
    rintro u w2 ⟨rfl, hb2⟩
    rw [hB']
    have HB2 := Lib.hid (show Below w.heap.size w w2 from Below.next HB1.out hb2 HB1.out.size)
    clear hb2
    go_wp2_with fail
    refine (known_any _ (HW.out.below (Below.trans HB2.out (by go_grown)))).mono ?_
    rintro u w3 ⟨rfl, hb3⟩
    have HB3 := Lib.hid (show Below w.heap.size w w3 from Below.next HB2.out hb3 HB2.out.size)
    clear hb3
    go_wp2_with fail
    go_ret
    exact ⟨rfl, HB3.out⟩

end Go.Proofs.YtamcgggmfghljaaGreatDoor

namespace Go.Proofs.YtamcgggmfghljaaGreatDoor
open Go.RowKit

theorem RdScp.more {w : World} {B B' : Nat} {s : Scp} {e r g l x o : Value} (h : RdScp w B s e r g l x o) (hB : B ≤ B') : RdScp w B' s e r g l x o :=
  ⟨⟨h.book.ents.more hB, h.book.ruls.more hB, h.book.grts.more hB, h.book.evts.more hB, h.book.rlss.more hB⟩, h.ops.more hB⟩
theorem RdScp.drewN {w : World} {B : Nat} {s : Scp} {e r g l x o : Value} (h : RdScp w B s e r g l x o) (n : Nat) : RdScp (w.drewN n) B s e r g l x o := h.below (Below.drewN_ (Below.refl _ _) n)
theorem RdScp.drew {w : World} {B : Nat} {s : Scp} {e r g l x o : Value} (h : RdScp w B s e r g l x o) : RdScp w.drew B s e r g l x o := h.drewN 1
theorem rd_copy {w : World} {base : Nat} {s : Scp} {e r g l x o : Value} (h : SlsN cEnt base w e s.book.entries ∧ SlsN cRul base w r s.book.rules ∧ SlsN cGrt base w g s.book.grants ∧ SlsN cEvt base w l s.book.log ∧ SlsN cRls base w x s.book.releases ∧ SlsN cOpr base w o s.ops) : RdScp w w.heap.size s e r g l x o :=
  ⟨⟨h.1.1, h.2.1.1, h.2.2.1.1, h.2.2.2.1.1, h.2.2.2.2.1.1⟩, h.2.2.2.2.2.1⟩
theorem short_of {s : Scp} (h : longS s = false) : Short s.book ∧ s.ops.length ≤ 8192 := by
  have := short_lists h
  unfold sumS at this
  exact ⟨⟨by omega, by omega, by omega, by omega, by omega⟩, by omega⟩

set_option maxRecDepth 100000 in
set_option maxHeartbeats 4000000 in
theorem equals_short (a b : Scp) (e r g l x o e' r' g' l' x' o' : Value) (w : World) (ha : RdScp w w.heap.size a e r g l x o) (hb : RdScp w w.heap.size b e' r' g' l' x' o') (ra : Reach a) (rb : Reach b) (hA : longS a = false) (hB : longS b = false) :
    Calls Tryz.prog 5 #[vScp a e r g l x o, vScp b e' r' g' l' x' o'] w fun u w' => u = .returned (.bool true) ∧ Below w.heap.size w w' := by
  obtain ⟨Aae, cae, rfl, -⟩ := id ha.book.ents
  obtain ⟨Aar, car, rfl, -⟩ := id ha.book.ruls
  obtain ⟨Aag, cag, rfl, -⟩ := id ha.book.grts
  obtain ⟨Aal, cal, rfl, -⟩ := id ha.book.evts
  obtain ⟨Aax, cax, rfl, -⟩ := id ha.book.rlss
  obtain ⟨Aao, cao, rfl, -⟩ := id ha.ops
  obtain ⟨Abe, cbe, rfl, -⟩ := id hb.book.ents
  obtain ⟨Abr, cbr, rfl, -⟩ := id hb.book.ruls
  obtain ⟨Abg, cbg, rfl, -⟩ := id hb.book.grts
  obtain ⟨Abl, cbl, rfl, -⟩ := id hb.book.evts
  obtain ⟨Abx, cbx, rfl, -⟩ := id hb.book.rlss
  obtain ⟨Abo, cbo, rfl, -⟩ := id hb.ops
  have HA := Lib.hid (show RdScp w w.heap.size a _ _ _ _ _ _ from ha)
  have HB := Lib.hid (show RdScp w w.heap.size b _ _ _ _ _ _ from hb)
  have RA := Lib.hid ra
  have RB := Lib.hid rb
  have SA := Lib.hid (short_of hA)
  clear ha hb ra rb
  have KA0 := Lib.hid (show Blk ((w.alloc (.cells #[.int .i64 a.book.users, .slice Aae a.book.entries.length cae, .slice Aar a.book.rules.length car, .slice Aag a.book.grants.length cag, .slice Aal a.book.log.length cal, .slice Aax a.book.releases.length cax, .int .i64 a.book.step, .slice Aao a.ops.length cao] 31)).alloc (.cells #[.int .i64 b.book.users, .slice Abe b.book.entries.length cbe, .slice Abr b.book.rules.length cbr, .slice Abg b.book.grants.length cbg, .slice Abl b.book.log.length cbl, .slice Abx b.book.releases.length cbx, .int .i64 b.book.step, .slice Abo b.ops.length cbo] 31)) w.heap.size 31 #[.int .i64 a.book.users, .slice Aae a.book.entries.length cae, .slice Aar a.book.rules.length car, .slice Aag a.book.grants.length cag, .slice Aal a.book.log.length cal, .slice Aax a.book.releases.length cax, .int .i64 a.book.step, .slice Aao a.ops.length cao] from (Blk.new w _ _).alloc _)
  have KB0 := Lib.hid (show Blk ((w.alloc (.cells #[.int .i64 a.book.users, .slice Aae a.book.entries.length cae, .slice Aar a.book.rules.length car, .slice Aag a.book.grants.length cag, .slice Aal a.book.log.length cal, .slice Aax a.book.releases.length cax, .int .i64 a.book.step, .slice Aao a.ops.length cao] 31)).alloc (.cells #[.int .i64 b.book.users, .slice Abe b.book.entries.length cbe, .slice Abr b.book.rules.length cbr, .slice Abg b.book.grants.length cbg, .slice Abl b.book.log.length cbl, .slice Abx b.book.releases.length cbx, .int .i64 b.book.step, .slice Abo b.ops.length cbo] 31)) (w.heap.size + 1) 31 #[.int .i64 b.book.users, .slice Abe b.book.entries.length cbe, .slice Abr b.book.rules.length cbr, .slice Abg b.book.grants.length cbg, .slice Abl b.book.log.length cbl, .slice Abx b.book.releases.length cbx, .int .i64 b.book.step, .slice Abo b.ops.length cbo] by simpa using Blk.new (w.alloc (.cells #[.int .i64 a.book.users, .slice Aae a.book.entries.length cae, .slice Aar a.book.rules.length car, .slice Aag a.book.grants.length cag, .slice Aal a.book.log.length cal, .slice Aax a.book.releases.length cax, .int .i64 a.book.step, .slice Aao a.ops.length cao] 31)) 31 #[.int .i64 b.book.users, .slice Abe b.book.entries.length cbe, .slice Abr b.book.rules.length cbr, .slice Abg b.book.grants.length cbg, .slice Abl b.book.log.length cbl, .slice Abx b.book.releases.length cbx, .int .i64 b.book.step, .slice Abo b.ops.length cbo])
  go_enter Tryz.func5, Tryz.ntmps5
  go_wp2_with fail
  refine (long_any a _ _ _ _ _ _ w.heap.size _ (by simp; omega) (HA.out.below (by go_grown)) RA.out).mono ?_
  rintro u w1 ⟨rfl, hb1⟩
  rw [hA]
  have KA1 := Lib.hid (KA0.out.below_ hb1)
  have KB1 := Lib.hid (KB0.out.below_ hb1)
  have HB1 := Lib.hid (show Below w.heap.size w w1 from Below.next (by go_grown) hb1 (by simp; omega))
  clear hb1 KA0 KB0
  have y0 := KB1.out.cell 0
  have y1 := KB1.out.cell 1
  have y2 := KB1.out.cell 2
  have y3 := KB1.out.cell 3
  have y4 := KB1.out.cell 4
  have y5 := KB1.out.cell 5
  have y6 := KB1.out.cell 6
  have y7 := KB1.out.cell 7
  go_wp2_with fail
  refine (long_any b _ _ _ _ _ _ w.heap.size _ (by have := HB1.out.size; simp; omega) (HB.out.below (Below.trans HB1.out (by go_grown))) RB.out).mono ?_
  rintro u w2 ⟨rfl, hb2⟩
  rw [hB]
  have KA := Lib.hid (KA1.out.below_ (by simpa using hb2))
  have KB := Lib.hid (KB1.out.below_ (by simpa using hb2))
  have HE := Lib.hid (show Below w.heap.size w w2 from Below.next HB1.out hb2 HB1.out.size)
  have HA := Lib.hid (HA.out.below HE.out)
  have HB := Lib.hid (HB.out.below HE.out)
  clear hb2 HB1 KA1 KB1 RA RB hA hB y0 y1 y2 y3 y4 y5 y6 y7
  have CE := Lib.hid (show ∀ W : World, Below w2.heap.size w2 W → Calls Tryz.prog 19 #[vScp a (.slice Aae a.book.entries.length cae) (.slice Aar a.book.rules.length car) (.slice Aag a.book.grants.length cag) (.slice Aal a.book.log.length cal) (.slice Aax a.book.releases.length cax) (.slice Aao a.ops.length cao), vScp b (.slice Abe b.book.entries.length cbe) (.slice Abr b.book.rules.length cbr) (.slice Abg b.book.grants.length cbg) (.slice Abl b.book.log.length cbl) (.slice Abx b.book.releases.length cbx) (.slice Abo b.ops.length cbo)] W fun u W' => u = .returned (.bool (decide (a = b))) ∧ Below W.heap.size W W' from fun W h => script_equal a b _ _ _ _ _ _ _ _ _ _ _ _ w.heap.size W (Nat.le_trans HE.out.size h.size) (HA.out.below (h.mono HE.out.size)) (HB.out.below (h.mono HE.out.size)))
  have CR := Lib.hid (show ∀ W : World, Below w2.heap.size w2 W → Calls Tryz.prog 20 #[vScp a (.slice Aae a.book.entries.length cae) (.slice Aar a.book.rules.length car) (.slice Aag a.book.grants.length cag) (.slice Aal a.book.log.length cal) (.slice Aax a.book.releases.length cax) (.slice Aao a.ops.length cao), vScp b (.slice Abe b.book.entries.length cbe) (.slice Abr b.book.rules.length cbr) (.slice Abg b.book.grants.length cbg) (.slice Abl b.book.log.length cbl) (.slice Abx b.book.releases.length cbx) (.slice Abo b.ops.length cbo)] W fun u W' => u = .returned (.bool (decide (a = b))) ∧ Below W.heap.size W W' from fun W h => r41_equal a b _ _ _ _ _ _ _ _ _ _ _ _ w.heap.size W (Nat.le_trans HE.out.size h.size) (HA.out.below (h.mono HE.out.size)) (HB.out.below (h.mono HE.out.size)))
  have CC := Lib.hid (show ∀ W : World, Below w2.heap.size w2 W → Calls Tryz.prog 11 #[vScp a (.slice Aae a.book.entries.length cae) (.slice Aar a.book.rules.length car) (.slice Aag a.book.grants.length cag) (.slice Aal a.book.log.length cal) (.slice Aax a.book.releases.length cax) (.slice Aao a.ops.length cao)] W fun u W' => ∃ e2 r2 g2 l2 x2 o2, u = .returned (vScp a e2 r2 g2 l2 x2 o2) ∧ (∀ W2 : World, Below W'.heap.size W' W2 → Calls Tryz.prog 19 #[vScp a (.slice Aae a.book.entries.length cae) (.slice Aar a.book.rules.length car) (.slice Aag a.book.grants.length cag) (.slice Aal a.book.log.length cal) (.slice Aax a.book.releases.length cax) (.slice Aao a.ops.length cao), vScp a e2 r2 g2 l2 x2 o2] W2 fun u W' => u = .returned (.bool true) ∧ Below W2.heap.size W2 W') ∧ Below W.heap.size W W' from fun W h => by
    refine (copy_script a _ _ _ _ _ _ w.heap.size W (Nat.le_trans HE.out.size h.size) (HA.out.below (h.mono HE.out.size)) SA.out.1 SA.out.2).mono ?_
    rintro u W' ⟨e2, r2, g2, l2, x2, o2, rfl, hs2, hbk⟩
    have HC := rd_copy hs2
    refine ⟨e2, r2, g2, l2, x2, o2, rfl, fun W2 h2 => ?_, hbk⟩
    have hbw : Below w.heap.size w2 W2 := (h.mono HE.out.size).trans ((hbk.mono (Nat.le_trans HE.out.size h.size)).trans (h2.mono (Nat.le_trans HE.out.size (Nat.le_trans h.size hbk.size))))
    refine (script_equal a a _ _ _ _ _ _ _ _ _ _ _ _ W'.heap.size W2 h2.size ((HA.out.below hbw).more (Nat.le_trans HE.out.size (Nat.le_trans h.size hbk.size))) (HC.below h2)).mono ?_
    rintro u W3 ⟨rfl, hb3⟩
    exact ⟨by simp, hb3⟩)
  have LA := Lib.hid (show ∀ W : World, Below w2.heap.size w2 W → W.rangeAt w.heap.size 0 [.int .i64 a.book.users, .slice Aae a.book.entries.length cae, .slice Aar a.book.rules.length car, .slice Aag a.book.grants.length cag, .slice Aal a.book.log.length cal, .slice Aax a.book.releases.length cax, .int .i64 a.book.step, .slice Aao a.ops.length cao] from fun W h => (KA.out.below_ h).range (l := [_, _, _, _, _, _, _, _]) (o := 0) (by intro j v hj; rw [Nat.zero_add]; exact List.getElem?_toArray.trans hj))
  have LB := Lib.hid (show ∀ W : World, Below w2.heap.size w2 W → W.rangeAt (w.heap.size + 1) 0 [.int .i64 b.book.users, .slice Abe b.book.entries.length cbe, .slice Abr b.book.rules.length cbr, .slice Abg b.book.grants.length cbg, .slice Abl b.book.log.length cbl, .slice Abx b.book.releases.length cbx, .int .i64 b.book.step, .slice Abo b.ops.length cbo] from fun W h => (KB.out.below_ h).range (l := [_, _, _, _, _, _, _, _]) (o := 0) (by intro j v hj; rw [Nat.zero_add]; exact List.getElem?_toArray.trans hj))
  clear KA KB HA HB SA
  go_wp2_with fail
  refine wp_region_held_drew (S := fun W => Below w2.heap.size w2 W) (by kernel_rfl) (Below.drewN_ (Below.refl _ _) 1) (fun hHeld => ?_)
  refine wpAnyH_take (i := 0) (oi := ⟨some 12, .load 31 (.tmp 2), 31, _, _, none⟩) (v := .agg _) rfl (by kernel_rfl) (by kernel_rfl) (by kernel_rfl) (fun _ _ _ h => h) (yieldsIf_load_mid rfl _ _ rfl (w.heap.size) 0 rfl _ _ LA.out rfl rfl (by kernel_rfl)) hHeld ?_
  try simp only [Act.put, List.setIfInBounds_toArray, List.set_cons_zero, List.set_cons_succ]
  refine wpAnyH_take (i := 1) (oi := ⟨some 13, .load 31 (.tmp 3), 31, _, _, none⟩) (v := .agg _) rfl (by kernel_rfl) (by kernel_rfl) (by kernel_rfl) (fun _ _ _ h => h) (yieldsIf_load_mid rfl _ _ rfl (w.heap.size + 1) 0 rfl _ _ LB.out rfl rfl (by kernel_rfl)) hHeld ?_
  try simp only [Act.put, List.setIfInBounds_toArray, List.set_cons_zero, List.set_cons_succ]
  refine wpAnyH_take (i := 3) (oi := ⟨some 15, .load 31 (.tmp 2), 31, _, _, none⟩) (v := .agg _) rfl (by kernel_rfl) (by kernel_rfl) (by kernel_rfl) (fun _ _ _ h => h) (yieldsIf_load_mid rfl _ _ rfl (w.heap.size) 0 rfl _ _ LA.out rfl rfl (by kernel_rfl)) hHeld ?_
  try simp only [Act.put, List.setIfInBounds_toArray, List.set_cons_zero, List.set_cons_succ]
  refine wpAnyH_take (i := 4) (oi := ⟨some 16, .load 31 (.tmp 3), 31, _, _, none⟩) (v := .agg _) rfl (by kernel_rfl) (by kernel_rfl) (by kernel_rfl) (fun _ _ _ h => h) (yieldsIf_load_mid rfl _ _ rfl (w.heap.size + 1) 0 rfl _ _ LB.out rfl rfl (by kernel_rfl)) hHeld ?_
  try simp only [Act.put, List.setIfInBounds_toArray, List.set_cons_zero, List.set_cons_succ]
  refine wpAnyH_ready (rs := [2]) (by kernel_rfl) (by simp) ?_
  refine AllReadyH.cons (o := ⟨some 14, .call { callee := .value (.func 19), args := #[.tmp 12, .tmp 13], argTypes := #[31, 31] }, 4, _, _, none⟩) rfl (fun K hK => ?_) AllReadyH.nil
  go_simp
  go_at_call 19
  refine (CE.out _ hHeld).mono ?_
  rintro u w3 ⟨rfl, hb3⟩
  refine hK.out _ _ (Below.next hHeld hb3 hHeld.size) (fun hHeld => ?_)
  clear hK K
  try simp only [Act.put, List.setIfInBounds_toArray, List.set_cons_zero, List.set_cons_succ]
  refine wpAnyH_ready (rs := [5]) (by kernel_rfl) (by simp) ?_
  refine AllReadyH.cons (o := ⟨some 17, .call { callee := .value (.func 20), args := #[.tmp 15, .tmp 16], argTypes := #[31, 31] }, 4, _, _, none⟩) rfl (fun K hK => ?_) AllReadyH.nil
  go_simp
  go_at_call 20
  refine (CR.out _ hHeld).mono ?_
  rintro u w4 ⟨rfl, hb4⟩
  refine hK.out _ _ (Below.next hHeld hb4 hHeld.size) (fun hHeld => ?_)
  clear hK K
  try simp only [Act.put, List.setIfInBounds_toArray, List.set_cons_zero, List.set_cons_succ]
  refine wpAnyH_take (i := 6) (oi := ⟨some 18, .binOp .eql 4 (.tmp 14) (.tmp 17) 4, 4, _, _, none⟩) (v := .bool true) rfl (by kernel_rfl) (by kernel_rfl) (by kernel_rfl) (fun _ _ _ h => h) (Or.inl ⟨by rfl, by intro W hW; go_simp⟩) hHeld ?_
  try simp only [Act.put, List.setIfInBounds_toArray, List.set_cons_zero, List.set_cons_succ]
  refine wpAnyH_take (i := 7) (oi := ⟨some 19, .move (.tmp 18), 4, _, _, none⟩) (v := .bool true) rfl (by kernel_rfl) (by kernel_rfl) (by kernel_rfl) (fun _ _ _ h => h) (Or.inl ⟨by rfl, by intro W hW; go_simp⟩) hHeld ?_
  try simp only [Act.put, List.setIfInBounds_toArray, List.set_cons_zero, List.set_cons_succ]
  refine wpAnyH_take (i := 8) (oi := ⟨some 20, .load 31 (.tmp 2), 31, _, _, some (7, true)⟩) (v := .agg _) rfl (by kernel_rfl) (by kernel_rfl) (by kernel_rfl) (fun _ _ _ h => h) (yieldsIf_load_mid rfl _ _ rfl (w.heap.size) 0 rfl _ _ LA.out rfl rfl (by kernel_rfl)) hHeld ?_
  try simp only [Act.put, List.setIfInBounds_toArray, List.set_cons_zero, List.set_cons_succ]
  refine wpAnyH_take (i := 9) (oi := ⟨some 21, .load 31 (.tmp 2), 31, _, _, some (7, true)⟩) (v := .agg _) rfl (by kernel_rfl) (by kernel_rfl) (by kernel_rfl) (fun _ _ _ h => h) (yieldsIf_load_mid rfl _ _ rfl (w.heap.size) 0 rfl _ _ LA.out rfl rfl (by kernel_rfl)) hHeld ?_
  try simp only [Act.put, List.setIfInBounds_toArray, List.set_cons_zero, List.set_cons_succ]
  refine wpAnyH_ready (rs := [10]) (by kernel_rfl) (by simp) ?_
  refine AllReadyH.cons (o := ⟨some 22, .call { callee := .value (.func 11), args := #[.tmp 21], argTypes := #[31] }, 31, _, _, some (7, true)⟩) rfl (fun K hK => ?_) AllReadyH.nil
  go_simp
  go_at_call 11
  refine (CC.out _ hHeld).mono ?_
  rintro u w5 ⟨e2, r2, g2, l2, x2, o2, rfl, CX, hb5⟩
  refine hK.out _ _ (Below.next hHeld hb5 hHeld.size) (fun hHeld => ?_)
  clear hK K
  try simp only [Act.put, List.setIfInBounds_toArray, List.set_cons_zero, List.set_cons_succ]
  refine wpAnyH_ready (rs := [11]) (by kernel_rfl) (by simp) ?_
  refine AllReadyH.cons (o := ⟨some 23, .call { callee := .value (.func 19), args := #[.tmp 20, .tmp 22], argTypes := #[31, 31] }, 4, _, _, some (7, true)⟩) rfl (fun K hK => ?_) AllReadyH.nil
  go_simp
  go_at_call 19
  refine (CX _ (Below.refl _ _)).mono ?_
  rintro u w6 ⟨rfl, hb6⟩
  refine hK.out _ _ (Below.next hHeld hb6 hHeld.size) (fun hHeld => ?_)
  clear hK K
  try simp only [Act.put, List.setIfInBounds_toArray, List.set_cons_zero, List.set_cons_succ]
  refine wpAnyH_take (i := 12) (oi := ⟨some 24, .pick (.tmp 19) (.tmp 23) (.const (.bool false)), 4, _, _, none⟩) (v := .bool true) rfl (by kernel_rfl) (by kernel_rfl) (by kernel_rfl) (fun _ _ _ h => h) (Or.inl ⟨by rfl, by intro W hW; go_simp⟩) hHeld ?_
  try simp only [Act.put, List.setIfInBounds_toArray, List.set_cons_zero, List.set_cons_succ]
  refine wpAnyH_take (i := 13) (oi := ⟨some 4, .assign (.tmp 24), 4, _, _, none⟩) (v := .bool true) rfl (by kernel_rfl) (by kernel_rfl) (by kernel_rfl) (fun _ _ _ h => h) (Or.inl ⟨by rfl, by intro W hW; go_simp⟩) hHeld ?_
  try simp only [Act.put, List.setIfInBounds_toArray, List.set_cons_zero, List.set_cons_succ]
  refine wpAnyH_done (by kernel_rfl) ?_ _
  have HF := Lib.hid (HE.out.trans (hHeld.mono HE.out.size))
  clear hHeld hb3 hb4 hb5 hb6 CX CE CR CC LA LB
  go_wp2_with fail
  go_ret
  exact ⟨rfl, HF.out⟩

end Go.Proofs.YtamcgggmfghljaaGreatDoor
