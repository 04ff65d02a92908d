/- Layer 41 (program): a script's bytes. · Layer 41 (program): a script's Encode, where its Check is fine. -/
import Derived.Deep.RegionHeld3
import Derived.Laws.IdiomStrings
import Derived.Test.YtamcgggmfghljaaGreatDoorR28
import Derived.Test.YtamcgggmfghljaaGreatDoorR6
namespace Go.Proofs.YtamcgggmfghljaaGreatDoor
open Go.RowKit

/-- Each element of a script can be written. -/
structure WritesS (s : Scp) : Prop where
  ents : ∀ x ∈ s.book.entries, Writes cEnt entB 86 x
  ruls : ∀ x ∈ s.book.rules, Writes cRul rulB 90 x
  grts : ∀ x ∈ s.book.grants, Writes cGrt grtB 94 x
  evts : ∀ x ∈ s.book.log, Writes cEvt evtB 99 x
  rlss : ∀ x ∈ s.book.releases, Writes cRls rlsB 101 x
  oprs : ∀ x ∈ s.ops, Writes cOpr oprB 103 x

set_option maxRecDepth 100000 in
set_option maxHeartbeats 4000000 in
theorem written_any (s : Scp) (e r g l x o : Value) (B : Nat) (w : World) (hB : B ≤ w.heap.size) (hb : RdScp w B s e r g l x o) (hs : WritesS s) (hl : (scpB s).length ≤ 100000000) :
    Calls Tryz.prog 27 #[vScp s e r g l x o] w fun u w' => ∃ v', u = .returned v' ∧ Out w' v' (scpB s) ∧ OutTo w (.slice none 0 0) w' v' := by
  obtain ⟨Ae, ce, rfl, _⟩ := id hb.book.ents
  obtain ⟨Ar, cr, rfl, _⟩ := id hb.book.ruls
  obtain ⟨Ag, cg, rfl, _⟩ := id hb.book.grts
  obtain ⟨Al, cl, rfl, _⟩ := id hb.book.evts
  obtain ⟨Ax, cx, rfl, _⟩ := id hb.book.rlss
  obtain ⟨Ao, co, rfl, _⟩ := id hb.ops
  have HB := Lib.hid hb
  clear hb
  have hl2 : (numI s.book.users).length + (listB entB s.book.entries).length + (listB rulB s.book.rules).length + (listB grtB s.book.grants).length + (listB evtB s.book.log).length + (listB rlsB s.book.releases).length + (numI s.book.step).length + (listB oprB s.ops).length ≤ 100000000 := by
    simpa [scpB, Nat.add_assoc] using hl
  clear hl
  go_enter Tryz.func27, Tryz.ntmps27
  go_wp2_with fail
  have kA : Blk ((w.alloc (.cells #[.int .i64 s.book.users, .slice Ae s.book.entries.length ce, .slice Ar s.book.rules.length cr, .slice Ag s.book.grants.length cg, .slice Al s.book.log.length cl, .slice Ax s.book.releases.length cx, .int .i64 s.book.step, .slice Ao s.ops.length co] 31)).alloc (.cells #[.int .i64 s.book.users, .slice Ae s.book.entries.length ce, .slice Ar s.book.rules.length cr, .slice Ag s.book.grants.length cg, .slice Al s.book.log.length cl, .slice Ax s.book.releases.length cx, .int .i64 s.book.step] 28)) w.heap.size 31 #[.int .i64 s.book.users, .slice Ae s.book.entries.length ce, .slice Ar s.book.rules.length cr, .slice Ag s.book.grants.length cg, .slice Al s.book.log.length cl, .slice Ax s.book.releases.length cx, .int .i64 s.book.step, .slice Ao s.ops.length co] := (Blk.new w _ _).alloc _
  have kB : Blk ((w.alloc (.cells #[.int .i64 s.book.users, .slice Ae s.book.entries.length ce, .slice Ar s.book.rules.length cr, .slice Ag s.book.grants.length cg, .slice Al s.book.log.length cl, .slice Ax s.book.releases.length cx, .int .i64 s.book.step, .slice Ao s.ops.length co] 31)).alloc (.cells #[.int .i64 s.book.users, .slice Ae s.book.entries.length ce, .slice Ar s.book.rules.length cr, .slice Ag s.book.grants.length cg, .slice Al s.book.log.length cl, .slice Ax s.book.releases.length cx, .int .i64 s.book.step] 28)) (w.heap.size + 1) 28 #[.int .i64 s.book.users, .slice Ae s.book.entries.length ce, .slice Ar s.book.rules.length cr, .slice Ag s.book.grants.length cg, .slice Al s.book.log.length cl, .slice Ax s.book.releases.length cx, .int .i64 s.book.step] := by have := Blk.new (w.alloc (.cells #[.int .i64 s.book.users, .slice Ae s.book.entries.length ce, .slice Ar s.book.rules.length cr, .slice Ag s.book.grants.length cg, .slice Al s.book.log.length cl, .slice Ax s.book.releases.length cx, .int .i64 s.book.step, .slice Ao s.ops.length co] 31)) 28 #[.int .i64 s.book.users, .slice Ae s.book.entries.length ce, .slice Ar s.book.rules.length cr, .slice Ag s.book.grants.length cg, .slice Al s.book.log.length cl, .slice Ax s.book.releases.length cx, .int .i64 s.book.step]; simpa using this
  have tt : OutTo w (.slice none 0 0) ((w.alloc (.cells #[.int .i64 s.book.users, .slice Ae s.book.entries.length ce, .slice Ar s.book.rules.length cr, .slice Ag s.book.grants.length cg, .slice Al s.book.log.length cl, .slice Ax s.book.releases.length cx, .int .i64 s.book.step, .slice Ao s.ops.length co] 31)).alloc (.cells #[.int .i64 s.book.users, .slice Ae s.book.entries.length ce, .slice Ar s.book.rules.length cr, .slice Ag s.book.grants.length cg, .slice Al s.book.log.length cl, .slice Ax s.book.releases.length cx, .int .i64 s.book.step] 28)) (.slice none 0 0) := ((OutTo.refl w _).alloc _).alloc _
  have hA : (Value.slice none 0 0).ownBlock ≠ some w.heap.size := by simp [Value.ownBlock]
  have hB2 : (Value.slice none 0 0).ownBlock ≠ some (w.heap.size + 1) := by simp [Value.ownBlock]
  have KA := Lib.hid kA
  have KB := Lib.hid kB
  have TT := Lib.hid tt
  clear kA kB tt
  refine (num_int _ [] _ _ (Out.nil _) (by simp)).mono ?_
  rintro e w1 ⟨v1, rfl, o1, t1⟩
  have KA1 := Lib.hid (KA.out.outTo t1 hA)
  have KB1 := Lib.hid (KB.out.outTo t1 hB2)
  have hA := t1.ne KA.out.lt hA
  have hB2 := t1.ne KB.out.lt hB2
  have TT1 := Lib.hid (TT.out.trans t1)
  have OO := Lib.hid o1
  clear KA KB TT
  have KA := KA1
  have KB := KB1
  have TT := TT1
  have hz := TT.out.chg.size
  clear o1 t1 KA1 KB1 TT1
  have q0 : w1.cell? ⟨w.heap.size + 1, 0, none⟩ = some (.int .i64 s.book.users) := KB.out.cell 0
  have q1 : w1.cell? ⟨w.heap.size + 1, 1, none⟩ = some (.slice Ae s.book.entries.length ce) := KB.out.cell 1
  have q2 : w1.cell? ⟨w.heap.size + 1, 2, none⟩ = some (.slice Ar s.book.rules.length cr) := KB.out.cell 2
  have q3 : w1.cell? ⟨w.heap.size + 1, 3, none⟩ = some (.slice Ag s.book.grants.length cg) := KB.out.cell 3
  have q4 : w1.cell? ⟨w.heap.size + 1, 4, none⟩ = some (.slice Al s.book.log.length cl) := KB.out.cell 4
  have q5 : w1.cell? ⟨w.heap.size + 1, 5, none⟩ = some (.slice Ax s.book.releases.length cx) := KB.out.cell 5
  have q6 : w1.cell? ⟨w.heap.size + 1, 6, none⟩ = some (.int .i64 s.book.step) := KB.out.cell 6
  go_wp2_with fail
  refine (list_ent _ _ _ _ B _ OO.out (by omega) (TT.out.newer hB (by simp [Value.ownBlock])) ((HB.out.book.ents).below (TT.out.old hB (by simp [Value.ownBlock]))) hs.ents (by (try simp); omega)).mono ?_
  rintro e w2 ⟨v2, rfl, o2, t2⟩
  clear q0 q1 q2 q3 q4 q5 q6
  have KA2 := Lib.hid (KA.out.outTo t2 hA)
  have KB2 := Lib.hid (KB.out.outTo t2 hB2)
  have hA := t2.ne KA.out.lt hA
  have hB2 := t2.ne KB.out.lt hB2
  have TT2 := Lib.hid (TT.out.trans t2)
  have OO := Lib.hid o2
  clear KA KB TT
  have KA := KA2
  have KB := KB2
  have TT := TT2
  have hz := TT.out.chg.size
  clear o2 t2 KA2 KB2 TT2
  have q0 : w2.cell? ⟨w.heap.size + 1, 0, none⟩ = some (.int .i64 s.book.users) := KB.out.cell 0
  have q1 : w2.cell? ⟨w.heap.size + 1, 1, none⟩ = some (.slice Ae s.book.entries.length ce) := KB.out.cell 1
  have q2 : w2.cell? ⟨w.heap.size + 1, 2, none⟩ = some (.slice Ar s.book.rules.length cr) := KB.out.cell 2
  have q3 : w2.cell? ⟨w.heap.size + 1, 3, none⟩ = some (.slice Ag s.book.grants.length cg) := KB.out.cell 3
  have q4 : w2.cell? ⟨w.heap.size + 1, 4, none⟩ = some (.slice Al s.book.log.length cl) := KB.out.cell 4
  have q5 : w2.cell? ⟨w.heap.size + 1, 5, none⟩ = some (.slice Ax s.book.releases.length cx) := KB.out.cell 5
  have q6 : w2.cell? ⟨w.heap.size + 1, 6, none⟩ = some (.int .i64 s.book.step) := KB.out.cell 6
  go_wp2_with fail
  refine (list_rul _ _ _ _ B _ OO.out (by omega) (TT.out.newer hB (by simp [Value.ownBlock])) ((HB.out.book.ruls).below (TT.out.old hB (by simp [Value.ownBlock]))) hs.ruls (by (try simp); omega)).mono ?_
  rintro e w3 ⟨v3, rfl, o3, t3⟩
  clear q0 q1 q2 q3 q4 q5 q6
  have KA3 := Lib.hid (KA.out.outTo t3 hA)
  have KB3 := Lib.hid (KB.out.outTo t3 hB2)
  have hA := t3.ne KA.out.lt hA
  have hB2 := t3.ne KB.out.lt hB2
  have TT3 := Lib.hid (TT.out.trans t3)
  have OO := Lib.hid o3
  clear KA KB TT
  have KA := KA3
  have KB := KB3
  have TT := TT3
  have hz := TT.out.chg.size
  clear o3 t3 KA3 KB3 TT3
  have q0 : w3.cell? ⟨w.heap.size + 1, 0, none⟩ = some (.int .i64 s.book.users) := KB.out.cell 0
  have q1 : w3.cell? ⟨w.heap.size + 1, 1, none⟩ = some (.slice Ae s.book.entries.length ce) := KB.out.cell 1
  have q2 : w3.cell? ⟨w.heap.size + 1, 2, none⟩ = some (.slice Ar s.book.rules.length cr) := KB.out.cell 2
  have q3 : w3.cell? ⟨w.heap.size + 1, 3, none⟩ = some (.slice Ag s.book.grants.length cg) := KB.out.cell 3
  have q4 : w3.cell? ⟨w.heap.size + 1, 4, none⟩ = some (.slice Al s.book.log.length cl) := KB.out.cell 4
  have q5 : w3.cell? ⟨w.heap.size + 1, 5, none⟩ = some (.slice Ax s.book.releases.length cx) := KB.out.cell 5
  have q6 : w3.cell? ⟨w.heap.size + 1, 6, none⟩ = some (.int .i64 s.book.step) := KB.out.cell 6
  go_wp2_with fail
  refine (list_grt _ _ _ _ B _ OO.out (by omega) (TT.out.newer hB (by simp [Value.ownBlock])) ((HB.out.book.grts).below (TT.out.old hB (by simp [Value.ownBlock]))) hs.grts (by (try simp); omega)).mono ?_
  rintro e w4 ⟨v4, rfl, o4, t4⟩
  clear q0 q1 q2 q3 q4 q5 q6
  have KA4 := Lib.hid (KA.out.outTo t4 hA)
  have KB4 := Lib.hid (KB.out.outTo t4 hB2)
  have hA := t4.ne KA.out.lt hA
  have hB2 := t4.ne KB.out.lt hB2
  have TT4 := Lib.hid (TT.out.trans t4)
  have OO := Lib.hid o4
  clear KA KB TT
  have KA := KA4
  have KB := KB4
  have TT := TT4
  have hz := TT.out.chg.size
  clear o4 t4 KA4 KB4 TT4
  have q0 : w4.cell? ⟨w.heap.size + 1, 0, none⟩ = some (.int .i64 s.book.users) := KB.out.cell 0
  have q1 : w4.cell? ⟨w.heap.size + 1, 1, none⟩ = some (.slice Ae s.book.entries.length ce) := KB.out.cell 1
  have q2 : w4.cell? ⟨w.heap.size + 1, 2, none⟩ = some (.slice Ar s.book.rules.length cr) := KB.out.cell 2
  have q3 : w4.cell? ⟨w.heap.size + 1, 3, none⟩ = some (.slice Ag s.book.grants.length cg) := KB.out.cell 3
  have q4 : w4.cell? ⟨w.heap.size + 1, 4, none⟩ = some (.slice Al s.book.log.length cl) := KB.out.cell 4
  have q5 : w4.cell? ⟨w.heap.size + 1, 5, none⟩ = some (.slice Ax s.book.releases.length cx) := KB.out.cell 5
  have q6 : w4.cell? ⟨w.heap.size + 1, 6, none⟩ = some (.int .i64 s.book.step) := KB.out.cell 6
  go_wp2_with fail
  refine (list_evt _ _ _ _ B _ OO.out (by omega) (TT.out.newer hB (by simp [Value.ownBlock])) ((HB.out.book.evts).below (TT.out.old hB (by simp [Value.ownBlock]))) hs.evts (by (try simp); omega)).mono ?_
  rintro e w5 ⟨v5, rfl, o5, t5⟩
  clear q0 q1 q2 q3 q4 q5 q6
  have KA5 := Lib.hid (KA.out.outTo t5 hA)
  have KB5 := Lib.hid (KB.out.outTo t5 hB2)
  have hA := t5.ne KA.out.lt hA
  have hB2 := t5.ne KB.out.lt hB2
  have TT5 := Lib.hid (TT.out.trans t5)
  have OO := Lib.hid o5
  clear KA KB TT
  have KA := KA5
  have KB := KB5
  have TT := TT5
  have hz := TT.out.chg.size
  clear o5 t5 KA5 KB5 TT5
  have q0 : w5.cell? ⟨w.heap.size + 1, 0, none⟩ = some (.int .i64 s.book.users) := KB.out.cell 0
  have q1 : w5.cell? ⟨w.heap.size + 1, 1, none⟩ = some (.slice Ae s.book.entries.length ce) := KB.out.cell 1
  have q2 : w5.cell? ⟨w.heap.size + 1, 2, none⟩ = some (.slice Ar s.book.rules.length cr) := KB.out.cell 2
  have q3 : w5.cell? ⟨w.heap.size + 1, 3, none⟩ = some (.slice Ag s.book.grants.length cg) := KB.out.cell 3
  have q4 : w5.cell? ⟨w.heap.size + 1, 4, none⟩ = some (.slice Al s.book.log.length cl) := KB.out.cell 4
  have q5 : w5.cell? ⟨w.heap.size + 1, 5, none⟩ = some (.slice Ax s.book.releases.length cx) := KB.out.cell 5
  have q6 : w5.cell? ⟨w.heap.size + 1, 6, none⟩ = some (.int .i64 s.book.step) := KB.out.cell 6
  go_wp2_with fail
  refine (list_rls _ _ _ _ B _ OO.out (by omega) (TT.out.newer hB (by simp [Value.ownBlock])) ((HB.out.book.rlss).below (TT.out.old hB (by simp [Value.ownBlock]))) hs.rlss (by (try simp); omega)).mono ?_
  rintro e w6 ⟨v6, rfl, o6, t6⟩
  clear q0 q1 q2 q3 q4 q5 q6
  have KA6 := Lib.hid (KA.out.outTo t6 hA)
  have KB6 := Lib.hid (KB.out.outTo t6 hB2)
  have hA := t6.ne KA.out.lt hA
  have hB2 := t6.ne KB.out.lt hB2
  have TT6 := Lib.hid (TT.out.trans t6)
  have OO := Lib.hid o6
  clear KA KB TT
  have KA := KA6
  have KB := KB6
  have TT := TT6
  have hz := TT.out.chg.size
  clear o6 t6 KA6 KB6 TT6
  have q0 : w6.cell? ⟨w.heap.size + 1, 0, none⟩ = some (.int .i64 s.book.users) := KB.out.cell 0
  have q1 : w6.cell? ⟨w.heap.size + 1, 1, none⟩ = some (.slice Ae s.book.entries.length ce) := KB.out.cell 1
  have q2 : w6.cell? ⟨w.heap.size + 1, 2, none⟩ = some (.slice Ar s.book.rules.length cr) := KB.out.cell 2
  have q3 : w6.cell? ⟨w.heap.size + 1, 3, none⟩ = some (.slice Ag s.book.grants.length cg) := KB.out.cell 3
  have q4 : w6.cell? ⟨w.heap.size + 1, 4, none⟩ = some (.slice Al s.book.log.length cl) := KB.out.cell 4
  have q5 : w6.cell? ⟨w.heap.size + 1, 5, none⟩ = some (.slice Ax s.book.releases.length cx) := KB.out.cell 5
  have q6 : w6.cell? ⟨w.heap.size + 1, 6, none⟩ = some (.int .i64 s.book.step) := KB.out.cell 6
  clear q0 q1 q2 q3 q4 q5
  go_wp2_with fail
  have q7 : w6.cell? ⟨w.heap.size, 7, none⟩ = some (.slice Ao s.ops.length co) := KA.out.cell 7
  have oo := OO.out.drew
  have kA := KA.out.drew
  have kB := KB.out.drew
  have tt := TT.out.drew
  clear OO KA KB TT
  go_region_held3 (fun W : World => W.cell? ⟨w.heap.size + 1, 6, none⟩ = some (.int .i64 s.book.step) ∧ W.cell? ⟨w.heap.size, 7, none⟩ = some (.slice Ao s.ops.length co))
    (first
     | exact ⟨kB.cell 6, kA.cell 7⟩)
    (first
     | (go_at_call 84; refine (num_int _ _ _ _ oo (by (try simp); omega)).mono ?_; rintro e w7 ⟨v7, rfl, oo, t7⟩; have hA' := t7.ne kA.lt hA; have hB' := t7.ne kB.lt hB2; have kA := kA.outTo t7 hA; have kB := kB.outTo t7 hB2; have tt := tt.trans t7; clear t7)
     | (go_at_call 102; refine (list_opr _ _ _ _ B _ oo (by have := tt.chg.size; omega) (tt.newer hB (by simp [Value.ownBlock])) (HB.out.ops.below (tt.old hB (by simp [Value.ownBlock]))) hs.oprs (by (try simp); omega)).mono ?_; rintro e w8 ⟨v8, rfl, oo, t8⟩; have kA := kA.outTo t8 hA'; have kB := kB.outTo t8 hB'; have tt := tt.trans t8; clear t8))
  go_wp2
  go_ret
  exact ⟨_, rfl, by simpa [scpB] using oo, tt⟩

end Go.Proofs.YtamcgggmfghljaaGreatDoor

namespace Go.Proofs.YtamcgggmfghljaaGreatDoor
open Go.RowKit

/-- What the call owns, as a string. -/
theorem out_str {w : World} {v : Value} {l : Bytes} (h : Out w v l) (hp : 0 < l.length) : ∃ g cap, v = .slice (some ⟨g, 0, none⟩) l.length cap ∧ (convert 59 9 (.slice (some ⟨g, 0, none⟩) l.length cap)).run Tryz.prog w = .ok (str l) w := by
  obtain ⟨g, cap, rfl, _, hlt⟩ := World.ownsRow.form h hp
  refine ⟨g, cap, rfl, run_convert_bytes_back (P := Tryz.prog) w 59 9 5 ⟨g, 0, none⟩ cap l Tryz.underlying59 Tryz.underlying5 Tryz.underlying9 (fun j hj => ?_)⟩
  exact World.ownsRow.cells h (g := g) rfl j _ (by simp [u8s, List.getElem?_eq_getElem hj])

set_option maxRecDepth 100000 in
set_option maxHeartbeats 4000000 in
theorem script_check (s : Scp) (e r g l x o : Value) (E : Int) (B : Nat) (w : World) (_hB : B ≤ w.heap.size) (hb : RdScp w B s e r g l x o)
    (hc : ∀ W, Below w.heap.size w W → Calls Tryz.prog 31 #[vBok s.book e r g l x] W fun u w' => u = .returned (.int .i64 E) ∧ Below W.heap.size W w') :
    Calls Tryz.prog 14 #[vScp s e r g l x o] w fun u w' => u = .returned (.int .i64 (if E ≠ 0 then E else if 4096 < s.ops.length then 5 else 0)) ∧ Below w.heap.size w w' := by
  obtain ⟨Ae, ce, rfl, _⟩ := id hb.book.ents
  obtain ⟨Ar, cr, rfl, _⟩ := id hb.book.ruls
  obtain ⟨Ag, cg, rfl, _⟩ := id hb.book.grts
  obtain ⟨Al, cl, rfl, _⟩ := id hb.book.evts
  obtain ⟨Ax, cx, rfl, _⟩ := id hb.book.rlss
  obtain ⟨Ao, co, rfl, _⟩ := id hb.ops
  have HC := Lib.hid hc
  clear hb hc
  by_cases hE : E = 0
  · subst hE
    by_cases ho : 4096 < s.ops.length
    · skip
      go_enter Tryz.func14, Tryz.ntmps14
      go_wp2_with fail
      refine (HC.out _ (by go_grown)).mono ?_
      rintro e w1 ⟨rfl, hb1⟩
      have g7 : w1.cell? ⟨w.heap.size, 7, none⟩ = some (.slice Ao s.ops.length co) := (hb1.cell (p := ⟨w.heap.size, 7, none⟩) (by simp)).trans (by go_simp)
      have HB1 := Lib.hid (show Below w.heap.size w w1 from Below.next (by go_grown) hb1 (by simp))
      clear hb1
      go_wp2
      go_ret
      exact ⟨by simp [], HB1.out⟩
    · skip
      go_enter Tryz.func14, Tryz.ntmps14
      go_wp2_with fail
      refine (HC.out _ (by go_grown)).mono ?_
      rintro e w1 ⟨rfl, hb1⟩
      have g7 : w1.cell? ⟨w.heap.size, 7, none⟩ = some (.slice Ao s.ops.length co) := (hb1.cell (p := ⟨w.heap.size, 7, none⟩) (by simp)).trans (by go_simp)
      have HB1 := Lib.hid (show Below w.heap.size w w1 from Below.next (by go_grown) hb1 (by simp))
      clear hb1
      go_wp2
      go_ret
      exact ⟨by simp [], HB1.out⟩
  · have e0 : (E == 0) = false := by simpa using hE
    have e1 : (E != 0) = true := by simpa using hE
    go_enter Tryz.func14, Tryz.ntmps14
    go_wp2_with fail
    refine (HC.out _ (by go_grown)).mono ?_
    rintro e w1 ⟨rfl, hb1⟩
    have HB1 := Lib.hid (show Below w.heap.size w w1 from Below.next (by go_grown) hb1 (by simp))
    clear hb1
    go_wp2
    go_ret
    exact ⟨by simp [], HB1.out⟩

set_option maxRecDepth 100000 in
set_option maxHeartbeats 4000000 in
theorem encode_ok (s : Scp) (e r g l x o : Value) (B : Nat) (w : World) (hB : B ≤ w.heap.size) (hb : RdScp w B s e r g l x o) (hs : WritesS s) (hl : (scpB s).length ≤ 65536)
    (hc : ∀ W, Below w.heap.size w W → Calls Tryz.prog 14 #[vScp s e r g l x o] W fun u w' => u = .returned (.int .i64 0) ∧ Below W.heap.size W w') :
    Calls Tryz.prog 12 #[vScp s e r g l x o] w fun u w' => u = .returned (.tuple #[str (scpB s), .int .i64 0]) ∧ Below w.heap.size w w' := by
  obtain ⟨Ae, ce, rfl, _⟩ := id hb.book.ents
  obtain ⟨Ar, cr, rfl, _⟩ := id hb.book.ruls
  obtain ⟨Ag, cg, rfl, _⟩ := id hb.book.grts
  obtain ⟨Al, cl, rfl, _⟩ := id hb.book.evts
  obtain ⟨Ax, cx, rfl, _⟩ := id hb.book.rlss
  obtain ⟨Ao, co, rfl, _⟩ := id hb.ops
  have HC := Lib.hid hc
  have HB := Lib.hid hb
  clear hb hc
  go_enter Tryz.func12, Tryz.ntmps12
  go_wp2_with fail
  refine (HC.out _ (by go_grown)).mono ?_
  rintro e w1 ⟨rfl, hb1⟩
  have KB := Lib.hid ((Blk.new w 31 #[.int .i64 s.book.users, .slice Ae s.book.entries.length ce, .slice Ar s.book.rules.length cr, .slice Ag s.book.grants.length cg, .slice Al s.book.log.length cl, .slice Ax s.book.releases.length cx, .int .i64 s.book.step, .slice Ao s.ops.length co]).below_ hb1)
  have HB1 := Lib.hid (show Below w.heap.size w w1 from Below.next (by go_grown) hb1 (by simp))
  have g0 := KB.out.cell 0
  have g1 := KB.out.cell 1
  have g2 := KB.out.cell 2
  have g3 := KB.out.cell 3
  have g4 := KB.out.cell 4
  have g5 := KB.out.cell 5
  have g6 := KB.out.cell 6
  have g7 := KB.out.cell 7
  clear hb1
  go_wp2_with fail
  refine (written_any s _ _ _ _ _ _ B _ (by have := HB1.out.size; omega) (HB.out.below (HB1.out.mono hB)) hs (by omega)).mono ?_
  rintro e w2 ⟨v, rfl, ho, ht⟩
  have HB2 := Lib.hid (Below.trans HB1.out ((ht.old (Nat.le_refl _) (by simp [Value.ownBlock])).mono HB1.out.size))
  have hpos : 0 < (scpB s).length := by simp [scpB, numI, numB]
  obtain ⟨gb, cap, rfl, hcv⟩ := out_str ho hpos
  clear ho ht g0 g1 g2 g3 g4 g5 g6 g7 KB hpos
  generalize hq : scpB s = q at *
  have HQ := Lib.hid hq
  clear hq
  go_wp2
  go_ret2
  exact ⟨by rw [HQ.out]; rfl, HB2.out⟩

end Go.Proofs.YtamcgggmfghljaaGreatDoor
