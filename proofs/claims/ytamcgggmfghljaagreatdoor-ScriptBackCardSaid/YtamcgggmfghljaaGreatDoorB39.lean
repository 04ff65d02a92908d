/- ScriptBack: the law's walk (printed by tools/gen_back.py; under way). -/
import Derived.Deep.RegionWith
import Derived.BigRegion
import Derived.BigQuiet
import Derived.Deep.QuietTactic
import Derived.Laws.IdiomStrings
import Derived.Laws.CopyOwn
import Derived.Test.YtamcgggmfghljaaGreatDoorB37
import Derived.Test.YtamcgggmfghljaaGreatDoorB38
set_option maxRecDepth 100000
set_option maxHeartbeats 8000000
namespace Go.Proofs.YtamcgggmfghljaaGreatDoor
open Go.RowKit
theorem RdScp.wide {w : World} {B B' : Nat} {s : Scp} {e r g l x o : Value} (h : RdScp w B s e r g l x o) (hB : B ≤ B') : RdScp w B' s e r g l x o :=
  ⟨⟨h.book.ents.more hB, h.book.ruls.more hB, h.book.grts.more hB, h.book.evts.more hB, h.book.rlss.more hB⟩, h.ops.more hB⟩
theorem back_any (a b : Scp) (e r g l x o e' r' g' l' x' o' : Value) (s : Bytes) (w : World) (ha : RdScp w w.heap.size a e r g l x o) (hb : RdScp w w.heap.size b e' r' g' l' x' o') (oa : okS a) (ob : okS b) (ra : Reach a) (rb : Reach b) (hw : Words w) (hsl : s.length ≤ maxLen) :
    Calls Tryz.prog 8 #[vScp a e r g l x o, vScp b e' r' g' l' x' o', str s] w fun u w' => u = .returned (.bool true) ∧ Below w.heap.size w w' := by
  obtain ⟨Aae, cae, rfl, -⟩ := id ha.book.ents
  obtain ⟨Aar, car, rfl, -⟩ := id ha.book.ruls
  obtain ⟨Aag, cag, rfl, -⟩ := id ha.book.grts
  obtain ⟨Aal, cal, rfl, -⟩ := id ha.book.evts
  obtain ⟨Aax, cax, rfl, -⟩ := id ha.book.rlss
  obtain ⟨Aao, cao, rfl, -⟩ := id ha.ops
  obtain ⟨Abe, cbe, rfl, -⟩ := id hb.book.ents
  obtain ⟨Abr, cbr, rfl, -⟩ := id hb.book.ruls
  obtain ⟨Abg, cbg, rfl, -⟩ := id hb.book.grts
  obtain ⟨Abl, cbl, rfl, -⟩ := id hb.book.evts
  obtain ⟨Abx, cbx, rfl, -⟩ := id hb.book.rlss
  obtain ⟨Abo, cbo, rfl, -⟩ := id hb.ops
  have HA := Lib.hid (show RdScp w w.heap.size a _ _ _ _ _ _ from ha)
  have HB := Lib.hid (show RdScp w w.heap.size b _ _ _ _ _ _ from hb)
  have RA := Lib.hid ra
  have RB := Lib.hid rb
  have HW := Lib.hid hw
  have OA := Lib.hid oa
  have OB := Lib.hid ob
  clear ha hb ra rb hw oa ob
  unfold maxLen at hsl
  have KA0 := Lib.hid (show Blk ((w.alloc (.cells #[.int .i64 a.book.users, .slice Aae a.book.entries.length cae, .slice Aar a.book.rules.length car, .slice Aag a.book.grants.length cag, .slice Aal a.book.log.length cal, .slice Aax a.book.releases.length cax, .int .i64 a.book.step, .slice Aao a.ops.length cao] 31)).alloc (.cells #[.int .i64 b.book.users, .slice Abe b.book.entries.length cbe, .slice Abr b.book.rules.length cbr, .slice Abg b.book.grants.length cbg, .slice Abl b.book.log.length cbl, .slice Abx b.book.releases.length cbx, .int .i64 b.book.step, .slice Abo b.ops.length cbo] 31)) w.heap.size 31 #[.int .i64 a.book.users, .slice Aae a.book.entries.length cae, .slice Aar a.book.rules.length car, .slice Aag a.book.grants.length cag, .slice Aal a.book.log.length cal, .slice Aax a.book.releases.length cax, .int .i64 a.book.step, .slice Aao a.ops.length cao] from (Blk.new w _ _).alloc _)
  have KB0 := Lib.hid (show Blk ((w.alloc (.cells #[.int .i64 a.book.users, .slice Aae a.book.entries.length cae, .slice Aar a.book.rules.length car, .slice Aag a.book.grants.length cag, .slice Aal a.book.log.length cal, .slice Aax a.book.releases.length cax, .int .i64 a.book.step, .slice Aao a.ops.length cao] 31)).alloc (.cells #[.int .i64 b.book.users, .slice Abe b.book.entries.length cbe, .slice Abr b.book.rules.length cbr, .slice Abg b.book.grants.length cbg, .slice Abl b.book.log.length cbl, .slice Abx b.book.releases.length cbx, .int .i64 b.book.step, .slice Abo b.ops.length cbo] 31)) (w.heap.size + 1) 31 #[.int .i64 b.book.users, .slice Abe b.book.entries.length cbe, .slice Abr b.book.rules.length cbr, .slice Abg b.book.grants.length cbg, .slice Abl b.book.log.length cbl, .slice Abx b.book.releases.length cbx, .int .i64 b.book.step, .slice Abo b.ops.length cbo] by simpa using Blk.new (w.alloc (.cells #[.int .i64 a.book.users, .slice Aae a.book.entries.length cae, .slice Aar a.book.rules.length car, .slice Aag a.book.grants.length cag, .slice Aal a.book.log.length cal, .slice Aax a.book.releases.length cax, .int .i64 a.book.step, .slice Aao a.ops.length cao] 31)) 31 #[.int .i64 b.book.users, .slice Abe b.book.entries.length cbe, .slice Abr b.book.rules.length cbr, .slice Abg b.book.grants.length cbg, .slice Abl b.book.log.length cbl, .slice Abx b.book.releases.length cbx, .int .i64 b.book.step, .slice Abo b.ops.length cbo])
  go_enter Tryz.func8, Tryz.ntmps8
  go_wp2_with fail
  refine (long_any a _ _ _ _ _ _ w.heap.size _ (by simp; omega) (HA.out.below (by go_grown)) RA.out).mono ?_
  rintro u w1 ⟨rfl, hb1⟩
  have KA := Lib.hid (KA0.out.below_ hb1)
  have KB := Lib.hid (KB0.out.below_ hb1)
  have HB1 := Lib.hid (show Below w.heap.size w w1 from Below.next (by go_grown) hb1 (by simp; omega))
  clear hb1 KA0 KB0
  by_cases hA : longS a = true
  · rw [hA]
    go_wp2_with fail
    refine (known_gen _ (HW.out.below (Below.trans HB1.out (by go_grown)))).mono ?_
    rintro u w2 ⟨rfl, hb2⟩
    have HB2 := Lib.hid (show Below w.heap.size w w2 from Below.next HB1.out hb2 HB1.out.size)
    clear hb2
    go_wp2_with fail
    go_ret
    exact ⟨rfl, HB2.out⟩
  have hA' : longS a = false := by simpa using hA
  rw [hA']
  have y0 := KB.out.cell 0
  have y1 := KB.out.cell 1
  have y2 := KB.out.cell 2
  have y3 := KB.out.cell 3
  have y4 := KB.out.cell 4
  have y5 := KB.out.cell 5
  have y6 := KB.out.cell 6
  have y7 := KB.out.cell 7
  go_wp2_with fail
  refine (long_any b _ _ _ _ _ _ w.heap.size _ (by have := HB1.out.size; simp; omega) (HB.out.below (Below.trans HB1.out (by go_grown))) RB.out).mono ?_
  rintro u w2 ⟨rfl, hb2⟩
  have KA2 := Lib.hid (KA.out.below_ hb2)
  have KB2 := Lib.hid (KB.out.below_ hb2)
  have HB2 := Lib.hid (show Below w.heap.size w w2 from Below.next HB1.out hb2 HB1.out.size)
  clear hb2 y0 y1 y2 y3 y4 y5 y6 y7 KA KB HB1
  by_cases hB : longS b = true
  · rw [hB]
    go_wp2_with fail
    refine (known_gen _ (HW.out.below (Below.trans HB2.out (by go_grown)))).mono ?_
    rintro u w3 ⟨rfl, hb3⟩
    have HB3 := Lib.hid (show Below w.heap.size w w3 from Below.next HB2.out hb3 HB2.out.size)
    clear hb3
    go_wp2_with fail
    go_ret
    exact ⟨rfl, HB3.out⟩
  have hB' : longS b = false := by simpa using hB
  rw [hB']
  by_cases h4 : 4000 < s.length
  · have h4i : (4000 : Int) < (s.length : Int) := by omega
    go_wp2_with fail
    refine (known_gen _ (HW.out.below (Below.trans HB2.out (by go_grown)))).mono ?_
    rintro u w3 ⟨rfl, hb3⟩
    have HB3 := Lib.hid (show Below w.heap.size w w3 from Below.next HB2.out hb3 HB2.out.size)
    clear hb3
    go_wp2_with fail
    go_ret
    exact ⟨rfl, HB3.out⟩
  have h4i : ¬ (4000 : Int) < (s.length : Int) := by omega
  have FA := Lib.hid (fit_short OA.out hA')
  have FB := Lib.hid (fit_short OB.out hB')
  have x0 := KA2.out.cell 0
  have x1 := KA2.out.cell 1
  have x2 := KA2.out.cell 2
  have x3 := KA2.out.cell 3
  have x4 := KA2.out.cell 4
  have x5 := KA2.out.cell 5
  have x6 := KA2.out.cell 6
  have x7 := KA2.out.cell 7
  go_wp2_with fail
  refine (encode_any a _ _ _ _ _ _ w.heap.size w2 HB2.out.size (HA.out.below HB2.out) (HW.out.below HB2.out) FA.out).mono ?_
  rintro u w3 ⟨rfl, hb3⟩
  have KA3 := Lib.hid (KA2.out.below_ hb3)
  have KB3 := Lib.hid (KB2.out.below_ hb3)
  have HB3 := Lib.hid (Below.next HB2.out hb3 HB2.out.size)
  clear hb3 x0 x1 x2 x3 x4 x5 x6 x7 KA2 KB2 HB2
  obtain ⟨qa, hqa⟩ : ∃ q, encR a = q := ⟨_, rfl⟩
  rw [hqa]
  obtain ⟨ba, ea⟩ := qa
  have HQA := Lib.hid hqa
  clear hqa
  have y0 := KB3.out.cell 0
  have y1 := KB3.out.cell 1
  have y2 := KB3.out.cell 2
  have y3 := KB3.out.cell 3
  have y4 := KB3.out.cell 4
  have y5 := KB3.out.cell 5
  have y6 := KB3.out.cell 6
  have y7 := KB3.out.cell 7
  go_wp2_with fail
  refine (encode_any b _ _ _ _ _ _ w.heap.size w3 HB3.out.size (HB.out.below HB3.out) (HW.out.below HB3.out) FB.out).mono ?_
  rintro u w4 ⟨rfl, hb4⟩
  have KA4 := Lib.hid (KA3.out.below_ hb4)
  have KB4 := Lib.hid (KB3.out.below_ hb4)
  have HB4 := Lib.hid (Below.next HB3.out hb4 HB3.out.size)
  clear hb4 y0 y1 y2 y3 y4 y5 y6 y7 KA3 KB3 HB3
  obtain ⟨qb, hqb⟩ : ∃ q, encR b = q := ⟨_, rfl⟩
  rw [hqb]
  obtain ⟨bb, eb⟩ := qb
  have HQB := Lib.hid hqb
  clear hqb
  by_cases hea : ea = 0
  rotate_left
  · have e0 : (ea == 0) = false := by simpa using hea
    have e1 : decide (ea = 0) = false := by simpa using hea
    go_wp2_with fail
    refine (decode_any s w4 (HW.out.below HB4.out) (by unfold maxLen; omega)).mono ?_
    rintro u w5 ⟨e1, r1, g1, l1, x1, o1, rfl, hrd, hb5⟩
    have HB5 := Lib.hid (Below.next HB4.out hb5 HB4.out.size)
    have HZ := Lib.hid (Nat.le_refl w5.heap.size)
    clear hb5
    obtain ⟨qy, hqy⟩ : ∃ q, decR s = q := ⟨_, rfl⟩
    have hY := back_str (s := s) (by omega)
    rw [hqy] at hrd hY ⊢
    obtain ⟨y, ey⟩ := qy
    have HRD := Lib.hid (show RdScp w5 w5.heap.size y e1 r1 g1 l1 x1 o1 from hrd)
    obtain ⟨Aye, cye, rfl, -⟩ := id hrd.book.ents
    obtain ⟨Ayr, cyr, rfl, -⟩ := id hrd.book.ruls
    obtain ⟨Ayg, cyg, rfl, -⟩ := id hrd.book.grts
    obtain ⟨Ayl, cyl, rfl, -⟩ := id hrd.book.evts
    obtain ⟨Ayx, cyx, rfl, -⟩ := id hrd.book.rlss
    obtain ⟨Ayo, cyo, rfl, -⟩ := id hrd.ops
    have HBX := Lib.hid (HB5.out.alloc HB5.out.size (.cells #[.int .i64 y.book.users, .slice Aye y.book.entries.length cye, .slice Ayr y.book.rules.length cyr, .slice Ayg y.book.grants.length cyg, .slice Ayl y.book.log.length cyl, .slice Ayx y.book.releases.length cyx, .int .i64 y.book.step, .slice Ayo y.ops.length cyo] 31))
    have HY := Lib.hid hY
    have HQY := Lib.hid hqy
    clear hrd hY hqy
    by_cases hey : ey = 0
    rotate_left
    · have f0 : (ey == 0) = false := by simpa using hey
      have f1 : decide (ey = 0) = false := by simpa using hey
      go_wp2_with fail
      refine (known_gen _ (HW.out.below (Below.trans HBX.out (by go_grown)))).mono ?_
      rintro u w6 ⟨rfl, hb6⟩
      have HB6 := Lib.hid (show Below w.heap.size w w6 from Below.next HBX.out hb6 HBX.out.size)
      clear hb6
      go_wp2_with fail
      go_ret
      exact ⟨rfl, HB6.out⟩
    subst hey
    have HY1 := Lib.hid (HY.out rfl)
    clear HY
    go_wp2_with fail
    refine (encode_any y _ _ _ _ _ _ w5.heap.size _ (by simp) (HRD.out.below (by go_grown)) (HW.out.below HBX.out) HY1.out.1).mono ?_
    rintro u w6 ⟨rfl, hb6⟩
    rw [HY1.out.2.1]
    have KY := Lib.hid ((Blk.new w5 31 #[.int .i64 y.book.users, .slice Aye y.book.entries.length cye, .slice Ayr y.book.rules.length cyr, .slice Ayg y.book.grants.length cyg, .slice Ayl y.book.log.length cyl, .slice Ayx y.book.releases.length cyx, .int .i64 y.book.step, .slice Ayo y.ops.length cyo]).below_ hb6)
    have HB6 := Lib.hid (Below.next HBX.out hb6 HBX.out.size)
    have HRD2 := Lib.hid (HRD.out.below (hb6.mono (Below.alloc (Below.refl _ _) (Nat.le_refl _) _).size |> Below.trans (by go_grown)))
    have HS6 := Lib.hid (Nat.le_trans (Below.alloc (Below.refl w5.heap.size w5) (Nat.le_refl _) (.cells #[.int .i64 y.book.users, .slice Aye y.book.entries.length cye, .slice Ayr y.book.rules.length cyr, .slice Ayg y.book.grants.length cyg, .slice Ayl y.book.log.length cyl, .slice Ayx y.book.releases.length cyx, .int .i64 y.book.step, .slice Ayo y.ops.length cyo] 31)).size hb6.size)
    clear hb6
    have z0 := KY.out.cell 0
    have z1 := KY.out.cell 1
    have z2 := KY.out.cell 2
    have z3 := KY.out.cell 3
    have z4 := KY.out.cell 4
    have z5 := KY.out.cell 5
    have z6 := KY.out.cell 6
    have z7 := KY.out.cell 7
    go_wp2_with fail
    refine (script_check_any y _ _ _ _ _ _ w5.heap.size w6 HS6.out HRD2.out (HW.out.below HB6.out) HY1.out.1.ents (fun x hx => by have q := (HY1.out.1.ok.book.log x hx).to_; exact ⟨q.1, by have := q.2; omega⟩)).mono ?_
    rintro u w7 ⟨rfl, hb7⟩
    rw [HY1.out.2.2]
    have HB7 := Lib.hid (Below.next HB6.out hb7 HB6.out.size)
    clear hb7 z0 z1 z2 z3 z4 z5 z6 z7
    go_wp2_with fail
    refine (known_gen _ (HW.out.below (Below.trans HB7.out (by go_grown)))).mono ?_
    rintro u w8 ⟨rfl, hb8⟩
    have HB8 := Lib.hid (show Below w.heap.size w w8 from Below.next HB7.out hb8 HB7.out.size)
    clear hb8
    go_wp2_with fail
    go_ret
    exact ⟨rfl, HB8.out⟩
  subst hea
  have hba := back_one FA.out (by rw [HQA.out])
  rw [HQA.out] at hba
  have HBA := Lib.hid (show ba = scpB a from hba.1)
  have HDA := Lib.hid (show decR ba = (a, 0) by rw [HBA.out]; exact back_dec FA.out hba.2.1 hba.2.2)
  have hbl : ba.length ≤ 65536 := by rw [HBA.out]; exact hba.2.2
  clear hba
  go_wp2_with fail
  refine (decode_any ba w4 (HW.out.below HB4.out) (by unfold maxLen; omega)).mono ?_
  rintro u w5 ⟨e1, r1, g1, l1, x1, o1, rfl, hrd, hb5⟩
  rw [HDA.out] at hrd ⊢
  have HRX := Lib.hid (show RdScp w5 w5.heap.size a e1 r1 g1 l1 x1 o1 from hrd)
  obtain ⟨Aqe, cqe, rfl, -⟩ := id hrd.book.ents
  obtain ⟨Aqr, cqr, rfl, -⟩ := id hrd.book.ruls
  obtain ⟨Aqg, cqg, rfl, -⟩ := id hrd.book.grts
  obtain ⟨Aql, cql, rfl, -⟩ := id hrd.book.evts
  obtain ⟨Aqx, cqx, rfl, -⟩ := id hrd.book.rlss
  obtain ⟨Aqo, cqo, rfl, -⟩ := id hrd.ops
  have HB5' := Lib.hid (Below.next HB4.out hb5 HB4.out.size)
  have KA5 := Lib.hid ((KA4.out.below_ hb5).alloc (.cells #[.int .i64 a.book.users, .slice Aqe a.book.entries.length cqe, .slice Aqr a.book.rules.length cqr, .slice Aqg a.book.grants.length cqg, .slice Aql a.book.log.length cql, .slice Aqx a.book.releases.length cqx, .int .i64 a.book.step, .slice Aqo a.ops.length cqo] 31))
  have KB5 := Lib.hid ((KB4.out.below_ hb5).alloc (.cells #[.int .i64 a.book.users, .slice Aqe a.book.entries.length cqe, .slice Aqr a.book.rules.length cqr, .slice Aqg a.book.grants.length cqg, .slice Aql a.book.log.length cql, .slice Aqx a.book.releases.length cqx, .int .i64 a.book.step, .slice Aqo a.ops.length cqo] 31))
  have HB5 := Lib.hid (HB5'.out.alloc HB5'.out.size (.cells #[.int .i64 a.book.users, .slice Aqe a.book.entries.length cqe, .slice Aqr a.book.rules.length cqr, .slice Aqg a.book.grants.length cqg, .slice Aql a.book.log.length cql, .slice Aqx a.book.releases.length cqx, .int .i64 a.book.step, .slice Aqo a.ops.length cqo] 31))
  have HRA := Lib.hid (show RdScp (w5.alloc (.cells #[.int .i64 a.book.users, .slice Aqe a.book.entries.length cqe, .slice Aqr a.book.rules.length cqr, .slice Aqg a.book.grants.length cqg, .slice Aql a.book.log.length cql, .slice Aqx a.book.releases.length cqx, .int .i64 a.book.step, .slice Aqo a.ops.length cqo] 31)) w5.heap.size a _ _ _ _ _ _ from (HA.out.below HB5.out).wide HB5'.out.size)
  have HRX2 := Lib.hid (show RdScp (w5.alloc (.cells #[.int .i64 a.book.users, .slice Aqe a.book.entries.length cqe, .slice Aqr a.book.rules.length cqr, .slice Aqg a.book.grants.length cqg, .slice Aql a.book.log.length cql, .slice Aqx a.book.releases.length cqx, .int .i64 a.book.step, .slice Aqo a.ops.length cqo] 31)) w5.heap.size a _ _ _ _ _ _ from HRX.out.below (Below.alloc (Below.refl _ _) (Nat.le_refl _) _))
  clear hrd hb5 KA4 KB4
  have x0 := KA5.out.cell 0
  have x1 := KA5.out.cell 1
  have x2 := KA5.out.cell 2
  have x3 := KA5.out.cell 3
  have x4 := KA5.out.cell 4
  have x5 := KA5.out.cell 5
  have x6 := KA5.out.cell 6
  have x7 := KA5.out.cell 7
  go_wp2_with fail
  refine (kit_equal_script a a _ _ _ _ _ _ _ _ _ _ _ _ w5.heap.size _ (by simp) HRX2.out HRA.out).mono ?_
  rintro u w6 ⟨rfl, hb6⟩
  rw [decide_eq_true (rfl : a = a)]
  have KA6 := Lib.hid (KA5.out.below_ hb6)
  have KB6 := Lib.hid (KB5.out.below_ hb6)
  have HB6 := Lib.hid (Below.next HB5.out hb6 HB5.out.size)
  clear hb6 x0 x1 x2 x3 x4 x5 x6 x7 KA5 KB5
  by_cases heb : eb = 0
  rotate_left
  · have e0 : (eb == 0) = false := by simpa using heb
    have e1 : decide (eb = 0) = false := by simpa using heb
    go_wp2_with fail
    refine (decode_any s w6 (HW.out.below HB6.out) (by unfold maxLen; omega)).mono ?_
    rintro u w7 ⟨e1, r1, g1, l1, x1, o1, rfl, hrd, hb7⟩
    have HB7 := Lib.hid (Below.next HB6.out hb7 HB6.out.size)
    have HZ := Lib.hid (Nat.le_refl w7.heap.size)
    clear hb7
    obtain ⟨qy, hqy⟩ : ∃ q, decR s = q := ⟨_, rfl⟩
    have hY := back_str (s := s) (by omega)
    rw [hqy] at hrd hY ⊢
    obtain ⟨y, ey⟩ := qy
    have HRD := Lib.hid (show RdScp w7 w7.heap.size y e1 r1 g1 l1 x1 o1 from hrd)
    obtain ⟨Aye, cye, rfl, -⟩ := id hrd.book.ents
    obtain ⟨Ayr, cyr, rfl, -⟩ := id hrd.book.ruls
    obtain ⟨Ayg, cyg, rfl, -⟩ := id hrd.book.grts
    obtain ⟨Ayl, cyl, rfl, -⟩ := id hrd.book.evts
    obtain ⟨Ayx, cyx, rfl, -⟩ := id hrd.book.rlss
    obtain ⟨Ayo, cyo, rfl, -⟩ := id hrd.ops
    have HBX := Lib.hid (HB7.out.alloc HB7.out.size (.cells #[.int .i64 y.book.users, .slice Aye y.book.entries.length cye, .slice Ayr y.book.rules.length cyr, .slice Ayg y.book.grants.length cyg, .slice Ayl y.book.log.length cyl, .slice Ayx y.book.releases.length cyx, .int .i64 y.book.step, .slice Ayo y.ops.length cyo] 31))
    have HY := Lib.hid hY
    have HQY := Lib.hid hqy
    clear hrd hY hqy
    by_cases hey : ey = 0
    rotate_left
    · have f0 : (ey == 0) = false := by simpa using hey
      have f1 : decide (ey = 0) = false := by simpa using hey
      go_wp2_with fail
      refine (known_gen _ (HW.out.below (Below.trans HBX.out (by go_grown)))).mono ?_
      rintro u w8 ⟨rfl, hb8⟩
      have HB8 := Lib.hid (show Below w.heap.size w w8 from Below.next HBX.out hb8 HBX.out.size)
      clear hb8
      go_wp2_with fail
      go_ret
      exact ⟨rfl, HB8.out⟩
    subst hey
    have HY1 := Lib.hid (HY.out rfl)
    clear HY
    go_wp2_with fail
    refine (encode_any y _ _ _ _ _ _ w7.heap.size _ (by simp) (HRD.out.below (by go_grown)) (HW.out.below HBX.out) HY1.out.1).mono ?_
    rintro u w8 ⟨rfl, hb8⟩
    rw [HY1.out.2.1]
    have KY := Lib.hid ((Blk.new w7 31 #[.int .i64 y.book.users, .slice Aye y.book.entries.length cye, .slice Ayr y.book.rules.length cyr, .slice Ayg y.book.grants.length cyg, .slice Ayl y.book.log.length cyl, .slice Ayx y.book.releases.length cyx, .int .i64 y.book.step, .slice Ayo y.ops.length cyo]).below_ hb8)
    have HB8 := Lib.hid (Below.next HBX.out hb8 HBX.out.size)
    have HRD2 := Lib.hid (HRD.out.below (hb8.mono (Below.alloc (Below.refl _ _) (Nat.le_refl _) _).size |> Below.trans (by go_grown)))
    have HS8 := Lib.hid (Nat.le_trans (Below.alloc (Below.refl w7.heap.size w7) (Nat.le_refl _) (.cells #[.int .i64 y.book.users, .slice Aye y.book.entries.length cye, .slice Ayr y.book.rules.length cyr, .slice Ayg y.book.grants.length cyg, .slice Ayl y.book.log.length cyl, .slice Ayx y.book.releases.length cyx, .int .i64 y.book.step, .slice Ayo y.ops.length cyo] 31)).size hb8.size)
    clear hb8
    have z0 := KY.out.cell 0
    have z1 := KY.out.cell 1
    have z2 := KY.out.cell 2
    have z3 := KY.out.cell 3
    have z4 := KY.out.cell 4
    have z5 := KY.out.cell 5
    have z6 := KY.out.cell 6
    have z7 := KY.out.cell 7
    go_wp2_with fail
    refine (script_check_any y _ _ _ _ _ _ w7.heap.size w8 HS8.out HRD2.out (HW.out.below HB8.out) HY1.out.1.ents (fun x hx => by have q := (HY1.out.1.ok.book.log x hx).to_; exact ⟨q.1, by have := q.2; omega⟩)).mono ?_
    rintro u w9 ⟨rfl, hb9⟩
    rw [HY1.out.2.2]
    have HB9 := Lib.hid (Below.next HB8.out hb9 HB8.out.size)
    clear hb9 z0 z1 z2 z3 z4 z5 z6 z7
    go_wp2_with fail
    refine (known_gen _ (HW.out.below (Below.trans HB9.out (by go_grown)))).mono ?_
    rintro u w10 ⟨rfl, hb10⟩
    have HB10 := Lib.hid (show Below w.heap.size w w10 from Below.next HB9.out hb10 HB9.out.size)
    clear hb10
    go_wp2_with fail
    go_ret
    exact ⟨rfl, HB10.out⟩
  subst heb
  have hbb := back_one FB.out (by rw [HQB.out])
  rw [HQB.out] at hbb
  have HBB := Lib.hid (show bb = scpB b from hbb.1)
  have hbl2 : bb.length ≤ 65536 := by rw [HBB.out]; exact hbb.2.2
  clear hbb
  have hmin : ∀ x y : Int, (if y < x then y else x) = min x y := fun x y => by omega
  go_upto_region 11 with (fail)
  rw [show (if bb.length < ba.length then (bb.length : Int) else (ba.length : Int)) = ((min ba.length bb.length : Nat) : Int) from by split <;> omega]
  obtain ⟨k, hk⟩ : ∃ k, min ba.length bb.length = k := ⟨_, rfl⟩
  rw [hk]
  have hka : k ≤ ba.length := by omega
  have hkb : k ≤ bb.length := by omega
  have HK := Lib.hid hk
  clear hk
  obtain ⟨D, hD⟩ : ∃ D, decide (a = b) = D := ⟨_, rfl⟩
  have hT1 : (ba.take k == bb.take k) = D := by
    rw [← hD]
    by_cases hab : a = b
    · rw [HBA.out, HBB.out, hab]; simp
    · have : ba.take k ≠ bb.take k := fun e => hab (take_take_eq FA.out FB.out (by rw [← HBA.out, ← HBB.out, HK.out]; exact e))
      simp [hab, this]
  have hT2 : (ba == bb) = D := by
    rw [← hD]
    by_cases hab : a = b
    · rw [HBA.out, HBB.out, hab]; simp
    · have : ba ≠ bb := fun e => hab (take_take_eq FA.out FB.out (by rw [← HBA.out, ← HBB.out, e]))
      simp [hab, this]
  have LA := Lib.hid (show ∀ W : World, Below w6.heap.size w6 W → W.rangeAt w.heap.size 0 [.int .i64 a.book.users, .slice Aae a.book.entries.length cae, .slice Aar a.book.rules.length car, .slice Aag a.book.grants.length cag, .slice Aal a.book.log.length cal, .slice Aax a.book.releases.length cax, .int .i64 a.book.step, .slice Aao a.ops.length cao] from fun W h => (KA6.out.below_ h).range (l := [_, _, _, _, _, _, _, _]) (o := 0) (by intro j v hj; rw [Nat.zero_add]; exact List.getElem?_toArray.trans hj))
  have LB := Lib.hid (show ∀ W : World, Below w6.heap.size w6 W → W.rangeAt (w.heap.size + 1) 0 [.int .i64 b.book.users, .slice Abe b.book.entries.length cbe, .slice Abr b.book.rules.length cbr, .slice Abg b.book.grants.length cbg, .slice Abl b.book.log.length cbl, .slice Abx b.book.releases.length cbx, .int .i64 b.book.step, .slice Abo b.ops.length cbo] from fun W h => (KB6.out.below_ h).range (l := [_, _, _, _, _, _, _, _]) (o := 0) (by intro j v hj; rw [Nat.zero_add]; exact List.getElem?_toArray.trans hj))
  have CE := Lib.hid (fun (W : World) (h : Below w6.heap.size w6 W) => kit_equal_script a b _ _ _ _ _ _ _ _ _ _ _ _ w.heap.size W (Nat.le_trans HB6.out.size h.size) (HA.out.below (HB6.out.trans (h.mono HB6.out.size))) (HB.out.below (HB6.out.trans (h.mono HB6.out.size))))
  rw [hD] at CE
  clear hD
  refine wp_region_noPanic ?_
  refine wp_region_held_drew (S := fun W => Below w6.heap.size w6 W) (by kernel_rfl) (Below.drewN_ (Below.refl _ _) 1) (fun hHeld => ?_)
  refine wpAnyH_take (i := 0) (oi := ⟨some 66, .move (.tmp 7), _, _, _, none⟩) (v := str ba) rfl (by kernel_rfl) (by kernel_rfl) (by kernel_rfl) (fun c d e h => NoPanic.put h) (Or.inl ⟨by rfl, by intro W hW; go_simp⟩) hHeld ?_
  try simp only [Act.put, List.setIfInBounds_toArray, List.set_cons_zero, List.set_cons_succ]
  refine wpAnyH_take (i := 1) (oi := ⟨some 67, .move (.tmp 13), _, _, _, none⟩) (v := .int .i64 k) rfl (by kernel_rfl) (by kernel_rfl) (by kernel_rfl) (fun c d e h => NoPanic.put h) (Or.inl ⟨by rfl, by intro W hW; go_simp⟩) hHeld ?_
  try simp only [Act.put, List.setIfInBounds_toArray, List.set_cons_zero, List.set_cons_succ]
  refine wpAnyH_take (i := 2) (oi := ⟨some 68, .slice 9 (.tmp 66) none (some (.tmp 67)) none, _, _, _, none⟩) (v := str (ba.take k)) rfl (by kernel_rfl) (by kernel_rfl) (by kernel_rfl) (fun c d e h => NoPanic.put h) (Or.inl ⟨by rfl, by intro W hW; go_simp; rw [ext_to]⟩) hHeld ?_
  try simp only [Act.put, List.setIfInBounds_toArray, List.set_cons_zero, List.set_cons_succ]
  refine wpAnyH_take (i := 3) (oi := ⟨some 69, .move (.tmp 9), _, _, _, none⟩) (v := str bb) rfl (by kernel_rfl) (by kernel_rfl) (by kernel_rfl) (fun c d e h => NoPanic.put h) (Or.inl ⟨by rfl, by intro W hW; go_simp⟩) hHeld ?_
  try simp only [Act.put, List.setIfInBounds_toArray, List.set_cons_zero, List.set_cons_succ]
  refine wpAnyH_take (i := 4) (oi := ⟨some 70, .move (.tmp 13), _, _, _, none⟩) (v := .int .i64 k) rfl (by kernel_rfl) (by kernel_rfl) (by kernel_rfl) (fun c d e h => NoPanic.put h) (Or.inl ⟨by rfl, by intro W hW; go_simp⟩) hHeld ?_
  try simp only [Act.put, List.setIfInBounds_toArray, List.set_cons_zero, List.set_cons_succ]
  refine wpAnyH_take (i := 5) (oi := ⟨some 71, .slice 9 (.tmp 69) none (some (.tmp 70)) none, _, _, _, none⟩) (v := str (bb.take k)) rfl (by kernel_rfl) (by kernel_rfl) (by kernel_rfl) (fun c d e h => NoPanic.put h) (Or.inl ⟨by rfl, by intro W hW; go_simp; rw [ext_to]⟩) hHeld ?_
  try simp only [Act.put, List.setIfInBounds_toArray, List.set_cons_zero, List.set_cons_succ]
  refine wpAnyH_take (i := 6) (oi := ⟨some 72, .binOp .eql 9 (.tmp 68) (.tmp 71) 9, _, _, _, none⟩) (v := .bool D) rfl (by kernel_rfl) (by kernel_rfl) (by kernel_rfl) (fun c d e h => NoPanic.put h) (Or.inl ⟨by rfl, by intro W hW; go_simp⟩) hHeld ?_
  try simp only [Act.put, List.setIfInBounds_toArray, List.set_cons_zero, List.set_cons_succ]
  refine wpAnyH_take (i := 7) (oi := ⟨some 73, .load 31 (.tmp 3), 31, _, _, none⟩) (v := .agg _) rfl (by kernel_rfl) (by kernel_rfl) (by kernel_rfl) (fun c d e h => NoPanic.put h) (yieldsIf_load_mid rfl _ _ rfl (w.heap.size) (0) rfl _ _ LA.out rfl rfl (by kernel_rfl)) hHeld ?_
  try simp only [Act.put, List.setIfInBounds_toArray, List.set_cons_zero, List.set_cons_succ]
  refine wpAnyH_take (i := 8) (oi := ⟨some 74, .load 31 (.tmp 4), 31, _, _, none⟩) (v := .agg _) rfl (by kernel_rfl) (by kernel_rfl) (by kernel_rfl) (fun c d e h => NoPanic.put h) (yieldsIf_load_mid rfl _ _ rfl (w.heap.size + 1) (0) rfl _ _ LB.out rfl rfl (by kernel_rfl)) hHeld ?_
  try simp only [Act.put, List.setIfInBounds_toArray, List.set_cons_zero, List.set_cons_succ]
  refine wpAnyH_ready (rs := [9]) (by kernel_rfl) (by simp) ?_
  refine AllReadyH.cons (o := ⟨some 75, .call { callee := .value (.func 16), args := #[.tmp 73, .tmp 74], argTypes := #[31, 31] }, _, _, _, none⟩) rfl (fun K hK => ?_) AllReadyH.nil
  go_simp
  go_at_call 16
  refine (CE.out _ hHeld).mono ?_
  rintro u w7 ⟨rfl, hb7⟩
  refine hK.out _ _ (Below.next hHeld hb7 hHeld.size) (fun hHeld => ?_)
  clear hK K
  try simp only [Act.put, List.setIfInBounds_toArray, List.set_cons_zero, List.set_cons_succ]
  refine wpAnyH_take (i := 10) (oi := ⟨some 76, .binOp .neq 4 (.tmp 72) (.tmp 75) 4, _, _, _, none⟩) (v := .bool false) rfl (by kernel_rfl) (by kernel_rfl) (by kernel_rfl) (fun c d e h => NoPanic.put h) (Or.inl ⟨by rfl, by intro W hW; go_simp⟩) hHeld ?_
  try simp only [Act.put, List.setIfInBounds_toArray, List.set_cons_zero, List.set_cons_succ]
  refine wpAnyH_take (i := 11) (oi := ⟨some 77, .move (.tmp 76), _, _, _, none⟩) (v := .bool false) rfl (by kernel_rfl) (by kernel_rfl) (by kernel_rfl) (fun c d e h => NoPanic.put h) (Or.inl ⟨by rfl, by intro W hW; go_simp⟩) hHeld ?_
  try simp only [Act.put, List.setIfInBounds_toArray, List.set_cons_zero, List.set_cons_succ]
  refine wpAnyH_take (i := 12) (oi := ⟨some 78, .move (.tmp 7), _, _, _, some (11, false)⟩) (v := str ba) rfl (by kernel_rfl) (by kernel_rfl) (by kernel_rfl) (fun c d e h => NoPanic.put h) (Or.inl ⟨by rfl, by intro W hW; go_simp⟩) hHeld ?_
  try simp only [Act.put, List.setIfInBounds_toArray, List.set_cons_zero, List.set_cons_succ]
  refine wpAnyH_take (i := 13) (oi := ⟨some 79, .move (.tmp 9), _, _, _, some (11, false)⟩) (v := str bb) rfl (by kernel_rfl) (by kernel_rfl) (by kernel_rfl) (fun c d e h => NoPanic.put h) (Or.inl ⟨by rfl, by intro W hW; go_simp⟩) hHeld ?_
  try simp only [Act.put, List.setIfInBounds_toArray, List.set_cons_zero, List.set_cons_succ]
  refine wpAnyH_take (i := 14) (oi := ⟨some 80, .binOp .eql 9 (.tmp 78) (.tmp 79) 9, _, _, _, some (11, false)⟩) (v := .bool D) rfl (by kernel_rfl) (by kernel_rfl) (by kernel_rfl) (fun c d e h => NoPanic.put h) (Or.inl ⟨by rfl, by intro W hW; go_simp⟩) hHeld ?_
  try simp only [Act.put, List.setIfInBounds_toArray, List.set_cons_zero, List.set_cons_succ]
  refine wpAnyH_take (i := 15) (oi := ⟨some 81, .load 31 (.tmp 3), 31, _, _, some (11, false)⟩) (v := .agg _) rfl (by kernel_rfl) (by kernel_rfl) (by kernel_rfl) (fun c d e h => NoPanic.put h) (yieldsIf_load_mid rfl _ _ rfl (w.heap.size) (0) rfl _ _ LA.out rfl rfl (by kernel_rfl)) hHeld ?_
  try simp only [Act.put, List.setIfInBounds_toArray, List.set_cons_zero, List.set_cons_succ]
  refine wpAnyH_take (i := 16) (oi := ⟨some 82, .load 31 (.tmp 4), 31, _, _, some (11, false)⟩) (v := .agg _) rfl (by kernel_rfl) (by kernel_rfl) (by kernel_rfl) (fun c d e h => NoPanic.put h) (yieldsIf_load_mid rfl _ _ rfl (w.heap.size + 1) (0) rfl _ _ LB.out rfl rfl (by kernel_rfl)) hHeld ?_
  try simp only [Act.put, List.setIfInBounds_toArray, List.set_cons_zero, List.set_cons_succ]
  refine wpAnyH_ready (rs := [17]) (by kernel_rfl) (by simp) ?_
  refine AllReadyH.cons (o := ⟨some 83, .call { callee := .value (.func 16), args := #[.tmp 81, .tmp 82], argTypes := #[31, 31] }, _, _, _, some (11, false)⟩) rfl (fun K hK => ?_) AllReadyH.nil
  go_simp
  go_at_call 16
  refine (CE.out _ hHeld).mono ?_
  rintro u w8 ⟨rfl, hb8⟩
  refine hK.out _ _ (Below.next hHeld hb8 hHeld.size) (fun hHeld => ?_)
  clear hK K
  try simp only [Act.put, List.setIfInBounds_toArray, List.set_cons_zero, List.set_cons_succ]
  refine wpAnyH_take (i := 18) (oi := ⟨some 84, .binOp .neq 4 (.tmp 80) (.tmp 83) 4, _, _, _, some (11, false)⟩) (v := .bool false) rfl (by kernel_rfl) (by kernel_rfl) (by kernel_rfl) (fun c d e h => NoPanic.put h) (Or.inl ⟨by rfl, by intro W hW; go_simp⟩) hHeld ?_
  try simp only [Act.put, List.setIfInBounds_toArray, List.set_cons_zero, List.set_cons_succ]
  refine wpAnyH_take (i := 19) (oi := ⟨some 85, .pick (.tmp 77) (.const (.bool true)) (.tmp 84), _, _, _, none⟩) (v := .bool false) rfl (by kernel_rfl) (by kernel_rfl) (by kernel_rfl) (fun c d e h => NoPanic.put h) (Or.inl ⟨by rfl, by intro W hW; go_simp⟩) hHeld ?_
  try simp only [Act.put, List.setIfInBounds_toArray, List.set_cons_zero, List.set_cons_succ]
  refine wpAnyH_done (by kernel_rfl) ?_ _
  refine NoPanic.normal ?_
  have HB8 := Lib.hid (HB6.out.trans (hHeld.mono HB6.out.size))
  clear hHeld hT1 hT2 LA LB CE
  go_wp2_with fail
  refine (decode_any s w8 (HW.out.below HB8.out) (by unfold maxLen; omega)).mono ?_
  rintro u w9 ⟨e1, r1, g1, l1, x1, o1, rfl, hrd, hb9⟩
  have HB9 := Lib.hid (Below.next HB8.out hb9 HB8.out.size)
  have HZ := Lib.hid (Nat.le_refl w9.heap.size)
  clear hb9
  obtain ⟨qy, hqy⟩ : ∃ q, decR s = q := ⟨_, rfl⟩
  have hY := back_str (s := s) (by omega)
  rw [hqy] at hrd hY ⊢
  obtain ⟨y, ey⟩ := qy
  have HRD := Lib.hid (show RdScp w9 w9.heap.size y e1 r1 g1 l1 x1 o1 from hrd)
  obtain ⟨Aye, cye, rfl, -⟩ := id hrd.book.ents
  obtain ⟨Ayr, cyr, rfl, -⟩ := id hrd.book.ruls
  obtain ⟨Ayg, cyg, rfl, -⟩ := id hrd.book.grts
  obtain ⟨Ayl, cyl, rfl, -⟩ := id hrd.book.evts
  obtain ⟨Ayx, cyx, rfl, -⟩ := id hrd.book.rlss
  obtain ⟨Ayo, cyo, rfl, -⟩ := id hrd.ops
  have HBX := Lib.hid (HB9.out.alloc HB9.out.size (.cells #[.int .i64 y.book.users, .slice Aye y.book.entries.length cye, .slice Ayr y.book.rules.length cyr, .slice Ayg y.book.grants.length cyg, .slice Ayl y.book.log.length cyl, .slice Ayx y.book.releases.length cyx, .int .i64 y.book.step, .slice Ayo y.ops.length cyo] 31))
  have HY := Lib.hid hY
  have HQY := Lib.hid hqy
  clear hrd hY hqy
  by_cases hey : ey = 0
  rotate_left
  · have f0 : (ey == 0) = false := by simpa using hey
    have f1 : decide (ey = 0) = false := by simpa using hey
    go_wp2_with fail
    refine (known_gen _ (HW.out.below (Below.trans HBX.out (by go_grown)))).mono ?_
    rintro u w10 ⟨rfl, hb10⟩
    have HB10 := Lib.hid (show Below w.heap.size w w10 from Below.next HBX.out hb10 HBX.out.size)
    clear hb10
    go_wp2_with fail
    go_ret
    exact ⟨rfl, HB10.out⟩
  subst hey
  have HY1 := Lib.hid (HY.out rfl)
  clear HY
  go_wp2_with fail
  refine (encode_any y _ _ _ _ _ _ w9.heap.size _ (by simp) (HRD.out.below (by go_grown)) (HW.out.below HBX.out) HY1.out.1).mono ?_
  rintro u w10 ⟨rfl, hb10⟩
  rw [HY1.out.2.1]
  have KY := Lib.hid ((Blk.new w9 31 #[.int .i64 y.book.users, .slice Aye y.book.entries.length cye, .slice Ayr y.book.rules.length cyr, .slice Ayg y.book.grants.length cyg, .slice Ayl y.book.log.length cyl, .slice Ayx y.book.releases.length cyx, .int .i64 y.book.step, .slice Ayo y.ops.length cyo]).below_ hb10)
  have HB10 := Lib.hid (Below.next HBX.out hb10 HBX.out.size)
  have HRD2 := Lib.hid (HRD.out.below (hb10.mono (Below.alloc (Below.refl _ _) (Nat.le_refl _) _).size |> Below.trans (by go_grown)))
  have HS10 := Lib.hid (Nat.le_trans (Below.alloc (Below.refl w9.heap.size w9) (Nat.le_refl _) (.cells #[.int .i64 y.book.users, .slice Aye y.book.entries.length cye, .slice Ayr y.book.rules.length cyr, .slice Ayg y.book.grants.length cyg, .slice Ayl y.book.log.length cyl, .slice Ayx y.book.releases.length cyx, .int .i64 y.book.step, .slice Ayo y.ops.length cyo] 31)).size hb10.size)
  clear hb10
  have z0 := KY.out.cell 0
  have z1 := KY.out.cell 1
  have z2 := KY.out.cell 2
  have z3 := KY.out.cell 3
  have z4 := KY.out.cell 4
  have z5 := KY.out.cell 5
  have z6 := KY.out.cell 6
  have z7 := KY.out.cell 7
  go_wp2_with fail
  refine (script_check_any y _ _ _ _ _ _ w9.heap.size w10 HS10.out HRD2.out (HW.out.below HB10.out) HY1.out.1.ents (fun x hx => by have q := (HY1.out.1.ok.book.log x hx).to_; exact ⟨q.1, by have := q.2; omega⟩)).mono ?_
  rintro u w11 ⟨rfl, hb11⟩
  rw [HY1.out.2.2]
  have HB11 := Lib.hid (Below.next HB10.out hb11 HB10.out.size)
  clear hb11 z0 z1 z2 z3 z4 z5 z6 z7
  go_wp2_with fail
  refine (known_gen _ (HW.out.below (Below.trans HB11.out (by go_grown)))).mono ?_
  rintro u w12 ⟨rfl, hb12⟩
  have HB12 := Lib.hid (show Below w.heap.size w w12 from Below.next HB11.out hb12 HB11.out.size)
  clear hb12
  go_wp2_with fail
  go_ret
  exact ⟨rfl, HB12.out⟩
end Go.Proofs.YtamcgggmfghljaaGreatDoor
