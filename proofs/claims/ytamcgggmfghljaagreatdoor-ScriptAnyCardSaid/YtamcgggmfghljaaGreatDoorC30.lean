/- Layers 31, 41 (program): books and scripts checked (printed by tools/gen_bookchk.py). · Layer 41: what bytes are read as is a valid script of well-formed operations (plain, secon · Layer 29 (program): Target, Plain and Check of well-formed operations (printed by tools/ge -/
import Derived.Deep.QuietTactic
import Derived.BigQuiet
import Derived.Deep.RegionHeld3
import Derived.Deep.MidRow
import Derived.Deep.Cut
import Derived.RegionTactic
import Derived.ChangeAlike
import Derived.BigRegion
import Derived.Test.YtamcgggmfghljaaGreatDoorC29
set_option maxRecDepth 100000
set_option maxHeartbeats 8000000
namespace Go.Proofs.YtamcgggmfghljaaGreatDoor
open Go.RowKit
def lateB (step : Int) (z : Option Int) : Bool := match z with
  | some z => decide (step ≤ z)
  | none => false
def bokE (b : Bok) : Int :=
  if b.users < 1 ∨ 64 < b.users then 2 else if entE none b.entries ≠ 0 then entE none b.entries else if aclE b.users b.rules ≠ 0 then aclE b.users b.rules
  else if grtsE b.users b.grants ≠ 0 then grtsE b.users b.grants else if audE b.users b.log b.releases ≠ 0 then audE b.users b.log b.releases
  else if b.step < 0 ∨ 1099511627776 < b.step then 2 else if lateB b.step (b.log.getLast?.map (·.step)) = true then 2
  else if lateB b.step (b.releases.getLast?.map (·.step)) = true then 2 else 0
def scpE (s : Scp) : Int := if bokE s.book ≠ 0 then bokE s.book else if 4096 < s.ops.length then 5 else 0
theorem last_cell {α : Type} {c : α → List Value} {k : Nat} (hk : ∀ x, (c x).length = k) (f : α → Int) (hf : ∀ x, (c x)[0]? = some (.int .i64 (f x))) {w : World} {B : Nat} {A : Option Addr} {n cap : Nat} {l : List α} (h : Sls c w B (.slice A n cap) l) :
    (l.getLast?.map f = none ∧ n = 0) ∨ ∃ b o m z, A = some ⟨b, o, none⟩ ∧ n = m + 1 ∧ b < B ∧ l.getLast?.map f = some z ∧ w.cell? ⟨b, o + m * k, none⟩ = some (.int .i64 z) := by
  have hl := h.len.1
  rcases Nat.eq_zero_or_pos l.length with h0 | h0
  · refine .inl ⟨?_, by omega⟩
    rw [List.eq_nil_of_length_eq_zero h0]
    rfl
  · obtain ⟨m, hm⟩ : ∃ m, l.length = m + 1 := ⟨l.length - 1, by omega⟩
    have hx := List.getElem?_eq_getElem (l := l) (i := m) (by omega)
    obtain ⟨b, o, e, hb, hr⟩ := h.get k hk hx
    refine .inr ⟨b, o, m, f (l[m]'(by omega)), e, by omega, hb, ?_, ?_⟩
    · rw [List.getLast?_eq_getElem?, show l.length - 1 = m by omega, hx]
      rfl
    · exact hr 0 _ (hf _)
theorem book_check_any (b : Bok) (e r g l x : Value) (B : Nat) (w : World) (hB : B ≤ w.heap.size) (hb : RdBok w B b e r g l x) (hw : Words w) (hil : ∀ x ∈ b.entries, x.input.length ≤ 1000000) (hto : ∀ x ∈ b.log, 0 ≤ x.to_ ∧ x.to_ < 18446744073709551616) :
    Calls Tryz.prog 31 #[vBok b e r g l x] w fun u w' => u = .returned (.int .i64 (bokE b)) ∧ Below w.heap.size w w' := by
  obtain ⟨Ae, ce, rfl, _⟩ := id hb.ents
  obtain ⟨Ar, cr, rfl, _⟩ := id hb.ruls
  obtain ⟨Ag, cg, rfl, _⟩ := id hb.grts
  obtain ⟨Al, cl, rfl, _⟩ := id hb.evts
  obtain ⟨Ax, cx, rfl, _⟩ := id hb.rlss
  have HB := Lib.hid hb
  have HW := Lib.hid hw
  have HIL := Lib.hid hil
  have HTO := Lib.hid hto
  have HLL := Lib.hid (last_cell cEvt_len (·.step) (fun _ => rfl) hb.evts)
  have HLX := Lib.hid (last_cell cRls_len (·.step) (fun _ => rfl) hb.rlss)
  have hml := hb.evts.len.2.2
  have hmx := hb.rlss.len.2.2
  unfold maxLen at hml hmx
  clear hb hw hil hto
  have K0 := Lib.hid (Blk.new w 28 #[.int .i64 b.users, .slice Ae b.entries.length ce, .slice Ar b.rules.length cr, .slice Ag b.grants.length cg, .slice Al b.log.length cl, .slice Ax b.releases.length cx, .int .i64 b.step])
  have HB0 := Lib.hid (show Below w.heap.size w (w.alloc (.cells #[.int .i64 b.users, .slice Ae b.entries.length ce, .slice Ar b.rules.length cr, .slice Ag b.grants.length cg, .slice Al b.log.length cl, .slice Ax b.releases.length cx, .int .i64 b.step] 28)) from by go_grown)
  by_cases hu : b.users < 1 ∨ 64 < b.users
  · have HE := Lib.hid (show bokE b = 2 by unfold bokE; rw [if_pos hu])
    by_cases hu1 : b.users < 1
    · clear hu
      go_enter Tryz.func31, Tryz.ntmps31
      go_wp2
      go_ret
      exact ⟨by rw [HE.out]; rfl, HB0.out⟩
    · have hu2 : 64 < b.users := hu.resolve_left hu1
      clear hu
      go_enter Tryz.func31, Tryz.ntmps31
      go_wp2
      go_ret
      exact ⟨by rw [HE.out]; rfl, HB0.out⟩
  have HE0 := Lib.hid (show bokE b = _ by unfold bokE; exact if_neg hu)
  have hu1 : ¬ b.users < 1 := fun h => hu (.inl h)
  have hu2 : ¬ 64 < b.users := fun h => hu (.inr h)
  clear hu
  go_enter Tryz.func31, Tryz.ntmps31
  go_upto_region 1 with (fail)
  obtain ⟨W0, hW0⟩ : ∃ W0, w.alloc (.cells #[.int .i64 b.users, .slice Ae b.entries.length ce, .slice Ar b.rules.length cr, .slice Ag b.grants.length cg, .slice Al b.log.length cl, .slice Ax b.releases.length cx, .int .i64 b.step] 28) = W0 := ⟨_, rfl⟩
  rw [hW0] at K0 HB0 ⊢
  clear hW0
  have q0 : W0.cell? ⟨w.heap.size, 0, none⟩ = some (.int .i64 b.users) := K0.out.cell 0
  have q1 : W0.cell? ⟨w.heap.size, 1, none⟩ = some (.slice Ae b.entries.length ce) := K0.out.cell 1
  go_wp2_with fail
  refine (entry_check _ b.entries B _ (Nat.le_trans hB HB0.out.size) (HB.out.ents.below (HB0.out.mono hB)) (HW.out.below HB0.out) HIL.out).mono ?_
  rintro u w1 ⟨i1, rfl, hb1⟩
  generalize entE none b.entries = ee at HE0 ⊢
  have K1 := Lib.hid (K0.out.below_ hb1)
  have HB1 := Lib.hid (Below.next HB0.out hb1 HB0.out.size)
  clear hb1
  clear q0 q1
  by_cases hee : ee = 0
  rotate_left
  · have HE := Lib.hid (HE0.out.trans (if_pos hee))
    have be : (ee != 0) = true := by simpa using hee
    clear hee
    go_wp2
    go_ret
    exact ⟨by rw [HE.out]; rfl, HB1.out⟩
  have beee : (ee != 0) = false := by simpa using hee
  have HE1 := Lib.hid (HE0.out.trans (if_neg (by simpa using hee)))
  clear hee
  have q0 : w1.cell? ⟨w.heap.size, 0, none⟩ = some (.int .i64 b.users) := K1.out.cell 0
  have q2 : w1.cell? ⟨w.heap.size, 2, none⟩ = some (.slice Ar b.rules.length cr) := K1.out.cell 2
  go_wp2_with fail
  refine (acl_check b.users _ b.rules B _ (Nat.le_trans hB HB1.out.size) (HB.out.ruls.below (HB1.out.mono hB))).mono ?_
  rintro u w2 ⟨i2, rfl, hb2⟩
  generalize aclE b.users b.rules = ea at HE1 ⊢
  have K2 := Lib.hid (K1.out.below_ hb2)
  have HB2 := Lib.hid (Below.next HB1.out hb2 HB1.out.size)
  clear hb2
  clear q0 q2
  by_cases hea : ea = 0
  rotate_left
  · have HE := Lib.hid (HE1.out.trans (if_pos hea))
    have be : (ea != 0) = true := by simpa using hea
    clear hea
    go_wp2
    go_ret
    exact ⟨by rw [HE.out]; rfl, HB2.out⟩
  have beea : (ea != 0) = false := by simpa using hea
  have HE2 := Lib.hid (HE1.out.trans (if_neg (by simpa using hea)))
  clear hea
  have q0 : w2.cell? ⟨w.heap.size, 0, none⟩ = some (.int .i64 b.users) := K2.out.cell 0
  have q3 : w2.cell? ⟨w.heap.size, 3, none⟩ = some (.slice Ag b.grants.length cg) := K2.out.cell 3
  go_wp2_with fail
  refine (grant_check b.users _ b.grants B _ (Nat.le_trans hB HB2.out.size) (HB.out.grts.below (HB2.out.mono hB))).mono ?_
  rintro u w3 ⟨i3, rfl, hb3⟩
  generalize grtsE b.users b.grants = eg at HE2 ⊢
  have K3 := Lib.hid (K2.out.below_ hb3)
  have HB3 := Lib.hid (Below.next HB2.out hb3 HB2.out.size)
  clear hb3
  clear q0 q3
  by_cases heg : eg = 0
  rotate_left
  · have HE := Lib.hid (HE2.out.trans (if_pos heg))
    have be : (eg != 0) = true := by simpa using heg
    clear heg
    go_wp2
    go_ret
    exact ⟨by rw [HE.out]; rfl, HB3.out⟩
  have beeg : (eg != 0) = false := by simpa using heg
  have HE3 := Lib.hid (HE2.out.trans (if_neg (by simpa using heg)))
  clear heg
  have q0 : w3.cell? ⟨w.heap.size, 0, none⟩ = some (.int .i64 b.users) := K3.out.cell 0
  have q4 : w3.cell? ⟨w.heap.size, 4, none⟩ = some (.slice Al b.log.length cl) := K3.out.cell 4
  have q5 : w3.cell? ⟨w.heap.size, 5, none⟩ = some (.slice Ax b.releases.length cx) := K3.out.cell 5
  go_wp2_with fail
  refine (audit_check b.users _ _ b.log b.releases B _ (Nat.le_trans hB HB3.out.size) (HB.out.evts.below (HB3.out.mono hB)) (HB.out.rlss.below (HB3.out.mono hB)) HTO.out).mono ?_
  rintro u w4 ⟨rfl, hb4⟩
  generalize audE b.users b.log b.releases = eu at HE3 ⊢
  have K4 := Lib.hid (K3.out.below_ hb4)
  have HB4 := Lib.hid (Below.next HB3.out hb4 HB3.out.size)
  clear hb4
  clear q0 q4 q5
  by_cases heu : eu = 0
  rotate_left
  · have HE := Lib.hid (HE3.out.trans (if_pos heu))
    have be : (eu != 0) = true := by simpa using heu
    clear heu
    go_wp2
    go_ret
    exact ⟨by rw [HE.out]; rfl, HB4.out⟩
  have beeu : (eu != 0) = false := by simpa using heu
  have HE4 := Lib.hid (HE3.out.trans (if_neg (by simpa using heu)))
  clear heu
  have q4 : w4.cell? ⟨w.heap.size, 4, none⟩ = some (.slice Al b.log.length cl) := K4.out.cell 4
  have q5 : w4.cell? ⟨w.heap.size, 5, none⟩ = some (.slice Ax b.releases.length cx) := K4.out.cell 5
  have q6 : w4.cell? ⟨w.heap.size, 6, none⟩ = some (.int .i64 b.step) := K4.out.cell 6
  by_cases s0 : b.step < 0
  · have HE := Lib.hid (HE4.out.trans (if_pos (.inl s0)))
    go_wp2
    go_ret
    exact ⟨by rw [HE.out]; rfl, HB4.out⟩
  by_cases s1 : 1099511627776 < b.step
  · have HE := Lib.hid (HE4.out.trans (if_pos (.inr s1)))
    go_wp2
    go_ret
    exact ⟨by rw [HE.out]; rfl, HB4.out⟩
  have HE5 := Lib.hid (HE4.out.trans (if_neg (by rw [not_or]; exact ⟨s0, s1⟩)))
  rcases HLL.out with ⟨hn, h0⟩ | ⟨bl, ol, ml, zl, rfl, hlen, hbl, hz, hc⟩
  · have HE6a := Lib.hid (HE5.out.trans (if_neg (by rw [hn]; simp [lateB])))
    have ed0 : decide ((0 : Int) < (b.log.length : Int)) = false := by rw [h0]; rfl
    have ed1 : ¬ (0 : Int) < (b.log.length : Int) := by omega
    have ed2 : decide (0 < b.log.length) = false := by rw [h0]; rfl
    clear hn h0
    go_wp2_with fail
    go_quiet (fail)
    rcases HLX.out with ⟨hn, h0⟩ | ⟨bx, ox, mx, zx, rfl, hlen, hbx, hz, hc⟩
    · have HE6 := Lib.hid (HE6a.out.trans (if_neg (by rw [hn]; simp [lateB])))
      have b0 : ((b.releases.length : Int) == 0) = true := by rw [h0]; rfl
      have hd0 : decide ((0 : Int) < (b.releases.length : Int)) = false := by rw [h0]; rfl
      have hd1 : ¬ (0 : Int) < (b.releases.length : Int) := by omega
      have hd2 : decide (0 < b.releases.length) = false := by rw [h0]; rfl
      clear hn h0
      go_wp2_with fail
      go_quiet (fail)
      go_wp2
      go_ret
      exact ⟨by rw [HE6.out]; rfl, Below.drewN_ (Below.drewN_ HB4.out _) _⟩
    · have hcx : w4.cell? ⟨bx, ox + mx * 11, none⟩ = some (.int .i64 zx) := (HB4.out.cell (p := ⟨bx, ox + mx * 11, none⟩) (Nat.lt_of_lt_of_le hbx hB)).trans hc
      have hd0 : decide ((0 : Int) < (b.releases.length : Int)) = true := by rw [hlen, decide_eq_true_eq]; omega
      have hd1 : (0 : Int) < (b.releases.length : Int) := by omega
      have hd2 : decide (0 < b.releases.length) = true := by rw [hlen]; simp
      have hmi : (b.releases.length : Int) - 1 = (mx : Int) := by omega
      have hmz : (0 : Int) ≤ (mx : Int) := Int.natCast_nonneg _
      have hml2 : (mx : Int) < (b.releases.length : Int) := by omega
      have hmu : (mx : Int) ≤ 9223372036854775807 := by omega
      by_cases hlt : b.step ≤ zx
      · have HE6 := Lib.hid (HE6a.out.trans (if_pos (by rw [hz]; simpa [lateB] using hlt)))
        have hdl : decide (b.step ≤ zx) = true := decide_eq_true hlt
        clear hz hc hlen
        go_wp2_with fail
        go_quiet (fail)
        go_wp2
        go_ret
        exact ⟨by rw [HE6.out]; rfl, Below.drewN_ (Below.drewN_ HB4.out _) _⟩
      · have HE6 := Lib.hid (HE6a.out.trans (if_neg (by rw [hz]; simpa [lateB] using hlt)))
        have hdl : decide (b.step ≤ zx) = false := decide_eq_false hlt
        clear hz hc hlen
        go_wp2_with fail
        go_quiet (fail)
        go_wp2
        go_ret
        exact ⟨by rw [HE6.out]; rfl, Below.drewN_ (Below.drewN_ HB4.out _) _⟩
  · have hcl : w4.cell? ⟨bl, ol + ml * 9, none⟩ = some (.int .i64 zl) := (HB4.out.cell (p := ⟨bl, ol + ml * 9, none⟩) (Nat.lt_of_lt_of_le hbl hB)).trans hc
    have ed0 : decide ((0 : Int) < (b.log.length : Int)) = true := by rw [hlen, decide_eq_true_eq]; omega
    have ed1 : (0 : Int) < (b.log.length : Int) := by omega
    have ed2 : decide (0 < b.log.length) = true := by rw [hlen]; simp
    have emi : (b.log.length : Int) - 1 = (ml : Int) := by omega
    have emz : (0 : Int) ≤ (ml : Int) := Int.natCast_nonneg _
    have eml2 : (ml : Int) < (b.log.length : Int) := by omega
    have emu : (ml : Int) ≤ 9223372036854775807 := by omega
    by_cases hlt : b.step ≤ zl
    · have HE6 := Lib.hid (HE5.out.trans (if_pos (by rw [hz]; simpa [lateB] using hlt)))
      have hdl : decide (b.step ≤ zl) = true := decide_eq_true hlt
      clear hz hc hlen
      go_wp2_with fail
      go_quiet (fail)
      go_wp2
      go_ret
      exact ⟨by rw [HE6.out]; rfl, Below.drewN_ HB4.out _⟩
    · have HE6a := Lib.hid (HE5.out.trans (if_neg (by rw [hz]; simpa [lateB] using hlt)))
      have hdl : decide (b.step ≤ zl) = false := decide_eq_false hlt
      clear hz hc hlen
      go_wp2_with fail
      go_quiet (fail)
      clear hcl ed0 ed1 ed2 emi emz eml2 emu hlt hdl
      rcases HLX.out with ⟨hn, h0⟩ | ⟨bx, ox, mx, zx, rfl, hlen, hbx, hz, hc⟩
      · have HE6 := Lib.hid (HE6a.out.trans (if_neg (by rw [hn]; simp [lateB])))
        have b0 : ((b.releases.length : Int) == 0) = true := by rw [h0]; rfl
        have hd0 : decide ((0 : Int) < (b.releases.length : Int)) = false := by rw [h0]; rfl
        have hd1 : ¬ (0 : Int) < (b.releases.length : Int) := by omega
        have hd2 : decide (0 < b.releases.length) = false := by rw [h0]; rfl
        clear hn h0
        go_wp2_with fail
        go_quiet (fail)
        go_wp2
        go_ret
        exact ⟨by rw [HE6.out]; rfl, Below.drewN_ (Below.drewN_ HB4.out _) _⟩
      · have hcx : w4.cell? ⟨bx, ox + mx * 11, none⟩ = some (.int .i64 zx) := (HB4.out.cell (p := ⟨bx, ox + mx * 11, none⟩) (Nat.lt_of_lt_of_le hbx hB)).trans hc
        have hd0 : decide ((0 : Int) < (b.releases.length : Int)) = true := by rw [hlen, decide_eq_true_eq]; omega
        have hd1 : (0 : Int) < (b.releases.length : Int) := by omega
        have hd2 : decide (0 < b.releases.length) = true := by rw [hlen]; simp
        have hmi : (b.releases.length : Int) - 1 = (mx : Int) := by omega
        have hmz : (0 : Int) ≤ (mx : Int) := Int.natCast_nonneg _
        have hml2 : (mx : Int) < (b.releases.length : Int) := by omega
        have hmu : (mx : Int) ≤ 9223372036854775807 := by omega
        by_cases hlt : b.step ≤ zx
        · have HE6 := Lib.hid (HE6a.out.trans (if_pos (by rw [hz]; simpa [lateB] using hlt)))
          have hdl : decide (b.step ≤ zx) = true := decide_eq_true hlt
          clear hz hc hlen
          go_wp2_with fail
          go_quiet (fail)
          go_wp2
          go_ret
          exact ⟨by rw [HE6.out]; rfl, Below.drewN_ (Below.drewN_ HB4.out _) _⟩
        · have HE6 := Lib.hid (HE6a.out.trans (if_neg (by rw [hz]; simpa [lateB] using hlt)))
          have hdl : decide (b.step ≤ zx) = false := decide_eq_false hlt
          clear hz hc hlen
          go_wp2_with fail
          go_quiet (fail)
          go_wp2
          go_ret
          exact ⟨by rw [HE6.out]; rfl, Below.drewN_ (Below.drewN_ HB4.out _) _⟩
theorem script_check_any (s : Scp) (e r g l x o : Value) (B : Nat) (w : World) (hB : B ≤ w.heap.size) (hb : RdScp w B s e r g l x o) (hw : Words w) (hil : ∀ x ∈ s.book.entries, x.input.length ≤ 1000000) (hto : ∀ x ∈ s.book.log, 0 ≤ x.to_ ∧ x.to_ < 18446744073709551616) :
    Calls Tryz.prog 14 #[vScp s e r g l x o] w fun u w' => u = .returned (.int .i64 (scpE s)) ∧ Below w.heap.size w w' := by
  obtain ⟨Ao, co, rfl, _⟩ := id hb.ops
  have hm := hb.ops.len.2.2
  unfold maxLen at hm
  obtain ⟨Ae, ce, rfl, _⟩ := id hb.book.ents
  obtain ⟨Ar, cr, rfl, _⟩ := id hb.book.ruls
  obtain ⟨Ag, cg, rfl, _⟩ := id hb.book.grts
  obtain ⟨Al, cl, rfl, _⟩ := id hb.book.evts
  obtain ⟨Ax, cx, rfl, _⟩ := id hb.book.rlss
  have HC : RowKit.Hid (∀ W, Below w.heap.size w W → Calls Tryz.prog 31 #[vBok s.book (.slice Ae s.book.entries.length ce) (.slice Ar s.book.rules.length cr) (.slice Ag s.book.grants.length cg) (.slice Al s.book.log.length cl) (.slice Ax s.book.releases.length cx)] W fun u w' => u = .returned (.int .i64 (bokE s.book)) ∧ Below W.heap.size W w') :=
    Lib.hid (fun W h => book_check_any s.book _ _ _ _ _ B W (Nat.le_trans hB h.size) (hb.book.below (h.mono hB)) (hw.below h) hil hto)
  have HE := Lib.hid (show scpE s = if bokE s.book ≠ 0 then bokE s.book else if 4096 < s.ops.length then 5 else 0 from rfl)
  generalize bokE s.book = be at HC HE
  generalize scpE s = se at HE ⊢
  clear hb hw hil hto
  go_enter Tryz.func14, Tryz.ntmps14
  go_wp2_with fail
  refine (HC.out _ (by go_grown)).mono ?_
  rintro u w1 ⟨rfl, hb1⟩
  have hc1 : w1.cell? ⟨w.heap.size, 7, none⟩ = some (.slice Ao s.ops.length co) := (hb1.cell (p := ⟨w.heap.size, 7, none⟩) (by simp)).trans (by go_simp)
  have HB1 := Lib.hid (show Below w.heap.size w w1 from Below.next (by go_grown) hb1 (by simp))
  clear hb1
  by_cases h0 : be = 0
  · have HE2 := Lib.hid (HE.out.trans (if_neg (by simpa using h0)))
    have b0 : (be != 0) = false := by simpa using h0
    clear HE h0
    by_cases h4 : 4096 < s.ops.length
    · have HE3 := Lib.hid (HE2.out.trans (if_pos h4))
      have g4 : (4096 : Int) < (s.ops.length : Int) := by omega
      clear h4
      go_wp2
      go_ret
      exact ⟨by rw [HE3.out]; rfl, HB1.out⟩
    · have HE3 := Lib.hid (HE2.out.trans (if_neg h4))
      have g4 : ¬ (4096 : Int) < (s.ops.length : Int) := by omega
      clear h4
      go_wp2
      go_ret
      exact ⟨by rw [HE3.out]; rfl, HB1.out⟩
  · have HE2 := Lib.hid (HE.out.trans (if_pos h0))
    have b0 : (be != 0) = true := by simpa using h0
    clear HE h0
    go_wp2
    go_ret
    exact ⟨by rw [HE2.out]; rfl, HB1.out⟩
/-! ### Sets of few users -/
theorem low_tab : ∀ (u : Fin 5) (x : Fin 16), x.val < 2 ^ u.val → (x.val &&& (18446744073709551615 - (2 ^ u.val - 1)) : Nat) = 0 := by decide
theorem allI_nat (u : Nat) (_hu : u ≤ 4) : allI (u : Int) = ((2 ^ u - 1 : Nat) : Int) := by
  unfold allI
  have : 1 ≤ 2 ^ u := Nat.one_le_two_pow
  rw [Int.toNat_natCast]
  have e : ((2 : Int) ^ u) = ((2 ^ u : Nat) : Int) := by simp
  rw [e]
  omega
theorem pow_le (u : Nat) (hu : u ≤ 4) : 2 ^ u ≤ 16 := Nat.pow_le_pow_right (by decide) hu
theorem low_andNot (u : Nat) (hu : u ≤ 4) (x : Nat) (hx : x < 2 ^ u) : bits .andNot .u64 (x : Int) (allI u) = 0 := by
  have h16 := pow_le u hu
  rw [allI_nat u hu, u64_andNot_nat x _ (by omega) (by omega), low_tab ⟨u, by omega⟩ ⟨x, by omega⟩ hx]
  rfl
theorem low_or (u : Nat) (hu : u ≤ 4) (x y : Nat) (hx : x < 2 ^ u) (hy : y < 2 ^ u) : ∃ z : Nat, z < 2 ^ u ∧ bits .or .u64 (x : Int) (y : Int) = z := by
  have h16 := pow_le u hu
  exact ⟨x ||| y, Nat.or_lt_two_pow hx hy, u64_or_nat x y (by omega) (by omega)⟩
theorem crowd_nat (u : Nat) (s : Bytes) : ∃ k : Nat, k < 2 ^ u ∧ (crowd u s).1 = k := by
  obtain ⟨k, hk, e⟩ := take_nat (2 ^ u) (Nat.two_pow_pos u) s
  exact ⟨k, hk, by unfold crowd; rw [← e]; simp⟩
theorem crowds_nat (u : Nat) (s : Bytes) : ∃ a b c : Nat, a < 2 ^ u ∧ b < 2 ^ u ∧ c < 2 ^ u ∧ (crowds u s).1 = ⟨a, b, c⟩ := by
  obtain ⟨a, ha, ea⟩ := crowd_nat u s
  obtain ⟨b, hb, eb⟩ := crowd_nat u (crowd u s).2
  obtain ⟨c, hc, ec⟩ := crowd_nat u (crowd u (crowd u s).2).2
  exact ⟨a, b, c, ha, hb, hc, by unfold crowds; simp only [ea, eb, ec]⟩
theorem has_few (u : Nat) (hu : u ≤ 4) (k : Nat) (hk : k < u) : hasI (allI u) k = true := by
  have t : ∀ (u : Fin 5) (k : Fin 4), k.val < u.val → hasI (allI (u.val : Int)) (k.val : Int) = true := by decide
  exact t ⟨u, by omega⟩ ⟨k, by omega⟩ hk
/-! ### Rules -/
theorem rul_ok (u : Nat) (hu : u ≤ 4) (x : Rct) (hx : rctB x = true) (s : Bytes) : rulE u ⟨x, (crowds u s).1⟩ = 0 := by
  obtain ⟨a, b, c, ha, hb, hc, e⟩ := crowds_nat u s
  obtain ⟨y, hy, ey⟩ := low_or u hu a b ha hb
  obtain ⟨z, hz, ez⟩ := low_or u hu y c hy hc
  unfold rulE rctE
  rw [if_pos hx, if_neg (by decide), e]
  dsimp only
  rw [ey, ez, low_andNot u hu z hz]
  rfl
theorem field_ok (s : Bytes) : rctB (field s).1 = true := by
  obtain ⟨a, b, x, y, ha, hb, hx, hy, e⟩ := field_nat s
  rw [e]
  exact field_B ha hb hx hy
theorem firstE_zero {α : Type} (f : α → Int) : ∀ (l : List α), (∀ x ∈ l, f x = 0) → firstE f l = 0
  | [], _ => rfl
  | x :: l, h => by
    have h1 := h x (by simp)
    have h2 := firstE_zero f l (fun y hy => h y (by simp [hy]))
    simp [firstE, h1, h2]
theorem rules_ok (u : Nat) (hu : u ≤ 4) (r : Rul) (hr : rulE u r = 0) (s : Bytes) : ∀ k, (rulesS u r s k).1.length = k + 1 ∧ (rulesS u r s k).1.head? = some r ∧ ∀ x ∈ (rulesS u r s k).1, rulE u x = 0
  | 0 => ⟨rfl, rfl, fun x hx => by simp [rulesS] at hx; rw [hx]; exact hr⟩
  | k + 1 => by
    obtain ⟨h1, h2, h3⟩ := rules_ok u hu r hr s k
    refine ⟨by simp [rulesS, h1], ?_, fun x hx => ?_⟩
    · simp only [rulesS]
      rw [List.head?_append, h2]
      rfl
    · simp only [rulesS, List.mem_append, List.mem_singleton] at hx
      rcases hx with hx | hx
      · exact h3 x hx
      · rw [hx]
        exact rul_ok u hu _ (field_ok _) _
theorem acl_ok (u : Nat) (h1 : 1 ≤ u) (hu : u ≤ 4) (c : Rts) (hc : ∃ s, c = (crowds u s).1) (s : Bytes) (k : Nat) (hk : k ≤ 2) : aclE u (rulesS u ⟨⟨1, 1, 1024, 1024⟩, c⟩ s k).1 = 0 := by
  obtain ⟨s0, rfl⟩ := hc
  obtain ⟨a, b, c⟩ := rules_ok u hu _ (rul_ok u hu ⟨1, 1, 1024, 1024⟩ (by decide) s0) s k
  unfold aclE
  have n1 : ¬ ((u : Int) < 1 ∨ 64 < (u : Int) ∨ (rulesS u ⟨⟨1, 1, 1024, 1024⟩, (crowds u s0).1⟩ s k).1 = []) := by
    rintro (q | q | q)
    · omega
    · omega
    · rw [q] at a
      simp at a
  rw [if_neg n1, if_neg (by omega), if_neg (by rw [b]; simp)]
  exact firstE_zero _ _ c
/-! ### Grants -/
theorem grt_ok (u : Nat) (hu : u ≤ 4) (h1 : 1 ≤ u) (s : Bytes) : ∀ k, (grtsS u s k).1.length = k ∧ ∀ x ∈ (grtsS u s k).1, grtE u x = 0
  | 0 => ⟨rfl, fun x hx => by simp [grtsS] at hx⟩
  | k + 1 => by
    obtain ⟨a, b⟩ := grt_ok u hu h1 s k
    refine ⟨by simp [grtsS, a], fun x hx => ?_⟩
    simp only [grtsS, List.mem_append, List.mem_singleton] at hx
    rcases hx with hx | hx
    · exact b x hx
    · rw [hx]
      unfold grtE rctE
      dsimp only
      obtain ⟨n, hn, en⟩ := take_nat 31 (by omega) (field (grtsS u s k).2).2
      obtain ⟨t, ht, et⟩ := crowd_nat u (take 31 (field (grtsS u s k).2).2).2
      obtain ⟨v, hv, ev⟩ := take_nat u (by omega) (crowd u (take 31 (field (grtsS u s k).2).2).2).2
      have en' : (take 31 (field (grtsS u s k).2).2).1 = (n : Int) := en
      rw [if_pos (field_ok _), if_neg (by decide), en', et, ev, low_andNot u hu t ht, has_few u hu v hv]
      rw [if_neg]
      rintro (q | q | q | q)
      · omega
      · omega
      · exact q rfl
      · cases q
theorem grts_ok (u : Nat) (hu : u ≤ 4) (h1 : 1 ≤ u) (s : Bytes) (k : Nat) (hk : k ≤ 2) : grtsE u (grtsS u s k).1 = 0 := by
  obtain ⟨a, b⟩ := grt_ok u hu h1 s k
  unfold grtsE
  rw [if_neg (by omega), if_neg (by omega)]
  exact firstE_zero _ _ b
/-! ### Entries -/
structure EntOk (x : Ent) : Prop where
  va : validB x.at_.col x.at_.row = true
  ne : x.input ≠ []
  ok : ofE x.input = 0
theorem del_mem {l : List Ent} {a : Ref} {y : Ent} (h : y ∈ delB l a) : y ∈ l := by
  unfold delB at h
  split at h
  · split at h
    · exact List.mem_of_mem_eraseIdx h
    · exact h
  · exact h
theorem put_mem {l : List Ent} {x y : Ent} (h : y ∈ putB l x) : y ∈ l ∨ (y = x ∧ x.input ≠ []) := by
  unfold putB at h
  split at h
  · exact .inl (del_mem h)
  · rename_i hx
    have h2 := List.mem_insertIdx (l := delB l x.at_) (a := y) (b := x) (i := putI l x.at_)
    by_cases hi : putI l x.at_ ≤ (delB l x.at_).length
    · rcases (h2 hi).1 h with q | q
      · exact .inr ⟨q, hx⟩
      · exact .inl (del_mem q)
    · rw [List.insertIdx_of_length_lt (by omega)] at h
      exact .inl (del_mem h)
theorem ents_ok (s : Bytes) : ∀ k, ∀ x ∈ (entsS putB s k).1, EntOk x
  | 0, x, hx => by simp [entsS] at hx
  | k + 1, x, hx => by
    simp only [entsS] at hx
    rcases put_mem hx with q | ⟨rfl, q⟩
    · exact ents_ok s k x q
    · obtain ⟨a, b, ha, hb, e⟩ := spot_nat (entsS putB s k).2
      refine ⟨?_, q, content_of _ q⟩
      dsimp only
      rw [e]
      simp [validB]
      omega
theorem entE_ok : ∀ (l : List Ent) (p : Option Ent), (∀ x ∈ l, EntOk x) → Sorted l → (∀ y, p = some y → ∀ x ∈ l, lessB y.at_ x.at_ = true) → entE p l = 0
  | [], _, _, _, _ => rfl
  | x :: l, p, h, hs, hp => by
    have hx := h x (by simp)
    have h1 : entOneE p x = 0 := by
      unfold entOneE
      rw [if_neg (by rw [hx.va]; decide), if_neg, if_neg hx.ne]
      · exact hx.ok
      · cases p with
        | none => simp
        | some y => simp [hp y rfl x (by simp)]
    have h2 := entE_ok l (some x) (fun y hy => h y (by simp [hy])) (List.pairwise_cons.1 hs).2 (fun y e z hz => by cases e; exact (List.pairwise_cons.1 hs).1 z hz)
    simp [entE, h1, h2]
/-! ### Operations -/
theorem ops_len (u : Nat) : ∀ (n : Nat) (s : Bytes), (opsR u n s).length ≤ n
  | 0, s => by simp [opsR]
  | n + 1, s => by
    unfold opsR
    split
    · simp
    · have := ops_len u n (oper u s).2
      simp
      omega
theorem le_crowd (u : Nat) (s : Bytes) : (crowd u s).2.length ≤ s.length := take_le _ _
theorem le_crowds (u : Nat) (s : Bytes) : (crowds u s).2.length ≤ s.length := by
  have h1 := le_crowd u s
  have h2 := le_crowd u (crowd u s).2
  have h3 := le_crowd u (crowd u (crowd u s).2).2
  unfold crowds
  dsimp only
  omega
theorem le_spot (s : Bytes) : (spot s).2.length ≤ s.length := by
  have h1 := take_le 3 s
  have h2 := take_le 4 (take 3 s).2
  unfold spot
  dsimp only
  omega
theorem le_field (s : Bytes) : (field s).2.length ≤ s.length := by
  have h1 := le_spot s
  have h2 := take_le 2 (spot s).2
  have h3 := take_le 3 (take 2 (spot s).2).2
  unfold field
  dsimp only
  omega
theorem le_content (s : Bytes) : (content s).2.length ≤ s.length := by
  have h0 := take_le 12 s
  have h1 := take_le 10 (take 12 s).2
  have h2 := le_spot (take 12 s).2
  have h3 := le_spot (spot (take 12 s).2).2
  have h4 := le_field (take 12 s).2
  unfold content spotText fieldText
  dsimp only
  by_cases c0 : (take 12 s).1 = 0
  · rw [if_pos c0]; exact h0
  rw [if_neg c0]
  by_cases c1 : (take 12 s).1 = 1
  · rw [if_pos c1]; dsimp only; omega
  rw [if_neg c1]
  by_cases c2 : (take 12 s).1 = 2
  · rw [if_pos c2]; exact h0
  rw [if_neg c2]
  by_cases c3 : (take 12 s).1 = 3
  · rw [if_pos c3]; exact h0
  rw [if_neg c3]
  by_cases c4 : (take 12 s).1 = 4
  · rw [if_pos c4]; exact h0
  rw [if_neg c4]
  by_cases c5 : (take 12 s).1 = 5
  · rw [if_pos c5]; dsimp only; omega
  rw [if_neg c5]
  by_cases c6 : (take 12 s).1 = 6
  · rw [if_pos c6]; dsimp only; omega
  rw [if_neg c6]
  by_cases c7 : (take 12 s).1 = 7
  · rw [if_pos c7]; dsimp only; omega
  rw [if_neg c7]
  by_cases c8 : (take 12 s).1 = 8
  · rw [if_pos c8]; dsimp only; omega
  rw [if_neg c8]
  by_cases c9 : (take 12 s).1 = 9
  · rw [if_pos c9]; dsimp only; omega
  rw [if_neg c9]
  by_cases ca : (take 12 s).1 = 10
  · rw [if_pos ca]; dsimp only; omega
  rw [if_neg ca]
  dsimp only
  omega
/-- What the operations' checks ask. -/
structure OprOk (u : Int) (x : Opr) : Prop where
  k1 : 1 ≤ x.kind
  k2 : x.kind ≤ 10
  us : 0 ≤ x.user ∧ x.user < u
  rc : if 3 ≤ x.kind ∧ x.kind ≤ 8 then rctB x.rect = true else x.rect = ⟨0, 0, 0, 0⟩
  on : x.kind = 3 ∨ x.kind = 6 → x.rect.c1 = x.rect.c2 ∧ x.rect.r1 = x.rect.r2
  tx : x.input.length ≤ 256 ∧ pltB x.input = true ∧ (x.kind ≠ 3 → x.input = [])
  rt : x.kind ≠ 7 → x.rights = ⟨0, 0, 0⟩
  gr : if x.kind = 8 then 1 ≤ x.fns ∧ x.fns ≤ 31 else x.fns = 0 ∧ x.to_ = 0
  ix : x.kind ≠ 9 → x.index = 0
/-- The range that an operation takes. -/
def rangeS (kind : Int) (s : Bytes) : Rct × Bytes :=
  if kind = 3 ∨ kind = 6 then (⟨(spot s).1.col, (spot s).1.row, (spot s).1.col, (spot s).1.row⟩, (spot s).2)
  else if kind = 4 ∨ kind = 5 ∨ kind = 7 ∨ kind = 8 then field s else (⟨0, 0, 0, 0⟩, s)
theorem range_le (k : Int) (s : Bytes) : (rangeS k s).2.length ≤ s.length := by
  unfold rangeS
  split
  · exact le_spot s
  split
  · exact le_field s
  · exact Nat.le_refl _
theorem range_rc (k : Int) (s : Bytes) : if 3 ≤ k ∧ k ≤ 8 then rctB (rangeS k s).1 = true else (rangeS k s).1 = ⟨0, 0, 0, 0⟩ := by
  unfold rangeS
  by_cases h1 : k = 3 ∨ k = 6
  · rw [if_pos (by omega), if_pos h1]
    obtain ⟨a, b, ha, hb, e⟩ := spot_nat s
    rw [e]
    simp [rctB, validB]
    omega
  · rw [if_neg h1]
    by_cases h2 : k = 4 ∨ k = 5 ∨ k = 7 ∨ k = 8
    · rw [if_pos (by omega), if_pos h2]
      exact field_ok s
    · rw [if_neg (by omega), if_neg h2]
theorem range_on (k : Int) (s : Bytes) (h : k = 3 ∨ k = 6) : (rangeS k s).1.c1 = (rangeS k s).1.c2 ∧ (rangeS k s).1.r1 = (rangeS k s).1.r2 := by
  unfold rangeS
  rw [if_pos h]
  exact ⟨rfl, rfl⟩
/-- The operation behind its range. -/
def tailS (u : Nat) (kind us : Int) (r : Rct × Bytes) : Opr × Bytes :=
  if kind = 3 then (⟨kind, us, r.1, (content r.2).1, ⟨0, 0, 0⟩, 0, 0, 0⟩, (content r.2).2)
  else if kind = 7 then (⟨kind, us, r.1, [], (crowds u r.2).1, 0, 0, 0⟩, (crowds u r.2).2)
  else if kind = 8 then (⟨kind, us, r.1, [], ⟨0, 0, 0⟩, 1 + (take 31 r.2).1, (crowd u (take 31 r.2).2).1, 0⟩, (crowd u (take 31 r.2).2).2)
  else if kind = 9 then (⟨kind, us, r.1, [], ⟨0, 0, 0⟩, 0, 0, (take 4 r.2).1⟩, (take 4 r.2).2)
  else (⟨kind, us, r.1, [], ⟨0, 0, 0⟩, 0, 0, 0⟩, r.2)
theorem oper_parts (u : Nat) (s : Bytes) : oper u s = tailS u (1 + (take 10 s).1) (take u (take 10 s).2).1 (rangeS (1 + (take 10 s).1) (take u (take 10 s).2).2) := rfl
theorem tail_le (u : Nat) (k us : Int) (r : Rct × Bytes) : (tailS u k us r).2.length ≤ r.2.length := by
  unfold tailS
  split
  · exact le_content r.2
  split
  · exact le_crowds u r.2
  split
  · exact Nat.le_trans (le_crowd u _) (take_le _ _)
  split
  · exact take_le _ _
  · exact Nat.le_refl _
theorem lt_oper (u : Nat) (s : Bytes) (h : s ≠ []) : (oper u s).2.length < s.length := by
  rw [oper_parts]
  exact Nat.lt_of_le_of_lt (tail_le u _ _ _) (Nat.lt_of_le_of_lt (range_le _ _) (Nat.lt_of_le_of_lt (take_le _ _) (take_lt 10 s h)))
theorem tail_ok (u : Nat) (k us : Int) (r : Rct × Bytes) (h1 : 1 ≤ k) (h2 : k ≤ 10) (hu : 0 ≤ us ∧ us < u) (h3 : if 3 ≤ k ∧ k ≤ 8 then rctB r.1 = true else r.1 = ⟨0, 0, 0, 0⟩) (h4 : k = 3 ∨ k = 6 → r.1.c1 = r.1.c2 ∧ r.1.r1 = r.1.r2) :
    OprOk u (tailS u k us r).1 := by
  unfold tailS
  by_cases c3 : k = 3
  · rw [if_pos c3]
    have := content_text r.2
    exact ⟨h1, h2, hu, h3, h4, ⟨this.1, this.2, fun q => absurd c3 q⟩, fun _ => rfl, by rw [if_neg (by dsimp only; omega)]; exact ⟨rfl, rfl⟩, fun _ => rfl⟩
  rw [if_neg c3]
  have hT : ([] : Bytes).length ≤ 256 ∧ pltB [] = true ∧ (k ≠ 3 → ([] : Bytes) = []) := ⟨by decide, rfl, fun _ => rfl⟩
  by_cases c7 : k = 7
  · rw [if_pos c7]
    exact ⟨h1, h2, hu, h3, h4, hT, fun q => absurd c7 q, by rw [if_neg (by dsimp only; omega)]; exact ⟨rfl, rfl⟩, fun _ => rfl⟩
  rw [if_neg c7]
  by_cases c8 : k = 8
  · rw [if_pos c8]
    obtain ⟨n, hn, en⟩ := take_nat 31 (by omega) r.2
    have en' : (take 31 r.2).1 = (n : Int) := en
    exact ⟨h1, h2, hu, h3, h4, hT, fun _ => rfl, by rw [if_pos (by dsimp only; omega)]; dsimp only; rw [en']; omega, fun _ => rfl⟩
  rw [if_neg c8]
  by_cases c9 : k = 9
  · rw [if_pos c9]
    exact ⟨h1, h2, hu, h3, h4, hT, fun _ => rfl, by rw [if_neg (by dsimp only; omega)]; exact ⟨rfl, rfl⟩, fun q => absurd c9 q⟩
  rw [if_neg c9]
  exact ⟨h1, h2, hu, h3, h4, hT, fun _ => rfl, by rw [if_neg (by dsimp only; omega)]; exact ⟨rfl, rfl⟩, fun _ => rfl⟩
theorem oper_ok (u : Nat) (h1 : 1 ≤ u) (s : Bytes) : OprOk u (oper u s).1 := by
  rw [oper_parts]
  obtain ⟨n, hn, en⟩ := take_nat 10 (by omega) s
  obtain ⟨v, hv, ev⟩ := take_nat u (by omega) (take 10 s).2
  have en' : (take 10 s).1 = (n : Int) := en
  refine tail_ok u _ _ _ (by omega) (by omega) (by rw [ev]; omega) (range_rc _ _) (range_on _ _)
theorem ops_ok (u : Nat) (h1 : 1 ≤ u) : ∀ (n : Nat) (s : Bytes), (opsR u n s).length ≤ s.length ∧ ∀ x ∈ opsR u n s, OprOk u x
  | 0, s => by simp [opsR]
  | n + 1, s => by
    unfold opsR
    split
    · simp
    · rename_i hs
      have hl := lt_oper u s hs
      obtain ⟨a, b⟩ := ops_ok u h1 n (oper u s).2
      refine ⟨by simp; omega, fun x hx => ?_⟩
      rcases List.mem_cons.1 hx with rfl | hx
      · exact oper_ok u h1 s
      · exact b x hx
theorem rules_le (u : Nat) (r : Rul) (s : Bytes) : ∀ k, (rulesS u r s k).2.length ≤ s.length
  | 0 => Nat.le_refl _
  | k + 1 => Nat.le_trans (le_crowds u _) (Nat.le_trans (le_field _) (rules_le u r s k))
theorem ents_le (s : Bytes) : ∀ k, (entsS putB s k).2.length ≤ s.length
  | 0 => Nat.le_refl _
  | k + 1 => Nat.le_trans (le_content _) (Nat.le_trans (le_spot _) (ents_le s k))
theorem grts_le (u : Nat) (s : Bytes) : ∀ k, (grtsS u s k).2.length ≤ s.length
  | 0 => Nat.le_refl _
  | k + 1 => Nat.le_trans (take_le _ _) (Nat.le_trans (le_crowd u _) (Nat.le_trans (take_le _ _) (Nat.le_trans (le_field _) (grts_le u s k))))
/-! ### The whole -/
theorem read_ok (s : Bytes) : scpE (readB putB s) = 0 ∧ (readB putB s).ops.length ≤ s.length ∧ ∀ x ∈ (readB putB s).ops, OprOk (readB putB s).book.users x := by
  obtain ⟨k, hk, ek⟩ := take_nat 4 (by omega) s
  have ek' : (take 4 s).1 = (k : Int) := ek
  obtain ⟨a, ha, ea⟩ := take_nat 3 (by omega) (crowds (1 + k) (take 4 s).2).2
  have ea' : (take 3 (crowds (1 + k) (take 4 s).2).2).1 = (a : Int) := ea
  have eu : (1 + (take 4 s).1).toNat = 1 + k := by omega
  unfold readB
  dsimp only
  rw [eu]
  obtain ⟨r, hr⟩ : ∃ r, r = rulesS (1 + k) ⟨⟨1, 1, 1024, 1024⟩, (crowds (1 + k) (take 4 s).2).1⟩ (take 3 (crowds (1 + k) (take 4 s).2).2).2 (take 3 (crowds (1 + k) (take 4 s).2).2).1.toNat := ⟨_, rfl⟩
  have hacl : aclE ((1 + k : Nat) : Int) r.1 = 0 := by
    rw [hr]
    exact acl_ok (1 + k) (by omega) (by omega) _ ⟨_, rfl⟩ _ _ (by rw [ea']; omega)
  have hrl : r.2.length ≤ s.length := by
    rw [hr]
    exact Nat.le_trans (rules_le _ _ _ _) (Nat.le_trans (take_le _ _) (Nat.le_trans (le_crowds _ _) (take_le _ _)))
  rw [← hr]
  clear hr
  obtain ⟨e, he⟩ : ∃ e, e = entsS putB (take 8 r.2).2 (take 8 r.2).1.toNat := ⟨_, rfl⟩
  have hent : entE none e.1 = 0 := by
    rw [he]
    exact entE_ok _ none (ents_ok _ _) (ents_same _ _).2 (fun y q => by cases q)
  have hel : e.2.length ≤ s.length := by
    rw [he]
    exact Nat.le_trans (ents_le _ _) (Nat.le_trans (take_le _ _) hrl)
  rw [← he]
  clear he
  obtain ⟨q, hq, eq⟩ := take_nat 3 (by omega) e.2
  have eq' : (take 3 e.2).1 = (q : Int) := eq
  obtain ⟨g, hg⟩ : ∃ g, g = grtsS (1 + k) (take 3 e.2).2 (take 3 e.2).1.toNat := ⟨_, rfl⟩
  have hgrt : grtsE ((1 + k : Nat) : Int) g.1 = 0 := by
    rw [hg]
    exact grts_ok (1 + k) (by omega) (by omega) _ _ (by rw [eq']; omega)
  have hgl : g.2.length ≤ s.length := by
    rw [hg]
    exact Nat.le_trans (grts_le _ _ _) (Nat.le_trans (take_le _ _) hel)
  rw [← hg]
  clear hg
  obtain ⟨o1, o2⟩ := ops_ok (1 + k) (by omega) 4096 g.2
  have haud : audE ((1 + k : Nat) : Int) [] [] = 0 := by
    unfold audE
    rw [if_neg (by omega)]
    rfl
  refine ⟨?_, by omega, o2⟩
  have hb : bokE ⟨((1 + k : Nat) : Int), e.1, r.1, g.1, [], [], 0⟩ = 0 := by
    unfold bokE
    dsimp only
    rw [if_neg (by omega), hent, hacl, hgrt, haud]
    rfl
  unfold scpE
  dsimp only
  rw [hb, if_neg (by decide), if_neg (by have := ops_len (1 + k) 4096 g.2; omega)]
theorem of_len {s : Bytes} (h : ofE s = 0) : s.length ≤ 256 := by
  unfold ofE at h
  split at h
  · cases h
  · omega
theorem read_ents (s : Bytes) : (∀ x ∈ (readB putB s).book.entries, x.input.length ≤ 1000000) ∧ (readB putB s).book.log = [] := by
  refine ⟨fun x hx => ?_, rfl⟩
  have h := of_len (ents_ok _ _ x hx).ok
  omega
theorem neq_same (x : Opr) (w : World) : (binOp .neq 48 (.agg (cOpr x).toArray) (.agg (cOpr x).toArray)).run Tryz.prog w = .ok (.bool false) w := by
  simp [go_sem, cOpr]
end Go.Proofs.YtamcgggmfghljaaGreatDoor
