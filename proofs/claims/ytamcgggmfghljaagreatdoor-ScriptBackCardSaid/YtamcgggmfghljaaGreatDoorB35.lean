/- Layers 31, 41 (program): books and scripts checked (printed by tools/gen_bookchk.py). · Layer 41 (program): Encode of any script. · Layer 41: what is decoded can be written again. No program in sight. · Layer 41: a decoded script is fit to be checked and written. No program in sight. -/
import Derived.Deep.QuietTactic
import Derived.BigQuiet
import Derived.Laws.IdiomStrings
import Derived.Laws.CopyOwn
import Derived.Test.YtamcgggmfghljaaGreatDoorB14
import Derived.Test.YtamcgggmfghljaaGreatDoorB17
import Derived.Test.YtamcgggmfghljaaGreatDoorB33
import Derived.Test.YtamcgggmfghljaaGreatDoorB34
set_option maxRecDepth 100000
set_option maxHeartbeats 8000000
namespace Go.Proofs.YtamcgggmfghljaaGreatDoor
open Go.RowKit
def lateB (step : Int) (z : Option Int) : Bool := match z with
  | some z => decide (step ≤ z)
  | none => false
def bokE (b : Bok) : Int :=
  if b.users < 1 ∨ 64 < b.users then 2 else if entE none b.entries ≠ 0 then entE none b.entries else if aclE b.users b.rules ≠ 0 then aclE b.users b.rules
  else if grtsE b.users b.grants ≠ 0 then grtsE b.users b.grants else if audE b.users b.log b.releases ≠ 0 then audE b.users b.log b.releases
  else if b.step < 0 ∨ 1099511627776 < b.step then 2 else if lateB b.step (b.log.getLast?.map (·.step)) = true then 2
  else if lateB b.step (b.releases.getLast?.map (·.step)) = true then 2 else 0
def scpE (s : Scp) : Int := if bokE s.book ≠ 0 then bokE s.book else if 4096 < s.ops.length then 5 else 0
theorem last_cell {α : Type} {c : α → List Value} {k : Nat} (hk : ∀ x, (c x).length = k) (f : α → Int) (hf : ∀ x, (c x)[0]? = some (.int .i64 (f x))) {w : World} {B : Nat} {A : Option Addr} {n cap : Nat} {l : List α} (h : Sls c w B (.slice A n cap) l) :
    (l.getLast?.map f = none ∧ n = 0) ∨ ∃ b o m z, A = some ⟨b, o, none⟩ ∧ n = m + 1 ∧ b < B ∧ l.getLast?.map f = some z ∧ w.cell? ⟨b, o + m * k, none⟩ = some (.int .i64 z) := by
  have hl := h.len.1
  rcases Nat.eq_zero_or_pos l.length with h0 | h0
  · refine .inl ⟨?_, by omega⟩
    rw [List.eq_nil_of_length_eq_zero h0]
    rfl
  · obtain ⟨m, hm⟩ : ∃ m, l.length = m + 1 := ⟨l.length - 1, by omega⟩
    have hx := List.getElem?_eq_getElem (l := l) (i := m) (by omega)
    obtain ⟨b, o, e, hb, hr⟩ := h.get k hk hx
    refine .inr ⟨b, o, m, f (l[m]'(by omega)), e, by omega, hb, ?_, ?_⟩
    · rw [List.getLast?_eq_getElem?, show l.length - 1 = m by omega, hx]
      rfl
    · exact hr 0 _ (hf _)
theorem book_check_any (b : Bok) (e r g l x : Value) (B : Nat) (w : World) (hB : B ≤ w.heap.size) (hb : RdBok w B b e r g l x) (hw : Words w) (hil : ∀ x ∈ b.entries, x.input.length ≤ 1000000) (hto : ∀ x ∈ b.log, 0 ≤ x.to_ ∧ x.to_ < 18446744073709551616) :
    Calls Tryz.prog 31 #[vBok b e r g l x] w fun u w' => u = .returned (.int .i64 (bokE b)) ∧ Below w.heap.size w w' := by
  obtain ⟨Ae, ce, rfl, _⟩ := id hb.ents
  obtain ⟨Ar, cr, rfl, _⟩ := id hb.ruls
  obtain ⟨Ag, cg, rfl, _⟩ := id hb.grts
  obtain ⟨Al, cl, rfl, _⟩ := id hb.evts
  obtain ⟨Ax, cx, rfl, _⟩ := id hb.rlss
  have HB := Lib.hid hb
  have HW := Lib.hid hw
  have HIL := Lib.hid hil
  have HTO := Lib.hid hto
  have HLL := Lib.hid (last_cell cEvt_len (·.step) (fun _ => rfl) hb.evts)
  have HLX := Lib.hid (last_cell cRls_len (·.step) (fun _ => rfl) hb.rlss)
  have hml := hb.evts.len.2.2
  have hmx := hb.rlss.len.2.2
  unfold maxLen at hml hmx
  clear hb hw hil hto
  have K0 := Lib.hid (Blk.new w 28 #[.int .i64 b.users, .slice Ae b.entries.length ce, .slice Ar b.rules.length cr, .slice Ag b.grants.length cg, .slice Al b.log.length cl, .slice Ax b.releases.length cx, .int .i64 b.step])
  have HB0 := Lib.hid (show Below w.heap.size w (w.alloc (.cells #[.int .i64 b.users, .slice Ae b.entries.length ce, .slice Ar b.rules.length cr, .slice Ag b.grants.length cg, .slice Al b.log.length cl, .slice Ax b.releases.length cx, .int .i64 b.step] 28)) from by go_grown)
  by_cases hu : b.users < 1 ∨ 64 < b.users
  · have HE := Lib.hid (show bokE b = 2 by unfold bokE; rw [if_pos hu])
    by_cases hu1 : b.users < 1
    · clear hu
      go_enter Tryz.func31, Tryz.ntmps31
      go_wp2
      go_ret
      exact ⟨by rw [HE.out]; rfl, HB0.out⟩
    · have hu2 : 64 < b.users := hu.resolve_left hu1
      clear hu
      go_enter Tryz.func31, Tryz.ntmps31
      go_wp2
      go_ret
      exact ⟨by rw [HE.out]; rfl, HB0.out⟩
  have HE0 := Lib.hid (show bokE b = _ by unfold bokE; exact if_neg hu)
  have hu1 : ¬ b.users < 1 := fun h => hu (.inl h)
  have hu2 : ¬ 64 < b.users := fun h => hu (.inr h)
  clear hu
  go_enter Tryz.func31, Tryz.ntmps31
  go_upto_region 1 with (fail)
  obtain ⟨W0, hW0⟩ : ∃ W0, w.alloc (.cells #[.int .i64 b.users, .slice Ae b.entries.length ce, .slice Ar b.rules.length cr, .slice Ag b.grants.length cg, .slice Al b.log.length cl, .slice Ax b.releases.length cx, .int .i64 b.step] 28) = W0 := ⟨_, rfl⟩
  rw [hW0] at K0 HB0 ⊢
  clear hW0
  have q0 : W0.cell? ⟨w.heap.size, 0, none⟩ = some (.int .i64 b.users) := K0.out.cell 0
  have q1 : W0.cell? ⟨w.heap.size, 1, none⟩ = some (.slice Ae b.entries.length ce) := K0.out.cell 1
  go_wp2_with fail
  refine (entry_check _ b.entries B _ (Nat.le_trans hB HB0.out.size) (HB.out.ents.below (HB0.out.mono hB)) (HW.out.below HB0.out) HIL.out).mono ?_
  rintro u w1 ⟨i1, rfl, hb1⟩
  generalize entE none b.entries = ee at HE0 ⊢
  have K1 := Lib.hid (K0.out.below_ hb1)
  have HB1 := Lib.hid (Below.next HB0.out hb1 HB0.out.size)
  clear hb1
  clear q0 q1
  by_cases hee : ee = 0
  rotate_left
  · have HE := Lib.hid (HE0.out.trans (if_pos hee))
    have be : (ee != 0) = true := by simpa using hee
    clear hee
    go_wp2
    go_ret
    exact ⟨by rw [HE.out]; rfl, HB1.out⟩
  have beee : (ee != 0) = false := by simpa using hee
  have HE1 := Lib.hid (HE0.out.trans (if_neg (by simpa using hee)))
  clear hee
  have q0 : w1.cell? ⟨w.heap.size, 0, none⟩ = some (.int .i64 b.users) := K1.out.cell 0
  have q2 : w1.cell? ⟨w.heap.size, 2, none⟩ = some (.slice Ar b.rules.length cr) := K1.out.cell 2
  go_wp2_with fail
  refine (acl_check b.users _ b.rules B _ (Nat.le_trans hB HB1.out.size) (HB.out.ruls.below (HB1.out.mono hB))).mono ?_
  rintro u w2 ⟨i2, rfl, hb2⟩
  generalize aclE b.users b.rules = ea at HE1 ⊢
  have K2 := Lib.hid (K1.out.below_ hb2)
  have HB2 := Lib.hid (Below.next HB1.out hb2 HB1.out.size)
  clear hb2
  clear q0 q2
  by_cases hea : ea = 0
  rotate_left
  · have HE := Lib.hid (HE1.out.trans (if_pos hea))
    have be : (ea != 0) = true := by simpa using hea
    clear hea
    go_wp2
    go_ret
    exact ⟨by rw [HE.out]; rfl, HB2.out⟩
  have beea : (ea != 0) = false := by simpa using hea
  have HE2 := Lib.hid (HE1.out.trans (if_neg (by simpa using hea)))
  clear hea
  have q0 : w2.cell? ⟨w.heap.size, 0, none⟩ = some (.int .i64 b.users) := K2.out.cell 0
  have q3 : w2.cell? ⟨w.heap.size, 3, none⟩ = some (.slice Ag b.grants.length cg) := K2.out.cell 3
  go_wp2_with fail
  refine (grant_check b.users _ b.grants B _ (Nat.le_trans hB HB2.out.size) (HB.out.grts.below (HB2.out.mono hB))).mono ?_
  rintro u w3 ⟨i3, rfl, hb3⟩
  generalize grtsE b.users b.grants = eg at HE2 ⊢
  have K3 := Lib.hid (K2.out.below_ hb3)
  have HB3 := Lib.hid (Below.next HB2.out hb3 HB2.out.size)
  clear hb3
  clear q0 q3
  by_cases heg : eg = 0
  rotate_left
  · have HE := Lib.hid (HE2.out.trans (if_pos heg))
    have be : (eg != 0) = true := by simpa using heg
    clear heg
    go_wp2
    go_ret
    exact ⟨by rw [HE.out]; rfl, HB3.out⟩
  have beeg : (eg != 0) = false := by simpa using heg
  have HE3 := Lib.hid (HE2.out.trans (if_neg (by simpa using heg)))
  clear heg
  have q0 : w3.cell? ⟨w.heap.size, 0, none⟩ = some (.int .i64 b.users) := K3.out.cell 0
  have q4 : w3.cell? ⟨w.heap.size, 4, none⟩ = some (.slice Al b.log.length cl) := K3.out.cell 4
  have q5 : w3.cell? ⟨w.heap.size, 5, none⟩ = some (.slice Ax b.releases.length cx) := K3.out.cell 5
  go_wp2_with fail
  refine (audit_check b.users _ _ b.log b.releases B _ (Nat.le_trans hB HB3.out.size) (HB.out.evts.below (HB3.out.mono hB)) (HB.out.rlss.below (HB3.out.mono hB)) HTO.out).mono ?_
  rintro u w4 ⟨rfl, hb4⟩
  generalize audE b.users b.log b.releases = eu at HE3 ⊢
  have K4 := Lib.hid (K3.out.below_ hb4)
  have HB4 := Lib.hid (Below.next HB3.out hb4 HB3.out.size)
  clear hb4
  clear q0 q4 q5
  by_cases heu : eu = 0
  rotate_left
  · have HE := Lib.hid (HE3.out.trans (if_pos heu))
    have be : (eu != 0) = true := by simpa using heu
    clear heu
    go_wp2
    go_ret
    exact ⟨by rw [HE.out]; rfl, HB4.out⟩
  have beeu : (eu != 0) = false := by simpa using heu
  have HE4 := Lib.hid (HE3.out.trans (if_neg (by simpa using heu)))
  clear heu
  have q4 : w4.cell? ⟨w.heap.size, 4, none⟩ = some (.slice Al b.log.length cl) := K4.out.cell 4
  have q5 : w4.cell? ⟨w.heap.size, 5, none⟩ = some (.slice Ax b.releases.length cx) := K4.out.cell 5
  have q6 : w4.cell? ⟨w.heap.size, 6, none⟩ = some (.int .i64 b.step) := K4.out.cell 6
  by_cases s0 : b.step < 0
  · have HE := Lib.hid (HE4.out.trans (if_pos (.inl s0)))
    go_wp2
    go_ret
    exact ⟨by rw [HE.out]; rfl, HB4.out⟩
  by_cases s1 : 1099511627776 < b.step
  · have HE := Lib.hid (HE4.out.trans (if_pos (.inr s1)))
    go_wp2
    go_ret
    exact ⟨by rw [HE.out]; rfl, HB4.out⟩
  have HE5 := Lib.hid (HE4.out.trans (if_neg (by rw [not_or]; exact ⟨s0, s1⟩)))
  rcases HLL.out with ⟨hn, h0⟩ | ⟨bl, ol, ml, zl, rfl, hlen, hbl, hz, hc⟩
  · have HE6a := Lib.hid (HE5.out.trans (if_neg (by rw [hn]; simp [lateB])))
    have ed0 : decide ((0 : Int) < (b.log.length : Int)) = false := by rw [h0]; rfl
    have ed1 : ¬ (0 : Int) < (b.log.length : Int) := by omega
    have ed2 : decide (0 < b.log.length) = false := by rw [h0]; rfl
    clear hn h0
    go_wp2_with fail
    go_quiet (fail)
    rcases HLX.out with ⟨hn, h0⟩ | ⟨bx, ox, mx, zx, rfl, hlen, hbx, hz, hc⟩
    · have HE6 := Lib.hid (HE6a.out.trans (if_neg (by rw [hn]; simp [lateB])))
      have b0 : ((b.releases.length : Int) == 0) = true := by rw [h0]; rfl
      have hd0 : decide ((0 : Int) < (b.releases.length : Int)) = false := by rw [h0]; rfl
      have hd1 : ¬ (0 : Int) < (b.releases.length : Int) := by omega
      have hd2 : decide (0 < b.releases.length) = false := by rw [h0]; rfl
      clear hn h0
      go_wp2_with fail
      go_quiet (fail)
      go_wp2
      go_ret
      exact ⟨by rw [HE6.out]; rfl, Below.drewN_ (Below.drewN_ HB4.out _) _⟩
    · have hcx : w4.cell? ⟨bx, ox + mx * 11, none⟩ = some (.int .i64 zx) := (HB4.out.cell (p := ⟨bx, ox + mx * 11, none⟩) (Nat.lt_of_lt_of_le hbx hB)).trans hc
      have hd0 : decide ((0 : Int) < (b.releases.length : Int)) = true := by rw [hlen, decide_eq_true_eq]; omega
      have hd1 : (0 : Int) < (b.releases.length : Int) := by omega
      have hd2 : decide (0 < b.releases.length) = true := by rw [hlen]; simp
      have hmi : (b.releases.length : Int) - 1 = (mx : Int) := by omega
      have hmz : (0 : Int) ≤ (mx : Int) := Int.natCast_nonneg _
      have hml2 : (mx : Int) < (b.releases.length : Int) := by omega
      have hmu : (mx : Int) ≤ 9223372036854775807 := by omega
      by_cases hlt : b.step ≤ zx
      · have HE6 := Lib.hid (HE6a.out.trans (if_pos (by rw [hz]; simpa [lateB] using hlt)))
        have hdl : decide (b.step ≤ zx) = true := decide_eq_true hlt
        clear hz hc hlen
        go_wp2_with fail
        go_quiet (fail)
        go_wp2
        go_ret
        exact ⟨by rw [HE6.out]; rfl, Below.drewN_ (Below.drewN_ HB4.out _) _⟩
      · have HE6 := Lib.hid (HE6a.out.trans (if_neg (by rw [hz]; simpa [lateB] using hlt)))
        have hdl : decide (b.step ≤ zx) = false := decide_eq_false hlt
        clear hz hc hlen
        go_wp2_with fail
        go_quiet (fail)
        go_wp2
        go_ret
        exact ⟨by rw [HE6.out]; rfl, Below.drewN_ (Below.drewN_ HB4.out _) _⟩
  · have hcl : w4.cell? ⟨bl, ol + ml * 9, none⟩ = some (.int .i64 zl) := (HB4.out.cell (p := ⟨bl, ol + ml * 9, none⟩) (Nat.lt_of_lt_of_le hbl hB)).trans hc
    have ed0 : decide ((0 : Int) < (b.log.length : Int)) = true := by rw [hlen, decide_eq_true_eq]; omega
    have ed1 : (0 : Int) < (b.log.length : Int) := by omega
    have ed2 : decide (0 < b.log.length) = true := by rw [hlen]; simp
    have emi : (b.log.length : Int) - 1 = (ml : Int) := by omega
    have emz : (0 : Int) ≤ (ml : Int) := Int.natCast_nonneg _
    have eml2 : (ml : Int) < (b.log.length : Int) := by omega
    have emu : (ml : Int) ≤ 9223372036854775807 := by omega
    by_cases hlt : b.step ≤ zl
    · have HE6 := Lib.hid (HE5.out.trans (if_pos (by rw [hz]; simpa [lateB] using hlt)))
      have hdl : decide (b.step ≤ zl) = true := decide_eq_true hlt
      clear hz hc hlen
      go_wp2_with fail
      go_quiet (fail)
      go_wp2
      go_ret
      exact ⟨by rw [HE6.out]; rfl, Below.drewN_ HB4.out _⟩
    · have HE6a := Lib.hid (HE5.out.trans (if_neg (by rw [hz]; simpa [lateB] using hlt)))
      have hdl : decide (b.step ≤ zl) = false := decide_eq_false hlt
      clear hz hc hlen
      go_wp2_with fail
      go_quiet (fail)
      clear hcl ed0 ed1 ed2 emi emz eml2 emu hlt hdl
      rcases HLX.out with ⟨hn, h0⟩ | ⟨bx, ox, mx, zx, rfl, hlen, hbx, hz, hc⟩
      · have HE6 := Lib.hid (HE6a.out.trans (if_neg (by rw [hn]; simp [lateB])))
        have b0 : ((b.releases.length : Int) == 0) = true := by rw [h0]; rfl
        have hd0 : decide ((0 : Int) < (b.releases.length : Int)) = false := by rw [h0]; rfl
        have hd1 : ¬ (0 : Int) < (b.releases.length : Int) := by omega
        have hd2 : decide (0 < b.releases.length) = false := by rw [h0]; rfl
        clear hn h0
        go_wp2_with fail
        go_quiet (fail)
        go_wp2
        go_ret
        exact ⟨by rw [HE6.out]; rfl, Below.drewN_ (Below.drewN_ HB4.out _) _⟩
      · have hcx : w4.cell? ⟨bx, ox + mx * 11, none⟩ = some (.int .i64 zx) := (HB4.out.cell (p := ⟨bx, ox + mx * 11, none⟩) (Nat.lt_of_lt_of_le hbx hB)).trans hc
        have hd0 : decide ((0 : Int) < (b.releases.length : Int)) = true := by rw [hlen, decide_eq_true_eq]; omega
        have hd1 : (0 : Int) < (b.releases.length : Int) := by omega
        have hd2 : decide (0 < b.releases.length) = true := by rw [hlen]; simp
        have hmi : (b.releases.length : Int) - 1 = (mx : Int) := by omega
        have hmz : (0 : Int) ≤ (mx : Int) := Int.natCast_nonneg _
        have hml2 : (mx : Int) < (b.releases.length : Int) := by omega
        have hmu : (mx : Int) ≤ 9223372036854775807 := by omega
        by_cases hlt : b.step ≤ zx
        · have HE6 := Lib.hid (HE6a.out.trans (if_pos (by rw [hz]; simpa [lateB] using hlt)))
          have hdl : decide (b.step ≤ zx) = true := decide_eq_true hlt
          clear hz hc hlen
          go_wp2_with fail
          go_quiet (fail)
          go_wp2
          go_ret
          exact ⟨by rw [HE6.out]; rfl, Below.drewN_ (Below.drewN_ HB4.out _) _⟩
        · have HE6 := Lib.hid (HE6a.out.trans (if_neg (by rw [hz]; simpa [lateB] using hlt)))
          have hdl : decide (b.step ≤ zx) = false := decide_eq_false hlt
          clear hz hc hlen
          go_wp2_with fail
          go_quiet (fail)
          go_wp2
          go_ret
          exact ⟨by rw [HE6.out]; rfl, Below.drewN_ (Below.drewN_ HB4.out _) _⟩
theorem script_check_any (s : Scp) (e r g l x o : Value) (B : Nat) (w : World) (hB : B ≤ w.heap.size) (hb : RdScp w B s e r g l x o) (hw : Words w) (hil : ∀ x ∈ s.book.entries, x.input.length ≤ 1000000) (hto : ∀ x ∈ s.book.log, 0 ≤ x.to_ ∧ x.to_ < 18446744073709551616) :
    Calls Tryz.prog 14 #[vScp s e r g l x o] w fun u w' => u = .returned (.int .i64 (scpE s)) ∧ Below w.heap.size w w' := by
  obtain ⟨Ao, co, rfl, _⟩ := id hb.ops
  have hm := hb.ops.len.2.2
  unfold maxLen at hm
  obtain ⟨Ae, ce, rfl, _⟩ := id hb.book.ents
  obtain ⟨Ar, cr, rfl, _⟩ := id hb.book.ruls
  obtain ⟨Ag, cg, rfl, _⟩ := id hb.book.grts
  obtain ⟨Al, cl, rfl, _⟩ := id hb.book.evts
  obtain ⟨Ax, cx, rfl, _⟩ := id hb.book.rlss
  have HC : RowKit.Hid (∀ W, Below w.heap.size w W → Calls Tryz.prog 31 #[vBok s.book (.slice Ae s.book.entries.length ce) (.slice Ar s.book.rules.length cr) (.slice Ag s.book.grants.length cg) (.slice Al s.book.log.length cl) (.slice Ax s.book.releases.length cx)] W fun u w' => u = .returned (.int .i64 (bokE s.book)) ∧ Below W.heap.size W w') :=
    Lib.hid (fun W h => book_check_any s.book _ _ _ _ _ B W (Nat.le_trans hB h.size) (hb.book.below (h.mono hB)) (hw.below h) hil hto)
  have HE := Lib.hid (show scpE s = if bokE s.book ≠ 0 then bokE s.book else if 4096 < s.ops.length then 5 else 0 from rfl)
  generalize bokE s.book = be at HC HE
  generalize scpE s = se at HE ⊢
  clear hb hw hil hto
  go_enter Tryz.func14, Tryz.ntmps14
  go_wp2_with fail
  refine (HC.out _ (by go_grown)).mono ?_
  rintro u w1 ⟨rfl, hb1⟩
  have hc1 : w1.cell? ⟨w.heap.size, 7, none⟩ = some (.slice Ao s.ops.length co) := (hb1.cell (p := ⟨w.heap.size, 7, none⟩) (by simp)).trans (by go_simp)
  have HB1 := Lib.hid (show Below w.heap.size w w1 from Below.next (by go_grown) hb1 (by simp))
  clear hb1
  by_cases h0 : be = 0
  · have HE2 := Lib.hid (HE.out.trans (if_neg (by simpa using h0)))
    have b0 : (be != 0) = false := by simpa using h0
    clear HE h0
    by_cases h4 : 4096 < s.ops.length
    · have HE3 := Lib.hid (HE2.out.trans (if_pos h4))
      have g4 : (4096 : Int) < (s.ops.length : Int) := by omega
      clear h4
      go_wp2
      go_ret
      exact ⟨by rw [HE3.out]; rfl, HB1.out⟩
    · have HE3 := Lib.hid (HE2.out.trans (if_neg h4))
      have g4 : ¬ (4096 : Int) < (s.ops.length : Int) := by omega
      clear h4
      go_wp2
      go_ret
      exact ⟨by rw [HE3.out]; rfl, HB1.out⟩
  · have HE2 := Lib.hid (HE.out.trans (if_pos h0))
    have b0 : (be != 0) = true := by simpa using h0
    clear HE h0
    go_wp2
    go_ret
    exact ⟨by rw [HE2.out]; rfl, HB1.out⟩
/-- What Encode returns. -/
def encR (s : Scp) : Bytes × Int := if scpE s ≠ 0 then ([], scpE s) else if 65536 < (scpB s).length then ([], 5) else (scpB s, 0)
/-- What is read of a script at all. -/
structure FitS (s : Scp) : Prop where
  ok : OkScp s
  ents : ∀ x ∈ s.book.entries, x.input.length ≤ 1000000
  oprs : ∀ x ∈ s.ops, x.input.length ≤ 1000000
  size : (scpB s).length ≤ 100000000
theorem FitS.writes {s : Scp} (h : FitS s) : WritesS s := by
  obtain ⟨ok, he, ho, _⟩ := h
  refine ⟨fun x hx => ?_, fun x hx => ?_, fun x hx => ?_, fun x hx => ?_, fun x hx => ?_, fun x hx => ?_⟩
  · intro v l w h hl
    have := he x hx
    exact wr_ent v l x w (by omega) h hl
  · intro v l w h hl
    have k := (ok.book.rules x hx).rights
    exact wr_rul v l x w k.rd.1 (by have := k.rd.2; omega) k.wr.1 (by have := k.wr.2; omega) k.ow.1 (by have := k.ow.2; omega) h hl
  · intro v l w h hl
    have k := (ok.book.grants x hx).to_
    exact wr_grt v l x w k.1 (by have := k.2; omega) h hl
  · intro v l w h hl
    have k := (ok.book.log x hx).to_
    exact wr_evt v l x w k.1 (by have := k.2; omega) h hl
  · intro v l w h hl
    have k := (ok.book.releases x hx).to_
    exact wr_rls v l x w k.1 (by have := k.2; omega) h hl
  · intro v l w h hl
    have k := (ok.ops x hx).to_
    have q := (ok.ops x hx).rights
    exact opr_any x v l w (ho x hx) q.rd.1 (by have := q.rd.2; omega) q.wr.1 (by have := q.wr.2; omega) q.ow.1 (by have := q.ow.2; omega) k.1 (by have := k.2; omega) h hl
theorem encode_any (s : Scp) (e r g l x o : Value) (B : Nat) (w : World) (hB : B ≤ w.heap.size) (hb : RdScp w B s e r g l x o) (hw : Words w) (hf : FitS s) :
    Calls Tryz.prog 12 #[vScp s e r g l x o] w fun u w' => u = .returned (.tuple #[str (encR s).1, .int .i64 (encR s).2]) ∧ Below w.heap.size w w' := by
  obtain ⟨Ae, ce, rfl, _⟩ := id hb.book.ents
  obtain ⟨Ar, cr, rfl, _⟩ := id hb.book.ruls
  obtain ⟨Ag, cg, rfl, _⟩ := id hb.book.grts
  obtain ⟨Al, cl, rfl, _⟩ := id hb.book.evts
  obtain ⟨Ax, cx, rfl, _⟩ := id hb.book.rlss
  obtain ⟨Ao, co, rfl, _⟩ := id hb.ops
  have HC := Lib.hid (fun (W : World) (hbw : Below w.heap.size w W) => script_check_any s _ _ _ _ _ _ B W (Nat.le_trans hB hbw.size) (hb.below (hbw.mono hB)) (hw.below hbw) hf.ents (fun x hx => by have k := (hf.ok.book.log x hx).to_; exact ⟨k.1, by have := k.2; omega⟩))
  have HB := Lib.hid hb
  have HF := Lib.hid hf
  clear hb hw hf
  by_cases h0 : scpE s = 0
  · by_cases hl : (scpB s).length ≤ 65536
    · have HR := Lib.hid (show encR s = (scpB s, 0) by unfold encR; rw [if_neg (by omega), if_neg (by omega)])
      rw [HR.out]
      go_enter Tryz.func12, Tryz.ntmps12
      go_wp2_with fail
      refine (HC.out _ (by go_grown)).mono ?_
      rintro e w1 ⟨rfl, hb1⟩
      rw [h0]
      have KB := Lib.hid ((Blk.new w 31 #[.int .i64 s.book.users, .slice Ae s.book.entries.length ce, .slice Ar s.book.rules.length cr, .slice Ag s.book.grants.length cg, .slice Al s.book.log.length cl, .slice Ax s.book.releases.length cx, .int .i64 s.book.step, .slice Ao s.ops.length co]).below_ hb1)
      have HB1 := Lib.hid (show Below w.heap.size w w1 from Below.next (by go_grown) hb1 (by simp))
      have g0 := KB.out.cell 0
      have g1 := KB.out.cell 1
      have g2 := KB.out.cell 2
      have g3 := KB.out.cell 3
      have g4 := KB.out.cell 4
      have g5 := KB.out.cell 5
      have g6 := KB.out.cell 6
      have g7 := KB.out.cell 7
      clear hb1
      go_wp2_with fail
      refine (written_any s _ _ _ _ _ _ B _ (by have := HB1.out.size; omega) (HB.out.below (HB1.out.mono hB)) HF.out.writes (by omega)).mono ?_
      rintro e w2 ⟨v, rfl, ho, ht⟩
      have HB2 := Lib.hid (Below.trans HB1.out ((ht.old (Nat.le_refl _) (by simp [Value.ownBlock])).mono HB1.out.size))
      have hpos : 0 < (scpB s).length := by simp [scpB, numI, numB]
      obtain ⟨gb, cap, rfl, hcv⟩ := out_str ho hpos
      clear ho ht g0 g1 g2 g3 g4 g5 g6 g7 KB hpos
      generalize hq : scpB s = q at *
      have HQ := Lib.hid hq
      clear hq
      go_wp2
      go_ret2
      exact ⟨by rw [← HQ.out]; rfl, HB2.out⟩
    · have HR := Lib.hid (show encR s = ([], 5) by unfold encR; rw [if_neg (by omega), if_pos (by omega)])
      rw [HR.out]
      go_enter Tryz.func12, Tryz.ntmps12
      go_wp2_with fail
      refine (HC.out _ (by go_grown)).mono ?_
      rintro e w1 ⟨rfl, hb1⟩
      rw [h0]
      have KB := Lib.hid ((Blk.new w 31 #[.int .i64 s.book.users, .slice Ae s.book.entries.length ce, .slice Ar s.book.rules.length cr, .slice Ag s.book.grants.length cg, .slice Al s.book.log.length cl, .slice Ax s.book.releases.length cx, .int .i64 s.book.step, .slice Ao s.ops.length co]).below_ hb1)
      have HB1 := Lib.hid (show Below w.heap.size w w1 from Below.next (by go_grown) hb1 (by simp))
      have g0 := KB.out.cell 0
      have g1 := KB.out.cell 1
      have g2 := KB.out.cell 2
      have g3 := KB.out.cell 3
      have g4 := KB.out.cell 4
      have g5 := KB.out.cell 5
      have g6 := KB.out.cell 6
      have g7 := KB.out.cell 7
      clear hb1
      go_wp2_with fail
      refine (written_any s _ _ _ _ _ _ B _ (by have := HB1.out.size; omega) (HB.out.below (HB1.out.mono hB)) HF.out.writes HF.out.size).mono ?_
      rintro e w2 ⟨v, rfl, ho, ht⟩
      have HB2 := Lib.hid (Below.trans HB1.out ((ht.old (Nat.le_refl _) (by simp [Value.ownBlock])).mono HB1.out.size))
      have hpos : 0 < (scpB s).length := by simp [scpB, numI, numB]
      obtain ⟨gb, cap, rfl, hcv⟩ := out_str ho hpos
      clear ho ht g0 g1 g2 g3 g4 g5 g6 g7 KB hpos
      generalize hq : scpB s = q at *
      have HQ := Lib.hid hq
      clear hq
      go_wp2
      go_ret2
      exact ⟨rfl, HB2.out⟩
  · have HR := Lib.hid (show encR s = ([], scpE s) by unfold encR; rw [if_pos h0])
    rw [HR.out]
    generalize scpE s = E at *
    go_enter Tryz.func12, Tryz.ntmps12
    go_wp2_with fail
    refine (HC.out _ (by go_grown)).mono ?_
    rintro e w1 ⟨rfl, hb1⟩
    have HB1 := Lib.hid (show Below w.heap.size w w1 from Below.next (by go_grown) hb1 (by simp))
    clear hb1
    go_wp2
    go_ret2
    exact ⟨rfl, HB1.out⟩
theorem wrapI_ok (n : Nat) : I64 (wrapI n) := by unfold I64 wrapI; omega
theorem numR_lt (r : Rd) : (numR r).1 < 18446744073709551616 := by
  obtain ⟨l, b⟩ := r
  cases l with
  | nil => simp [numR]
  | cons c t => rw [numR_cons]; exact beN_lt _ 0 (by decide)
theorem intR_ok (r : Rd) : I64 (intR r).1 := wrapI_ok _
theorem u64R_ok (r : Rd) : U64 (u64R r).1 := ⟨by unfold u64R; dsimp only; omega, by have := numR_lt r; unfold u64R; dsimp only; omega⟩
theorem u8R_ok (r : Rd) : U8 (u8R r).1 := ⟨by unfold u8R; dsimp only; omega, by unfold u8R; dsimp only; omega⟩
theorem placeR_ok (r : Rd) : OkRef (placeR r).1 := ⟨intR_ok _, intR_ok _⟩
theorem cornR_ok (r : Rd) : OkRct (cornR r).1 := ⟨intR_ok _, intR_ok _, intR_ok _, intR_ok _⟩
theorem setsR_ok (r : Rd) : OkRts (setsR r).1 := ⟨u64R_ok _, u64R_ok _, u64R_ok _⟩
theorem bytesR_sum (n : Int) (r : Rd) : (bytesR n r).1.length + (bytesR n r).2.1.length ≤ r.1.length := by
  unfold bytesR
  split
  · simp
  · simp only [List.length_take, List.length_drop]; omega
theorem textR_sum (r : Rd) : (textR r).1.length + (textR r).2.1.length ≤ r.1.length := by
  have h1 := bytesR_sum (intR r).1 (intR r).2
  have h2 : (intR r).2.1.length ≤ r.1.length := numR_len r
  unfold textR
  omega
theorem entR_ok (r : Rd) (h : r.1.length ≤ 1000000) : OkEnt (entR r).1 ∧ (entR r).1.input.length ≤ 1000000 ∧ (entB (entR r).1).length + (entR r).2.1.length ≤ 200 + r.1.length := by
  obtain ⟨q, hq⟩ : ∃ q, textR (placeR r).2 = q := ⟨_, rfl⟩
  have h1 := textR_sum (placeR r).2
  have h2 := placeR_len r
  rw [hq] at h1
  rw [entR_eq, hq]
  have m1 := numI_le (placeR r).1.col
  have m2 := numI_le (placeR r).1.row
  have m3 := numI_le q.1.length
  refine ⟨⟨placeR_ok r, ?_⟩, ?_, ?_⟩
  · show q.1.length ≤ _; omega
  · show q.1.length ≤ _; omega
  · simp only [entB, placeB, textB, List.length_append]; omega
theorem rulR_ok (r : Rd) : OkRul (rulR r).1 ∧ (rulB (rulR r).1).length + (rulR r).2.1.length ≤ 200 + r.1.length := by
  refine ⟨⟨cornR_ok _, setsR_ok _⟩, ?_⟩
  have h := rulR_len r
  obtain ⟨q, hq⟩ : ∃ q, rulR r = q := ⟨_, rfl⟩
  rw [hq] at h ⊢
  have m1 := numI_le q.1.rect.c1
  have m2 := numI_le q.1.rect.r1
  have m3 := numI_le q.1.rect.c2
  have m4 := numI_le q.1.rect.r2
  have m5 := numI_le q.1.rights.rd
  have m6 := numI_le q.1.rights.wr
  have m7 := numI_le q.1.rights.ow
  simp only [rulB, cornB, setsB, List.length_append]
  omega
theorem flagB_le (b : Bool) : (flagB b).length ≤ 9 := numI_le _
theorem grtR_ok (r : Rd) : OkGrt (grtR r).1 ∧ (grtB (grtR r).1).length + (grtR r).2.1.length ≤ 200 + r.1.length := by
  refine ⟨⟨cornR_ok _, u8R_ok _, u64R_ok _, intR_ok _⟩, ?_⟩
  have h := grtR_len r
  obtain ⟨q, hq⟩ : ∃ q, grtR r = q := ⟨_, rfl⟩
  rw [hq] at h ⊢
  have m1 := numI_le q.1.rect.c1
  have m2 := numI_le q.1.rect.r1
  have m3 := numI_le q.1.rect.c2
  have m4 := numI_le q.1.rect.r2
  have m5 := numI_le q.1.fns
  have m6 := numI_le q.1.to_
  have m7 := numI_le q.1.by_
  have m8 := flagB_le q.1.revoked
  simp only [grtB, cornB, List.length_append]
  omega
theorem evtR_ok (r : Rd) : OkEvt (evtR r).1 ∧ (evtB (evtR r).1).length + (evtR r).2.1.length ≤ 200 + r.1.length := by
  refine ⟨⟨intR_ok _, intR_ok _, u8R_ok _, cornR_ok _, u64R_ok _⟩, ?_⟩
  have h := evtR_len r
  obtain ⟨q, hq⟩ : ∃ q, evtR r = q := ⟨_, rfl⟩
  rw [hq] at h ⊢
  have m1 := numI_le q.1.rect.c1
  have m2 := numI_le q.1.rect.r1
  have m3 := numI_le q.1.rect.c2
  have m4 := numI_le q.1.rect.r2
  have m5 := numI_le q.1.step
  have m6 := numI_le q.1.to_
  have m7 := numI_le q.1.user
  have m8 := flagB_le q.1.done_
  have m9 := numI_le q.1.kind
  simp only [evtB, cornB, List.length_append]
  omega
theorem rlsR_ok (r : Rd) : OkRls (rlsR r).1 ∧ (rlsB (rlsR r).1).length + (rlsR r).2.1.length ≤ 200 + r.1.length := by
  refine ⟨⟨intR_ok _, placeR_ok _, intR_ok _, u8R_ok _, cornR_ok _, intR_ok _, u64R_ok _⟩, ?_⟩
  have h := rlsR_len r
  obtain ⟨q, hq⟩ : ∃ q, rlsR r = q := ⟨_, rfl⟩
  rw [hq] at h ⊢
  have m1 := numI_le q.1.rect.c1
  have m2 := numI_le q.1.rect.r1
  have m3 := numI_le q.1.rect.c2
  have m4 := numI_le q.1.rect.r2
  have m5 := numI_le q.1.step
  have m6 := numI_le q.1.to_
  have m7 := numI_le q.1.at_.col
  have m8 := numI_le q.1.at_.row
  have m9 := numI_le q.1.node
  have m10 := numI_le q.1.fn
  have m11 := numI_le q.1.grant
  simp only [rlsB, cornB, placeB, List.length_append]
  omega
/-- What a stage keeps: the operation's ranges, and its text is no longer than what has been read. -/
structure OkSt (L : Nat) (s : Opr × Rd) : Prop where
  ok : OkOpr s.1
  sum : s.1.input.length + s.2.1.length ≤ L
theorem nxO_ok (m k L : Nat) (x : Opr) (r : Rd) (hL : L ≤ 1000000) (ok : OkOpr x) (hs : x.input.length + r.1.length ≤ L) (hk : k = 2 → x.input = []) : OkSt L (nxO m k (x, r)) := by
  obtain ⟨x1, x2, x3, x4, x5, x6, x7, x8⟩ := ok
  match k, hk with
  | 0, hk => cases hb : bitR m 0 with
    | false => rw [nx_false0 hb]; exact ⟨⟨x1, x2, x3, x4, x5, x6, x7, x8⟩, hs⟩
    | true =>
      rw [nx_true0 hb]
      have h1 := intR_ok r
      have h2 : (intR r).2.1.length ≤ r.1.length := numR_len r
      obtain ⟨q, hq⟩ : ∃ q, intR r = q := ⟨_, rfl⟩
      rw [hq] at h1 h2 ⊢
      exact ⟨⟨x1, h1, x3, x4, x5, x6, x7, x8⟩, by show x.input.length + q.2.1.length ≤ L; omega⟩
  | 1, hk => cases hb : bitR m 1 with
    | false => rw [nx_false1 hb]; exact ⟨⟨x1, x2, x3, x4, x5, x6, x7, x8⟩, hs⟩
    | true =>
      rw [nx_true1 hb]
      have h1 := cornR_ok r
      have h2 : (cornR r).2.1.length ≤ r.1.length := cornR_len r
      obtain ⟨q, hq⟩ : ∃ q, cornR r = q := ⟨_, rfl⟩
      rw [hq] at h1 h2 ⊢
      exact ⟨⟨x1, x2, h1, x4, x5, x6, x7, x8⟩, by show x.input.length + q.2.1.length ≤ L; omega⟩
  | 2, hk => cases hb : bitR m 2 with
    | false => rw [nx_false2 hb]; exact ⟨⟨x1, x2, x3, x4, x5, x6, x7, x8⟩, hs⟩
    | true =>
      rw [nx_true2 hb]
      have h2 := textR_sum r
      obtain ⟨q, hq⟩ : ∃ q, textR r = q := ⟨_, rfl⟩
      rw [hq] at h2 ⊢
      have h1 : OkStr q.1 := by unfold OkStr; omega
      exact ⟨⟨x1, x2, x3, h1, x5, x6, x7, x8⟩, by show q.1.length + q.2.1.length ≤ L; omega⟩
  | 3, hk => cases hb : bitR m 3 with
    | false => rw [nx_false3 hb]; exact ⟨⟨x1, x2, x3, x4, x5, x6, x7, x8⟩, hs⟩
    | true =>
      rw [nx_true3 hb]
      have h1 := setsR_ok r
      have h2 : (setsR r).2.1.length ≤ r.1.length := setsR_len r
      obtain ⟨q, hq⟩ : ∃ q, setsR r = q := ⟨_, rfl⟩
      rw [hq] at h1 h2 ⊢
      exact ⟨⟨x1, x2, x3, x4, h1, x6, x7, x8⟩, by show x.input.length + q.2.1.length ≤ L; omega⟩
  | 4, hk => cases hb : bitR m 4 with
    | false => rw [nx_false4 hb]; exact ⟨⟨x1, x2, x3, x4, x5, x6, x7, x8⟩, hs⟩
    | true =>
      rw [nx_true4 hb]
      have h1 := u8R_ok r
      have h2 : (u8R r).2.1.length ≤ r.1.length := numR_len r
      obtain ⟨q, hq⟩ : ∃ q, u8R r = q := ⟨_, rfl⟩
      rw [hq] at h1 h2 ⊢
      exact ⟨⟨x1, x2, x3, x4, x5, h1, x7, x8⟩, by show x.input.length + q.2.1.length ≤ L; omega⟩
  | 5, hk => cases hb : bitR m 5 with
    | false => rw [nx_false5 hb]; exact ⟨⟨x1, x2, x3, x4, x5, x6, x7, x8⟩, hs⟩
    | true =>
      rw [nx_true5 hb]
      have h1 := u64R_ok r
      have h2 : (u64R r).2.1.length ≤ r.1.length := numR_len r
      obtain ⟨q, hq⟩ : ∃ q, u64R r = q := ⟨_, rfl⟩
      rw [hq] at h1 h2 ⊢
      exact ⟨⟨x1, x2, x3, x4, x5, x6, h1, x8⟩, by show x.input.length + q.2.1.length ≤ L; omega⟩
  | 6, hk => cases hb : bitR m 6 with
    | false => rw [nx_false6 hb]; exact ⟨⟨x1, x2, x3, x4, x5, x6, x7, x8⟩, hs⟩
    | true =>
      rw [nx_true6 hb]
      have h1 := intR_ok r
      have h2 : (intR r).2.1.length ≤ r.1.length := numR_len r
      obtain ⟨q, hq⟩ : ∃ q, intR r = q := ⟨_, rfl⟩
      rw [hq] at h1 h2 ⊢
      exact ⟨⟨x1, x2, x3, x4, x5, x6, x7, h1⟩, by show x.input.length + q.2.1.length ≤ L; omega⟩
  | k + 7, _ => exact ⟨⟨x1, x2, x3, x4, x5, x6, x7, x8⟩, hs⟩
theorem zi : I64 0 := by constructor <;> decide
theorem zu : U64 0 := by constructor <;> decide
theorem z8 : U8 0 := by constructor <;> decide
theorem stO_ok (kd : Int) (hk : U8 kd) (m : Nat) (r : Rd) (h : r.1.length ≤ 1000000) : ∀ k, OkSt r.1.length (stO kd m r k)
  | 0 => ⟨⟨hk, zi, ⟨zi, zi, zi, zi⟩, Nat.zero_le _, ⟨zu, zu, zu⟩, z8, zu, zi⟩, by show 0 + r.1.length ≤ _; omega⟩
  | k + 1 => by
    have ih := stO_ok kd hk m r h k
    have h2 : k = 2 → (stO kd m r k).1.input = [] := fun e => by subst e; rfl
    show OkSt _ (nxO m k (stO kd m r k))
    generalize stO kd m r k = s at ih h2 ⊢
    obtain ⟨x, r'⟩ := s
    exact nxO_ok m k _ x r' h ih.ok ih.sum h2
theorem oprR_ok (r : Rd) (h : r.1.length ≤ 1000000) : OkOpr (oprR r).1 ∧ (oprR r).1.input.length ≤ 1000000 ∧ (oprB (oprR r).1).length + (oprR r).2.1.length ≤ 200 + r.1.length := by
  have h1 := numR_len r
  have h2 := numR_len (numR r).2
  have h0 := stO_ok (u8R r).1 (u8R_ok r) (numR (u8R r).2).1 (numR (u8R r).2).2 (Nat.le_trans h2 (Nat.le_trans h1 h)) 7
  rw [← oprR_st] at h0
  have hs := h0.sum
  have e : (numR (u8R r).2).2.1.length ≤ r.1.length := Nat.le_trans h2 h1
  refine ⟨h0.ok, by omega, ?_⟩
  obtain ⟨q, hq⟩ : ∃ q, oprR r = q := ⟨_, rfl⟩
  rw [hq] at h0 hs ⊢
  have hq : ∀ (b : Bool) (l : Bytes), (if b = true then l else []).length ≤ l.length := fun b l => by cases b <;> simp
  have g1 := numI_le q.1.kind
  have g2 := numI_le (maskN (oprF q.1))
  have m1 := numI_le q.1.user
  have m2 := numI_le q.1.rect.c1
  have m3 := numI_le q.1.rect.r1
  have m4 := numI_le q.1.rect.c2
  have m5 := numI_le q.1.rect.r2
  have m6 := numI_le q.1.input.length
  have m7 := numI_le q.1.rights.rd
  have m8 := numI_le q.1.rights.wr
  have m9 := numI_le q.1.rights.ow
  have m10 := numI_le q.1.fns
  have m11 := numI_le q.1.to_
  have m12 := numI_le q.1.index
  have k1 := hq (decide (q.1.user ≠ 0)) (numI q.1.user)
  have k2 := hq (decide (q.1.rect ≠ ⟨0, 0, 0, 0⟩)) (cornB q.1.rect)
  have k3 := hq (decide (q.1.input ≠ [])) (textB q.1.input)
  have k4 := hq (decide (q.1.rights ≠ ⟨0, 0, 0⟩)) (setsB q.1.rights)
  have k5 := hq (decide (q.1.fns ≠ 0)) (numI q.1.fns)
  have k6 := hq (decide (q.1.to_ ≠ 0)) (numI q.1.to_)
  have k7 := hq (decide (q.1.index ≠ 0)) (numI q.1.index)
  have c2 : (cornB q.1.rect).length ≤ 36 := by simp only [cornB, List.length_append]; omega
  have c3 : (textB q.1.input).length ≤ 9 + q.1.input.length := by simp only [textB, List.length_append]; omega
  have c4 : (setsB q.1.rights).length ≤ 27 := by simp only [setsB, List.length_append]; omega
  have hB : (oprB q.1).length ≤ 144 + q.1.input.length := by
    unfold oprB
    simp only [List.length_append]
    unfold oprF at g2 ⊢
    simp only [List.flatMap_cons, List.flatMap_nil, List.length_append, List.length_nil]
    omega
  omega
theorem manyR_ok {α : Type} (one : Rd → α × Rd) (P : α → Prop) (f : α → Bytes) (h : ∀ r, r.1.length ≤ 1000000 → P (one r).1 ∧ (f (one r).1).length + (one r).2.1.length ≤ 200 + r.1.length) (hl : ∀ r, (one r).2.1.length ≤ r.1.length) :
    ∀ (n : Nat) (r : Rd), r.1.length ≤ 1000000 → (∀ x ∈ (manyR one n r).1, P x) ∧ ((manyR one n r).1.flatMap f).length + (manyR one n r).2.1.length ≤ 200 * n + r.1.length ∧ (manyR one n r).1.length ≤ n
  | 0, r, _ => ⟨fun x hx => (List.not_mem_nil hx).elim, by show 0 + r.1.length ≤ _; omega, Nat.le_refl _⟩
  | n + 1, r, hr => by
    by_cases hb : r.2 = true
    · rw [manyR_stop one _ hb]
      exact ⟨fun x hx => (List.not_mem_nil hx).elim, by show 0 + r.1.length ≤ _; omega, Nat.zero_le _⟩
    · obtain ⟨q, hq⟩ : ∃ q, one r = q := ⟨_, rfl⟩
      have h1 := h r hr
      have h2 := hl r
      rw [hq] at h1 h2
      obtain ⟨i1, i2, i3⟩ := manyR_ok one P f h hl n q.2 (Nat.le_trans h2 hr)
      rw [manyR_step one n (by simpa using hb) hq]
      obtain ⟨z, hz⟩ : ∃ z, manyR one n q.2 = z := ⟨_, rfl⟩
      rw [hz] at i1 i2 i3 ⊢
      refine ⟨fun x hx => ?_, ?_, ?_⟩
      · rcases List.mem_cons.1 hx with rfl | hx
        · exact h1.1
        · exact i1 x hx
      · show ((q.1 :: z.1).flatMap f).length + z.2.1.length ≤ _
        rw [List.flatMap_cons, List.length_append]
        have := h1.2
        omega
      · show (q.1 :: z.1).length ≤ _
        rw [List.length_cons]
        omega
theorem listR_ok {α : Type} (one : Rd → α × Rd) (P : α → Prop) (f : α → Bytes) (h : ∀ r, r.1.length ≤ 1000000 → P (one r).1 ∧ (f (one r).1).length + (one r).2.1.length ≤ 200 + r.1.length) (hl : ∀ r, (one r).2.1.length ≤ r.1.length)
    (r : Rd) (hr : r.1.length ≤ 65536) : (∀ x ∈ (listR one r).1, P x) ∧ (listB f (listR one r).1).length ≤ 14000000 ∧ (listR one r).1.length ≤ 65536 ∧ (listR one r).2.1.length ≤ 65536 := by
  have hle := listR_le one hl r
  obtain ⟨q, hq⟩ : ∃ q, numR r = q := ⟨_, rfl⟩
  have h1 := numR_len r
  rw [hq] at h1
  obtain ⟨n, hn⟩ : ∃ n, wrapI q.1 = n := ⟨_, rfl⟩
  obtain ⟨b, hb⟩ : ∃ b, (q.2.2 || decide (n < 0) || decide ((q.2.1.length : Int) < n)) = b := ⟨_, rfl⟩
  have e := listR_len one hq hn hb
  have key : (∀ x ∈ (listR one r).1, P x) ∧ ((listR one r).1.flatMap f).length ≤ 13999990 ∧ (listR one r).1.length ≤ 65536 := by
    rw [e]
    cases b with
    | true =>
      rw [manyR_stop one _ rfl]
      exact ⟨fun x hx => (List.not_mem_nil hx).elim, Nat.zero_le _, Nat.zero_le _⟩
    | false =>
      simp only [Bool.or_eq_false_iff, decide_eq_false_iff_not] at hb
      obtain ⟨i1, i2, i3⟩ := manyR_ok one P f h hl n.toNat (q.2.1, false) (by show q.2.1.length ≤ _; omega)
      have hi : (q.2.1, false).1.length = q.2.1.length := rfl
      rw [hi] at i2
      exact ⟨i1, by omega, by omega⟩
  have hnum := numI_le (listR one r).1.length
  refine ⟨key.1, ?_, key.2.2, Nat.le_trans hle hr⟩
  unfold listB
  rw [List.length_append]
  have := key.2.1
  omega
theorem scpR_fit (s : Bytes) (hs : s.length ≤ 65536) : FitS (scpR (s, false)).1 := by
  unfold scpR
  have hs0 : ((s, false) : Rd).1.length ≤ 65536 := hs
  obtain ⟨r0, hr0⟩ : ∃ r : Rd, (s, false) = r := ⟨_, rfl⟩
  rw [hr0] at hs0 ⊢
  have a0 := intR_ok r0
  have b0 : (intR r0).2.1.length ≤ 65536 := Nat.le_trans (numR_len r0) hs0
  obtain ⟨q0, h0⟩ : ∃ q, intR r0 = q := ⟨_, rfl⟩
  rw [h0] at a0 b0 ⊢
  dsimp only
  have a1 := listR_ok entR (fun x => OkEnt x ∧ x.input.length ≤ 1000000) entB (fun r hr => ⟨⟨(entR_ok r hr).1, (entR_ok r hr).2.1⟩, (entR_ok r hr).2.2⟩) entR_len q0.2 b0
  obtain ⟨q1, h1⟩ : ∃ q, listR entR q0.2 = q := ⟨_, rfl⟩
  rw [h1] at a1 ⊢
  have a2 := listR_ok rulR OkRul rulB (fun r _ => rulR_ok r) rulR_len q1.2 a1.2.2.2
  obtain ⟨q2, h2⟩ : ∃ q, listR rulR q1.2 = q := ⟨_, rfl⟩
  rw [h2] at a2 ⊢
  have a3 := listR_ok grtR OkGrt grtB (fun r _ => grtR_ok r) grtR_len q2.2 a2.2.2.2
  obtain ⟨q3, h3⟩ : ∃ q, listR grtR q2.2 = q := ⟨_, rfl⟩
  rw [h3] at a3 ⊢
  have a4 := listR_ok evtR OkEvt evtB (fun r _ => evtR_ok r) evtR_len q3.2 a3.2.2.2
  obtain ⟨q4, h4⟩ : ∃ q, listR evtR q3.2 = q := ⟨_, rfl⟩
  rw [h4] at a4 ⊢
  have a5 := listR_ok rlsR OkRls rlsB (fun r _ => rlsR_ok r) rlsR_len q4.2 a4.2.2.2
  obtain ⟨q5, h5⟩ : ∃ q, listR rlsR q4.2 = q := ⟨_, rfl⟩
  rw [h5] at a5 ⊢
  have a6 := intR_ok q5.2
  have b6 : (intR q5.2).2.1.length ≤ 65536 := Nat.le_trans (numR_len q5.2) a5.2.2.2
  obtain ⟨q6, h6⟩ : ∃ q, intR q5.2 = q := ⟨_, rfl⟩
  rw [h6] at a6 b6 ⊢
  have a7 := listR_ok oprR (fun x => OkOpr x ∧ x.input.length ≤ 1000000) oprB (fun r hr => ⟨⟨(oprR_ok r hr).1, (oprR_ok r hr).2.1⟩, (oprR_ok r hr).2.2⟩) oprR_len q6.2 b6
  obtain ⟨q7, h7⟩ : ∃ q, listR oprR q6.2 = q := ⟨_, rfl⟩
  rw [h7] at a7 ⊢
  clear h0 h1 h2 h3 h4 h5 h6 h7 hr0
  refine ⟨⟨⟨a0, fun x hx => (a1.1 x hx).1, a2.1, a3.1, a4.1, a5.1, a6, ?_⟩, fun x hx => (a7.1 x hx).1, ?_⟩, fun x hx => (a1.1 x hx).2, fun x hx => (a7.1 x hx).2, ?_⟩
  · exact ⟨Nat.le_trans a1.2.2.1 (by decide), Nat.le_trans a2.2.2.1 (by decide), Nat.le_trans a3.2.2.1 (by decide), Nat.le_trans a4.2.2.1 (by decide), Nat.le_trans a5.2.2.1 (by decide)⟩
  · exact Nat.le_trans a7.2.2.1 (by decide)
  · have n0 := numI_le q0.1
    have n6 := numI_le q6.1
    have l1 := a1.2.1
    have l2 := a2.2.1
    have l3 := a3.2.1
    have l4 := a4.2.1
    have l5 := a5.2.1
    have l7 := a7.2.1
    simp only [scpB, List.length_append]
    omega
end Go.Proofs.YtamcgggmfghljaaGreatDoor
