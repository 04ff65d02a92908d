/- Layer 41 (program): the reader takes bytes, and numbers (printed by tools/gen_rda.py). -/
import Derived.Laws.BitsLemmas
import Derived.Test.YtamcgggmfghljaaGreatDoorB7
set_option maxRecDepth 100000
set_option maxHeartbeats 8000000
namespace Go.Proofs.YtamcgggmfghljaaGreatDoor
open Go.RowKit
/-- The reader lies at block p. -/
def RdAt (W : World) (p : Nat) (r : Rd) : Prop := Blk W p 97 #[str r.1, .bool r.2]
/-- A call has read on: the reader has changed, and memory was made. -/
structure RdTo (p : Nat) (W W' : World) (r' : Rd) : Prop where
  blk : RdAt W' p r'
  chg : Chg (fun k => k = p) W W'
theorem RdTo.trans {p : Nat} {W W1 W2 : World} {r1 r2 : Rd} (h : RdTo p W W1 r1) (k : RdTo p W1 W2 r2) : RdTo p W W2 r2 := ⟨k.blk, h.chg.trans k.chg⟩
theorem RdAt.lt {W : World} {p : Nat} {r : Rd} (h : RdAt W p r) : p < W.heap.size := Blk.lt h
theorem bytesR_no {n : Int} {r : Rd} (h : n < 0 ∨ (r.1.length : Int) < n) : bytesR n r = ([], ([], true)) := if_pos h
theorem bytesR_yes {k : Nat} {r : Rd} (h : k ≤ r.1.length) : bytesR k r = (r.1.take k, (r.1.drop k, r.2)) := by
  unfold bytesR
  rw [if_neg (by omega)]
  rfl
theorem rd_bytes (p : Nat) (n : Int) (r : Rd) (W : World) (h : RdAt W p r) :
    Calls Tryz.prog 145 #[.pointer (some ⟨p, 0, none⟩), .int .i64 n] W fun u W' => u = .returned (str (bytesR n r).1) ∧ RdTo p W W' (bytesR n r).2 := by
  have HH := Lib.hid h
  have c0 : W.cell? ⟨p, 0, none⟩ = some (str r.1) := Blk.cell h 0
  have c1 : W.cell? ⟨p, 1, none⟩ = some (.bool r.2) := Blk.cell h 1
  have f0 : W.frozen? ⟨p, 0, none⟩ = false := Blk.frozen h 0
  have f1 : W.frozen? ⟨p, 1, none⟩ = false := Blk.frozen h 1
  clear h
  by_cases hb : n < 0 ∨ (r.1.length : Int) < n
  · have HR := Lib.hid (bytesR_no hb)
    by_cases hn : n < 0
    · clear hb
      go_enter Tryz.func145, Tryz.ntmps145
      go_wp2
      go_ret
      exact ⟨by rw [HR.out]; rfl, by rw [HR.out]; exact (Blk.set_ HH.out 1 _).set_ 0 _, ((Chg.refl (fun k => k = p) _).setCell (p := ⟨p, 1, none⟩) (.inl rfl) _).setCell (p := ⟨p, 0, none⟩) (.inl rfl) _⟩
    · have hl : (r.1.length : Int) < n := hb.resolve_left hn
      clear hb
      go_enter Tryz.func145, Tryz.ntmps145
      go_wp2
      go_ret
      exact ⟨by rw [HR.out]; rfl, by rw [HR.out]; exact (Blk.set_ HH.out 1 _).set_ 0 _, ((Chg.refl (fun k => k = p) _).setCell (p := ⟨p, 1, none⟩) (.inl rfl) _).setCell (p := ⟨p, 0, none⟩) (.inl rfl) _⟩
  · rw [not_or] at hb
    obtain ⟨hn, hl⟩ := hb
    obtain ⟨k, rfl⟩ : ∃ k : Nat, n = k := ⟨n.toNat, by omega⟩
    have HR := Lib.hid (bytesR_yes (k := k) (r := r) (by omega))
    have hl2 : (k : Int) ≤ (r.1.length : Int) := by omega
    have hk0 : (0 : Int) ≤ (k : Int) := by omega
    go_enter Tryz.func145, Tryz.ntmps145
    go_wp2
    go_ret
    rw [ext_to, ext_from _ _ _ rfl]
    exact ⟨by rw [HR.out]; rfl, by rw [HR.out]; exact Blk.set_ HH.out 0 _, (Chg.refl (fun k => k = p) _).setCell (p := ⟨p, 0, none⟩) (.inl rfl) _⟩
theorem or_beN (x c : Nat) (hc : c < 256) : bits .or .u64 (((x * 256 % 18446744073709551616 : Nat)) : Int) (c : Int) = ((x * 256 + c) % 18446744073709551616 : Nat) := by
  have ha : x * 256 % 18446744073709551616 % 256 = 0 := by omega
  have hb : x * 256 % 18446744073709551616 < 18446744073709551616 := Nat.mod_lt _ (by decide)
  have he : (x * 256 + c) % 18446744073709551616 = x * 256 % 18446744073709551616 + c := by omega
  rw [he]
  generalize x * 256 % 18446744073709551616 = A at ha hb
  rw [bits_join .u64 64 (by decide) (fun n h0 h1 => by rw [IntKind.wrap_u64]; omega) 8 (A : Int) (c : Int) (by omega) (show (A : Int) % 256 = 0 by omega) (show (A : Int) < 18446744073709551616 by omega) (by omega) (show (c : Int) < 256 by omega) (show (c : Int) < 18446744073709551616 by omega)]
  rfl
theorem beN_take {l : Bytes} {k : Nat} (h : k < l.length) : beN 0 (l.take (k + 1)) = (beN 0 (l.take k) * 256 + l[k].toNat) % 18446744073709551616 := by
  rw [List.take_succ_eq_append_getElem h, beN_app]
theorem numR_nil (b : Bool) : numR ([], b) = (0, ([], true)) := rfl
theorem wrapI_zero : wrapI 0 = 0 := by unfold wrapI; omega
theorem wrapI_wrap (x : Nat) : wrap64 (x : Int) = wrapI x := by unfold wrap64 wrapI; omega
theorem beN_lt (l : Bytes) : ∀ (v : Nat), v < 18446744073709551616 → beN v l < 18446744073709551616 := by
  induction l with
  | nil => intro v h; exact h
  | cons c l ih => intro v h; exact ih _ (Nat.mod_lt _ (by decide))
theorem numR_cons (c : UInt8) (t : Bytes) (b : Bool) : numR (c :: t, b) = (beN 0 (bytesR c.toNat (t, b || decide (8 < c.toNat))).1, (bytesR c.toNat (t, b || decide (8 < c.toNat))).2) := rfl
theorem bytesR_le (n : Int) (r : Rd) : (bytesR n r).1.length ≤ r.1.length := by
  unfold bytesR
  split
  · simp
  · simp only [List.length_take]; omega
theorem rd_int (p : Nat) (r : Rd) (W : World) (h : RdAt W p r) (hl : r.1.length ≤ 1000000) :
    Calls Tryz.prog 57 #[.pointer (some ⟨p, 0, none⟩)] W fun u W' => u = .returned (.int .i64 (wrapI (numR r).1)) ∧ RdTo p W W' (numR r).2 := by
  have HH := Lib.hid h
  have hlt := h.lt
  clear h
  obtain ⟨l, b⟩ := r
  cases l with
  | nil =>
    go_enter Tryz.func57, Tryz.ntmps57
    go_wp2_with fail
    refine (rd_bytes p 1 _ _ HH.out).mono ?_
    rintro u w1 ⟨rfl, hr1⟩
    rw [bytesR_no (n := 1) (r := (([] : Bytes), b)) (.inr (by simp))] at hr1 ⊢
    have H1 := Lib.hid hr1
    clear hr1
    go_wp2
    go_ret
    rw [numR_nil, wrapI_zero]
    exact ⟨rfl, H1.out⟩
  | cons c t =>
    have hb1 : bytesR 1 (c :: t, b) = ([c], (t, b)) := by
      have := bytesR_yes (k := 1) (r := (c :: t, b)) (by simp)
      simpa using this
    have HN := Lib.hid (numR_cons c t b)
    generalize numR (c :: t, b) = N at HN ⊢
    have hc0 : ((⟨[c].toArray⟩ : ByteArray)[0]'(by show 0 < ([c].toArray).size; simp)) = c := rfl
    have hcs : ([c] == ([] : List UInt8)) = false := rfl
    have hcb := c.toNat_lt
    have htl : t.length ≤ 1000000 := by simp at hl; omega
    go_enter Tryz.func57, Tryz.ntmps57
    go_wp2_with fail
    refine (rd_bytes p 1 _ _ HH.out).mono ?_
    rintro u w1 ⟨rfl, hr1⟩
    rw [hb1] at hr1 ⊢
    have H1 := Lib.hid hr1
    have g1 : w1.cell? ⟨p, 1, none⟩ = some (.bool b) := Blk.cell hr1.blk 1
    have e1 : w1.frozen? ⟨p, 1, none⟩ = false := Blk.frozen hr1.blk 1
    clear hr1 hb1
    have hdc : decide (8 < (c.toNat : Int)) = decide (8 < c.toNat) := by rw [Bool.eq_iff_iff]; simp only [decide_eq_true_eq]; omega
    have HDC := Lib.hid hdc
    have H2 : RowKit.Hid (∀ q, RdTo p W (w1.setCell ⟨p, 1, none⟩ (.bool q)) (t, q)) := Lib.hid (fun q => ⟨Blk.set_ H1.out.blk 1 _, H1.out.chg.setCell (p := ⟨p, 1, none⟩) (.inl rfl) _⟩)
    clear hdc
    have hi : ∀ W : World, (Instr.index 9 (.string ⟨[c].toArray⟩) (.int .i64 0)).run Tryz.prog W = .ok (.int .u8 c.toNat) W := fun W => by rfl
    cases b with
    | true =>
      have HN2 := Lib.hid (show N = (beN 0 (bytesR c.toNat (t, true)).1, (bytesR c.toNat (t, true)).2) by rw [HN.out, Bool.true_or])
      clear HN
      go_wp2_with fail
      refine (rd_bytes p c.toNat (t, true) _ (H2.out _).blk).mono ?_
      rintro u w3 ⟨rfl, hr3⟩
      have hll := bytesR_le c.toNat (t, true)
      have H3 := Lib.hid ((H2.out _).trans hr3)
      clear hr3 g1 e1
      generalize bytesR c.toNat (t, true) = BR at HN2 H3 hll ⊢
      obtain ⟨L, R⟩ := BR
      have hLl : L.length ≤ 1000000 := by simp only at hll; omega
      simp only at HN2 H3 ⊢
      clear hll
      obtain ⟨cap, hcap⟩ : ∃ cap, cap = grownCap w3 L.length 0 5 := ⟨_, rfl⟩
      have hcv : (convert 9 59 (.string ⟨L.toArray⟩)).run Tryz.prog w3 = .ok (.slice (some ⟨w3.heap.size, 0, none⟩) L.length cap) ((w3.drewN 1).alloc (.cells (bytesRow ⟨L.toArray⟩ cap) 5 ((bytesRow ⟨L.toArray⟩ cap).size, (bytesRow ⟨L.toArray⟩ cap).size + 1))) := by
        rw [hcap]
        have h := run_bytes_of_string (P := Tryz.prog) w3 9 59 5 ⟨L.toArray⟩ rfl rfl rfl
        rw [str_size] at h
        exact h
      have hrow : ∀ (j : Nat) (c : UInt8), L[j]? = some c → (bytesRow ⟨L.toArray⟩ cap)[j]? = some (.int .u8 c.toNat) := by
        intro j c hj
        obtain ⟨h1, h2⟩ := List.getElem?_eq_some_iff.1 hj
        have := bytesRow_at ⟨L.toArray⟩ cap j (by simpa using h1)
        rw [this]
        simp [h2]
      have HROW := Lib.hid hrow
      generalize bytesRow ⟨L.toArray⟩ cap = row at *
      clear hcap hrow
      have HBW := Lib.hid (show Below w3.heap.size w3 ((w3.drewN 1).alloc (.cells row 5 (row.size, row.size + 1))) from (Below.drewN_ (Below.refl _ _) _).alloc (Nat.le_refl _) _)
      have HC := Lib.hid (show ∀ (j : Nat) (c : UInt8), L[j]? = some c → ((w3.drewN 1).alloc (.cells row 5 (row.size, row.size + 1))).cell? ⟨w3.heap.size, j, none⟩ = some (.int .u8 c.toNat) from fun j c hj => (World.cell?_alloc_mark (w3.drewN 1) row 5 (row.size, row.size + 1) j).trans (HROW.out j c hj))
      have H4 := Lib.hid (show RdTo p W ((w3.drewN 1).alloc (.cells row 5 (row.size, row.size + 1))) R from ⟨Blk.below_ H3.out.blk HBW.out, H3.out.chg.below HBW.out⟩)
      go_wp2_with fail
      clear hcv
      obtain ⟨W1, hW1⟩ : ∃ W1, (w3.drewN 1).alloc (.cells row 5 (row.size, row.size + 1)) = W1 := ⟨_, rfl⟩
      rw [hW1] at HBW HC H4 ⊢
      clear hW1
      go_loopw [4, 30] (fun v i wr => ∃ (k x : Nat), k ≤ L.length ∧ v = .int .u64 x ∧ i = .int .i64 k ∧ x = beN 0 (L.take k) ∧ W1 = wr) (fun _ i _ => L.length - (intOf i).toNat)
      case atStart => exact ⟨0, 0, by omega, rfl, rfl, by simp [beN], rfl⟩
      case round =>
        obtain ⟨k, x, hk, rfl, rfl, hx, rfl⟩ := hrel
        have HX := Lib.hid hx
        have hxl : x < 18446744073709551616 := by rw [hx]; exact beN_lt _ _ (by decide)
        clear hx
        by_cases hlt : k < L.length
        · have hi0 : (0 : Int) ≤ (k : Int) := Int.natCast_nonneg _
          have hi1 : (k : Int) < (L.length : Int) := by omega
          have hlk : L[k]? = some L[k] := List.getElem?_eq_getElem hlt
          have hcl : W1.cell? ⟨w3.heap.size, k, none⟩ = some (.int .u8 (L[k].toNat : Int)) := HC.out k _ hlk
          have HB := Lib.hid (beN_take hlt)
          have hd := L[k].toNat_lt
          generalize L[k] = d at *
          have HO := Lib.hid (or_beN x d.toNat (by omega))
          clear hlk
          go_wp2
          exact ⟨⟨k + 1, _, by omega, by rw [show IntKind.u64.wrap ((x : Int) * 256) = ((x * 256 % 18446744073709551616 : Nat) : Int) by rw [IntKind.wrap_u64]; omega, HO.out], by go_num, by rw [HB.out, ← HX.out], trivial⟩, by simp [intOf]; omega⟩
        · have HV := Lib.hid (show L.take k = L by rw [List.take_of_length_le (by omega)])
          go_wp2
          go_ret
          rw [HV.out] at HX
          refine ⟨?_, by rw [HN2.out]; exact H4.out⟩
          rw [HN2.out]
          simp only
          rw [← HX.out]
          exact congrArg (fun z => Ending.returned (.int .i64 z)) (wrapI_wrap x)
    | false =>
      have HN2 := Lib.hid (show N = (beN 0 (bytesR c.toNat (t, decide (8 < (c.toNat : Int)))).1, (bytesR c.toNat (t, decide (8 < (c.toNat : Int)))).2) by rw [HN.out, HDC.out, Bool.false_or])
      clear HN
      go_wp2_with fail
      refine (rd_bytes p c.toNat (t, decide (8 < (c.toNat : Int))) _ (H2.out _).blk).mono ?_
      rintro u w3 ⟨rfl, hr3⟩
      have hll := bytesR_le c.toNat (t, decide (8 < (c.toNat : Int)))
      have H3 := Lib.hid ((H2.out _).trans hr3)
      clear hr3 g1 e1
      generalize bytesR c.toNat (t, decide (8 < (c.toNat : Int))) = BR at HN2 H3 hll ⊢
      obtain ⟨L, R⟩ := BR
      have hLl : L.length ≤ 1000000 := by simp only at hll; omega
      simp only at HN2 H3 ⊢
      clear hll
      obtain ⟨cap, hcap⟩ : ∃ cap, cap = grownCap w3 L.length 0 5 := ⟨_, rfl⟩
      have hcv : (convert 9 59 (.string ⟨L.toArray⟩)).run Tryz.prog w3 = .ok (.slice (some ⟨w3.heap.size, 0, none⟩) L.length cap) ((w3.drewN 1).alloc (.cells (bytesRow ⟨L.toArray⟩ cap) 5 ((bytesRow ⟨L.toArray⟩ cap).size, (bytesRow ⟨L.toArray⟩ cap).size + 1))) := by
        rw [hcap]
        have h := run_bytes_of_string (P := Tryz.prog) w3 9 59 5 ⟨L.toArray⟩ rfl rfl rfl
        rw [str_size] at h
        exact h
      have hrow : ∀ (j : Nat) (c : UInt8), L[j]? = some c → (bytesRow ⟨L.toArray⟩ cap)[j]? = some (.int .u8 c.toNat) := by
        intro j c hj
        obtain ⟨h1, h2⟩ := List.getElem?_eq_some_iff.1 hj
        have := bytesRow_at ⟨L.toArray⟩ cap j (by simpa using h1)
        rw [this]
        simp [h2]
      have HROW := Lib.hid hrow
      generalize bytesRow ⟨L.toArray⟩ cap = row at *
      clear hcap hrow
      have HBW := Lib.hid (show Below w3.heap.size w3 ((w3.drewN 1).alloc (.cells row 5 (row.size, row.size + 1))) from (Below.drewN_ (Below.refl _ _) _).alloc (Nat.le_refl _) _)
      have HC := Lib.hid (show ∀ (j : Nat) (c : UInt8), L[j]? = some c → ((w3.drewN 1).alloc (.cells row 5 (row.size, row.size + 1))).cell? ⟨w3.heap.size, j, none⟩ = some (.int .u8 c.toNat) from fun j c hj => (World.cell?_alloc_mark (w3.drewN 1) row 5 (row.size, row.size + 1) j).trans (HROW.out j c hj))
      have H4 := Lib.hid (show RdTo p W ((w3.drewN 1).alloc (.cells row 5 (row.size, row.size + 1))) R from ⟨Blk.below_ H3.out.blk HBW.out, H3.out.chg.below HBW.out⟩)
      go_wp2_with fail
      clear hcv
      obtain ⟨W1, hW1⟩ : ∃ W1, (w3.drewN 1).alloc (.cells row 5 (row.size, row.size + 1)) = W1 := ⟨_, rfl⟩
      rw [hW1] at HBW HC H4 ⊢
      clear hW1
      go_loopw [4, 30] (fun v i wr => ∃ (k x : Nat), k ≤ L.length ∧ v = .int .u64 x ∧ i = .int .i64 k ∧ x = beN 0 (L.take k) ∧ W1 = wr) (fun _ i _ => L.length - (intOf i).toNat)
      case atStart => exact ⟨0, 0, by omega, rfl, rfl, by simp [beN], rfl⟩
      case round =>
        obtain ⟨k, x, hk, rfl, rfl, hx, rfl⟩ := hrel
        have HX := Lib.hid hx
        have hxl : x < 18446744073709551616 := by rw [hx]; exact beN_lt _ _ (by decide)
        clear hx
        by_cases hlt : k < L.length
        · have hi0 : (0 : Int) ≤ (k : Int) := Int.natCast_nonneg _
          have hi1 : (k : Int) < (L.length : Int) := by omega
          have hlk : L[k]? = some L[k] := List.getElem?_eq_getElem hlt
          have hcl : W1.cell? ⟨w3.heap.size, k, none⟩ = some (.int .u8 (L[k].toNat : Int)) := HC.out k _ hlk
          have HB := Lib.hid (beN_take hlt)
          have hd := L[k].toNat_lt
          generalize L[k] = d at *
          have HO := Lib.hid (or_beN x d.toNat (by omega))
          clear hlk
          go_wp2
          exact ⟨⟨k + 1, _, by omega, by rw [show IntKind.u64.wrap ((x : Int) * 256) = ((x * 256 % 18446744073709551616 : Nat) : Int) by rw [IntKind.wrap_u64]; omega, HO.out], by go_num, by rw [HB.out, ← HX.out], trivial⟩, by simp [intOf]; omega⟩
        · have HV := Lib.hid (show L.take k = L by rw [List.take_of_length_le (by omega)])
          go_wp2
          go_ret
          rw [HV.out] at HX
          refine ⟨?_, by rw [HN2.out]; exact H4.out⟩
          rw [HN2.out]
          simp only
          rw [← HX.out]
          exact congrArg (fun z => Ending.returned (.int .i64 z)) (wrapI_wrap x)
theorem rd_u8 (p : Nat) (r : Rd) (W : World) (h : RdAt W p r) (hl : r.1.length ≤ 1000000) :
    Calls Tryz.prog 68 #[.pointer (some ⟨p, 0, none⟩)] W fun u W' => u = .returned (.int .u8 ((numR r).1 % 256 : Nat)) ∧ RdTo p W W' (numR r).2 := by
  have HH := Lib.hid h
  have hlt := h.lt
  clear h
  obtain ⟨l, b⟩ := r
  cases l with
  | nil =>
    go_enter Tryz.func68, Tryz.ntmps68
    go_wp2_with fail
    refine (rd_bytes p 1 _ _ HH.out).mono ?_
    rintro u w1 ⟨rfl, hr1⟩
    rw [bytesR_no (n := 1) (r := (([] : Bytes), b)) (.inr (by simp))] at hr1 ⊢
    have H1 := Lib.hid hr1
    clear hr1
    go_wp2
    go_ret
    rw [numR_nil]
    exact ⟨rfl, H1.out⟩
  | cons c t =>
    have hb1 : bytesR 1 (c :: t, b) = ([c], (t, b)) := by
      have := bytesR_yes (k := 1) (r := (c :: t, b)) (by simp)
      simpa using this
    have HN := Lib.hid (numR_cons c t b)
    generalize numR (c :: t, b) = N at HN ⊢
    have hc0 : ((⟨[c].toArray⟩ : ByteArray)[0]'(by show 0 < ([c].toArray).size; simp)) = c := rfl
    have hcs : ([c] == ([] : List UInt8)) = false := rfl
    have hcb := c.toNat_lt
    have htl : t.length ≤ 1000000 := by simp at hl; omega
    go_enter Tryz.func68, Tryz.ntmps68
    go_wp2_with fail
    refine (rd_bytes p 1 _ _ HH.out).mono ?_
    rintro u w1 ⟨rfl, hr1⟩
    rw [hb1] at hr1 ⊢
    have H1 := Lib.hid hr1
    have g1 : w1.cell? ⟨p, 1, none⟩ = some (.bool b) := Blk.cell hr1.blk 1
    have e1 : w1.frozen? ⟨p, 1, none⟩ = false := Blk.frozen hr1.blk 1
    clear hr1 hb1
    have hdc : decide (8 < (c.toNat : Int)) = decide (8 < c.toNat) := by rw [Bool.eq_iff_iff]; simp only [decide_eq_true_eq]; omega
    have HDC := Lib.hid hdc
    have H2 : RowKit.Hid (∀ q, RdTo p W (w1.setCell ⟨p, 1, none⟩ (.bool q)) (t, q)) := Lib.hid (fun q => ⟨Blk.set_ H1.out.blk 1 _, H1.out.chg.setCell (p := ⟨p, 1, none⟩) (.inl rfl) _⟩)
    clear hdc
    have hi : ∀ W : World, (Instr.index 9 (.string ⟨[c].toArray⟩) (.int .i64 0)).run Tryz.prog W = .ok (.int .u8 c.toNat) W := fun W => by rfl
    cases b with
    | true =>
      have HN2 := Lib.hid (show N = (beN 0 (bytesR c.toNat (t, true)).1, (bytesR c.toNat (t, true)).2) by rw [HN.out, Bool.true_or])
      clear HN
      go_wp2_with fail
      refine (rd_bytes p c.toNat (t, true) _ (H2.out _).blk).mono ?_
      rintro u w3 ⟨rfl, hr3⟩
      have hll := bytesR_le c.toNat (t, true)
      have H3 := Lib.hid ((H2.out _).trans hr3)
      clear hr3 g1 e1
      generalize bytesR c.toNat (t, true) = BR at HN2 H3 hll ⊢
      obtain ⟨L, R⟩ := BR
      have hLl : L.length ≤ 1000000 := by simp only at hll; omega
      simp only at HN2 H3 ⊢
      clear hll
      obtain ⟨cap, hcap⟩ : ∃ cap, cap = grownCap w3 L.length 0 5 := ⟨_, rfl⟩
      have hcv : (convert 9 59 (.string ⟨L.toArray⟩)).run Tryz.prog w3 = .ok (.slice (some ⟨w3.heap.size, 0, none⟩) L.length cap) ((w3.drewN 1).alloc (.cells (bytesRow ⟨L.toArray⟩ cap) 5 ((bytesRow ⟨L.toArray⟩ cap).size, (bytesRow ⟨L.toArray⟩ cap).size + 1))) := by
        rw [hcap]
        have h := run_bytes_of_string (P := Tryz.prog) w3 9 59 5 ⟨L.toArray⟩ rfl rfl rfl
        rw [str_size] at h
        exact h
      have hrow : ∀ (j : Nat) (c : UInt8), L[j]? = some c → (bytesRow ⟨L.toArray⟩ cap)[j]? = some (.int .u8 c.toNat) := by
        intro j c hj
        obtain ⟨h1, h2⟩ := List.getElem?_eq_some_iff.1 hj
        have := bytesRow_at ⟨L.toArray⟩ cap j (by simpa using h1)
        rw [this]
        simp [h2]
      have HROW := Lib.hid hrow
      generalize bytesRow ⟨L.toArray⟩ cap = row at *
      clear hcap hrow
      have HBW := Lib.hid (show Below w3.heap.size w3 ((w3.drewN 1).alloc (.cells row 5 (row.size, row.size + 1))) from (Below.drewN_ (Below.refl _ _) _).alloc (Nat.le_refl _) _)
      have HC := Lib.hid (show ∀ (j : Nat) (c : UInt8), L[j]? = some c → ((w3.drewN 1).alloc (.cells row 5 (row.size, row.size + 1))).cell? ⟨w3.heap.size, j, none⟩ = some (.int .u8 c.toNat) from fun j c hj => (World.cell?_alloc_mark (w3.drewN 1) row 5 (row.size, row.size + 1) j).trans (HROW.out j c hj))
      have H4 := Lib.hid (show RdTo p W ((w3.drewN 1).alloc (.cells row 5 (row.size, row.size + 1))) R from ⟨Blk.below_ H3.out.blk HBW.out, H3.out.chg.below HBW.out⟩)
      go_wp2_with fail
      clear hcv
      obtain ⟨W1, hW1⟩ : ∃ W1, (w3.drewN 1).alloc (.cells row 5 (row.size, row.size + 1)) = W1 := ⟨_, rfl⟩
      rw [hW1] at HBW HC H4 ⊢
      clear hW1
      go_loopw [4, 30] (fun v i wr => ∃ (k x : Nat), k ≤ L.length ∧ v = .int .u64 x ∧ i = .int .i64 k ∧ x = beN 0 (L.take k) ∧ W1 = wr) (fun _ i _ => L.length - (intOf i).toNat)
      case atStart => exact ⟨0, 0, by omega, rfl, rfl, by simp [beN], rfl⟩
      case round =>
        obtain ⟨k, x, hk, rfl, rfl, hx, rfl⟩ := hrel
        have HX := Lib.hid hx
        have hxl : x < 18446744073709551616 := by rw [hx]; exact beN_lt _ _ (by decide)
        clear hx
        by_cases hlt : k < L.length
        · have hi0 : (0 : Int) ≤ (k : Int) := Int.natCast_nonneg _
          have hi1 : (k : Int) < (L.length : Int) := by omega
          have hlk : L[k]? = some L[k] := List.getElem?_eq_getElem hlt
          have hcl : W1.cell? ⟨w3.heap.size, k, none⟩ = some (.int .u8 (L[k].toNat : Int)) := HC.out k _ hlk
          have HB := Lib.hid (beN_take hlt)
          have hd := L[k].toNat_lt
          generalize L[k] = d at *
          have HO := Lib.hid (or_beN x d.toNat (by omega))
          clear hlk
          go_wp2
          exact ⟨⟨k + 1, _, by omega, by rw [show IntKind.u64.wrap ((x : Int) * 256) = ((x * 256 % 18446744073709551616 : Nat) : Int) by rw [IntKind.wrap_u64]; omega, HO.out], by go_num, by rw [HB.out, ← HX.out], trivial⟩, by simp [intOf]; omega⟩
        · have HV := Lib.hid (show L.take k = L by rw [List.take_of_length_le (by omega)])
          go_wp2
          go_ret
          rw [HV.out] at HX
          refine ⟨?_, by rw [HN2.out]; exact H4.out⟩
          rw [HN2.out]
          simp only
          rw [← HX.out]
          rfl
    | false =>
      have HN2 := Lib.hid (show N = (beN 0 (bytesR c.toNat (t, decide (8 < (c.toNat : Int)))).1, (bytesR c.toNat (t, decide (8 < (c.toNat : Int)))).2) by rw [HN.out, HDC.out, Bool.false_or])
      clear HN
      go_wp2_with fail
      refine (rd_bytes p c.toNat (t, decide (8 < (c.toNat : Int))) _ (H2.out _).blk).mono ?_
      rintro u w3 ⟨rfl, hr3⟩
      have hll := bytesR_le c.toNat (t, decide (8 < (c.toNat : Int)))
      have H3 := Lib.hid ((H2.out _).trans hr3)
      clear hr3 g1 e1
      generalize bytesR c.toNat (t, decide (8 < (c.toNat : Int))) = BR at HN2 H3 hll ⊢
      obtain ⟨L, R⟩ := BR
      have hLl : L.length ≤ 1000000 := by simp only at hll; omega
      simp only at HN2 H3 ⊢
      clear hll
      obtain ⟨cap, hcap⟩ : ∃ cap, cap = grownCap w3 L.length 0 5 := ⟨_, rfl⟩
      have hcv : (convert 9 59 (.string ⟨L.toArray⟩)).run Tryz.prog w3 = .ok (.slice (some ⟨w3.heap.size, 0, none⟩) L.length cap) ((w3.drewN 1).alloc (.cells (bytesRow ⟨L.toArray⟩ cap) 5 ((bytesRow ⟨L.toArray⟩ cap).size, (bytesRow ⟨L.toArray⟩ cap).size + 1))) := by
        rw [hcap]
        have h := run_bytes_of_string (P := Tryz.prog) w3 9 59 5 ⟨L.toArray⟩ rfl rfl rfl
        rw [str_size] at h
        exact h
      have hrow : ∀ (j : Nat) (c : UInt8), L[j]? = some c → (bytesRow ⟨L.toArray⟩ cap)[j]? = some (.int .u8 c.toNat) := by
        intro j c hj
        obtain ⟨h1, h2⟩ := List.getElem?_eq_some_iff.1 hj
        have := bytesRow_at ⟨L.toArray⟩ cap j (by simpa using h1)
        rw [this]
        simp [h2]
      have HROW := Lib.hid hrow
      generalize bytesRow ⟨L.toArray⟩ cap = row at *
      clear hcap hrow
      have HBW := Lib.hid (show Below w3.heap.size w3 ((w3.drewN 1).alloc (.cells row 5 (row.size, row.size + 1))) from (Below.drewN_ (Below.refl _ _) _).alloc (Nat.le_refl _) _)
      have HC := Lib.hid (show ∀ (j : Nat) (c : UInt8), L[j]? = some c → ((w3.drewN 1).alloc (.cells row 5 (row.size, row.size + 1))).cell? ⟨w3.heap.size, j, none⟩ = some (.int .u8 c.toNat) from fun j c hj => (World.cell?_alloc_mark (w3.drewN 1) row 5 (row.size, row.size + 1) j).trans (HROW.out j c hj))
      have H4 := Lib.hid (show RdTo p W ((w3.drewN 1).alloc (.cells row 5 (row.size, row.size + 1))) R from ⟨Blk.below_ H3.out.blk HBW.out, H3.out.chg.below HBW.out⟩)
      go_wp2_with fail
      clear hcv
      obtain ⟨W1, hW1⟩ : ∃ W1, (w3.drewN 1).alloc (.cells row 5 (row.size, row.size + 1)) = W1 := ⟨_, rfl⟩
      rw [hW1] at HBW HC H4 ⊢
      clear hW1
      go_loopw [4, 30] (fun v i wr => ∃ (k x : Nat), k ≤ L.length ∧ v = .int .u64 x ∧ i = .int .i64 k ∧ x = beN 0 (L.take k) ∧ W1 = wr) (fun _ i _ => L.length - (intOf i).toNat)
      case atStart => exact ⟨0, 0, by omega, rfl, rfl, by simp [beN], rfl⟩
      case round =>
        obtain ⟨k, x, hk, rfl, rfl, hx, rfl⟩ := hrel
        have HX := Lib.hid hx
        have hxl : x < 18446744073709551616 := by rw [hx]; exact beN_lt _ _ (by decide)
        clear hx
        by_cases hlt : k < L.length
        · have hi0 : (0 : Int) ≤ (k : Int) := Int.natCast_nonneg _
          have hi1 : (k : Int) < (L.length : Int) := by omega
          have hlk : L[k]? = some L[k] := List.getElem?_eq_getElem hlt
          have hcl : W1.cell? ⟨w3.heap.size, k, none⟩ = some (.int .u8 (L[k].toNat : Int)) := HC.out k _ hlk
          have HB := Lib.hid (beN_take hlt)
          have hd := L[k].toNat_lt
          generalize L[k] = d at *
          have HO := Lib.hid (or_beN x d.toNat (by omega))
          clear hlk
          go_wp2
          exact ⟨⟨k + 1, _, by omega, by rw [show IntKind.u64.wrap ((x : Int) * 256) = ((x * 256 % 18446744073709551616 : Nat) : Int) by rw [IntKind.wrap_u64]; omega, HO.out], by go_num, by rw [HB.out, ← HX.out], trivial⟩, by simp [intOf]; omega⟩
        · have HV := Lib.hid (show L.take k = L by rw [List.take_of_length_le (by omega)])
          go_wp2
          go_ret
          rw [HV.out] at HX
          refine ⟨?_, by rw [HN2.out]; exact H4.out⟩
          rw [HN2.out]
          simp only
          rw [← HX.out]
          rfl
theorem rd_u64 (p : Nat) (r : Rd) (W : World) (h : RdAt W p r) (hl : r.1.length ≤ 1000000) :
    Calls Tryz.prog 69 #[.pointer (some ⟨p, 0, none⟩)] W fun u W' => u = .returned (.int .u64 ((numR r).1 : Nat)) ∧ RdTo p W W' (numR r).2 := by
  have HH := Lib.hid h
  have hlt := h.lt
  clear h
  obtain ⟨l, b⟩ := r
  cases l with
  | nil =>
    go_enter Tryz.func69, Tryz.ntmps69
    go_wp2_with fail
    refine (rd_bytes p 1 _ _ HH.out).mono ?_
    rintro u w1 ⟨rfl, hr1⟩
    rw [bytesR_no (n := 1) (r := (([] : Bytes), b)) (.inr (by simp))] at hr1 ⊢
    have H1 := Lib.hid hr1
    clear hr1
    go_wp2
    go_ret
    rw [numR_nil]
    exact ⟨rfl, H1.out⟩
  | cons c t =>
    have hb1 : bytesR 1 (c :: t, b) = ([c], (t, b)) := by
      have := bytesR_yes (k := 1) (r := (c :: t, b)) (by simp)
      simpa using this
    have HN := Lib.hid (numR_cons c t b)
    generalize numR (c :: t, b) = N at HN ⊢
    have hc0 : ((⟨[c].toArray⟩ : ByteArray)[0]'(by show 0 < ([c].toArray).size; simp)) = c := rfl
    have hcs : ([c] == ([] : List UInt8)) = false := rfl
    have hcb := c.toNat_lt
    have htl : t.length ≤ 1000000 := by simp at hl; omega
    go_enter Tryz.func69, Tryz.ntmps69
    go_wp2_with fail
    refine (rd_bytes p 1 _ _ HH.out).mono ?_
    rintro u w1 ⟨rfl, hr1⟩
    rw [hb1] at hr1 ⊢
    have H1 := Lib.hid hr1
    have g1 : w1.cell? ⟨p, 1, none⟩ = some (.bool b) := Blk.cell hr1.blk 1
    have e1 : w1.frozen? ⟨p, 1, none⟩ = false := Blk.frozen hr1.blk 1
    clear hr1 hb1
    have hdc : decide (8 < (c.toNat : Int)) = decide (8 < c.toNat) := by rw [Bool.eq_iff_iff]; simp only [decide_eq_true_eq]; omega
    have HDC := Lib.hid hdc
    have H2 : RowKit.Hid (∀ q, RdTo p W (w1.setCell ⟨p, 1, none⟩ (.bool q)) (t, q)) := Lib.hid (fun q => ⟨Blk.set_ H1.out.blk 1 _, H1.out.chg.setCell (p := ⟨p, 1, none⟩) (.inl rfl) _⟩)
    clear hdc
    have hi : ∀ W : World, (Instr.index 9 (.string ⟨[c].toArray⟩) (.int .i64 0)).run Tryz.prog W = .ok (.int .u8 c.toNat) W := fun W => by rfl
    cases b with
    | true =>
      have HN2 := Lib.hid (show N = (beN 0 (bytesR c.toNat (t, true)).1, (bytesR c.toNat (t, true)).2) by rw [HN.out, Bool.true_or])
      clear HN
      go_wp2_with fail
      refine (rd_bytes p c.toNat (t, true) _ (H2.out _).blk).mono ?_
      rintro u w3 ⟨rfl, hr3⟩
      have hll := bytesR_le c.toNat (t, true)
      have H3 := Lib.hid ((H2.out _).trans hr3)
      clear hr3 g1 e1
      generalize bytesR c.toNat (t, true) = BR at HN2 H3 hll ⊢
      obtain ⟨L, R⟩ := BR
      have hLl : L.length ≤ 1000000 := by simp only at hll; omega
      simp only at HN2 H3 ⊢
      clear hll
      obtain ⟨cap, hcap⟩ : ∃ cap, cap = grownCap w3 L.length 0 5 := ⟨_, rfl⟩
      have hcv : (convert 9 59 (.string ⟨L.toArray⟩)).run Tryz.prog w3 = .ok (.slice (some ⟨w3.heap.size, 0, none⟩) L.length cap) ((w3.drewN 1).alloc (.cells (bytesRow ⟨L.toArray⟩ cap) 5 ((bytesRow ⟨L.toArray⟩ cap).size, (bytesRow ⟨L.toArray⟩ cap).size + 1))) := by
        rw [hcap]
        have h := run_bytes_of_string (P := Tryz.prog) w3 9 59 5 ⟨L.toArray⟩ rfl rfl rfl
        rw [str_size] at h
        exact h
      have hrow : ∀ (j : Nat) (c : UInt8), L[j]? = some c → (bytesRow ⟨L.toArray⟩ cap)[j]? = some (.int .u8 c.toNat) := by
        intro j c hj
        obtain ⟨h1, h2⟩ := List.getElem?_eq_some_iff.1 hj
        have := bytesRow_at ⟨L.toArray⟩ cap j (by simpa using h1)
        rw [this]
        simp [h2]
      have HROW := Lib.hid hrow
      generalize bytesRow ⟨L.toArray⟩ cap = row at *
      clear hcap hrow
      have HBW := Lib.hid (show Below w3.heap.size w3 ((w3.drewN 1).alloc (.cells row 5 (row.size, row.size + 1))) from (Below.drewN_ (Below.refl _ _) _).alloc (Nat.le_refl _) _)
      have HC := Lib.hid (show ∀ (j : Nat) (c : UInt8), L[j]? = some c → ((w3.drewN 1).alloc (.cells row 5 (row.size, row.size + 1))).cell? ⟨w3.heap.size, j, none⟩ = some (.int .u8 c.toNat) from fun j c hj => (World.cell?_alloc_mark (w3.drewN 1) row 5 (row.size, row.size + 1) j).trans (HROW.out j c hj))
      have H4 := Lib.hid (show RdTo p W ((w3.drewN 1).alloc (.cells row 5 (row.size, row.size + 1))) R from ⟨Blk.below_ H3.out.blk HBW.out, H3.out.chg.below HBW.out⟩)
      go_wp2_with fail
      clear hcv
      obtain ⟨W1, hW1⟩ : ∃ W1, (w3.drewN 1).alloc (.cells row 5 (row.size, row.size + 1)) = W1 := ⟨_, rfl⟩
      rw [hW1] at HBW HC H4 ⊢
      clear hW1
      go_loopw [4, 30] (fun v i wr => ∃ (k x : Nat), k ≤ L.length ∧ v = .int .u64 x ∧ i = .int .i64 k ∧ x = beN 0 (L.take k) ∧ W1 = wr) (fun _ i _ => L.length - (intOf i).toNat)
      case atStart => exact ⟨0, 0, by omega, rfl, rfl, by simp [beN], rfl⟩
      case round =>
        obtain ⟨k, x, hk, rfl, rfl, hx, rfl⟩ := hrel
        have HX := Lib.hid hx
        have hxl : x < 18446744073709551616 := by rw [hx]; exact beN_lt _ _ (by decide)
        clear hx
        by_cases hlt : k < L.length
        · have hi0 : (0 : Int) ≤ (k : Int) := Int.natCast_nonneg _
          have hi1 : (k : Int) < (L.length : Int) := by omega
          have hlk : L[k]? = some L[k] := List.getElem?_eq_getElem hlt
          have hcl : W1.cell? ⟨w3.heap.size, k, none⟩ = some (.int .u8 (L[k].toNat : Int)) := HC.out k _ hlk
          have HB := Lib.hid (beN_take hlt)
          have hd := L[k].toNat_lt
          generalize L[k] = d at *
          have HO := Lib.hid (or_beN x d.toNat (by omega))
          clear hlk
          go_wp2
          exact ⟨⟨k + 1, _, by omega, by rw [show IntKind.u64.wrap ((x : Int) * 256) = ((x * 256 % 18446744073709551616 : Nat) : Int) by rw [IntKind.wrap_u64]; omega, HO.out], by go_num, by rw [HB.out, ← HX.out], trivial⟩, by simp [intOf]; omega⟩
        · have HV := Lib.hid (show L.take k = L by rw [List.take_of_length_le (by omega)])
          go_wp2
          go_ret
          rw [HV.out] at HX
          refine ⟨?_, by rw [HN2.out]; exact H4.out⟩
          rw [HN2.out]
          simp only
          rw [← HX.out]
          rfl
    | false =>
      have HN2 := Lib.hid (show N = (beN 0 (bytesR c.toNat (t, decide (8 < (c.toNat : Int)))).1, (bytesR c.toNat (t, decide (8 < (c.toNat : Int)))).2) by rw [HN.out, HDC.out, Bool.false_or])
      clear HN
      go_wp2_with fail
      refine (rd_bytes p c.toNat (t, decide (8 < (c.toNat : Int))) _ (H2.out _).blk).mono ?_
      rintro u w3 ⟨rfl, hr3⟩
      have hll := bytesR_le c.toNat (t, decide (8 < (c.toNat : Int)))
      have H3 := Lib.hid ((H2.out _).trans hr3)
      clear hr3 g1 e1
      generalize bytesR c.toNat (t, decide (8 < (c.toNat : Int))) = BR at HN2 H3 hll ⊢
      obtain ⟨L, R⟩ := BR
      have hLl : L.length ≤ 1000000 := by simp only at hll; omega
      simp only at HN2 H3 ⊢
      clear hll
      obtain ⟨cap, hcap⟩ : ∃ cap, cap = grownCap w3 L.length 0 5 := ⟨_, rfl⟩
      have hcv : (convert 9 59 (.string ⟨L.toArray⟩)).run Tryz.prog w3 = .ok (.slice (some ⟨w3.heap.size, 0, none⟩) L.length cap) ((w3.drewN 1).alloc (.cells (bytesRow ⟨L.toArray⟩ cap) 5 ((bytesRow ⟨L.toArray⟩ cap).size, (bytesRow ⟨L.toArray⟩ cap).size + 1))) := by
        rw [hcap]
        have h := run_bytes_of_string (P := Tryz.prog) w3 9 59 5 ⟨L.toArray⟩ rfl rfl rfl
        rw [str_size] at h
        exact h
      have hrow : ∀ (j : Nat) (c : UInt8), L[j]? = some c → (bytesRow ⟨L.toArray⟩ cap)[j]? = some (.int .u8 c.toNat) := by
        intro j c hj
        obtain ⟨h1, h2⟩ := List.getElem?_eq_some_iff.1 hj
        have := bytesRow_at ⟨L.toArray⟩ cap j (by simpa using h1)
        rw [this]
        simp [h2]
      have HROW := Lib.hid hrow
      generalize bytesRow ⟨L.toArray⟩ cap = row at *
      clear hcap hrow
      have HBW := Lib.hid (show Below w3.heap.size w3 ((w3.drewN 1).alloc (.cells row 5 (row.size, row.size + 1))) from (Below.drewN_ (Below.refl _ _) _).alloc (Nat.le_refl _) _)
      have HC := Lib.hid (show ∀ (j : Nat) (c : UInt8), L[j]? = some c → ((w3.drewN 1).alloc (.cells row 5 (row.size, row.size + 1))).cell? ⟨w3.heap.size, j, none⟩ = some (.int .u8 c.toNat) from fun j c hj => (World.cell?_alloc_mark (w3.drewN 1) row 5 (row.size, row.size + 1) j).trans (HROW.out j c hj))
      have H4 := Lib.hid (show RdTo p W ((w3.drewN 1).alloc (.cells row 5 (row.size, row.size + 1))) R from ⟨Blk.below_ H3.out.blk HBW.out, H3.out.chg.below HBW.out⟩)
      go_wp2_with fail
      clear hcv
      obtain ⟨W1, hW1⟩ : ∃ W1, (w3.drewN 1).alloc (.cells row 5 (row.size, row.size + 1)) = W1 := ⟨_, rfl⟩
      rw [hW1] at HBW HC H4 ⊢
      clear hW1
      go_loopw [4, 30] (fun v i wr => ∃ (k x : Nat), k ≤ L.length ∧ v = .int .u64 x ∧ i = .int .i64 k ∧ x = beN 0 (L.take k) ∧ W1 = wr) (fun _ i _ => L.length - (intOf i).toNat)
      case atStart => exact ⟨0, 0, by omega, rfl, rfl, by simp [beN], rfl⟩
      case round =>
        obtain ⟨k, x, hk, rfl, rfl, hx, rfl⟩ := hrel
        have HX := Lib.hid hx
        have hxl : x < 18446744073709551616 := by rw [hx]; exact beN_lt _ _ (by decide)
        clear hx
        by_cases hlt : k < L.length
        · have hi0 : (0 : Int) ≤ (k : Int) := Int.natCast_nonneg _
          have hi1 : (k : Int) < (L.length : Int) := by omega
          have hlk : L[k]? = some L[k] := List.getElem?_eq_getElem hlt
          have hcl : W1.cell? ⟨w3.heap.size, k, none⟩ = some (.int .u8 (L[k].toNat : Int)) := HC.out k _ hlk
          have HB := Lib.hid (beN_take hlt)
          have hd := L[k].toNat_lt
          generalize L[k] = d at *
          have HO := Lib.hid (or_beN x d.toNat (by omega))
          clear hlk
          go_wp2
          exact ⟨⟨k + 1, _, by omega, by rw [show IntKind.u64.wrap ((x : Int) * 256) = ((x * 256 % 18446744073709551616 : Nat) : Int) by rw [IntKind.wrap_u64]; omega, HO.out], by go_num, by rw [HB.out, ← HX.out], trivial⟩, by simp [intOf]; omega⟩
        · have HV := Lib.hid (show L.take k = L by rw [List.take_of_length_le (by omega)])
          go_wp2
          go_ret
          rw [HV.out] at HX
          refine ⟨?_, by rw [HN2.out]; exact H4.out⟩
          rw [HN2.out]
          simp only
          rw [← HX.out]
          rfl
end Go.Proofs.YtamcgggmfghljaaGreatDoor
