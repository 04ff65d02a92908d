/- Layer 1 (program): a number read (printed by tools/gen_decp.py). -/
import Derived.Test.YtamcgggmfghljaaGreatDoorC10
set_option maxRecDepth 100000
set_option maxHeartbeats 8000000
namespace Go.Proofs.YtamcgggmfghljaaGreatDoor
open Go.RowKit
theorem ext_to (l : Bytes) (k : Nat) : (⟨l.toArray⟩ : ByteArray).extract 0 k = ⟨(l.take k).toArray⟩ := by
  apply ByteArray.ext
  simp
theorem ext_from (l : Bytes) (k n : Nat) (h : n = l.length) : (⟨l.toArray⟩ : ByteArray).extract k n = ⟨(l.drop k).toArray⟩ := by
  subst h
  apply ByteArray.ext
  simp [List.take_of_length_le]
theorem lenB_le (p : UInt8 → Bool) (s : Bytes) : lenB p s 0 ≤ s.length := by
  unfold lenB
  rw [List.drop_zero]
  induction s with
  | nil => simp
  | cons c s ih =>
    rw [List.takeWhile_cons]
    split
    · simpa using ih
    · simp
theorem lenB_all (p : UInt8 → Bool) (s : Bytes) : lenB p s 0 = s.length ↔ s.all p = true := by
  unfold lenB
  rw [List.drop_zero]
  induction s with
  | nil => simp
  | cons c s ih =>
    rw [List.takeWhile_cons]
    by_cases h : p c = true
    · simp only [h, if_true, List.length_cons, List.all_cons, Bool.true_and]
      rw [← ih]
      omega
    · simp [h]
theorem tw_all (p : UInt8 → Bool) (s : Bytes) : (s.take (lenB p s 0)).all p = true := by
  unfold lenB
  rw [List.drop_zero]
  induction s with
  | nil => simp
  | cons c s ih =>
    rw [List.takeWhile_cons]
    by_cases h : p c = true
    · simp only [h, if_true, List.length_cons, List.take_succ_cons, List.all_cons, Bool.true_and]
      exact ih
    · simp [h]
theorem natB_snoc : ∀ (l : Bytes) (v : Nat) (c : UInt8), natB v (l ++ [c]) = 10 * natB v l + (c.toNat - 48)
  | [], _, _ => rfl
  | _ :: l, _, c => natB_snoc l _ c
theorem fiveB_len (p : Bytes) : 5 ≤ (fiveB p).length := by unfold fiveB; simp
theorem fiveB_dig (p : Bytes) (h : p.all digB = true) : (fiveB p).all digB = true := by
  unfold fiveB
  rw [List.all_append, h]
  rfl
theorem take_all {p : UInt8 → Bool} {l : Bytes} (k : Nat) (h : l.all p = true) : (l.take k).all p = true := by
  rw [List.all_eq_true] at h ⊢
  exact fun x hx => h x (List.mem_of_mem_take hx)
theorem parse_none {s u : Bytes} {n : Nat} (hu : unsB s = u) (hn : lenB digB u 0 = n) (h : n = 0 ∨ placesB (u.drop n) = none) : parseD s = (0, 4) := by
  unfold parseD
  rw [hu, hn]
  rcases h with h | h
  · subst h
    cases placesB (u.drop 0) <;> simp
  · rw [h]
theorem parse_some {s u p : Bytes} {n : Nat} (hu : unsB s = u) (hn : lenB digB u 0 = n) (h : placesB (u.drop n) = some p) (h0 : n ≠ 0) :
    parseD s = if mostN < sizeD (u.take n) p then (0, 3) else (if negB s then -(sizeD (u.take n) p : Int) else sizeD (u.take n) p, 0) := by
  unfold parseD
  rw [hu, hn, h]
  simp [h0]
theorem wrap_bd (x : Int) : 0 ≤ IntKind.u64.wrap x ∧ IntKind.u64.wrap x < 18446744073709551616 := by rw [IntKind.wrap_u64]; omega
/-- What the loop over the digits has made of the first of them. -/
def Upto (V : Nat) (x : Int) (g : Bool) : Prop := 0 ≤ x ∧ x < 18446744073709551616 ∧ (g = true → mostN < V) ∧ (g = false → x = V ∧ V ≤ mostN)
theorem Upto.yes {V : Nat} {x : Int} (h : Upto V x true) (d : Nat) (y : Int) (y0 : 0 ≤ y) (y1 : y < 18446744073709551616) : Upto (10 * V + d) y true :=
  ⟨y0, y1, fun _ => by have := h.2.2.1 rfl; unfold mostN at *; omega, fun e => by cases e⟩
theorem Upto.more {V : Nat} {x : Int} (h : Upto V x false) (d : Nat) (y : Int) (y0 : 0 ≤ y) (y1 : y < 18446744073709551616) (hb : 922337203685477580 < x) : Upto (10 * V + d) y true :=
  ⟨y0, y1, fun _ => by have := h.2.2.2 rfl; unfold mostN at *; omega, fun e => by cases e⟩
theorem Upto.no {V : Nat} {x : Int} (h : Upto V x false) (d : Nat) (hd : d ≤ 9) (hb : ¬ 922337203685477580 < x) : 10 * x + d < 18446744073709551616 ∧ Upto (10 * V + d) (10 * x + d) (decide (9223372036854775807 < 10 * x + (d : Int))) := by
  obtain ⟨h0, h1, _, h3⟩ := h
  obtain ⟨h3, h4⟩ := h3 rfl
  refine ⟨by omega, by omega, by omega, fun e => ?_, fun e => ?_⟩
  · have := of_decide_eq_true e
    unfold mostN
    omega
  · have := of_decide_eq_false e
    unfold mostN
    omega
theorem decP_any (s : Bytes) (w : World) (hs : s.length ≤ 1000000) :
    Calls Tryz.prog 220 #[str s] w fun u w' => u = .returned (.tuple #[.int .i64 (parseD s).1, .int .i64 (parseD s).2]) ∧ Below w.heap.size w w' := by
  by_cases hneg : negB s = true
  · obtain ⟨t, rfl⟩ : ∃ t, s = 45 :: t := by
      cases s with
      | nil => simp [negB] at hneg
      | cons c t => exact ⟨t, by simpa [negB] using hneg⟩
    have h0 : ((⟨(45 :: t).toArray⟩ : ByteArray)[0]'(by show 0 < ((45 :: t).toArray).size; simp)) = 45 := rfl
    have hul : t.length ≤ 1000000 := by simp at hs; omega
    go_enter Tryz.func220, Tryz.ntmps220
    go_wp2_with fail
    rw [bytes_tail]
    refine (digits_any _ _ (by rw [str_size]; omega)).mono ?_
    rintro e w1 ⟨rfl, rfl⟩
    have hu : unsB (45 :: t) = t := rfl
    have HU := Lib.hid hu
    rw [show unsB (45 :: t) = t from rfl] at hu
    obtain ⟨u, hu⟩ : ∃ u, t = u := ⟨_, rfl⟩
    subst hu
    have HNB := Lib.hid hneg
    clear h0
    have hn1 := lenB_le digB t
    obtain ⟨n, hn⟩ : ∃ n, lenB digB t 0 = n := ⟨_, rfl⟩
    rw [show lenB digB (⟨t.toArray⟩ : ByteArray).data.toList 0 = n from hn]
    rw [hn] at hn1
    have HN := Lib.hid hn
    have htw := tw_all digB t
    rw [hn] at htw
    clear hn
    have hn2 : (0 : Int) ≤ (n : Int) := by omega
    have hn3 : (n : Int) ≤ (t.length : Int) := by omega
    have HTW := Lib.hid htw
    clear htw
    go_wp2_with fail
    go_quiet (fail)
    rw [ext_to, ext_from _ _ _ rfl]
    obtain ⟨r, hr⟩ : ∃ r, t.drop n = r := ⟨_, rfl⟩
    obtain ⟨wh, hwh⟩ : ∃ r, t.take n = r := ⟨_, rfl⟩
    rw [hr, hwh]
    have hrl : r.length ≤ t.length := by rw [← hr]; simp
    have hwl : wh.length = n := by rw [← hwh]; simp; omega
    have HR := Lib.hid hr
    have HWH := Lib.hid hwh
    have HWD := Lib.hid (show wh.all digB = true by rw [← hwh]; exact HTW.out)
    clear hr hwh
    rcases r with _ | ⟨d, t2⟩
    · have HPL := Lib.hid (show placesB (t.drop n) = some [] by rw [HR.out]; rfl)
      by_cases hn0 : n = 0
      · have HP := Lib.hid (parse_none HU.out HN.out (.inl hn0))
        subst hn0
        go_wp2
        go_ret2
        exact ⟨by rw [HP.out]; rfl, Below.drewN_ (Below.refl _ _) _⟩
      · obtain ⟨p, hp⟩ : ∃ p : Bytes, p = [] := ⟨_, rfl⟩
        rw [← hp] at HPL
        have HPD := Lib.hid (show p.all digB = true by rw [hp]; rfl)
        have hpl : p.length ≤ t.length := by rw [hp]; simp
        subst hp
        have hn5 : ((n : Int) == 0) = false := by simpa using hn0
        have HP := Lib.hid (parse_some HU.out HN.out HPL.out hn0)
        go_wp2
        rw [show (⟨#[]⟩ : ByteArray) ++ ⟨#[48, 48, 48, 48, 48]⟩ = ⟨(fiveB []).toArray⟩ from bytes_app [] [48, 48, 48, 48, 48], ext_to, bytes_app]
        have hf5 := fiveB_len []
        have hfd := fiveB_dig [] HPD.out
        obtain ⟨f, hf⟩ : ∃ f, fiveB [] = f := ⟨_, rfl⟩
        rw [hf] at hf5 hfd ⊢
        obtain ⟨L, hL⟩ : ∃ L, wh ++ f.take 4 = L := ⟨_, rfl⟩
        rw [hL]
        have hLd : L.all digB = true := by rw [← hL, List.all_append, HWD.out, take_all 4 hfd]; rfl
        have hLl : L.length ≤ 2000000 := by rw [← hL]; simp; omega
        have HF := Lib.hid hf
        have HL := Lib.hid hL
        clear hf hL
        obtain ⟨cap, hcap⟩ : ∃ cap, cap = grownCap (w.drewN nq) L.length 0 5 := ⟨_, rfl⟩
        have hcv : (convert 9 59 (.string ⟨L.toArray⟩)).run Tryz.prog (w.drewN nq) = .ok (.slice (some ⟨w.heap.size, 0, none⟩) L.length cap) ((w.drewN (nq + 1)).alloc (.cells (bytesRow ⟨L.toArray⟩ cap) 5 ((bytesRow ⟨L.toArray⟩ cap).size, (bytesRow ⟨L.toArray⟩ cap).size + 1))) := by
          rw [hcap]
          have h := run_bytes_of_string (P := Tryz.prog) (w.drewN nq) 9 59 5 ⟨L.toArray⟩ rfl rfl rfl
          rw [str_size] at h
          exact h
        have hrow : ∀ (j : Nat) (c : UInt8), L[j]? = some c → (bytesRow ⟨L.toArray⟩ cap)[j]? = some (.int .u8 c.toNat) := by
          intro j c hj
          obtain ⟨h1, h2⟩ := List.getElem?_eq_some_iff.1 hj
          have := bytesRow_at ⟨L.toArray⟩ cap j (by simpa using h1)
          rw [this]
          simp [h2]
        have HROW := Lib.hid hrow
        generalize bytesRow ⟨L.toArray⟩ cap = row at *
        clear hcap hrow
        have HBW := Lib.hid (show Below w.heap.size w ((w.drewN (nq + 1)).alloc (.cells row 5 (row.size, row.size + 1))) from (Below.drewN_ (Below.refl _ _) _).alloc (Nat.le_refl _) _)
        have HC := Lib.hid (show ∀ (j : Nat) (c : UInt8), L[j]? = some c → ((w.drewN (nq + 1)).alloc (.cells row 5 (row.size, row.size + 1))).cell? ⟨w.heap.size, j, none⟩ = some (.int .u8 c.toNat) from fun j c hj => (World.cell?_alloc_mark (w.drewN (nq + 1)) row 5 (row.size, row.size + 1) j).trans (HROW.out j c hj))
        rw [hcv]
        clear hcv
        go_simp
        go_wp2
        obtain ⟨W1, hW1⟩ : ∃ W1, (w.drewN (nq + 1)).alloc (.cells row 5 (row.size, row.size + 1)) = W1 := ⟨_, rfl⟩
        rw [hW1] at HBW HC ⊢
        clear hW1
        go_loopw [9, 10, 67] (fun v g i wr => ∃ (k : Nat) (x : Int) (gb : Bool), k ≤ L.length ∧ v = .int .u64 x ∧ g = .bool gb ∧ i = .int .i64 k ∧ Upto (natB 0 (L.take k)) x gb ∧ W1 = wr) (fun _ _ i _ => L.length - (intOf i).toNat)
        case atStart => exact ⟨0, 0, false, by omega, rfl, rfl, rfl, ⟨by omega, by omega, (fun e => by cases e), fun _ => ⟨rfl, by unfold mostN; exact Nat.zero_le _⟩⟩, rfl⟩
        case round =>
          obtain ⟨k, x, gb, hk, rfl, rfl, rfl, hup, rfl⟩ := hrel
          have x0 : 0 ≤ x := hup.1
          have x1 : x < 18446744073709551616 := hup.2.1
          have HUP := Lib.hid hup
          clear hup
          by_cases hlt : k < L.length
          · have hi0 : (0 : Int) ≤ (k : Int) := Int.natCast_nonneg _
            have hi1 : (k : Int) < (L.length : Int) := by omega
            have hlk : L[k]? = some L[k] := List.getElem?_eq_getElem hlt
            have hcl : W1.cell? ⟨w.heap.size, k, none⟩ = some (.int .u8 (L[k].toNat : Int)) := HC.out k _ hlk
            have hdg : digB L[k] = true := List.all_eq_true.1 hLd _ (List.getElem_mem hlt)
            have HS := Lib.hid (show natB 0 (L.take (k + 1)) = 10 * natB 0 (L.take k) + (L[k].toNat - 48) by rw [List.take_succ_eq_append_getElem hlt]; exact natB_snoc _ _ _)
            generalize L[k] = c at *
            have g1 : 48 ≤ (c.toNat : Int) := by simp [digB] at hdg; omega
            have g2 : (c.toNat : Int) ≤ 57 := by simp [digB] at hdg; omega
            obtain ⟨q, hq⟩ : ∃ q : Nat, c.toNat = 48 + q := ⟨c.toNat - 48, by omega⟩
            have HQ := Lib.hid (show c.toNat - 48 = q by omega)
            have hq9 : (q : Int) ≤ 9 := by omega
            clear hdg hlk
            rw [hq] at hcl
            clear hq g1 g2
            by_cases hbig : 922337203685477580 < x
            · cases gb
              · have HY := Lib.hid (fun y a b => HUP.out.more q y a b hbig)
                go_wp2
                exact ⟨⟨k + 1, _, true, by omega, rfl, rfl, by go_num, by rw [HS.out, HQ.out]; first | exact HY.out _ (by omega) (by omega) | exact HY.out _ (wrap_bd _).1 (wrap_bd _).2, trivial⟩, by simp [intOf]; omega⟩
              · have HY := Lib.hid (fun y a b => HUP.out.yes q y a b)
                go_wp2
                exact ⟨⟨k + 1, _, true, by omega, rfl, rfl, by go_num, by rw [HS.out, HQ.out]; first | exact HY.out _ (by omega) (by omega) | exact HY.out _ (wrap_bd _).1 (wrap_bd _).2, trivial⟩, by simp [intOf]; omega⟩
            · cases gb
              · obtain ⟨hlt2, hup2⟩ := HUP.out.no q (by omega) hbig
                have HY := Lib.hid hup2
                clear hup2
                go_wp2
                exact ⟨⟨k + 1, _, _, by omega, rfl, rfl, by go_num, by rw [HS.out, HQ.out, show (48 + (q : Int) - 48) = q by omega]; exact HY.out, trivial⟩, by simp [intOf]; omega⟩
              · have HY := Lib.hid (fun y a b => HUP.out.yes q y a b)
                go_wp2
                exact ⟨⟨k + 1, _, true, by omega, rfl, rfl, by go_num, by rw [HS.out, HQ.out]; first | exact HY.out _ (by omega) (by omega) | exact HY.out _ (wrap_bd _).1 (wrap_bd _).2, trivial⟩, by simp [intOf]; omega⟩
          · have HV := Lib.hid (show natB 0 (L.take k) = natB 0 L by rw [List.take_of_length_le (by omega)])
            have hf4 : (4 : Int) < (f.length : Int) := by omega
            have h4 : ((⟨f.toArray⟩ : ByteArray)[4]'(by show 4 < f.toArray.size; simp; omega)) = f.getD 4 0 := by
              rw [List.getD_eq_getElem?_getD, List.getElem?_eq_getElem (by omega)]
              rfl
            have HZ := Lib.hid (show sizeD (t.take n) [] = natB 0 L + if 53 ≤ (f.getD 4 0).toNat then 1 else 0 by unfold sizeD ub; rw [HF.out, HWH.out, HL.out])
            have hq := (f.getD 4 0).toNat_lt
            generalize f.getD 4 0 = q at *
            rw [HV.out] at HUP
            have hx := HUP.out.2.2
            cases gb
            · obtain ⟨hxv, hxm⟩ := hx.2 rfl
              have HX := Lib.hid hxv
              unfold mostN at hxm
              have hxm2 : x ≤ 9223372036854775807 := by omega
              clear hx hxv hxm
              by_cases h53 : 53 ≤ (q.toNat : Int)
              · by_cases hm : 9223372036854775807 < x + 1
                · have HE := Lib.hid (show parseD (45 :: t) = (0, 3) by
                    have hz := HZ.out
                    rw [if_pos (by omega)] at hz
                    rw [HP.out, hz, if_pos (by have := HX.out; unfold mostN; omega)])
                  go_wp2
                  go_ret2
                  exact ⟨by rw [HE.out]; rfl, HBW.out⟩
                · have HE := Lib.hid (show parseD (45 :: t) = (if negB (45 :: t) then -(x + 1) else x + 1, 0) by
                    have hz := HZ.out
                    rw [if_pos (by omega)] at hz
                    rw [HP.out, hz, if_neg (by have := HX.out; unfold mostN; omega), HX.out]
                    rfl)
                  go_wp2_with fail
                  refine (signed_is (x + 1) _ _ (by omega) (by omega)).mono ?_
                  rintro e w2 ⟨rfl, rfl⟩
                  go_wp2
                  go_ret2
                  exact ⟨by rw [HE.out, HNB.out]; rfl, HBW.out⟩
              · have hm : ¬ 9223372036854775807 < x := by omega
                have HE := Lib.hid (show parseD (45 :: t) = (if negB (45 :: t) then -x else x, 0) by
                  have hz := HZ.out
                  rw [if_neg (by omega), Nat.add_zero] at hz
                  rw [HP.out, hz, if_neg (by have := HX.out; unfold mostN; omega), HX.out])
                go_wp2_with fail
                refine (signed_is x _ _ (by omega) (by omega)).mono ?_
                rintro e w2 ⟨rfl, rfl⟩
                go_wp2
                go_ret2
                exact ⟨by rw [HE.out, HNB.out]; rfl, HBW.out⟩
            · have HX := Lib.hid (hx.1 rfl)
              have HE := Lib.hid (show parseD (45 :: t) = (0, 3) by rw [HP.out, HZ.out, if_pos (by have := HX.out; unfold mostN at *; omega)])
              clear hx
              by_cases h53 : 53 ≤ (q.toNat : Int)
              · go_wp2
                go_ret2
                exact ⟨by rw [HE.out]; rfl, HBW.out⟩
              · go_wp2
                go_ret2
                exact ⟨by rw [HE.out]; rfl, HBW.out⟩
    · by_cases ht2 : t2 = []
      · subst ht2
        have HPN := Lib.hid (show placesB (t.drop n) = none by rw [HR.out]; unfold placesB; dsimp only; rw [if_neg (by simp)])
        have HP := Lib.hid (parse_none HU.out HN.out (.inr HPN.out))
        by_cases hn0 : n = 0
        · subst hn0
          go_wp2
          go_ret2
          exact ⟨by rw [HP.out]; rfl, Below.drewN_ (Below.refl _ _) _⟩
        · have hn5 : ((n : Int) == 0) = false := by simpa using hn0
          go_wp2
          go_ret2
          exact ⟨by rw [HP.out]; rfl, Below.drewN_ (Below.refl _ _) _⟩
      · have ht3 : 0 < t2.length := List.length_pos_iff.2 ht2
        have ht4 : (1 : Int) < (t2.length : Int) + 1 := by omega
        have hr0 : ((⟨(d :: t2).toArray⟩ : ByteArray)[0]'(by show 0 < ((d :: t2).toArray).size; simp)) = d := rfl
        by_cases hd : d = 46
        · subst hd
          have hr5 : t2.length ≤ 1000000 := by simp at hrl; omega
          go_wp2_with fail
          rw [bytes_tail]
          refine (digits_any _ _ (by rw [str_size]; omega)).mono ?_
          rintro e w2 ⟨rfl, rfl⟩
          rw [show lenB digB (⟨t2.toArray⟩ : ByteArray).data.toList 0 = lenB digB t2 0 from rfl]
          have hall := lenB_all digB t2
          obtain ⟨m, hm⟩ : ∃ m, lenB digB t2 0 = m := ⟨_, rfl⟩
          rw [hm] at hall ⊢
          clear hm hr0
          by_cases hm : m = t2.length
          · have hal : t2.all digB = true := hall.1 hm
            subst hm
            have HAL := Lib.hid hal
            clear hall hal
            have hmb : ((t2.length : Int) == (t2.length : Int)) = true := by simp
            have HPL := Lib.hid (show placesB (t.drop n) = some t2 by rw [HR.out]; unfold placesB; dsimp only; rw [if_pos ⟨rfl, ht2, HAL.out⟩])
            clear ht2
            by_cases hn0 : n = 0
            · have HP := Lib.hid (parse_none HU.out HN.out (.inl hn0))
              subst hn0
              go_wp2
              go_ret2
              exact ⟨by rw [HP.out]; rfl, Below.drewN_ (Below.refl _ _) _⟩
            · obtain ⟨p, hp⟩ : ∃ p : Bytes, p = t2 := ⟨_, rfl⟩
              have HPD := HAL
              have hpl : t2.length ≤ t.length := by simp at hrl; omega
              clear hp p
              have hn5 : ((n : Int) == 0) = false := by simpa using hn0
              have HP := Lib.hid (parse_some HU.out HN.out HPL.out hn0)
              go_wp2
              rw [bytes_tail]
              rw [show (⟨t2.toArray⟩ : ByteArray) ++ ⟨#[48, 48, 48, 48, 48]⟩ = ⟨(fiveB t2).toArray⟩ from bytes_app t2 [48, 48, 48, 48, 48], ext_to, bytes_app]
              have hf5 := fiveB_len t2
              have hfd := fiveB_dig t2 HPD.out
              obtain ⟨f, hf⟩ : ∃ f, fiveB t2 = f := ⟨_, rfl⟩
              rw [hf] at hf5 hfd ⊢
              obtain ⟨L, hL⟩ : ∃ L, wh ++ f.take 4 = L := ⟨_, rfl⟩
              rw [hL]
              have hLd : L.all digB = true := by rw [← hL, List.all_append, HWD.out, take_all 4 hfd]; rfl
              have hLl : L.length ≤ 2000000 := by rw [← hL]; simp; omega
              have HF := Lib.hid hf
              have HL := Lib.hid hL
              clear hf hL
              obtain ⟨cap, hcap⟩ : ∃ cap, cap = grownCap (w.drewN nq) L.length 0 5 := ⟨_, rfl⟩
              have hcv : (convert 9 59 (.string ⟨L.toArray⟩)).run Tryz.prog (w.drewN nq) = .ok (.slice (some ⟨w.heap.size, 0, none⟩) L.length cap) ((w.drewN (nq + 1)).alloc (.cells (bytesRow ⟨L.toArray⟩ cap) 5 ((bytesRow ⟨L.toArray⟩ cap).size, (bytesRow ⟨L.toArray⟩ cap).size + 1))) := by
                rw [hcap]
                have h := run_bytes_of_string (P := Tryz.prog) (w.drewN nq) 9 59 5 ⟨L.toArray⟩ rfl rfl rfl
                rw [str_size] at h
                exact h
              have hrow : ∀ (j : Nat) (c : UInt8), L[j]? = some c → (bytesRow ⟨L.toArray⟩ cap)[j]? = some (.int .u8 c.toNat) := by
                intro j c hj
                obtain ⟨h1, h2⟩ := List.getElem?_eq_some_iff.1 hj
                have := bytesRow_at ⟨L.toArray⟩ cap j (by simpa using h1)
                rw [this]
                simp [h2]
              have HROW := Lib.hid hrow
              generalize bytesRow ⟨L.toArray⟩ cap = row at *
              clear hcap hrow
              have HBW := Lib.hid (show Below w.heap.size w ((w.drewN (nq + 1)).alloc (.cells row 5 (row.size, row.size + 1))) from (Below.drewN_ (Below.refl _ _) _).alloc (Nat.le_refl _) _)
              have HC := Lib.hid (show ∀ (j : Nat) (c : UInt8), L[j]? = some c → ((w.drewN (nq + 1)).alloc (.cells row 5 (row.size, row.size + 1))).cell? ⟨w.heap.size, j, none⟩ = some (.int .u8 c.toNat) from fun j c hj => (World.cell?_alloc_mark (w.drewN (nq + 1)) row 5 (row.size, row.size + 1) j).trans (HROW.out j c hj))
              rw [hcv]
              clear hcv
              go_simp
              go_wp2
              obtain ⟨W1, hW1⟩ : ∃ W1, (w.drewN (nq + 1)).alloc (.cells row 5 (row.size, row.size + 1)) = W1 := ⟨_, rfl⟩
              rw [hW1] at HBW HC ⊢
              clear hW1
              go_loopw [9, 10, 67] (fun v g i wr => ∃ (k : Nat) (x : Int) (gb : Bool), k ≤ L.length ∧ v = .int .u64 x ∧ g = .bool gb ∧ i = .int .i64 k ∧ Upto (natB 0 (L.take k)) x gb ∧ W1 = wr) (fun _ _ i _ => L.length - (intOf i).toNat)
              case atStart => exact ⟨0, 0, false, by omega, rfl, rfl, rfl, ⟨by omega, by omega, (fun e => by cases e), fun _ => ⟨rfl, by unfold mostN; exact Nat.zero_le _⟩⟩, rfl⟩
              case round =>
                obtain ⟨k, x, gb, hk, rfl, rfl, rfl, hup, rfl⟩ := hrel
                have x0 : 0 ≤ x := hup.1
                have x1 : x < 18446744073709551616 := hup.2.1
                have HUP := Lib.hid hup
                clear hup
                by_cases hlt : k < L.length
                · have hi0 : (0 : Int) ≤ (k : Int) := Int.natCast_nonneg _
                  have hi1 : (k : Int) < (L.length : Int) := by omega
                  have hlk : L[k]? = some L[k] := List.getElem?_eq_getElem hlt
                  have hcl : W1.cell? ⟨w.heap.size, k, none⟩ = some (.int .u8 (L[k].toNat : Int)) := HC.out k _ hlk
                  have hdg : digB L[k] = true := List.all_eq_true.1 hLd _ (List.getElem_mem hlt)
                  have HS := Lib.hid (show natB 0 (L.take (k + 1)) = 10 * natB 0 (L.take k) + (L[k].toNat - 48) by rw [List.take_succ_eq_append_getElem hlt]; exact natB_snoc _ _ _)
                  generalize L[k] = c at *
                  have g1 : 48 ≤ (c.toNat : Int) := by simp [digB] at hdg; omega
                  have g2 : (c.toNat : Int) ≤ 57 := by simp [digB] at hdg; omega
                  obtain ⟨q, hq⟩ : ∃ q : Nat, c.toNat = 48 + q := ⟨c.toNat - 48, by omega⟩
                  have HQ := Lib.hid (show c.toNat - 48 = q by omega)
                  have hq9 : (q : Int) ≤ 9 := by omega
                  clear hdg hlk
                  rw [hq] at hcl
                  clear hq g1 g2
                  by_cases hbig : 922337203685477580 < x
                  · cases gb
                    · have HY := Lib.hid (fun y a b => HUP.out.more q y a b hbig)
                      go_wp2
                      exact ⟨⟨k + 1, _, true, by omega, rfl, rfl, by go_num, by rw [HS.out, HQ.out]; first | exact HY.out _ (by omega) (by omega) | exact HY.out _ (wrap_bd _).1 (wrap_bd _).2, trivial⟩, by simp [intOf]; omega⟩
                    · have HY := Lib.hid (fun y a b => HUP.out.yes q y a b)
                      go_wp2
                      exact ⟨⟨k + 1, _, true, by omega, rfl, rfl, by go_num, by rw [HS.out, HQ.out]; first | exact HY.out _ (by omega) (by omega) | exact HY.out _ (wrap_bd _).1 (wrap_bd _).2, trivial⟩, by simp [intOf]; omega⟩
                  · cases gb
                    · obtain ⟨hlt2, hup2⟩ := HUP.out.no q (by omega) hbig
                      have HY := Lib.hid hup2
                      clear hup2
                      go_wp2
                      exact ⟨⟨k + 1, _, _, by omega, rfl, rfl, by go_num, by rw [HS.out, HQ.out, show (48 + (q : Int) - 48) = q by omega]; exact HY.out, trivial⟩, by simp [intOf]; omega⟩
                    · have HY := Lib.hid (fun y a b => HUP.out.yes q y a b)
                      go_wp2
                      exact ⟨⟨k + 1, _, true, by omega, rfl, rfl, by go_num, by rw [HS.out, HQ.out]; first | exact HY.out _ (by omega) (by omega) | exact HY.out _ (wrap_bd _).1 (wrap_bd _).2, trivial⟩, by simp [intOf]; omega⟩
                · have HV := Lib.hid (show natB 0 (L.take k) = natB 0 L by rw [List.take_of_length_le (by omega)])
                  have hf4 : (4 : Int) < (f.length : Int) := by omega
                  have h4 : ((⟨f.toArray⟩ : ByteArray)[4]'(by show 4 < f.toArray.size; simp; omega)) = f.getD 4 0 := by
                    rw [List.getD_eq_getElem?_getD, List.getElem?_eq_getElem (by omega)]
                    rfl
                  have HZ := Lib.hid (show sizeD (t.take n) t2 = natB 0 L + if 53 ≤ (f.getD 4 0).toNat then 1 else 0 by unfold sizeD ub; rw [HF.out, HWH.out, HL.out])
                  have hq := (f.getD 4 0).toNat_lt
                  generalize f.getD 4 0 = q at *
                  rw [HV.out] at HUP
                  have hx := HUP.out.2.2
                  cases gb
                  · obtain ⟨hxv, hxm⟩ := hx.2 rfl
                    have HX := Lib.hid hxv
                    unfold mostN at hxm
                    have hxm2 : x ≤ 9223372036854775807 := by omega
                    clear hx hxv hxm
                    by_cases h53 : 53 ≤ (q.toNat : Int)
                    · by_cases hm : 9223372036854775807 < x + 1
                      · have HE := Lib.hid (show parseD (45 :: t) = (0, 3) by
                          have hz := HZ.out
                          rw [if_pos (by omega)] at hz
                          rw [HP.out, hz, if_pos (by have := HX.out; unfold mostN; omega)])
                        go_wp2
                        go_ret2
                        exact ⟨by rw [HE.out]; rfl, HBW.out⟩
                      · have HE := Lib.hid (show parseD (45 :: t) = (if negB (45 :: t) then -(x + 1) else x + 1, 0) by
                          have hz := HZ.out
                          rw [if_pos (by omega)] at hz
                          rw [HP.out, hz, if_neg (by have := HX.out; unfold mostN; omega), HX.out]
                          rfl)
                        go_wp2_with fail
                        refine (signed_is (x + 1) _ _ (by omega) (by omega)).mono ?_
                        rintro e w2 ⟨rfl, rfl⟩
                        go_wp2
                        go_ret2
                        exact ⟨by rw [HE.out, HNB.out]; rfl, HBW.out⟩
                    · have hm : ¬ 9223372036854775807 < x := by omega
                      have HE := Lib.hid (show parseD (45 :: t) = (if negB (45 :: t) then -x else x, 0) by
                        have hz := HZ.out
                        rw [if_neg (by omega), Nat.add_zero] at hz
                        rw [HP.out, hz, if_neg (by have := HX.out; unfold mostN; omega), HX.out])
                      go_wp2_with fail
                      refine (signed_is x _ _ (by omega) (by omega)).mono ?_
                      rintro e w2 ⟨rfl, rfl⟩
                      go_wp2
                      go_ret2
                      exact ⟨by rw [HE.out, HNB.out]; rfl, HBW.out⟩
                  · have HX := Lib.hid (hx.1 rfl)
                    have HE := Lib.hid (show parseD (45 :: t) = (0, 3) by rw [HP.out, HZ.out, if_pos (by have := HX.out; unfold mostN at *; omega)])
                    clear hx
                    by_cases h53 : 53 ≤ (q.toNat : Int)
                    · go_wp2
                      go_ret2
                      exact ⟨by rw [HE.out]; rfl, HBW.out⟩
                    · go_wp2
                      go_ret2
                      exact ⟨by rw [HE.out]; rfl, HBW.out⟩
          · have hmb : ((m : Int) == (t2.length : Int)) = false := by simp; omega
            have hal : ¬ t2.all digB = true := fun h => hm (hall.2 h)
            clear hall
            have HPN := Lib.hid (show placesB (t.drop n) = none by rw [HR.out]; unfold placesB; dsimp only; rw [if_neg (by exact fun h => hal h.2.2)])
            have HP := Lib.hid (parse_none HU.out HN.out (.inr HPN.out))
            by_cases hn0 : n = 0
            · subst hn0
              go_wp2
              go_ret2
              exact ⟨by rw [HP.out]; rfl, Below.drewN_ (Below.refl _ _) _⟩
            · have hn5 : ((n : Int) == 0) = false := by simpa using hn0
              go_wp2
              go_ret2
              exact ⟨by rw [HP.out]; rfl, Below.drewN_ (Below.refl _ _) _⟩
        · have hd5 : ((d.toNat : Int) == 46) = false := by
            simp only [beq_eq_false_iff_ne, ne_eq]
            intro e
            exact hd (UInt8.toNat_inj.1 (by simpa using (by omega : d.toNat = 46)))
          have HPN := Lib.hid (show placesB (t.drop n) = none by rw [HR.out]; unfold placesB; dsimp only; rw [if_neg (by exact fun h => hd h.1)])
          have HP := Lib.hid (parse_none HU.out HN.out (.inr HPN.out))
          by_cases hn0 : n = 0
          · subst hn0
            go_wp2
            go_ret2
            exact ⟨by rw [HP.out]; rfl, Below.drewN_ (Below.refl _ _) _⟩
          · have hn5 : ((n : Int) == 0) = false := by simpa using hn0
            go_wp2
            go_ret2
            exact ⟨by rw [HP.out]; rfl, Below.drewN_ (Below.refl _ _) _⟩
  · cases s with
    | nil =>
      go_enter Tryz.func220, Tryz.ntmps220
      go_wp2_with fail
      refine (digits_any _ _ (by show 0 ≤ _; omega)).mono ?_
      rintro e w1 ⟨rfl, rfl⟩
      rw [show lenB digB (⟨([] : Bytes).toArray⟩ : ByteArray).data.toList 0 = 0 from rfl]
      go_wp2_with fail
      go_quiet (fail)
      go_wp2
      go_ret2
      exact ⟨rfl, Below.drewN_ (Below.refl _ _) _⟩
    | cons c t =>
      have hc : c ≠ 45 := by intro e; subst e; simp [negB] at hneg
      have h0 : ((⟨(c :: t).toArray⟩ : ByteArray)[0]'(by show 0 < ((c :: t).toArray).size; simp)) = c := rfl
      have c1 : ((c.toNat : Int) == 45) = false := by
        simp only [beq_eq_false_iff_ne, ne_eq]
        intro e
        exact hc (UInt8.toNat_inj.1 (by simpa using (by omega : c.toNat = 45)))
      have hnb : negB (c :: t) = false := by simpa using hneg
      have hu : unsB (c :: t) = c :: t := by unfold unsB; rw [hnb]; rfl
      go_enter Tryz.func220, Tryz.ntmps220
      go_wp2_with fail
      refine (digits_any _ _ (by rw [str_size]; omega)).mono ?_
      rintro e w1 ⟨rfl, rfl⟩
      obtain ⟨u, hcu⟩ : ∃ u, c :: t = u := ⟨_, rfl⟩
      rw [show lenB digB (⟨(c :: t).toArray⟩ : ByteArray).data.toList 0 = lenB digB (⟨u.toArray⟩ : ByteArray).data.toList 0 by rw [hcu], hcu]
      have HU := Lib.hid (hu.trans hcu)
      have HNB := Lib.hid hnb
      have hul : u.length ≤ 1000000 := by rw [← hcu]; exact hs
      have HCU := Lib.hid hcu
      clear h0 c1 hc hneg hu hnb hcu
      have hn1 := lenB_le digB u
      obtain ⟨n, hn⟩ : ∃ n, lenB digB u 0 = n := ⟨_, rfl⟩
      rw [show lenB digB (⟨u.toArray⟩ : ByteArray).data.toList 0 = n from hn]
      rw [hn] at hn1
      have HN := Lib.hid hn
      have htw := tw_all digB u
      rw [hn] at htw
      clear hn
      have hn2 : (0 : Int) ≤ (n : Int) := by omega
      have hn3 : (n : Int) ≤ (u.length : Int) := by omega
      have HTW := Lib.hid htw
      clear htw
      go_wp2_with fail
      go_quiet (fail)
      rw [ext_to, ext_from _ _ _ rfl]
      obtain ⟨r, hr⟩ : ∃ r, u.drop n = r := ⟨_, rfl⟩
      obtain ⟨wh, hwh⟩ : ∃ r, u.take n = r := ⟨_, rfl⟩
      rw [hr, hwh]
      have hrl : r.length ≤ u.length := by rw [← hr]; simp
      have hwl : wh.length = n := by rw [← hwh]; simp; omega
      have HR := Lib.hid hr
      have HWH := Lib.hid hwh
      have HWD := Lib.hid (show wh.all digB = true by rw [← hwh]; exact HTW.out)
      clear hr hwh
      rcases r with _ | ⟨d, t2⟩
      · have HPL := Lib.hid (show placesB (u.drop n) = some [] by rw [HR.out]; rfl)
        by_cases hn0 : n = 0
        · have HP := Lib.hid (parse_none HU.out HN.out (.inl hn0))
          subst hn0
          go_wp2
          go_ret2
          exact ⟨by rw [HP.out]; rfl, Below.drewN_ (Below.refl _ _) _⟩
        · obtain ⟨p, hp⟩ : ∃ p : Bytes, p = [] := ⟨_, rfl⟩
          rw [← hp] at HPL
          have HPD := Lib.hid (show p.all digB = true by rw [hp]; rfl)
          have hpl : p.length ≤ u.length := by rw [hp]; simp
          subst hp
          have hn5 : ((n : Int) == 0) = false := by simpa using hn0
          have HP := Lib.hid (parse_some HU.out HN.out HPL.out hn0)
          go_wp2
          rw [show (⟨#[]⟩ : ByteArray) ++ ⟨#[48, 48, 48, 48, 48]⟩ = ⟨(fiveB []).toArray⟩ from bytes_app [] [48, 48, 48, 48, 48], ext_to, bytes_app]
          have hf5 := fiveB_len []
          have hfd := fiveB_dig [] HPD.out
          obtain ⟨f, hf⟩ : ∃ f, fiveB [] = f := ⟨_, rfl⟩
          rw [hf] at hf5 hfd ⊢
          obtain ⟨L, hL⟩ : ∃ L, wh ++ f.take 4 = L := ⟨_, rfl⟩
          rw [hL]
          have hLd : L.all digB = true := by rw [← hL, List.all_append, HWD.out, take_all 4 hfd]; rfl
          have hLl : L.length ≤ 2000000 := by rw [← hL]; simp; omega
          have HF := Lib.hid hf
          have HL := Lib.hid hL
          clear hf hL
          obtain ⟨cap, hcap⟩ : ∃ cap, cap = grownCap (w.drewN nq) L.length 0 5 := ⟨_, rfl⟩
          have hcv : (convert 9 59 (.string ⟨L.toArray⟩)).run Tryz.prog (w.drewN nq) = .ok (.slice (some ⟨w.heap.size, 0, none⟩) L.length cap) ((w.drewN (nq + 1)).alloc (.cells (bytesRow ⟨L.toArray⟩ cap) 5 ((bytesRow ⟨L.toArray⟩ cap).size, (bytesRow ⟨L.toArray⟩ cap).size + 1))) := by
            rw [hcap]
            have h := run_bytes_of_string (P := Tryz.prog) (w.drewN nq) 9 59 5 ⟨L.toArray⟩ rfl rfl rfl
            rw [str_size] at h
            exact h
          have hrow : ∀ (j : Nat) (c : UInt8), L[j]? = some c → (bytesRow ⟨L.toArray⟩ cap)[j]? = some (.int .u8 c.toNat) := by
            intro j c hj
            obtain ⟨h1, h2⟩ := List.getElem?_eq_some_iff.1 hj
            have := bytesRow_at ⟨L.toArray⟩ cap j (by simpa using h1)
            rw [this]
            simp [h2]
          have HROW := Lib.hid hrow
          generalize bytesRow ⟨L.toArray⟩ cap = row at *
          clear hcap hrow
          have HBW := Lib.hid (show Below w.heap.size w ((w.drewN (nq + 1)).alloc (.cells row 5 (row.size, row.size + 1))) from (Below.drewN_ (Below.refl _ _) _).alloc (Nat.le_refl _) _)
          have HC := Lib.hid (show ∀ (j : Nat) (c : UInt8), L[j]? = some c → ((w.drewN (nq + 1)).alloc (.cells row 5 (row.size, row.size + 1))).cell? ⟨w.heap.size, j, none⟩ = some (.int .u8 c.toNat) from fun j c hj => (World.cell?_alloc_mark (w.drewN (nq + 1)) row 5 (row.size, row.size + 1) j).trans (HROW.out j c hj))
          rw [hcv]
          clear hcv
          go_simp
          go_wp2
          obtain ⟨W1, hW1⟩ : ∃ W1, (w.drewN (nq + 1)).alloc (.cells row 5 (row.size, row.size + 1)) = W1 := ⟨_, rfl⟩
          rw [hW1] at HBW HC ⊢
          clear hW1
          go_loopw [9, 10, 67] (fun v g i wr => ∃ (k : Nat) (x : Int) (gb : Bool), k ≤ L.length ∧ v = .int .u64 x ∧ g = .bool gb ∧ i = .int .i64 k ∧ Upto (natB 0 (L.take k)) x gb ∧ W1 = wr) (fun _ _ i _ => L.length - (intOf i).toNat)
          case atStart => exact ⟨0, 0, false, by omega, rfl, rfl, rfl, ⟨by omega, by omega, (fun e => by cases e), fun _ => ⟨rfl, by unfold mostN; exact Nat.zero_le _⟩⟩, rfl⟩
          case round =>
            obtain ⟨k, x, gb, hk, rfl, rfl, rfl, hup, rfl⟩ := hrel
            have x0 : 0 ≤ x := hup.1
            have x1 : x < 18446744073709551616 := hup.2.1
            have HUP := Lib.hid hup
            clear hup
            by_cases hlt : k < L.length
            · have hi0 : (0 : Int) ≤ (k : Int) := Int.natCast_nonneg _
              have hi1 : (k : Int) < (L.length : Int) := by omega
              have hlk : L[k]? = some L[k] := List.getElem?_eq_getElem hlt
              have hcl : W1.cell? ⟨w.heap.size, k, none⟩ = some (.int .u8 (L[k].toNat : Int)) := HC.out k _ hlk
              have hdg : digB L[k] = true := List.all_eq_true.1 hLd _ (List.getElem_mem hlt)
              have HS := Lib.hid (show natB 0 (L.take (k + 1)) = 10 * natB 0 (L.take k) + (L[k].toNat - 48) by rw [List.take_succ_eq_append_getElem hlt]; exact natB_snoc _ _ _)
              generalize L[k] = c at *
              have g1 : 48 ≤ (c.toNat : Int) := by simp [digB] at hdg; omega
              have g2 : (c.toNat : Int) ≤ 57 := by simp [digB] at hdg; omega
              obtain ⟨q, hq⟩ : ∃ q : Nat, c.toNat = 48 + q := ⟨c.toNat - 48, by omega⟩
              have HQ := Lib.hid (show c.toNat - 48 = q by omega)
              have hq9 : (q : Int) ≤ 9 := by omega
              clear hdg hlk
              rw [hq] at hcl
              clear hq g1 g2
              by_cases hbig : 922337203685477580 < x
              · cases gb
                · have HY := Lib.hid (fun y a b => HUP.out.more q y a b hbig)
                  go_wp2
                  exact ⟨⟨k + 1, _, true, by omega, rfl, rfl, by go_num, by rw [HS.out, HQ.out]; first | exact HY.out _ (by omega) (by omega) | exact HY.out _ (wrap_bd _).1 (wrap_bd _).2, trivial⟩, by simp [intOf]; omega⟩
                · have HY := Lib.hid (fun y a b => HUP.out.yes q y a b)
                  go_wp2
                  exact ⟨⟨k + 1, _, true, by omega, rfl, rfl, by go_num, by rw [HS.out, HQ.out]; first | exact HY.out _ (by omega) (by omega) | exact HY.out _ (wrap_bd _).1 (wrap_bd _).2, trivial⟩, by simp [intOf]; omega⟩
              · cases gb
                · obtain ⟨hlt2, hup2⟩ := HUP.out.no q (by omega) hbig
                  have HY := Lib.hid hup2
                  clear hup2
                  go_wp2
                  exact ⟨⟨k + 1, _, _, by omega, rfl, rfl, by go_num, by rw [HS.out, HQ.out, show (48 + (q : Int) - 48) = q by omega]; exact HY.out, trivial⟩, by simp [intOf]; omega⟩
                · have HY := Lib.hid (fun y a b => HUP.out.yes q y a b)
                  go_wp2
                  exact ⟨⟨k + 1, _, true, by omega, rfl, rfl, by go_num, by rw [HS.out, HQ.out]; first | exact HY.out _ (by omega) (by omega) | exact HY.out _ (wrap_bd _).1 (wrap_bd _).2, trivial⟩, by simp [intOf]; omega⟩
            · have HV := Lib.hid (show natB 0 (L.take k) = natB 0 L by rw [List.take_of_length_le (by omega)])
              have hf4 : (4 : Int) < (f.length : Int) := by omega
              have h4 : ((⟨f.toArray⟩ : ByteArray)[4]'(by show 4 < f.toArray.size; simp; omega)) = f.getD 4 0 := by
                rw [List.getD_eq_getElem?_getD, List.getElem?_eq_getElem (by omega)]
                rfl
              have HZ := Lib.hid (show sizeD (u.take n) [] = natB 0 L + if 53 ≤ (f.getD 4 0).toNat then 1 else 0 by unfold sizeD ub; rw [HF.out, HWH.out, HL.out])
              have hq := (f.getD 4 0).toNat_lt
              generalize f.getD 4 0 = q at *
              rw [HV.out] at HUP
              have hx := HUP.out.2.2
              cases gb
              · obtain ⟨hxv, hxm⟩ := hx.2 rfl
                have HX := Lib.hid hxv
                unfold mostN at hxm
                have hxm2 : x ≤ 9223372036854775807 := by omega
                clear hx hxv hxm
                by_cases h53 : 53 ≤ (q.toNat : Int)
                · by_cases hm : 9223372036854775807 < x + 1
                  · have HE := Lib.hid (show parseD (c :: t) = (0, 3) by
                      have hz := HZ.out
                      rw [if_pos (by omega)] at hz
                      rw [HP.out, hz, if_pos (by have := HX.out; unfold mostN; omega)])
                    go_wp2
                    go_ret2
                    exact ⟨by rw [HE.out]; rfl, HBW.out⟩
                  · have HE := Lib.hid (show parseD (c :: t) = (if negB (c :: t) then -(x + 1) else x + 1, 0) by
                      have hz := HZ.out
                      rw [if_pos (by omega)] at hz
                      rw [HP.out, hz, if_neg (by have := HX.out; unfold mostN; omega), HX.out]
                      rfl)
                    go_wp2_with fail
                    refine (signed_is (x + 1) _ _ (by omega) (by omega)).mono ?_
                    rintro e w2 ⟨rfl, rfl⟩
                    go_wp2
                    go_ret2
                    exact ⟨by rw [HE.out, HNB.out]; rfl, HBW.out⟩
                · have hm : ¬ 9223372036854775807 < x := by omega
                  have HE := Lib.hid (show parseD (c :: t) = (if negB (c :: t) then -x else x, 0) by
                    have hz := HZ.out
                    rw [if_neg (by omega), Nat.add_zero] at hz
                    rw [HP.out, hz, if_neg (by have := HX.out; unfold mostN; omega), HX.out])
                  go_wp2_with fail
                  refine (signed_is x _ _ (by omega) (by omega)).mono ?_
                  rintro e w2 ⟨rfl, rfl⟩
                  go_wp2
                  go_ret2
                  exact ⟨by rw [HE.out, HNB.out]; rfl, HBW.out⟩
              · have HX := Lib.hid (hx.1 rfl)
                have HE := Lib.hid (show parseD (c :: t) = (0, 3) by rw [HP.out, HZ.out, if_pos (by have := HX.out; unfold mostN at *; omega)])
                clear hx
                by_cases h53 : 53 ≤ (q.toNat : Int)
                · go_wp2
                  go_ret2
                  exact ⟨by rw [HE.out]; rfl, HBW.out⟩
                · go_wp2
                  go_ret2
                  exact ⟨by rw [HE.out]; rfl, HBW.out⟩
      · by_cases ht2 : t2 = []
        · subst ht2
          have HPN := Lib.hid (show placesB (u.drop n) = none by rw [HR.out]; unfold placesB; dsimp only; rw [if_neg (by simp)])
          have HP := Lib.hid (parse_none HU.out HN.out (.inr HPN.out))
          by_cases hn0 : n = 0
          · subst hn0
            go_wp2
            go_ret2
            exact ⟨by rw [HP.out]; rfl, Below.drewN_ (Below.refl _ _) _⟩
          · have hn5 : ((n : Int) == 0) = false := by simpa using hn0
            go_wp2
            go_ret2
            exact ⟨by rw [HP.out]; rfl, Below.drewN_ (Below.refl _ _) _⟩
        · have ht3 : 0 < t2.length := List.length_pos_iff.2 ht2
          have ht4 : (1 : Int) < (t2.length : Int) + 1 := by omega
          have hr0 : ((⟨(d :: t2).toArray⟩ : ByteArray)[0]'(by show 0 < ((d :: t2).toArray).size; simp)) = d := rfl
          by_cases hd : d = 46
          · subst hd
            have hr5 : t2.length ≤ 1000000 := by simp at hrl; omega
            go_wp2_with fail
            rw [bytes_tail]
            refine (digits_any _ _ (by rw [str_size]; omega)).mono ?_
            rintro e w2 ⟨rfl, rfl⟩
            rw [show lenB digB (⟨t2.toArray⟩ : ByteArray).data.toList 0 = lenB digB t2 0 from rfl]
            have hall := lenB_all digB t2
            obtain ⟨m, hm⟩ : ∃ m, lenB digB t2 0 = m := ⟨_, rfl⟩
            rw [hm] at hall ⊢
            clear hm hr0
            by_cases hm : m = t2.length
            · have hal : t2.all digB = true := hall.1 hm
              subst hm
              have HAL := Lib.hid hal
              clear hall hal
              have hmb : ((t2.length : Int) == (t2.length : Int)) = true := by simp
              have HPL := Lib.hid (show placesB (u.drop n) = some t2 by rw [HR.out]; unfold placesB; dsimp only; rw [if_pos ⟨rfl, ht2, HAL.out⟩])
              clear ht2
              by_cases hn0 : n = 0
              · have HP := Lib.hid (parse_none HU.out HN.out (.inl hn0))
                subst hn0
                go_wp2
                go_ret2
                exact ⟨by rw [HP.out]; rfl, Below.drewN_ (Below.refl _ _) _⟩
              · obtain ⟨p, hp⟩ : ∃ p : Bytes, p = t2 := ⟨_, rfl⟩
                have HPD := HAL
                have hpl : t2.length ≤ u.length := by simp at hrl; omega
                clear hp p
                have hn5 : ((n : Int) == 0) = false := by simpa using hn0
                have HP := Lib.hid (parse_some HU.out HN.out HPL.out hn0)
                go_wp2
                rw [bytes_tail]
                rw [show (⟨t2.toArray⟩ : ByteArray) ++ ⟨#[48, 48, 48, 48, 48]⟩ = ⟨(fiveB t2).toArray⟩ from bytes_app t2 [48, 48, 48, 48, 48], ext_to, bytes_app]
                have hf5 := fiveB_len t2
                have hfd := fiveB_dig t2 HPD.out
                obtain ⟨f, hf⟩ : ∃ f, fiveB t2 = f := ⟨_, rfl⟩
                rw [hf] at hf5 hfd ⊢
                obtain ⟨L, hL⟩ : ∃ L, wh ++ f.take 4 = L := ⟨_, rfl⟩
                rw [hL]
                have hLd : L.all digB = true := by rw [← hL, List.all_append, HWD.out, take_all 4 hfd]; rfl
                have hLl : L.length ≤ 2000000 := by rw [← hL]; simp; omega
                have HF := Lib.hid hf
                have HL := Lib.hid hL
                clear hf hL
                obtain ⟨cap, hcap⟩ : ∃ cap, cap = grownCap (w.drewN nq) L.length 0 5 := ⟨_, rfl⟩
                have hcv : (convert 9 59 (.string ⟨L.toArray⟩)).run Tryz.prog (w.drewN nq) = .ok (.slice (some ⟨w.heap.size, 0, none⟩) L.length cap) ((w.drewN (nq + 1)).alloc (.cells (bytesRow ⟨L.toArray⟩ cap) 5 ((bytesRow ⟨L.toArray⟩ cap).size, (bytesRow ⟨L.toArray⟩ cap).size + 1))) := by
                  rw [hcap]
                  have h := run_bytes_of_string (P := Tryz.prog) (w.drewN nq) 9 59 5 ⟨L.toArray⟩ rfl rfl rfl
                  rw [str_size] at h
                  exact h
                have hrow : ∀ (j : Nat) (c : UInt8), L[j]? = some c → (bytesRow ⟨L.toArray⟩ cap)[j]? = some (.int .u8 c.toNat) := by
                  intro j c hj
                  obtain ⟨h1, h2⟩ := List.getElem?_eq_some_iff.1 hj
                  have := bytesRow_at ⟨L.toArray⟩ cap j (by simpa using h1)
                  rw [this]
                  simp [h2]
                have HROW := Lib.hid hrow
                generalize bytesRow ⟨L.toArray⟩ cap = row at *
                clear hcap hrow
                have HBW := Lib.hid (show Below w.heap.size w ((w.drewN (nq + 1)).alloc (.cells row 5 (row.size, row.size + 1))) from (Below.drewN_ (Below.refl _ _) _).alloc (Nat.le_refl _) _)
                have HC := Lib.hid (show ∀ (j : Nat) (c : UInt8), L[j]? = some c → ((w.drewN (nq + 1)).alloc (.cells row 5 (row.size, row.size + 1))).cell? ⟨w.heap.size, j, none⟩ = some (.int .u8 c.toNat) from fun j c hj => (World.cell?_alloc_mark (w.drewN (nq + 1)) row 5 (row.size, row.size + 1) j).trans (HROW.out j c hj))
                rw [hcv]
                clear hcv
                go_simp
                go_wp2
                obtain ⟨W1, hW1⟩ : ∃ W1, (w.drewN (nq + 1)).alloc (.cells row 5 (row.size, row.size + 1)) = W1 := ⟨_, rfl⟩
                rw [hW1] at HBW HC ⊢
                clear hW1
                go_loopw [9, 10, 67] (fun v g i wr => ∃ (k : Nat) (x : Int) (gb : Bool), k ≤ L.length ∧ v = .int .u64 x ∧ g = .bool gb ∧ i = .int .i64 k ∧ Upto (natB 0 (L.take k)) x gb ∧ W1 = wr) (fun _ _ i _ => L.length - (intOf i).toNat)
                case atStart => exact ⟨0, 0, false, by omega, rfl, rfl, rfl, ⟨by omega, by omega, (fun e => by cases e), fun _ => ⟨rfl, by unfold mostN; exact Nat.zero_le _⟩⟩, rfl⟩
                case round =>
                  obtain ⟨k, x, gb, hk, rfl, rfl, rfl, hup, rfl⟩ := hrel
                  have x0 : 0 ≤ x := hup.1
                  have x1 : x < 18446744073709551616 := hup.2.1
                  have HUP := Lib.hid hup
                  clear hup
                  by_cases hlt : k < L.length
                  · have hi0 : (0 : Int) ≤ (k : Int) := Int.natCast_nonneg _
                    have hi1 : (k : Int) < (L.length : Int) := by omega
                    have hlk : L[k]? = some L[k] := List.getElem?_eq_getElem hlt
                    have hcl : W1.cell? ⟨w.heap.size, k, none⟩ = some (.int .u8 (L[k].toNat : Int)) := HC.out k _ hlk
                    have hdg : digB L[k] = true := List.all_eq_true.1 hLd _ (List.getElem_mem hlt)
                    have HS := Lib.hid (show natB 0 (L.take (k + 1)) = 10 * natB 0 (L.take k) + (L[k].toNat - 48) by rw [List.take_succ_eq_append_getElem hlt]; exact natB_snoc _ _ _)
                    generalize L[k] = c at *
                    have g1 : 48 ≤ (c.toNat : Int) := by simp [digB] at hdg; omega
                    have g2 : (c.toNat : Int) ≤ 57 := by simp [digB] at hdg; omega
                    obtain ⟨q, hq⟩ : ∃ q : Nat, c.toNat = 48 + q := ⟨c.toNat - 48, by omega⟩
                    have HQ := Lib.hid (show c.toNat - 48 = q by omega)
                    have hq9 : (q : Int) ≤ 9 := by omega
                    clear hdg hlk
                    rw [hq] at hcl
                    clear hq g1 g2
                    by_cases hbig : 922337203685477580 < x
                    · cases gb
                      · have HY := Lib.hid (fun y a b => HUP.out.more q y a b hbig)
                        go_wp2
                        exact ⟨⟨k + 1, _, true, by omega, rfl, rfl, by go_num, by rw [HS.out, HQ.out]; first | exact HY.out _ (by omega) (by omega) | exact HY.out _ (wrap_bd _).1 (wrap_bd _).2, trivial⟩, by simp [intOf]; omega⟩
                      · have HY := Lib.hid (fun y a b => HUP.out.yes q y a b)
                        go_wp2
                        exact ⟨⟨k + 1, _, true, by omega, rfl, rfl, by go_num, by rw [HS.out, HQ.out]; first | exact HY.out _ (by omega) (by omega) | exact HY.out _ (wrap_bd _).1 (wrap_bd _).2, trivial⟩, by simp [intOf]; omega⟩
                    · cases gb
                      · obtain ⟨hlt2, hup2⟩ := HUP.out.no q (by omega) hbig
                        have HY := Lib.hid hup2
                        clear hup2
                        go_wp2
                        exact ⟨⟨k + 1, _, _, by omega, rfl, rfl, by go_num, by rw [HS.out, HQ.out, show (48 + (q : Int) - 48) = q by omega]; exact HY.out, trivial⟩, by simp [intOf]; omega⟩
                      · have HY := Lib.hid (fun y a b => HUP.out.yes q y a b)
                        go_wp2
                        exact ⟨⟨k + 1, _, true, by omega, rfl, rfl, by go_num, by rw [HS.out, HQ.out]; first | exact HY.out _ (by omega) (by omega) | exact HY.out _ (wrap_bd _).1 (wrap_bd _).2, trivial⟩, by simp [intOf]; omega⟩
                  · have HV := Lib.hid (show natB 0 (L.take k) = natB 0 L by rw [List.take_of_length_le (by omega)])
                    have hf4 : (4 : Int) < (f.length : Int) := by omega
                    have h4 : ((⟨f.toArray⟩ : ByteArray)[4]'(by show 4 < f.toArray.size; simp; omega)) = f.getD 4 0 := by
                      rw [List.getD_eq_getElem?_getD, List.getElem?_eq_getElem (by omega)]
                      rfl
                    have HZ := Lib.hid (show sizeD (u.take n) t2 = natB 0 L + if 53 ≤ (f.getD 4 0).toNat then 1 else 0 by unfold sizeD ub; rw [HF.out, HWH.out, HL.out])
                    have hq := (f.getD 4 0).toNat_lt
                    generalize f.getD 4 0 = q at *
                    rw [HV.out] at HUP
                    have hx := HUP.out.2.2
                    cases gb
                    · obtain ⟨hxv, hxm⟩ := hx.2 rfl
                      have HX := Lib.hid hxv
                      unfold mostN at hxm
                      have hxm2 : x ≤ 9223372036854775807 := by omega
                      clear hx hxv hxm
                      by_cases h53 : 53 ≤ (q.toNat : Int)
                      · by_cases hm : 9223372036854775807 < x + 1
                        · have HE := Lib.hid (show parseD (c :: t) = (0, 3) by
                            have hz := HZ.out
                            rw [if_pos (by omega)] at hz
                            rw [HP.out, hz, if_pos (by have := HX.out; unfold mostN; omega)])
                          go_wp2
                          go_ret2
                          exact ⟨by rw [HE.out]; rfl, HBW.out⟩
                        · have HE := Lib.hid (show parseD (c :: t) = (if negB (c :: t) then -(x + 1) else x + 1, 0) by
                            have hz := HZ.out
                            rw [if_pos (by omega)] at hz
                            rw [HP.out, hz, if_neg (by have := HX.out; unfold mostN; omega), HX.out]
                            rfl)
                          go_wp2_with fail
                          refine (signed_is (x + 1) _ _ (by omega) (by omega)).mono ?_
                          rintro e w2 ⟨rfl, rfl⟩
                          go_wp2
                          go_ret2
                          exact ⟨by rw [HE.out, HNB.out]; rfl, HBW.out⟩
                      · have hm : ¬ 9223372036854775807 < x := by omega
                        have HE := Lib.hid (show parseD (c :: t) = (if negB (c :: t) then -x else x, 0) by
                          have hz := HZ.out
                          rw [if_neg (by omega), Nat.add_zero] at hz
                          rw [HP.out, hz, if_neg (by have := HX.out; unfold mostN; omega), HX.out])
                        go_wp2_with fail
                        refine (signed_is x _ _ (by omega) (by omega)).mono ?_
                        rintro e w2 ⟨rfl, rfl⟩
                        go_wp2
                        go_ret2
                        exact ⟨by rw [HE.out, HNB.out]; rfl, HBW.out⟩
                    · have HX := Lib.hid (hx.1 rfl)
                      have HE := Lib.hid (show parseD (c :: t) = (0, 3) by rw [HP.out, HZ.out, if_pos (by have := HX.out; unfold mostN at *; omega)])
                      clear hx
                      by_cases h53 : 53 ≤ (q.toNat : Int)
                      · go_wp2
                        go_ret2
                        exact ⟨by rw [HE.out]; rfl, HBW.out⟩
                      · go_wp2
                        go_ret2
                        exact ⟨by rw [HE.out]; rfl, HBW.out⟩
            · have hmb : ((m : Int) == (t2.length : Int)) = false := by simp; omega
              have hal : ¬ t2.all digB = true := fun h => hm (hall.2 h)
              clear hall
              have HPN := Lib.hid (show placesB (u.drop n) = none by rw [HR.out]; unfold placesB; dsimp only; rw [if_neg (by exact fun h => hal h.2.2)])
              have HP := Lib.hid (parse_none HU.out HN.out (.inr HPN.out))
              by_cases hn0 : n = 0
              · subst hn0
                go_wp2
                go_ret2
                exact ⟨by rw [HP.out]; rfl, Below.drewN_ (Below.refl _ _) _⟩
              · have hn5 : ((n : Int) == 0) = false := by simpa using hn0
                go_wp2
                go_ret2
                exact ⟨by rw [HP.out]; rfl, Below.drewN_ (Below.refl _ _) _⟩
          · have hd5 : ((d.toNat : Int) == 46) = false := by
              simp only [beq_eq_false_iff_ne, ne_eq]
              intro e
              exact hd (UInt8.toNat_inj.1 (by simpa using (by omega : d.toNat = 46)))
            have HPN := Lib.hid (show placesB (u.drop n) = none by rw [HR.out]; unfold placesB; dsimp only; rw [if_neg (by exact fun h => hd h.1)])
            have HP := Lib.hid (parse_none HU.out HN.out (.inr HPN.out))
            by_cases hn0 : n = 0
            · subst hn0
              go_wp2
              go_ret2
              exact ⟨by rw [HP.out]; rfl, Below.drewN_ (Below.refl _ _) _⟩
            · have hn5 : ((n : Int) == 0) = false := by simpa using hn0
              go_wp2
              go_ret2
              exact ⟨by rw [HP.out]; rfl, Below.drewN_ (Below.refl _ _) _⟩
end Go.Proofs.YtamcgggmfghljaaGreatDoor
