/- Layer 31 (reference): entries without an address (printed by tools/gen_without.py). · Layer 31 (reference): entries with one more (printed by tools/gen_with.py). -/
import Derived.Deep.RegionHeld3
import Derived.Deep.MidRow
import Derived.Deep.QuietTactic
import Derived.BigQuiet
import Derived.Test.YtamcgggmfghljaaGreatDoorR10
import Derived.Test.YtamcgggmfghljaaGreatDoorR15
import Derived.Test.YtamcgggmfghljaaGreatDoorR12
import Derived.Test.YtamcgggmfghljaaGreatDoorR17
import Derived.Test.YtamcgggmfghljaaGreatDoorR11
namespace Go.Proofs.YtamcgggmfghljaaGreatDoor
open Go.RowKit

theorem has_one (a b : Ref) : hasB ⟨a.col, a.row, a.col, a.row⟩ b = decide (b = a) := by
  obtain ⟨c, r⟩ := a
  obtain ⟨c', r'⟩ := b
  unfold hasB
  simp only [Ref.mk.injEq]
  by_cases h : c' = c ∧ r' = r
  · rw [decide_eq_true h]
    simp
    omega
  · rw [decide_eq_false h]
    simp
    omega
theorem without_next {l : List Ent} {a : Ref} {k : Nat} {x : Ent} (h : l.take (k + 1) = l.take k ++ [x]) : without (l.take (k + 1)) a = without (l.take k) a ++ (if x.at_ = a then [] else [x]) := by
  rw [h]
  unfold without
  rw [List.filter_append]
  congr 1
  by_cases e : x.at_ = a <;> simp [e]

set_option maxRecDepth 100000 in
set_option maxHeartbeats 4000000 in
theorem without_any (v : Value) (l : List Ent) (a : Ref) (B : Nat) (w : World) (hB : B ≤ w.heap.size) (hs : Sls cEnt w B v l) (hl : l.length ≤ 900) :
    Calls Tryz.prog 48 #[v, .agg #[.int .i64 a.col, .int .i64 a.row, .int .i64 a.col, .int .i64 a.row]] w fun e w' => ∃ v', e = .returned v' ∧ Own cEnt 58 3 w' v' (without l a) ∧ (∀ q, v'.ownBlock = some q → w.heap.size ≤ q) ∧ Below w.heap.size w w' := by
  obtain ⟨i0, qi0, qz0, qz1, qz2⟩ := info_ent
  obtain ⟨A, cap, rfl, hcap, hm, hr⟩ := id hs
  unfold maxLen at hm
  have HS := Lib.hid hs
  clear hs hr
  obtain ⟨W1, hW1⟩ : ∃ W1, W1 = w.alloc (.cells #[.int .i64 a.col, .int .i64 a.row, .int .i64 a.col, .int .i64 a.row] 43) := ⟨_, rfl⟩
  have hk1 : Blk W1 w.heap.size 43 #[.int .i64 a.col, .int .i64 a.row, .int .i64 a.col, .int .i64 a.row] := by rw [hW1]; exact Blk.new _ _ _
  have hb1 : Below w.heap.size w W1 := by rw [hW1]; go_grown
  have hz : W1.heap.size = w.heap.size + 1 := by rw [hW1]; simp
  have HK1 := Lib.hid hk1
  have HB1 := Lib.hid hb1
  have HW1 := Lib.hid hW1
  clear hk1 hb1
  go_enter Tryz.func48, Tryz.ntmps48
  go_wp2_with fail
  rw [← hW1]
  clear hW1
  go_loopw [5, 6] (fun u i wr => ∃ k : Nat, k ≤ l.length ∧ i = .int .i64 k ∧ Own cEnt 58 3 wr u (without (l.take k) a) ∧ OutTo W1 (.slice none 0 0) wr u) (fun _ i _ => l.length - (intOf i).toNat)
  case atStart => exact ⟨0, by omega, rfl, by simpa [without] using Own.nil _ _ _ _, OutTo.refl _ _⟩
  case round =>
    obtain ⟨k, hk, rfl, oo, tt⟩ := hrel
    have OO := Lib.hid oo
    have TT := Lib.hid tt
    have hbr := tt.old (B := W1.heap.size) (Nat.le_refl _) (by simp [Value.ownBlock])
    have hzr := hbr.size
    have HBR := Lib.hid hbr
    clear oo tt hbr
    by_cases hlt : k < l.length
    · have hx : l[k]? = some l[k] := List.getElem?_eq_getElem hlt
      have hbw : Below B w wr := (HB1.out.mono hB).trans (HBR.out.mono (by omega))
      obtain ⟨b, o, rfl, hbb, r⟩ := (HS.out.below hbw).get 3 cEnt_len hx
      have htk : l.take (k + 1) = l.take k ++ [l[k]] := by rw [List.take_succ_eq_append_getElem hlt]
      have hlk : (without (l.take k) a).length ≤ 900 := by
        have h1 : (without (l.take k) a).length ≤ (l.take k).length := List.length_filter_le _ _
        rw [List.length_take] at h1
        omega
      have HN := Lib.hid (without_next (a := a) htk)
      have HLK := Lib.hid hlk
      clear hx htk hlk
      generalize l[k] = x at *
      have R := Lib.hid r
      have hi0 : (0 : Int) ≤ (k : Int) := Int.natCast_nonneg _
      have hi1 : (k : Int) < (l.length : Int) := by omega
      have LR := Lib.hid (show ∀ W : World, Below wr.heap.size wr W → W.rangeAt w.heap.size 0 [.int .i64 a.col, .int .i64 a.row, .int .i64 a.col, .int .i64 a.row] from fun W h => ((HK1.out.below_ HBR.out).below_ h).range (l := [_, _, _, _]) (o := 0) (by intro j v hj; rw [Nat.zero_add]; exact List.getElem?_toArray.trans hj))
      have LE := Lib.hid (show ∀ W : World, Below wr.heap.size wr W → W.rangeAt b (o + k * 3) [.int .i64 x.at_.col, .int .i64 x.at_.row] from fun W h => by
        intro j v hj
        refine (h.cell (p := ⟨b, o + k * 3 + j, none⟩) (by have := hbw.size; show b < _; omega)).trans (R.out j v ?_)
        rcases j with _ | _ | j
        · exact hj
        · exact hj
        · simp at hj)
      clear r
      go_wp2_with fail
      refine wp_region_noPanic ?_
      refine wp_region_held_drew (S := fun W => Below wr.heap.size wr W) (by kernel_rfl) (Below.drewN_ (Below.refl _ _) 1) (fun hHeld => ?_)
      refine wpAnyH_take (i := 0) (oi := ⟨some 13, .load 43 (.tmp 3), 43, _, _, none⟩) (v := .agg _) rfl (by kernel_rfl) (by kernel_rfl) (by kernel_rfl) (fun c d e h => NoPanic.put h) (yieldsIf_load_mid rfl _ _ rfl (w.heap.size) (0) rfl _ _ LR.out rfl rfl (by kernel_rfl)) hHeld ?_
      try simp only [Act.put, List.setIfInBounds_toArray, List.set_cons_zero, List.set_cons_succ]
      refine wpAnyH_take (i := 1) (oi := ⟨some 14, .move (.tmp 0), 22, _, _, none⟩) (v := .slice (some ⟨b, o, none⟩) l.length cap) rfl (by kernel_rfl) (by kernel_rfl) (by kernel_rfl) (fun c d e h => NoPanic.put h) (Or.inl ⟨by rfl, by intro W hW; go_simp⟩) hHeld ?_
      try simp only [Act.put, List.setIfInBounds_toArray, List.set_cons_zero, List.set_cons_succ]
      refine wpAnyH_take (i := 2) (oi := ⟨some 15, .move (.tmp 6), 3, _, _, none⟩) (v := .int .i64 k) rfl (by kernel_rfl) (by kernel_rfl) (by kernel_rfl) (fun c d e h => NoPanic.put h) (Or.inl ⟨by rfl, by intro W hW; go_simp⟩) hHeld ?_
      try simp only [Act.put, List.setIfInBounds_toArray, List.set_cons_zero, List.set_cons_succ]
      refine wpAnyH_take (i := 3) (oi := ⟨some 16, .indexAddr 22 (.tmp 14) (.tmp 15), _, _, _, none⟩) (v := .pointer (some ⟨b, o + k * 3, none⟩)) rfl (by kernel_rfl) (by kernel_rfl) (by kernel_rfl) (fun c d e h => NoPanic.put h) (Or.inl ⟨by rfl, by intro W hW; go_simp⟩) hHeld ?_
      try simp only [Act.put, List.setIfInBounds_toArray, List.set_cons_zero, List.set_cons_succ]
      refine wpAnyH_take (i := 4) (oi := ⟨some 17, .fieldAddr 58 (.tmp 16) 0, _, _, _, none⟩) (v := .pointer (some ⟨b, o + k * 3, none⟩)) rfl (by kernel_rfl) (by kernel_rfl) (by kernel_rfl) (fun c d e h => NoPanic.put h) (Or.inl ⟨by rfl, by intro W hW; go_simp⟩) hHeld ?_
      try simp only [Act.put, List.setIfInBounds_toArray, List.set_cons_zero, List.set_cons_succ]
      refine wpAnyH_take (i := 5) (oi := ⟨some 18, .load 56 (.tmp 17), 56, _, _, none⟩) (v := .agg _) rfl (by kernel_rfl) (by kernel_rfl) (by kernel_rfl) (fun c d e h => NoPanic.put h) (yieldsIf_load_mid rfl _ _ rfl (b) (o + k * 3) rfl _ _ LE.out rfl rfl (by kernel_rfl)) hHeld ?_
      try simp only [Act.put, List.setIfInBounds_toArray, List.set_cons_zero, List.set_cons_succ]
      refine wpAnyH_ready (rs := [6]) (by kernel_rfl) (by simp) ?_
      refine AllReadyH.cons (o := ⟨some 19, .call { callee := .value (.func 135), args := #[.tmp 13, .tmp 18], argTypes := #[43, 56] }, 4, _, _, none⟩) rfl (fun K hK => ?_) AllReadyH.nil
      go_simp
      go_at_call 135
      refine (r19_has _ _ _ _ _ _ _).mono ?_
      rintro e w3 ⟨rfl, hb3⟩
      refine hK.out _ _ (Below.next hHeld hb3 hHeld.size) (fun hHeld => ?_)
      clear hK K
      try simp only [Act.put, List.setIfInBounds_toArray, List.set_cons_zero, List.set_cons_succ]
      rw [show hasB ⟨a.col, a.row, a.col, a.row⟩ ⟨x.at_.col, x.at_.row⟩ = decide (x.at_ = a) from has_one a x.at_]
      have B3 := Lib.hid hHeld
      have hzz := hHeld.size
      by_cases he : x.at_ = a
      · rw [decide_eq_true he]
        refine wpAnyH_take (i := 7) (oi := ⟨some 20, .unOp .not 4 (.tmp 19), 4, _, _, none⟩) (v := .bool false) rfl (by kernel_rfl) (by kernel_rfl) (by kernel_rfl) (fun c d e h => NoPanic.put h) (Or.inl ⟨by rfl, by intro W hW; go_simp⟩) hHeld ?_
        try simp only [Act.put, List.setIfInBounds_toArray, List.set_cons_zero, List.set_cons_succ]
        refine wpAnyH_done (by kernel_rfl) ?_ _
        refine NoPanic.normal ?_
        clear hHeld
        have HE := Lib.hid he
        clear he
        go_wp2
        refine ⟨⟨k + 1, by omega, by go_num, ?_, TT.out.below B3.out⟩, by simp [intOf]; omega⟩
        rw [HN.out, if_pos HE.out, List.append_nil]
        exact OO.out.below B3.out
      · rw [decide_eq_false he]
        refine wpAnyH_take (i := 7) (oi := ⟨some 20, .unOp .not 4 (.tmp 19), 4, _, _, none⟩) (v := .bool true) rfl (by kernel_rfl) (by kernel_rfl) (by kernel_rfl) (fun c d e h => NoPanic.put h) (Or.inl ⟨by rfl, by intro W hW; go_simp⟩) hHeld ?_
        try simp only [Act.put, List.setIfInBounds_toArray, List.set_cons_zero, List.set_cons_succ]
        refine wpAnyH_done (by kernel_rfl) ?_ _
        refine NoPanic.normal ?_
        have HE := Lib.hid he
        have hbl : b < wr.heap.size := by have := hbw.size; omega
        have r0 : w3.cell? ⟨b, o + k * 3, none⟩ = some (.int .i64 x.at_.col) := (B3.out.cell (p := ⟨b, o + k * 3, none⟩) hbl).trans (R.out 0 _ rfl)
        have r1 : w3.cell? ⟨b, o + k * 3 + 1, none⟩ = some (.int .i64 x.at_.row) := (B3.out.cell (p := ⟨b, o + k * 3 + 1, none⟩) hbl).trans (R.out 1 _ rfl)
        have r2 : w3.cell? ⟨b, o + k * 3 + 2, none⟩ = some (str x.input) := (B3.out.cell (p := ⟨b, o + k * 3 + 2, none⟩) hbl).trans (R.out 2 _ rfl)
        clear he hHeld LR LE hb3
        go_wp2_with (first
          | (at_builtin
             refine wpList_more cEnt rfl _ _ 22 rfl 58 i0 _ 3 32 Tryz.underlying22 qi0 qz0 qz1 qz2 rfl (by omega) u5 (without (l.take k) a) rfl ((OO.out.below B3.out).alloc _) (w3.heap.size + 1) _ [x] rfl (Sls.more (Sls.one (x := x) (Blk.new _ _ _) rfl) (by simp)) cEnt_len cEnt_one (by have := HLK.out; simp; omega) (by omega) ?_
             intro v4 w4 o4 t4))
        have O4 := Lib.hid o4
        have T4 := Lib.hid (((TT.out.below B3.out).alloc _).trans t4)
        clear o4 t4
        go_wp2
        refine ⟨⟨k + 1, by omega, by go_num, ?_, T4.out⟩, by simp [intOf]; omega⟩
        rw [HN.out, if_neg HE.out]
        exact O4.out
    · go_wp2_with fail
      go_ret
      obtain rfl : k = l.length := by omega
      have hO := OO.out
      rw [List.take_length] at hO
      refine ⟨_, rfl, hO, fun q hq => ?_, HB1.out.trans (HBR.out.mono (by omega))⟩
      rcases TT.out.own q hq with h | h
      · simp [Value.ownBlock] at h
      · omega

end Go.Proofs.YtamcgggmfghljaaGreatDoor

namespace Go.Proofs.YtamcgggmfghljaaGreatDoor
open Go.RowKit

theorem while_stop {φ : Ent → Bool} {l : List Ent} {k : Nat} (ha : (l.take k).all φ = true) (hs : ∀ y, l[k]? = some y → φ y = false) : l.takeWhile φ = l.take k ∧ l.dropWhile φ = l.drop k := by
  induction l generalizing k with
  | nil => simp
  | cons y t ih =>
    cases k with
    | zero =>
      have := hs y rfl
      simp [this]
    | succ k =>
      rw [List.take_succ_cons, List.all_cons, Bool.and_eq_true] at ha
      obtain ⟨h1, h2⟩ := ih ha.2 (fun z hz => hs z (by simpa using hz))
      simp [ha.1, h1, h2]
theorem with_at {l : List Ent} {x : Ent} {k : Nat} (ha : ((without l x.at_).take k).all (fun y => lessB y.at_ x.at_) = true) (hs : ∀ y, (without l x.at_)[k]? = some y → lessB y.at_ x.at_ = false) :
    withR l x = (without l x.at_).take k ++ x :: (without l x.at_).drop k := by
  obtain ⟨h1, h2⟩ := while_stop ha hs
  unfold withR
  rw [h1, h2]
theorem sls_drop {l : List Ent} {w : World} {B : Nat} {g cap k : Nat} (h : Sls cEnt w B (.slice (some ⟨g, 0, none⟩) l.length cap) l) (hk : k ≤ l.length) : Sls cEnt w B (.slice (if cap = k then some ⟨g, 0, none⟩ else some ⟨g, k * 3, none⟩) (l.length - k) (cap - k)) (l.drop k) := by
  obtain ⟨A', cap', e, h1, hm, h2⟩ := h
  injection e with e1 e2 e3
  subst e3
  refine ⟨_, _, by rw [List.length_drop], by rw [List.length_drop]; omega, by rw [List.length_drop]; omega, fun hn => ?_⟩
  rw [List.length_drop] at hn
  obtain ⟨b, o, rfl, hb, hr⟩ := h2 (by omega)
  injection e1 with e1
  injection e1 with e1 e4
  subst e1 e4
  rw [if_neg (by omega)]
  refine ⟨g, k * 3, rfl, hb, fun j v hv => ?_⟩
  rw [← flat_drop cEnt_len, List.getElem?_drop] at hv
  have := hr (k * 3 + j) v hv
  simpa using this

set_option maxRecDepth 100000 in
set_option maxHeartbeats 8000000 in
theorem with_any (v : Value) (l : List Ent) (x : Ent) (B : Nat) (w : World) (hB : B ≤ w.heap.size) (hs : Sls cEnt w B v l) (hl : l.length ≤ 900) (hx : x.input ≠ []) :
    Calls Tryz.prog 50 #[v, .agg #[.int .i64 x.at_.col, .int .i64 x.at_.row, str x.input]] w fun e w' => ∃ v', e = .returned v' ∧ Own cEnt 58 3 w' v' (withR l x) ∧ (∀ q, v'.ownBlock = some q → w.heap.size ≤ q) ∧ Below w.heap.size w w' := by
  obtain ⟨i0, qi0, qz0, qz1, qz2⟩ := info_ent
  have e0 : (x.input == ([] : List UInt8)) = false := by simpa using hx
  obtain ⟨A, cap, rfl, hcap, -⟩ := id hs
  have HS := Lib.hid hs
  clear hs hx
  have hk0 : Blk (w.alloc (.cells #[.int .i64 x.at_.col, .int .i64 x.at_.row, str x.input] 58)) w.heap.size 58 #[.int .i64 x.at_.col, .int .i64 x.at_.row, str x.input] := Blk.new _ _ _
  have HK0 := Lib.hid hk0
  clear hk0
  go_enter Tryz.func50, Tryz.ntmps50
  go_wp2_with fail
  refine (r31_one _ _ _).mono ?_
  rintro e w1 ⟨rfl, hb1⟩
  have K1 := Lib.hid (HK0.out.below_ hb1)
  have hz1 := hb1.size
  simp at hz1
  have B1 := Lib.hid (show Below w.heap.size w w1 from Below.next (by go_grown) hb1 (by simp))
  clear hb1
  go_wp2_with fail
  refine (without_any _ l x.at_ B _ (by omega) (HS.out.below (B1.out.mono hB)) hl).mono ?_
  rintro e w2 ⟨vr, rfl, ho, hnew, hb2⟩
  have hRl : (without l x.at_).length ≤ 900 := by
    have h1 : (without l x.at_).length ≤ l.length := List.length_filter_le _ _
    omega
  have HW := Lib.hid (fun k => @with_at l x k)
  generalize without l x.at_ = R at *
  have K2 := Lib.hid (K1.out.below_ hb2)
  have B2 := Lib.hid (Below.next B1.out hb2 B1.out.size)
  have hz2 := hb2.size
  have HO2 := Lib.hid ho
  have HNew := Lib.hid hnew
  have b2 : w2.cell? ⟨w.heap.size, 2, none⟩ = some (str x.input) := K2.out.cell 2
  clear hb2
  have hvr : (vr = .slice none 0 0 ∧ R = []) ∨ ∃ g c, vr = .slice (some ⟨g, 0, none⟩) R.length c ∧ w1.heap.size ≤ g ∧ g < w2.heap.size ∧ R.length ≤ c := by
    rcases Nat.eq_zero_or_pos R.length with h0 | h0
    · have hR : R = [] := List.eq_nil_of_length_eq_zero h0
      subst hR
      rcases ho.2 with ⟨rfl, _⟩ | ⟨g, c, cur, rfl, _, _, hc, _⟩
      · exact .inl ⟨rfl, rfl⟩
      · exact .inr ⟨g, c, rfl, hnew g rfl, ho.lt g rfl, hc⟩
    · obtain ⟨g, c, cur, rfl, _, hc, _⟩ := ho.row cEnt_len h0
      exact .inr ⟨g, c, rfl, hnew g rfl, ho.lt g rfl, hc⟩
  clear ho hnew
  rcases hvr with ⟨rfl, rfl⟩ | ⟨g, c, rfl, hg1, hg2, hgc⟩
  · have HX := Lib.hid (HW.out 0 (by simp) (by simp))
    clear HW
    go_wp2_with fail
    refine wp_loop_rounds 1 ?_
    rw [rounds_succ]
    go_wp2_with fail
    go_quiet (fail)
    have O6 : Own cEnt 58 3 (w2.drewN nq) (.slice none 0 0) (([] : List Ent).take 0) := Own.nil _ _ _ _
    have TT : OutTo w2 (.slice none 0 0) (w2.drewN nq) (.slice none 0 0) := (OutTo.refl _ _).drewN nq
    have T6 : ∀ q, (Value.slice none 0 0).ownBlock = some q → w2.heap.size ≤ q := by simp [Value.ownBlock]
    have K6 := K2.out.drewN nq
    have hk : (0 : Nat) ≤ ([] : List Ent).length := by simp
    go_wp2_with fail
    refine wp_region_noPanic ?_
    refine wp_region_held_drew (S := fun W => Blk W w.heap.size 58 #[.int .i64 x.at_.col, .int .i64 x.at_.row, str x.input]) (by kernel_rfl) (K6.drewN 1) (fun hHeld => ?_)
    refine wpAnyH_take (i := 0) (oi := ⟨some 43, .move (.tmp 6), 22, _, _, none⟩) (v := .slice none 0 0) rfl (by kernel_rfl) (by kernel_rfl) (by kernel_rfl) (fun c d e h => NoPanic.put h) (Or.inl ⟨by rfl, by intro W hW; go_simp⟩) hHeld ?_
    try simp only [Act.put, List.setIfInBounds_toArray, List.set_cons_zero, List.set_cons_succ]
    refine wpAnyH_take (i := 4) (oi := ⟨some 47, .move (.tmp 5), 22, _, _, none⟩) (v := .slice none 0 0) rfl (by kernel_rfl) (by kernel_rfl) (by kernel_rfl) (fun c d e h => NoPanic.put h) (Or.inl ⟨by rfl, by intro W hW; go_simp⟩) hHeld ?_
    try simp only [Act.put, List.setIfInBounds_toArray, List.set_cons_zero, List.set_cons_succ]
    refine wpAnyH_take (i := 5) (oi := ⟨some 48, .move (.tmp 8), 3, _, _, none⟩) (v := .int .i64 (0)) rfl (by kernel_rfl) (by kernel_rfl) (by kernel_rfl) (fun c d e h => NoPanic.put h) (Or.inl ⟨by rfl, by intro W hW; go_simp⟩) hHeld ?_
    try simp only [Act.put, List.setIfInBounds_toArray, List.set_cons_zero, List.set_cons_succ]
    refine wpAnyH_take (i := 6) (oi := ⟨some 49, .slice 22 (.tmp 47) (some (.tmp 48)) none none, 22, _, _, none⟩) (v := .slice none 0 0) rfl (by kernel_rfl) (by kernel_rfl) (by kernel_rfl) (fun c d e h => NoPanic.put h) (Or.inl ⟨by rfl, by intro W hW; go_simp <;> (try (intro h; omega))⟩) hHeld ?_
    try simp only [Act.put, List.setIfInBounds_toArray, List.set_cons_zero, List.set_cons_succ]
    refine wpAnyH_take (i := 1) (oi := ⟨some 44, .load 58 (.tmp 3), 58, _, _, none⟩) (v := .agg _) rfl (by kernel_rfl) (by kernel_rfl) (by kernel_rfl) (fun c d e h => NoPanic.put h) (yieldsIf_load_mid rfl _ _ rfl (w.heap.size) (0) rfl _ _ (fun W h => h.range (l := [_, _, _]) (o := 0) (by intro j v hj; rw [Nat.zero_add]; exact List.getElem?_toArray.trans hj)) rfl rfl (by kernel_rfl)) hHeld ?_
    try simp only [Act.put, List.setIfInBounds_toArray, List.set_cons_zero, List.set_cons_succ]
    refine wpAnyH_ready (rs := [2]) (by kernel_rfl) (by simp) ?_
    refine AllReadyH.cons (o := ⟨some 45, .buildSlice 22 1 #[(0, .tmp 44)], 22, _, _, none⟩) rfl (fun K hK => ?_) AllReadyH.nil
    go_simp
    refine hK.out _ _ (Blk.alloc hHeld _) (fun hHeld => ?_)
    clear hK K
    try simp only [Act.put, List.setIfInBounds_toArray, List.set_cons_zero, List.set_cons_succ]
    obtain ⟨v8, w8, hr8, o8, t8⟩ := run_more (P := Tryz.prog) _ cEnt 22 22 58 i0 _ 3 32 Tryz.underlying22 qi0 qz0 qz1 qz2 rfl (by omega) (.slice none 0 0) _ ((O6).drewN 1 |>.alloc _) _ _ [x] (Sls.one (x := x) (Blk.new _ _ _) rfl) cEnt_len cEnt_one (by simp only [List.length_take, List.length_cons, List.length_nil]; omega) (by omega)
    have T8 := (((TT).drewN 1).alloc _).trans t8
    refine wpAnyH_ready (rs := [3]) (by kernel_rfl) (by simp) ?_
    refine AllReadyH.cons (o := ⟨some 46, .call { callee := .builtin .append, args := #[.tmp 43, .tmp 45], argTypes := #[22, 22] }, 22, _, _, none⟩) rfl (fun K hK => ?_) AllReadyH.nil
    refine step_append_eq rfl (.tmp 43) (.tmp 45) _ _ rfl _ _ _ _ rfl rfl hr8 ?_
    have H8 : Blk w8 w.heap.size 58 #[.int .i64 x.at_.col, .int .i64 x.at_.row, str x.input] := hHeld.outTo t8 (fun e => by have := T6 _ e; omega)
    refine hK.out _ _ H8 (fun hHeld => ?_)
    clear hK K
    try simp only [Act.put, List.setIfInBounds_toArray, List.set_cons_zero, List.set_cons_succ]
    obtain ⟨v9, w9, hr9, o9, t9⟩ := run_more (P := Tryz.prog) w8 cEnt 22 22 58 i0 _ 3 32 Tryz.underlying22 qi0 qz0 qz1 qz2 rfl (by omega) v8 _ o8 _ _ _ (Sls.nil cEnt w8 0 none 0) cEnt_len cEnt_one (by simp only [List.length_append, List.length_take, List.length_cons, List.length_nil]; omega) (by omega)
    have T9 := T8.trans t9
    refine wpAnyH_ready (rs := [7]) (by kernel_rfl) (by simp) ?_
    refine AllReadyH.cons (o := ⟨some 50, .call { callee := .builtin .append, args := #[.tmp 46, .tmp 49], argTypes := #[22, 22] }, 22, _, _, none⟩) rfl (fun K hK => ?_) AllReadyH.nil
    refine step_append_eq rfl (.tmp 46) (.tmp 49) _ _ rfl _ _ _ _ rfl rfl hr9 ?_
    have H9 : Blk w9 w.heap.size 58 #[.int .i64 x.at_.col, .int .i64 x.at_.row, str x.input] := H8.outTo t9 (fun e => by have h := T8.own _ e; simp [Value.ownBlock] at h; omega)
    refine hK.out _ _ H9 (fun hHeld => ?_)
    clear hK K
    try simp only [Act.put, List.setIfInBounds_toArray, List.set_cons_zero, List.set_cons_succ]
    refine wpAnyH_take (i := 8) (oi := ⟨some 4, .assign (.tmp 50), 22, _, _, none⟩) (v := v9) rfl (by kernel_rfl) (by kernel_rfl) (by kernel_rfl) (fun c d e h => NoPanic.put h) (Or.inl ⟨by rfl, by intro W hW; go_simp⟩) hHeld ?_
    try simp only [Act.put, List.setIfInBounds_toArray, List.set_cons_zero, List.set_cons_succ]
    refine wpAnyH_done (by kernel_rfl) ?_ _
    refine NoPanic.normal ?_
    go_wp2_with fail
    all_goals
      go_ret
      refine ⟨v9, rfl, by rw [HX.out]; simpa using o9, fun q hq => ?_, B2.out.trans (T9.old (Nat.le_trans (by omega) B2.out.size) (by simp [Value.ownBlock]))⟩
      rcases T9.own q hq with h | h
      · simp [Value.ownBlock] at h
      · omega
  · have hgc2 : (R.length : Int) ≤ (c : Int) := by omega
    have hcm : c ≤ 9223372036854775807 := by
      rcases HO2.out.2 with ⟨e, _⟩ | ⟨g', c', cur, e, _, _, _, hcm, _⟩
      · cases e
      · injection e with e1 e2 e3
        unfold maxLen at hcm
        omega
    have HSR := Lib.hid (HO2.out.sls (by unfold maxLen; omega))
    go_wp2_with fail
    go_loopw [6, 7] (fun u i wr => ∃ k : Nat, k ≤ R.length ∧ i = .int .i64 k ∧ Own cEnt 58 3 wr u (R.take k) ∧ (R.take k).all (fun y => lessB y.at_ x.at_) = true ∧ OutTo w2 (.slice none 0 0) wr u) (fun _ i _ => R.length - (intOf i).toNat)
    case atStart => exact ⟨0, by omega, rfl, by simpa using Own.nil _ _ _ _, by simp, OutTo.refl _ _⟩
    case round =>
      obtain ⟨k, hk, rfl, oo, ha, tt⟩ := hrel
      obtain ⟨A6, c6, hu6, -⟩ := oo.sls (by unfold maxLen; rw [List.length_take]; omega)
      rw [List.length_take, Nat.min_eq_left hk] at hu6
      subst hu6
      have T6 : ∀ q, (Value.slice A6 k c6).ownBlock = some q → w2.heap.size ≤ q := fun q hq => by
        rcases tt.own q hq with h | h
        · simp [Value.ownBlock] at h
        · exact h
      have hbr := tt.old (B := w2.heap.size) (Nat.le_refl _) (by simp [Value.ownBlock])
      have hzr := hbr.size
      have OO := Lib.hid oo
      have HA := Lib.hid ha
      have TT := Lib.hid tt
      have KR := Lib.hid (K2.out.below_ hbr)
      have HBR := Lib.hid hbr
      clear oo ha tt hbr b2
      by_cases hlt : k < R.length
      · have hxk : R[k]? = some R[k] := List.getElem?_eq_getElem hlt
        obtain ⟨b, o, hbo, hbb, r⟩ := (HSR.out.below HBR.out).get 3 cEnt_len hxk
        injection hbo with hbo
        injection hbo with hb1 hb2
        subst hb1 hb2
        have htk : R.take (k + 1) = R.take k ++ [R[k]] := by rw [List.take_succ_eq_append_getElem hlt]
        have HN := Lib.hid htk
        have HXK := Lib.hid hxk
        clear hxk htk
        generalize R[k] = y at *
        have RR := Lib.hid r
        have hi0 : (0 : Int) ≤ (k : Int) := Int.natCast_nonneg _
        have hi1 : (k : Int) < (R.length : Int) := by omega
        have LX := Lib.hid (show ∀ W : World, Below wr.heap.size wr W → W.rangeAt w.heap.size 0 [.int .i64 x.at_.col, .int .i64 x.at_.row] from fun W h => (KR.out.below_ h).range (l := [_, _]) (o := 0) (by
          intro j v hj
          rcases j with _ | _ | j
          · exact hj
          · exact hj
          · simp at hj))
        have LE := Lib.hid (show ∀ W : World, Below wr.heap.size wr W → W.rangeAt g (k * 3) [.int .i64 y.at_.col, .int .i64 y.at_.row] from fun W h => by
          intro j v hj
          refine (h.cell (p := ⟨g, k * 3 + j, none⟩) (by show g < _; omega)).trans ?_
          have r' := RR.out j v (by
            rcases j with _ | _ | j
            · exact hj
            · exact hj
            · simp at hj)
          simpa using r')
        clear r
        go_wp2_with fail
        refine wp_region_noPanic ?_
        refine wp_region_held_drew (S := fun W => Below wr.heap.size wr W) (by kernel_rfl) (Below.drewN_ (Below.refl _ _) 1) (fun hHeld => ?_)
        refine wpAnyH_take (i := 0) (oi := ⟨some 18, .move (.tmp 7), 3, _, _, none⟩) (v := .int .i64 k) rfl (by kernel_rfl) (by kernel_rfl) (by kernel_rfl) (fun c d e h => NoPanic.put h) (Or.inl ⟨by rfl, by intro W hW; go_simp⟩) hHeld ?_
        try simp only [Act.put, List.setIfInBounds_toArray, List.set_cons_zero, List.set_cons_succ]
        refine wpAnyH_take (i := 1) (oi := ⟨some 19, .move (.tmp 5), 22, _, _, none⟩) (v := .slice (some ⟨g, 0, none⟩) R.length c) rfl (by kernel_rfl) (by kernel_rfl) (by kernel_rfl) (fun c d e h => NoPanic.put h) (Or.inl ⟨by rfl, by intro W hW; go_simp⟩) hHeld ?_
        try simp only [Act.put, List.setIfInBounds_toArray, List.set_cons_zero, List.set_cons_succ]
        refine wpAnyH_take (i := 2) (oi := ⟨some 20, .call { callee := .builtin .len, args := #[.tmp 19], argTypes := #[22] }, 3, _, _, none⟩) (v := .int .i64 R.length) rfl (by kernel_rfl) (by kernel_rfl) (by kernel_rfl) (fun c d e h => NoPanic.put h) (Or.inl ⟨by rfl, by intro W hW; go_simp⟩) hHeld ?_
        try simp only [Act.put, List.setIfInBounds_toArray, List.set_cons_zero, List.set_cons_succ]
        refine wpAnyH_take (i := 3) (oi := ⟨some 21, .binOp .lss 3 (.tmp 18) (.tmp 20) 3, 4, _, _, none⟩) (v := .bool true) rfl (by kernel_rfl) (by kernel_rfl) (by kernel_rfl) (fun c d e h => NoPanic.put h) (Or.inl ⟨by rfl, by intro W hW; go_simp⟩) hHeld ?_
        try simp only [Act.put, List.setIfInBounds_toArray, List.set_cons_zero, List.set_cons_succ]
        refine wpAnyH_take (i := 4) (oi := ⟨some 22, .move (.tmp 21), 4, _, _, none⟩) (v := .bool true) rfl (by kernel_rfl) (by kernel_rfl) (by kernel_rfl) (fun c d e h => NoPanic.put h) (Or.inl ⟨by rfl, by intro W hW; go_simp⟩) hHeld ?_
        try simp only [Act.put, List.setIfInBounds_toArray, List.set_cons_zero, List.set_cons_succ]
        refine wpAnyH_take (i := 5) (oi := ⟨some 23, .move (.tmp 5), 22, _, _, some (4, true)⟩) (v := .slice (some ⟨g, 0, none⟩) R.length c) rfl (by kernel_rfl) (by kernel_rfl) (by kernel_rfl) (fun c d e h => NoPanic.put h) (Or.inl ⟨by rfl, by intro W hW; go_simp⟩) hHeld ?_
        try simp only [Act.put, List.setIfInBounds_toArray, List.set_cons_zero, List.set_cons_succ]
        refine wpAnyH_take (i := 6) (oi := ⟨some 24, .move (.tmp 7), 3, _, _, some (4, true)⟩) (v := .int .i64 k) rfl (by kernel_rfl) (by kernel_rfl) (by kernel_rfl) (fun c d e h => NoPanic.put h) (Or.inl ⟨by rfl, by intro W hW; go_simp⟩) hHeld ?_
        try simp only [Act.put, List.setIfInBounds_toArray, List.set_cons_zero, List.set_cons_succ]
        refine wpAnyH_take (i := 7) (oi := ⟨some 25, .indexAddr 22 (.tmp 23) (.tmp 24), _, _, _, some (4, true)⟩) (v := .pointer (some ⟨g, k * 3, none⟩)) rfl (by kernel_rfl) (by kernel_rfl) (by kernel_rfl) (fun c d e h => NoPanic.put h) (Or.inl ⟨by rfl, by intro W hW; go_simp⟩) hHeld ?_
        try simp only [Act.put, List.setIfInBounds_toArray, List.set_cons_zero, List.set_cons_succ]
        refine wpAnyH_take (i := 8) (oi := ⟨some 26, .fieldAddr 58 (.tmp 25) 0, _, _, _, some (4, true)⟩) (v := .pointer (some ⟨g, k * 3, none⟩)) rfl (by kernel_rfl) (by kernel_rfl) (by kernel_rfl) (fun c d e h => NoPanic.put h) (Or.inl ⟨by rfl, by intro W hW; go_simp⟩) hHeld ?_
        try simp only [Act.put, List.setIfInBounds_toArray, List.set_cons_zero, List.set_cons_succ]
        refine wpAnyH_take (i := 9) (oi := ⟨some 27, .load 56 (.tmp 26), 56, _, _, some (4, true)⟩) (v := .agg _) rfl (by kernel_rfl) (by kernel_rfl) (by kernel_rfl) (fun c d e h => NoPanic.put h) (yieldsIf_load_mid rfl _ _ rfl (g) (k * 3) rfl _ _ LE.out rfl rfl (by kernel_rfl)) hHeld ?_
        try simp only [Act.put, List.setIfInBounds_toArray, List.set_cons_zero, List.set_cons_succ]
        refine wpAnyH_take (i := 10) (oi := ⟨some 28, .fieldAddr 58 (.tmp 3) 0, _, _, _, some (4, true)⟩) (v := .pointer (some ⟨w.heap.size, 0, none⟩)) rfl (by kernel_rfl) (by kernel_rfl) (by kernel_rfl) (fun c d e h => NoPanic.put h) (Or.inl ⟨by rfl, by intro W hW; go_simp⟩) hHeld ?_
        try simp only [Act.put, List.setIfInBounds_toArray, List.set_cons_zero, List.set_cons_succ]
        refine wpAnyH_take (i := 11) (oi := ⟨some 29, .load 56 (.tmp 28), 56, _, _, some (4, true)⟩) (v := .agg _) rfl (by kernel_rfl) (by kernel_rfl) (by kernel_rfl) (fun c d e h => NoPanic.put h) (yieldsIf_load_mid rfl _ _ rfl (w.heap.size) (0) rfl _ _ LX.out rfl rfl (by kernel_rfl)) hHeld ?_
        try simp only [Act.put, List.setIfInBounds_toArray, List.set_cons_zero, List.set_cons_succ]
        refine wpAnyH_ready (rs := [12]) (by kernel_rfl) (by simp) ?_
        refine AllReadyH.cons (o := ⟨some 30, .call { callee := .value (.func 137), args := #[.tmp 27, .tmp 29], argTypes := #[56, 56] }, 4, _, _, some (4, true)⟩) rfl (fun K hK => ?_) AllReadyH.nil
        go_simp
        go_at_call 137
        refine (r02_less _ _ _ _ _).mono ?_
        rintro e w3 ⟨rfl, hb3⟩
        refine hK.out _ _ (Below.next hHeld hb3 hHeld.size) (fun hHeld => ?_)
        clear hK K
        try simp only [Act.put, List.setIfInBounds_toArray, List.set_cons_zero, List.set_cons_succ]
        have B3 := Lib.hid hHeld
        have hzz := hHeld.size
        by_cases he : lessB y.at_ x.at_ = true
        · have he' : lessB ⟨y.at_.col, y.at_.row⟩ ⟨x.at_.col, x.at_.row⟩ = true := he
          rw [he']
          refine wpAnyH_take (i := 13) (oi := ⟨some 31, .pick (.tmp 22) (.tmp 30) (.const (.bool false)), 4, _, _, none⟩) (v := .bool true) rfl (by kernel_rfl) (by kernel_rfl) (by kernel_rfl) (fun c d e h => NoPanic.put h) (Or.inl ⟨by rfl, by intro W hW; go_simp⟩) hHeld ?_
          try simp only [Act.put, List.setIfInBounds_toArray, List.set_cons_zero, List.set_cons_succ]
          refine wpAnyH_done (by kernel_rfl) ?_ _
          refine NoPanic.normal ?_
          have HE := Lib.hid he
          have hgl : g < wr.heap.size := by omega
          have r0 : w3.cell? ⟨g, k * 3, none⟩ = some (.int .i64 y.at_.col) := (B3.out.cell (p := ⟨g, k * 3, none⟩) hgl).trans (by simpa using RR.out 0 _ rfl)
          have r1 : w3.cell? ⟨g, k * 3 + 1, none⟩ = some (.int .i64 y.at_.row) := (B3.out.cell (p := ⟨g, k * 3 + 1, none⟩) hgl).trans (by simpa using RR.out 1 _ rfl)
          have r2 : w3.cell? ⟨g, k * 3 + 2, none⟩ = some (str y.input) := (B3.out.cell (p := ⟨g, k * 3 + 2, none⟩) hgl).trans (by simpa using RR.out 2 _ rfl)
          clear he he' hHeld LX LE hb3
          go_wp2_with (first
            | (at_builtin
               refine wpList_more cEnt rfl _ _ 22 rfl 58 i0 _ 3 32 Tryz.underlying22 qi0 qz0 qz1 qz2 rfl (by omega) (.slice A6 k c6) (R.take k) rfl ((OO.out.below B3.out).alloc _) (w3.heap.size + 1) _ [y] rfl (Sls.more (Sls.one (x := y) (Blk.new _ _ _) rfl) (by simp)) cEnt_len cEnt_one (by simp only [List.length_take, List.length_cons, List.length_nil]; omega) (by omega) ?_
               intro v4 w4 o4 t4))
          have O4 := Lib.hid o4
          have T4 := Lib.hid (((TT.out.below B3.out).alloc _).trans t4)
          clear o4 t4
          go_wp2
          refine ⟨⟨k + 1, by omega, by go_num, ?_, ?_, T4.out⟩, by simp [intOf]; omega⟩
          · rw [HN.out]
            exact O4.out
          · rw [HN.out, List.all_append, HA.out]
            simp [HE.out]
        · have he' : lessB ⟨y.at_.col, y.at_.row⟩ ⟨x.at_.col, x.at_.row⟩ = false := by simpa using he
          rw [he']
          refine wpAnyH_take (i := 13) (oi := ⟨some 31, .pick (.tmp 22) (.tmp 30) (.const (.bool false)), 4, _, _, none⟩) (v := .bool false) rfl (by kernel_rfl) (by kernel_rfl) (by kernel_rfl) (fun c d e h => NoPanic.put h) (Or.inl ⟨by rfl, by intro W hW; go_simp⟩) hHeld ?_
          try simp only [Act.put, List.setIfInBounds_toArray, List.set_cons_zero, List.set_cons_succ]
          refine wpAnyH_done (by kernel_rfl) ?_ _
          refine NoPanic.normal ?_
          have HX := Lib.hid (HW.out k HA.out (fun z hz => by
            have e : z = y := by have := HXK.out.symm.trans hz; simpa using this.symm
            subst e
            simpa using he))
          have O6 := OO.out.below B3.out
          have TT6 := TT.out.below B3.out
          have K6 := KR.out.below_ B3.out
          clear hHeld LX LE hb3 he he' HW
          go_wp2_with fail
          refine wp_region_noPanic ?_
          refine wp_region_held_drew (S := fun W => Blk W w.heap.size 58 #[.int .i64 x.at_.col, .int .i64 x.at_.row, str x.input]) (by kernel_rfl) (K6.drewN 1) (fun hHeld => ?_)
          refine wpAnyH_take (i := 0) (oi := ⟨some 43, .move (.tmp 6), 22, _, _, none⟩) (v := .slice A6 k c6) rfl (by kernel_rfl) (by kernel_rfl) (by kernel_rfl) (fun c d e h => NoPanic.put h) (Or.inl ⟨by rfl, by intro W hW; go_simp⟩) hHeld ?_
          try simp only [Act.put, List.setIfInBounds_toArray, List.set_cons_zero, List.set_cons_succ]
          refine wpAnyH_take (i := 4) (oi := ⟨some 47, .move (.tmp 5), 22, _, _, none⟩) (v := .slice (some ⟨g, 0, none⟩) R.length c) rfl (by kernel_rfl) (by kernel_rfl) (by kernel_rfl) (fun c d e h => NoPanic.put h) (Or.inl ⟨by rfl, by intro W hW; go_simp⟩) hHeld ?_
          try simp only [Act.put, List.setIfInBounds_toArray, List.set_cons_zero, List.set_cons_succ]
          refine wpAnyH_take (i := 5) (oi := ⟨some 48, .move (.tmp 8), 3, _, _, none⟩) (v := .int .i64 (k)) rfl (by kernel_rfl) (by kernel_rfl) (by kernel_rfl) (fun c d e h => NoPanic.put h) (Or.inl ⟨by rfl, by intro W hW; go_simp⟩) hHeld ?_
          try simp only [Act.put, List.setIfInBounds_toArray, List.set_cons_zero, List.set_cons_succ]
          refine wpAnyH_take (i := 6) (oi := ⟨some 49, .slice 22 (.tmp 47) (some (.tmp 48)) none none, 22, _, _, none⟩) (v := .slice (if c = k then some ⟨g, 0, none⟩ else some ⟨g, k * 3, none⟩) (R.length - k) (c - k)) rfl (by kernel_rfl) (by kernel_rfl) (by kernel_rfl) (fun c d e h => NoPanic.put h) (Or.inl ⟨by rfl, by intro W hW; go_simp <;> (try (intro h; omega))⟩) hHeld ?_
          try simp only [Act.put, List.setIfInBounds_toArray, List.set_cons_zero, List.set_cons_succ]
          refine wpAnyH_take (i := 1) (oi := ⟨some 44, .load 58 (.tmp 3), 58, _, _, none⟩) (v := .agg _) rfl (by kernel_rfl) (by kernel_rfl) (by kernel_rfl) (fun c d e h => NoPanic.put h) (yieldsIf_load_mid rfl _ _ rfl (w.heap.size) (0) rfl _ _ (fun W h => h.range (l := [_, _, _]) (o := 0) (by intro j v hj; rw [Nat.zero_add]; exact List.getElem?_toArray.trans hj)) rfl rfl (by kernel_rfl)) hHeld ?_
          try simp only [Act.put, List.setIfInBounds_toArray, List.set_cons_zero, List.set_cons_succ]
          refine wpAnyH_ready (rs := [2]) (by kernel_rfl) (by simp) ?_
          refine AllReadyH.cons (o := ⟨some 45, .buildSlice 22 1 #[(0, .tmp 44)], 22, _, _, none⟩) rfl (fun K hK => ?_) AllReadyH.nil
          go_simp
          refine hK.out _ _ (Blk.alloc hHeld _) (fun hHeld => ?_)
          clear hK K
          try simp only [Act.put, List.setIfInBounds_toArray, List.set_cons_zero, List.set_cons_succ]
          obtain ⟨v8, w8, hr8, o8, t8⟩ := run_more (P := Tryz.prog) _ cEnt 22 22 58 i0 _ 3 32 Tryz.underlying22 qi0 qz0 qz1 qz2 rfl (by omega) (.slice A6 k c6) _ ((O6).drewN 1 |>.alloc _) _ _ [x] (Sls.one (x := x) (Blk.new _ _ _) rfl) cEnt_len cEnt_one (by simp only [List.length_take, List.length_cons, List.length_nil]; omega) (by omega)
          have T8 := (((TT6).drewN 1).alloc _).trans t8
          refine wpAnyH_ready (rs := [3]) (by kernel_rfl) (by simp) ?_
          refine AllReadyH.cons (o := ⟨some 46, .call { callee := .builtin .append, args := #[.tmp 43, .tmp 45], argTypes := #[22, 22] }, 22, _, _, none⟩) rfl (fun K hK => ?_) AllReadyH.nil
          refine step_append_eq rfl (.tmp 43) (.tmp 45) _ _ rfl _ _ _ _ rfl rfl hr8 ?_
          have H8 : Blk w8 w.heap.size 58 #[.int .i64 x.at_.col, .int .i64 x.at_.row, str x.input] := hHeld.outTo t8 (fun e => by have := T6 _ e; omega)
          refine hK.out _ _ H8 (fun hHeld => ?_)
          clear hK K
          try simp only [Act.put, List.setIfInBounds_toArray, List.set_cons_zero, List.set_cons_succ]
          obtain ⟨v9, w9, hr9, o9, t9⟩ := run_more (P := Tryz.prog) w8 cEnt 22 22 58 i0 _ 3 32 Tryz.underlying22 qi0 qz0 qz1 qz2 rfl (by omega) v8 _ o8 _ _ _ (sls_drop (HSR.out.below (T8.old (Nat.le_refl _) (by simp [Value.ownBlock]))) hk) cEnt_len cEnt_one (by simp only [List.length_append, List.length_take, List.length_drop, List.length_cons, List.length_nil]; omega) (by omega)
          have T9 := T8.trans t9
          refine wpAnyH_ready (rs := [7]) (by kernel_rfl) (by simp) ?_
          refine AllReadyH.cons (o := ⟨some 50, .call { callee := .builtin .append, args := #[.tmp 46, .tmp 49], argTypes := #[22, 22] }, 22, _, _, none⟩) rfl (fun K hK => ?_) AllReadyH.nil
          refine step_append_eq rfl (.tmp 46) (.tmp 49) _ _ rfl _ _ _ _ rfl rfl hr9 ?_
          have H9 : Blk w9 w.heap.size 58 #[.int .i64 x.at_.col, .int .i64 x.at_.row, str x.input] := H8.outTo t9 (fun e => by have h := T8.own _ e; simp [Value.ownBlock] at h; omega)
          refine hK.out _ _ H9 (fun hHeld => ?_)
          clear hK K
          try simp only [Act.put, List.setIfInBounds_toArray, List.set_cons_zero, List.set_cons_succ]
          refine wpAnyH_take (i := 8) (oi := ⟨some 4, .assign (.tmp 50), 22, _, _, none⟩) (v := v9) rfl (by kernel_rfl) (by kernel_rfl) (by kernel_rfl) (fun c d e h => NoPanic.put h) (Or.inl ⟨by rfl, by intro W hW; go_simp⟩) hHeld ?_
          try simp only [Act.put, List.setIfInBounds_toArray, List.set_cons_zero, List.set_cons_succ]
          refine wpAnyH_done (by kernel_rfl) ?_ _
          refine NoPanic.normal ?_
          go_wp2_with fail
          all_goals
            go_ret
            refine ⟨v9, rfl, by rw [HX.out]; simpa using o9, fun q hq => ?_, B2.out.trans (T9.old (Nat.le_trans (by omega) B2.out.size) (by simp [Value.ownBlock]))⟩
            rcases T9.own q hq with h | h
            · simp [Value.ownBlock] at h
            · omega
      · have hd : decide ((k : Int) < (R.length : Int)) = false := by simp; omega
        have HX := Lib.hid (HW.out k HA.out (fun z hz => by rw [List.getElem?_eq_none (by omega)] at hz; cases hz))
        clear HW
        go_wp2_with fail
        go_quiet (fail)
        have O6 := OO.out.drewN nq
        have TT6 := TT.out.drewN nq
        have K6 := KR.out.drewN nq
        go_wp2_with fail
        refine wp_region_noPanic ?_
        refine wp_region_held_drew (S := fun W => Blk W w.heap.size 58 #[.int .i64 x.at_.col, .int .i64 x.at_.row, str x.input]) (by kernel_rfl) (K6.drewN 1) (fun hHeld => ?_)
        refine wpAnyH_take (i := 0) (oi := ⟨some 43, .move (.tmp 6), 22, _, _, none⟩) (v := .slice A6 k c6) rfl (by kernel_rfl) (by kernel_rfl) (by kernel_rfl) (fun c d e h => NoPanic.put h) (Or.inl ⟨by rfl, by intro W hW; go_simp⟩) hHeld ?_
        try simp only [Act.put, List.setIfInBounds_toArray, List.set_cons_zero, List.set_cons_succ]
        refine wpAnyH_take (i := 4) (oi := ⟨some 47, .move (.tmp 5), 22, _, _, none⟩) (v := .slice (some ⟨g, 0, none⟩) R.length c) rfl (by kernel_rfl) (by kernel_rfl) (by kernel_rfl) (fun c d e h => NoPanic.put h) (Or.inl ⟨by rfl, by intro W hW; go_simp⟩) hHeld ?_
        try simp only [Act.put, List.setIfInBounds_toArray, List.set_cons_zero, List.set_cons_succ]
        refine wpAnyH_take (i := 5) (oi := ⟨some 48, .move (.tmp 8), 3, _, _, none⟩) (v := .int .i64 (k)) rfl (by kernel_rfl) (by kernel_rfl) (by kernel_rfl) (fun c d e h => NoPanic.put h) (Or.inl ⟨by rfl, by intro W hW; go_simp⟩) hHeld ?_
        try simp only [Act.put, List.setIfInBounds_toArray, List.set_cons_zero, List.set_cons_succ]
        refine wpAnyH_take (i := 6) (oi := ⟨some 49, .slice 22 (.tmp 47) (some (.tmp 48)) none none, 22, _, _, none⟩) (v := .slice (if c = k then some ⟨g, 0, none⟩ else some ⟨g, k * 3, none⟩) (R.length - k) (c - k)) rfl (by kernel_rfl) (by kernel_rfl) (by kernel_rfl) (fun c d e h => NoPanic.put h) (Or.inl ⟨by rfl, by intro W hW; go_simp <;> (try (intro h; omega))⟩) hHeld ?_
        try simp only [Act.put, List.setIfInBounds_toArray, List.set_cons_zero, List.set_cons_succ]
        refine wpAnyH_take (i := 1) (oi := ⟨some 44, .load 58 (.tmp 3), 58, _, _, none⟩) (v := .agg _) rfl (by kernel_rfl) (by kernel_rfl) (by kernel_rfl) (fun c d e h => NoPanic.put h) (yieldsIf_load_mid rfl _ _ rfl (w.heap.size) (0) rfl _ _ (fun W h => h.range (l := [_, _, _]) (o := 0) (by intro j v hj; rw [Nat.zero_add]; exact List.getElem?_toArray.trans hj)) rfl rfl (by kernel_rfl)) hHeld ?_
        try simp only [Act.put, List.setIfInBounds_toArray, List.set_cons_zero, List.set_cons_succ]
        refine wpAnyH_ready (rs := [2]) (by kernel_rfl) (by simp) ?_
        refine AllReadyH.cons (o := ⟨some 45, .buildSlice 22 1 #[(0, .tmp 44)], 22, _, _, none⟩) rfl (fun K hK => ?_) AllReadyH.nil
        go_simp
        refine hK.out _ _ (Blk.alloc hHeld _) (fun hHeld => ?_)
        clear hK K
        try simp only [Act.put, List.setIfInBounds_toArray, List.set_cons_zero, List.set_cons_succ]
        obtain ⟨v8, w8, hr8, o8, t8⟩ := run_more (P := Tryz.prog) _ cEnt 22 22 58 i0 _ 3 32 Tryz.underlying22 qi0 qz0 qz1 qz2 rfl (by omega) (.slice A6 k c6) _ ((O6).drewN 1 |>.alloc _) _ _ [x] (Sls.one (x := x) (Blk.new _ _ _) rfl) cEnt_len cEnt_one (by simp only [List.length_take, List.length_cons, List.length_nil]; omega) (by omega)
        have T8 := (((TT6).drewN 1).alloc _).trans t8
        refine wpAnyH_ready (rs := [3]) (by kernel_rfl) (by simp) ?_
        refine AllReadyH.cons (o := ⟨some 46, .call { callee := .builtin .append, args := #[.tmp 43, .tmp 45], argTypes := #[22, 22] }, 22, _, _, none⟩) rfl (fun K hK => ?_) AllReadyH.nil
        refine step_append_eq rfl (.tmp 43) (.tmp 45) _ _ rfl _ _ _ _ rfl rfl hr8 ?_
        have H8 : Blk w8 w.heap.size 58 #[.int .i64 x.at_.col, .int .i64 x.at_.row, str x.input] := hHeld.outTo t8 (fun e => by have := T6 _ e; omega)
        refine hK.out _ _ H8 (fun hHeld => ?_)
        clear hK K
        try simp only [Act.put, List.setIfInBounds_toArray, List.set_cons_zero, List.set_cons_succ]
        obtain ⟨v9, w9, hr9, o9, t9⟩ := run_more (P := Tryz.prog) w8 cEnt 22 22 58 i0 _ 3 32 Tryz.underlying22 qi0 qz0 qz1 qz2 rfl (by omega) v8 _ o8 _ _ _ (sls_drop (HSR.out.below (T8.old (Nat.le_refl _) (by simp [Value.ownBlock]))) hk) cEnt_len cEnt_one (by simp only [List.length_append, List.length_take, List.length_drop, List.length_cons, List.length_nil]; omega) (by omega)
        have T9 := T8.trans t9
        refine wpAnyH_ready (rs := [7]) (by kernel_rfl) (by simp) ?_
        refine AllReadyH.cons (o := ⟨some 50, .call { callee := .builtin .append, args := #[.tmp 46, .tmp 49], argTypes := #[22, 22] }, 22, _, _, none⟩) rfl (fun K hK => ?_) AllReadyH.nil
        refine step_append_eq rfl (.tmp 46) (.tmp 49) _ _ rfl _ _ _ _ rfl rfl hr9 ?_
        have H9 : Blk w9 w.heap.size 58 #[.int .i64 x.at_.col, .int .i64 x.at_.row, str x.input] := H8.outTo t9 (fun e => by have h := T8.own _ e; simp [Value.ownBlock] at h; omega)
        refine hK.out _ _ H9 (fun hHeld => ?_)
        clear hK K
        try simp only [Act.put, List.setIfInBounds_toArray, List.set_cons_zero, List.set_cons_succ]
        refine wpAnyH_take (i := 8) (oi := ⟨some 4, .assign (.tmp 50), 22, _, _, none⟩) (v := v9) rfl (by kernel_rfl) (by kernel_rfl) (by kernel_rfl) (fun c d e h => NoPanic.put h) (Or.inl ⟨by rfl, by intro W hW; go_simp⟩) hHeld ?_
        try simp only [Act.put, List.setIfInBounds_toArray, List.set_cons_zero, List.set_cons_succ]
        refine wpAnyH_done (by kernel_rfl) ?_ _
        refine NoPanic.normal ?_
        go_wp2_with fail
        all_goals
          go_ret
          refine ⟨v9, rfl, by rw [HX.out]; simpa using o9, fun q hq => ?_, B2.out.trans (T9.old (Nat.le_trans (by omega) B2.out.size) (by simp [Value.ownBlock]))⟩
          rcases T9.own q hq with h | h
          · simp [Value.ownBlock] at h
          · omega

end Go.Proofs.YtamcgggmfghljaaGreatDoor
