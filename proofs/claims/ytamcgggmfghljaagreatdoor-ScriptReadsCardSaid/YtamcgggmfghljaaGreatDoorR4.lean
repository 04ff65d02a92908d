/- Lists of api.Grant: equal or not (the kit's loop and the library's). · Lists of api.Event: equal or not (the kit's loop and the library's). · Lists of api.Release: equal or not (the kit's loop and the library's). -/
import Derived.Deep.QuietTactic
import Derived.BigQuiet
import Derived.Test.YtamcgggmfghljaaGreatDoorR3
namespace Go.Proofs.YtamcgggmfghljaaGreatDoor
open Go.RowKit

set_option maxRecDepth 100000 in
set_option maxHeartbeats 2000000 in
theorem kit_equal_grt (v u : Value) (l m : List Grt) (B1 B2 : Nat) (w : World) (hv : Sls cGrt w B1 v l) (hu : Sls cGrt w B2 u m) :
    Calls Tryz.prog 120 #[v, u] w fun e w' => e = .returned (.bool (decide (l = m))) ∧ Same w w' := by
  obtain ⟨A1, cap1, rfl, hc1, hm1, hr1⟩ := id hv
  obtain ⟨A2, cap2, rfl, hc2, hm2, hr2⟩ := id hu
  have HV := Lib.hid hv
  have HU := Lib.hid hu
  clear hr1 hr2 hv hu
  unfold maxLen at hm1 hm2
  by_cases hl : l.length = m.length
  · have h0 : ((l.length : Int) != (m.length : Int)) = false := by simp [hl]
    have h1 : (l.length != m.length) = false := by simp [hl]
    have HL := Lib.hid hl
    clear hl
    go_enter Tryz.func120, Tryz.ntmps120
    go_wp2
    go_loopw [5] (fun i wr => ∃ k : Nat, k ≤ l.length ∧ i = .int .i64 k ∧ l.take k = m.take k ∧ Same w wr) (fun i _ => l.length - (intOf i).toNat)
    case atStart => exact ⟨0, by omega, rfl, by simp, Same.refl _⟩
    case round =>
      obtain ⟨k, hk, rfl, he, hs⟩ := hrel
      have HE := Lib.hid he
      clear he
      by_cases hlt : k < l.length
      · have hx : l[k]? = some l[k] := List.getElem?_eq_getElem hlt
        have hlt2 : k < m.length := by rw [← HL.out]; exact hlt
        have hy : m[k]? = some m[k] := List.getElem?_eq_getElem hlt2
        obtain ⟨b1, o1, rfl, _, r1⟩ := (HV.out.same hs).get 8 cGrt_len hx
        obtain ⟨b2, o2, rfl, _, r2⟩ := (HU.out.same hs).get 8 cGrt_len hy
        have ht1 : l.take (k + 1) = l.take k ++ [l[k]] := by rw [List.take_succ_eq_append_getElem hlt]
        have ht2 : m.take (k + 1) = m.take k ++ [m[k]] := by rw [List.take_succ_eq_append_getElem hlt2]
        have HT1 := Lib.hid ht1
        have HT2 := Lib.hid ht2
        have HS := Lib.hid hs
        clear hx hy ht1 ht2 hs
        generalize l[k] = x at *
        generalize m[k] = y at *
        have r1_0 : wr.cell? ⟨b1, o1 + k * 8, none⟩ = some (.int .i64 x.rect.c1) := r1 0 _ rfl
        have r1_1 : wr.cell? ⟨b1, o1 + k * 8 + 1, none⟩ = some (.int .i64 x.rect.r1) := r1 1 _ rfl
        have r1_2 : wr.cell? ⟨b1, o1 + k * 8 + 2, none⟩ = some (.int .i64 x.rect.c2) := r1 2 _ rfl
        have r1_3 : wr.cell? ⟨b1, o1 + k * 8 + 3, none⟩ = some (.int .i64 x.rect.r2) := r1 3 _ rfl
        have r1_4 : wr.cell? ⟨b1, o1 + k * 8 + 4, none⟩ = some (.int .u8 x.fns) := r1 4 _ rfl
        have r1_5 : wr.cell? ⟨b1, o1 + k * 8 + 5, none⟩ = some (.int .u64 x.to_) := r1 5 _ rfl
        have r1_6 : wr.cell? ⟨b1, o1 + k * 8 + 6, none⟩ = some (.int .i64 x.by_) := r1 6 _ rfl
        have r1_7 : wr.cell? ⟨b1, o1 + k * 8 + 7, none⟩ = some (.bool x.revoked) := r1 7 _ rfl
        have r2_0 : wr.cell? ⟨b2, o2 + k * 8, none⟩ = some (.int .i64 y.rect.c1) := r2 0 _ rfl
        have r2_1 : wr.cell? ⟨b2, o2 + k * 8 + 1, none⟩ = some (.int .i64 y.rect.r1) := r2 1 _ rfl
        have r2_2 : wr.cell? ⟨b2, o2 + k * 8 + 2, none⟩ = some (.int .i64 y.rect.c2) := r2 2 _ rfl
        have r2_3 : wr.cell? ⟨b2, o2 + k * 8 + 3, none⟩ = some (.int .i64 y.rect.r2) := r2 3 _ rfl
        have r2_4 : wr.cell? ⟨b2, o2 + k * 8 + 4, none⟩ = some (.int .u8 y.fns) := r2 4 _ rfl
        have r2_5 : wr.cell? ⟨b2, o2 + k * 8 + 5, none⟩ = some (.int .u64 y.to_) := r2 5 _ rfl
        have r2_6 : wr.cell? ⟨b2, o2 + k * 8 + 6, none⟩ = some (.int .i64 y.by_) := r2 6 _ rfl
        have r2_7 : wr.cell? ⟨b2, o2 + k * 8 + 7, none⟩ = some (.bool y.revoked) := r2 7 _ rfl
        have hn : ∀ W, (binOp .neq 85 (.agg #[.int .i64 x.rect.c1, .int .i64 x.rect.r1, .int .i64 x.rect.c2, .int .i64 x.rect.r2, .int .u8 x.fns, .int .u64 x.to_, .int .i64 x.by_, .bool x.revoked]) (.agg #[.int .i64 y.rect.c1, .int .i64 y.rect.r1, .int .i64 y.rect.c2, .int .i64 y.rect.r2, .int .u8 y.fns, .int .u64 y.to_, .int .i64 y.by_, .bool y.revoked])).run Tryz.prog W = .ok (.bool (!decide (x = y))) W := fun W => neq_grt x y W
        have hi0 : (0 : Int) ≤ (k : Int) := Int.natCast_nonneg _
        have hi1 : (k : Int) < (l.length : Int) := by omega
        have hi2 : (k : Int) < (m.length : Int) := by omega
        clear r1 r2
        by_cases hxy : x = y
        · have hd : decide (x = y) = true := by simpa using hxy
          rw [hd] at hn
          have HXY := Lib.hid hxy
          clear hd hxy
          go_wp2
          go_quiet (fail)
          go_wp2
          exact ⟨⟨k + 1, by omega, by go_num, by rw [HT1.out, HT2.out, HE.out, HXY.out], HS.out.drewN _⟩, by simp [intOf]; omega⟩
        · have hd : decide (x = y) = false := by simpa using hxy
          rw [hd] at hn
          have HXY := Lib.hid hxy
          clear hd hxy
          go_wp2
          go_quiet (fail)
          go_wp2
          go_ret
          have hne : ¬ l = m := by
            intro e
            have h2 := HT1.out
            rw [e, HT2.out, ← HE.out] at h2
            exact HXY.out (by simpa using h2.symm)
          exact ⟨by simp [hne], HS.out.drewN _⟩
      · go_wp2
        go_ret
        have h1 : k = l.length := by omega
        have h2 := HE.out
        rw [h1, List.take_length, HL.out, List.take_length] at h2
        exact ⟨by simp [h2], hs⟩
  · have h0 : ((l.length : Int) != (m.length : Int)) = true := by simpa using fun e => hl (by omega)
    have h1 : (l.length != m.length) = true := by simpa using hl
    have hne : ¬ l = m := fun e => hl (by rw [e])
    have HN := Lib.hid hne
    clear hne
    go_enter Tryz.func120, Tryz.ntmps120
    go_wp2
    go_ret
    exact ⟨by simp [HN.out], Same.refl _⟩

set_option maxRecDepth 100000 in
set_option maxHeartbeats 2000000 in
theorem sl_equal_grt (v u : Value) (l m : List Grt) (B1 B2 : Nat) (w : World) (hv : Sls cGrt w B1 v l) (hu : Sls cGrt w B2 u m) :
    Calls Tryz.prog 141 #[v, u] w fun e w' => e = .returned (.bool (decide (l = m))) ∧ Same w w' := by
  obtain ⟨A1, cap1, rfl, hc1, hm1, hr1⟩ := id hv
  obtain ⟨A2, cap2, rfl, hc2, hm2, hr2⟩ := id hu
  have HV := Lib.hid hv
  have HU := Lib.hid hu
  clear hr1 hr2 hv hu
  unfold maxLen at hm1 hm2
  by_cases hl : l.length = m.length
  · have h0 : ((l.length : Int) != (m.length : Int)) = false := by simp [hl]
    have h1 : (l.length != m.length) = false := by simp [hl]
    have HL := Lib.hid hl
    clear hl
    go_enter Tryz.func141, Tryz.ntmps141
    go_wp2
    go_loopw [13] (fun i wr => ∃ k : Nat, k ≤ l.length ∧ i = .int .i64 k ∧ l.take k = m.take k ∧ Same w wr) (fun i _ => l.length - (intOf i).toNat)
    case atStart => exact ⟨0, by omega, rfl, by simp, Same.refl _⟩
    case round =>
      obtain ⟨k, hk, rfl, he, hs⟩ := hrel
      have HE := Lib.hid he
      clear he
      by_cases hlt : k < l.length
      · have hx : l[k]? = some l[k] := List.getElem?_eq_getElem hlt
        have hlt2 : k < m.length := by rw [← HL.out]; exact hlt
        have hy : m[k]? = some m[k] := List.getElem?_eq_getElem hlt2
        obtain ⟨b1, o1, rfl, _, r1⟩ := (HV.out.same hs).get 8 cGrt_len hx
        obtain ⟨b2, o2, rfl, _, r2⟩ := (HU.out.same hs).get 8 cGrt_len hy
        have ht1 : l.take (k + 1) = l.take k ++ [l[k]] := by rw [List.take_succ_eq_append_getElem hlt]
        have ht2 : m.take (k + 1) = m.take k ++ [m[k]] := by rw [List.take_succ_eq_append_getElem hlt2]
        have HT1 := Lib.hid ht1
        have HT2 := Lib.hid ht2
        have HS := Lib.hid hs
        clear hx hy ht1 ht2 hs
        generalize l[k] = x at *
        generalize m[k] = y at *
        have r1_0 : wr.cell? ⟨b1, o1 + k * 8, none⟩ = some (.int .i64 x.rect.c1) := r1 0 _ rfl
        have r1_1 : wr.cell? ⟨b1, o1 + k * 8 + 1, none⟩ = some (.int .i64 x.rect.r1) := r1 1 _ rfl
        have r1_2 : wr.cell? ⟨b1, o1 + k * 8 + 2, none⟩ = some (.int .i64 x.rect.c2) := r1 2 _ rfl
        have r1_3 : wr.cell? ⟨b1, o1 + k * 8 + 3, none⟩ = some (.int .i64 x.rect.r2) := r1 3 _ rfl
        have r1_4 : wr.cell? ⟨b1, o1 + k * 8 + 4, none⟩ = some (.int .u8 x.fns) := r1 4 _ rfl
        have r1_5 : wr.cell? ⟨b1, o1 + k * 8 + 5, none⟩ = some (.int .u64 x.to_) := r1 5 _ rfl
        have r1_6 : wr.cell? ⟨b1, o1 + k * 8 + 6, none⟩ = some (.int .i64 x.by_) := r1 6 _ rfl
        have r1_7 : wr.cell? ⟨b1, o1 + k * 8 + 7, none⟩ = some (.bool x.revoked) := r1 7 _ rfl
        have r2_0 : wr.cell? ⟨b2, o2 + k * 8, none⟩ = some (.int .i64 y.rect.c1) := r2 0 _ rfl
        have r2_1 : wr.cell? ⟨b2, o2 + k * 8 + 1, none⟩ = some (.int .i64 y.rect.r1) := r2 1 _ rfl
        have r2_2 : wr.cell? ⟨b2, o2 + k * 8 + 2, none⟩ = some (.int .i64 y.rect.c2) := r2 2 _ rfl
        have r2_3 : wr.cell? ⟨b2, o2 + k * 8 + 3, none⟩ = some (.int .i64 y.rect.r2) := r2 3 _ rfl
        have r2_4 : wr.cell? ⟨b2, o2 + k * 8 + 4, none⟩ = some (.int .u8 y.fns) := r2 4 _ rfl
        have r2_5 : wr.cell? ⟨b2, o2 + k * 8 + 5, none⟩ = some (.int .u64 y.to_) := r2 5 _ rfl
        have r2_6 : wr.cell? ⟨b2, o2 + k * 8 + 6, none⟩ = some (.int .i64 y.by_) := r2 6 _ rfl
        have r2_7 : wr.cell? ⟨b2, o2 + k * 8 + 7, none⟩ = some (.bool y.revoked) := r2 7 _ rfl
        have hn : ∀ W, (binOp .neq 85 (.agg #[.int .i64 x.rect.c1, .int .i64 x.rect.r1, .int .i64 x.rect.c2, .int .i64 x.rect.r2, .int .u8 x.fns, .int .u64 x.to_, .int .i64 x.by_, .bool x.revoked]) (.agg #[.int .i64 y.rect.c1, .int .i64 y.rect.r1, .int .i64 y.rect.c2, .int .i64 y.rect.r2, .int .u8 y.fns, .int .u64 y.to_, .int .i64 y.by_, .bool y.revoked])).run Tryz.prog W = .ok (.bool (!decide (x = y))) W := fun W => neq_grt x y W
        have hi0 : (0 : Int) ≤ (k : Int) := Int.natCast_nonneg _
        have hi1 : (k : Int) < (l.length : Int) := by omega
        have hi2 : (k : Int) < (m.length : Int) := by omega
        clear r1 r2
        by_cases hxy : x = y
        · have hd : decide (x = y) = true := by simpa using hxy
          rw [hd] at hn
          have HXY := Lib.hid hxy
          clear hd hxy
          go_wp2
          go_quiet (fail)
          go_wp2
          exact ⟨⟨k + 1, by omega, by go_num, by rw [HT1.out, HT2.out, HE.out, HXY.out], HS.out.drewN _⟩, by simp [intOf]; omega⟩
        · have hd : decide (x = y) = false := by simpa using hxy
          rw [hd] at hn
          have HXY := Lib.hid hxy
          clear hd hxy
          go_wp2
          go_quiet (fail)
          go_wp2
          go_ret
          have hne : ¬ l = m := by
            intro e
            have h2 := HT1.out
            rw [e, HT2.out, ← HE.out] at h2
            exact HXY.out (by simpa using h2.symm)
          exact ⟨by simp [hne], HS.out.drewN _⟩
      · go_wp2
        go_ret
        have h1 : k = l.length := by omega
        have h2 := HE.out
        rw [h1, List.take_length, HL.out, List.take_length] at h2
        exact ⟨by simp [h2], hs⟩
  · have h0 : ((l.length : Int) != (m.length : Int)) = true := by simpa using fun e => hl (by omega)
    have h1 : (l.length != m.length) = true := by simpa using hl
    have hne : ¬ l = m := fun e => hl (by rw [e])
    have HN := Lib.hid hne
    clear hne
    go_enter Tryz.func141, Tryz.ntmps141
    go_wp2
    go_ret
    exact ⟨by simp [HN.out], Same.refl _⟩

end Go.Proofs.YtamcgggmfghljaaGreatDoor

namespace Go.Proofs.YtamcgggmfghljaaGreatDoor
open Go.RowKit

set_option maxRecDepth 100000 in
set_option maxHeartbeats 2000000 in
theorem kit_equal_evt (v u : Value) (l m : List Evt) (B1 B2 : Nat) (w : World) (hv : Sls cEvt w B1 v l) (hu : Sls cEvt w B2 u m) :
    Calls Tryz.prog 121 #[v, u] w fun e w' => e = .returned (.bool (decide (l = m))) ∧ Same w w' := by
  obtain ⟨A1, cap1, rfl, hc1, hm1, hr1⟩ := id hv
  obtain ⟨A2, cap2, rfl, hc2, hm2, hr2⟩ := id hu
  have HV := Lib.hid hv
  have HU := Lib.hid hu
  clear hr1 hr2 hv hu
  unfold maxLen at hm1 hm2
  by_cases hl : l.length = m.length
  · have h0 : ((l.length : Int) != (m.length : Int)) = false := by simp [hl]
    have h1 : (l.length != m.length) = false := by simp [hl]
    have HL := Lib.hid hl
    clear hl
    go_enter Tryz.func121, Tryz.ntmps121
    go_wp2
    go_loopw [5] (fun i wr => ∃ k : Nat, k ≤ l.length ∧ i = .int .i64 k ∧ l.take k = m.take k ∧ Same w wr) (fun i _ => l.length - (intOf i).toNat)
    case atStart => exact ⟨0, by omega, rfl, by simp, Same.refl _⟩
    case round =>
      obtain ⟨k, hk, rfl, he, hs⟩ := hrel
      have HE := Lib.hid he
      clear he
      by_cases hlt : k < l.length
      · have hx : l[k]? = some l[k] := List.getElem?_eq_getElem hlt
        have hlt2 : k < m.length := by rw [← HL.out]; exact hlt
        have hy : m[k]? = some m[k] := List.getElem?_eq_getElem hlt2
        obtain ⟨b1, o1, rfl, _, r1⟩ := (HV.out.same hs).get 9 cEvt_len hx
        obtain ⟨b2, o2, rfl, _, r2⟩ := (HU.out.same hs).get 9 cEvt_len hy
        have ht1 : l.take (k + 1) = l.take k ++ [l[k]] := by rw [List.take_succ_eq_append_getElem hlt]
        have ht2 : m.take (k + 1) = m.take k ++ [m[k]] := by rw [List.take_succ_eq_append_getElem hlt2]
        have HT1 := Lib.hid ht1
        have HT2 := Lib.hid ht2
        have HS := Lib.hid hs
        clear hx hy ht1 ht2 hs
        generalize l[k] = x at *
        generalize m[k] = y at *
        have r1_0 : wr.cell? ⟨b1, o1 + k * 9, none⟩ = some (.int .i64 x.step) := r1 0 _ rfl
        have r1_1 : wr.cell? ⟨b1, o1 + k * 9 + 1, none⟩ = some (.int .i64 x.user) := r1 1 _ rfl
        have r1_2 : wr.cell? ⟨b1, o1 + k * 9 + 2, none⟩ = some (.int .u8 x.kind) := r1 2 _ rfl
        have r1_3 : wr.cell? ⟨b1, o1 + k * 9 + 3, none⟩ = some (.int .i64 x.rect.c1) := r1 3 _ rfl
        have r1_4 : wr.cell? ⟨b1, o1 + k * 9 + 4, none⟩ = some (.int .i64 x.rect.r1) := r1 4 _ rfl
        have r1_5 : wr.cell? ⟨b1, o1 + k * 9 + 5, none⟩ = some (.int .i64 x.rect.c2) := r1 5 _ rfl
        have r1_6 : wr.cell? ⟨b1, o1 + k * 9 + 6, none⟩ = some (.int .i64 x.rect.r2) := r1 6 _ rfl
        have r1_7 : wr.cell? ⟨b1, o1 + k * 9 + 7, none⟩ = some (.bool x.done_) := r1 7 _ rfl
        have r1_8 : wr.cell? ⟨b1, o1 + k * 9 + 8, none⟩ = some (.int .u64 x.to_) := r1 8 _ rfl
        have r2_0 : wr.cell? ⟨b2, o2 + k * 9, none⟩ = some (.int .i64 y.step) := r2 0 _ rfl
        have r2_1 : wr.cell? ⟨b2, o2 + k * 9 + 1, none⟩ = some (.int .i64 y.user) := r2 1 _ rfl
        have r2_2 : wr.cell? ⟨b2, o2 + k * 9 + 2, none⟩ = some (.int .u8 y.kind) := r2 2 _ rfl
        have r2_3 : wr.cell? ⟨b2, o2 + k * 9 + 3, none⟩ = some (.int .i64 y.rect.c1) := r2 3 _ rfl
        have r2_4 : wr.cell? ⟨b2, o2 + k * 9 + 4, none⟩ = some (.int .i64 y.rect.r1) := r2 4 _ rfl
        have r2_5 : wr.cell? ⟨b2, o2 + k * 9 + 5, none⟩ = some (.int .i64 y.rect.c2) := r2 5 _ rfl
        have r2_6 : wr.cell? ⟨b2, o2 + k * 9 + 6, none⟩ = some (.int .i64 y.rect.r2) := r2 6 _ rfl
        have r2_7 : wr.cell? ⟨b2, o2 + k * 9 + 7, none⟩ = some (.bool y.done_) := r2 7 _ rfl
        have r2_8 : wr.cell? ⟨b2, o2 + k * 9 + 8, none⟩ = some (.int .u64 y.to_) := r2 8 _ rfl
        have hn : ∀ W, (binOp .neq 110 (.agg #[.int .i64 x.step, .int .i64 x.user, .int .u8 x.kind, .int .i64 x.rect.c1, .int .i64 x.rect.r1, .int .i64 x.rect.c2, .int .i64 x.rect.r2, .bool x.done_, .int .u64 x.to_]) (.agg #[.int .i64 y.step, .int .i64 y.user, .int .u8 y.kind, .int .i64 y.rect.c1, .int .i64 y.rect.r1, .int .i64 y.rect.c2, .int .i64 y.rect.r2, .bool y.done_, .int .u64 y.to_])).run Tryz.prog W = .ok (.bool (!decide (x = y))) W := fun W => neq_evt x y W
        have hi0 : (0 : Int) ≤ (k : Int) := Int.natCast_nonneg _
        have hi1 : (k : Int) < (l.length : Int) := by omega
        have hi2 : (k : Int) < (m.length : Int) := by omega
        clear r1 r2
        by_cases hxy : x = y
        · have hd : decide (x = y) = true := by simpa using hxy
          rw [hd] at hn
          have HXY := Lib.hid hxy
          clear hd hxy
          go_wp2
          go_quiet (fail)
          go_wp2
          exact ⟨⟨k + 1, by omega, by go_num, by rw [HT1.out, HT2.out, HE.out, HXY.out], HS.out.drewN _⟩, by simp [intOf]; omega⟩
        · have hd : decide (x = y) = false := by simpa using hxy
          rw [hd] at hn
          have HXY := Lib.hid hxy
          clear hd hxy
          go_wp2
          go_quiet (fail)
          go_wp2
          go_ret
          have hne : ¬ l = m := by
            intro e
            have h2 := HT1.out
            rw [e, HT2.out, ← HE.out] at h2
            exact HXY.out (by simpa using h2.symm)
          exact ⟨by simp [hne], HS.out.drewN _⟩
      · go_wp2
        go_ret
        have h1 : k = l.length := by omega
        have h2 := HE.out
        rw [h1, List.take_length, HL.out, List.take_length] at h2
        exact ⟨by simp [h2], hs⟩
  · have h0 : ((l.length : Int) != (m.length : Int)) = true := by simpa using fun e => hl (by omega)
    have h1 : (l.length != m.length) = true := by simpa using hl
    have hne : ¬ l = m := fun e => hl (by rw [e])
    have HN := Lib.hid hne
    clear hne
    go_enter Tryz.func121, Tryz.ntmps121
    go_wp2
    go_ret
    exact ⟨by simp [HN.out], Same.refl _⟩

set_option maxRecDepth 100000 in
set_option maxHeartbeats 2000000 in
theorem sl_equal_evt (v u : Value) (l m : List Evt) (B1 B2 : Nat) (w : World) (hv : Sls cEvt w B1 v l) (hu : Sls cEvt w B2 u m) :
    Calls Tryz.prog 142 #[v, u] w fun e w' => e = .returned (.bool (decide (l = m))) ∧ Same w w' := by
  obtain ⟨A1, cap1, rfl, hc1, hm1, hr1⟩ := id hv
  obtain ⟨A2, cap2, rfl, hc2, hm2, hr2⟩ := id hu
  have HV := Lib.hid hv
  have HU := Lib.hid hu
  clear hr1 hr2 hv hu
  unfold maxLen at hm1 hm2
  by_cases hl : l.length = m.length
  · have h0 : ((l.length : Int) != (m.length : Int)) = false := by simp [hl]
    have h1 : (l.length != m.length) = false := by simp [hl]
    have HL := Lib.hid hl
    clear hl
    go_enter Tryz.func142, Tryz.ntmps142
    go_wp2
    go_loopw [13] (fun i wr => ∃ k : Nat, k ≤ l.length ∧ i = .int .i64 k ∧ l.take k = m.take k ∧ Same w wr) (fun i _ => l.length - (intOf i).toNat)
    case atStart => exact ⟨0, by omega, rfl, by simp, Same.refl _⟩
    case round =>
      obtain ⟨k, hk, rfl, he, hs⟩ := hrel
      have HE := Lib.hid he
      clear he
      by_cases hlt : k < l.length
      · have hx : l[k]? = some l[k] := List.getElem?_eq_getElem hlt
        have hlt2 : k < m.length := by rw [← HL.out]; exact hlt
        have hy : m[k]? = some m[k] := List.getElem?_eq_getElem hlt2
        obtain ⟨b1, o1, rfl, _, r1⟩ := (HV.out.same hs).get 9 cEvt_len hx
        obtain ⟨b2, o2, rfl, _, r2⟩ := (HU.out.same hs).get 9 cEvt_len hy
        have ht1 : l.take (k + 1) = l.take k ++ [l[k]] := by rw [List.take_succ_eq_append_getElem hlt]
        have ht2 : m.take (k + 1) = m.take k ++ [m[k]] := by rw [List.take_succ_eq_append_getElem hlt2]
        have HT1 := Lib.hid ht1
        have HT2 := Lib.hid ht2
        have HS := Lib.hid hs
        clear hx hy ht1 ht2 hs
        generalize l[k] = x at *
        generalize m[k] = y at *
        have r1_0 : wr.cell? ⟨b1, o1 + k * 9, none⟩ = some (.int .i64 x.step) := r1 0 _ rfl
        have r1_1 : wr.cell? ⟨b1, o1 + k * 9 + 1, none⟩ = some (.int .i64 x.user) := r1 1 _ rfl
        have r1_2 : wr.cell? ⟨b1, o1 + k * 9 + 2, none⟩ = some (.int .u8 x.kind) := r1 2 _ rfl
        have r1_3 : wr.cell? ⟨b1, o1 + k * 9 + 3, none⟩ = some (.int .i64 x.rect.c1) := r1 3 _ rfl
        have r1_4 : wr.cell? ⟨b1, o1 + k * 9 + 4, none⟩ = some (.int .i64 x.rect.r1) := r1 4 _ rfl
        have r1_5 : wr.cell? ⟨b1, o1 + k * 9 + 5, none⟩ = some (.int .i64 x.rect.c2) := r1 5 _ rfl
        have r1_6 : wr.cell? ⟨b1, o1 + k * 9 + 6, none⟩ = some (.int .i64 x.rect.r2) := r1 6 _ rfl
        have r1_7 : wr.cell? ⟨b1, o1 + k * 9 + 7, none⟩ = some (.bool x.done_) := r1 7 _ rfl
        have r1_8 : wr.cell? ⟨b1, o1 + k * 9 + 8, none⟩ = some (.int .u64 x.to_) := r1 8 _ rfl
        have r2_0 : wr.cell? ⟨b2, o2 + k * 9, none⟩ = some (.int .i64 y.step) := r2 0 _ rfl
        have r2_1 : wr.cell? ⟨b2, o2 + k * 9 + 1, none⟩ = some (.int .i64 y.user) := r2 1 _ rfl
        have r2_2 : wr.cell? ⟨b2, o2 + k * 9 + 2, none⟩ = some (.int .u8 y.kind) := r2 2 _ rfl
        have r2_3 : wr.cell? ⟨b2, o2 + k * 9 + 3, none⟩ = some (.int .i64 y.rect.c1) := r2 3 _ rfl
        have r2_4 : wr.cell? ⟨b2, o2 + k * 9 + 4, none⟩ = some (.int .i64 y.rect.r1) := r2 4 _ rfl
        have r2_5 : wr.cell? ⟨b2, o2 + k * 9 + 5, none⟩ = some (.int .i64 y.rect.c2) := r2 5 _ rfl
        have r2_6 : wr.cell? ⟨b2, o2 + k * 9 + 6, none⟩ = some (.int .i64 y.rect.r2) := r2 6 _ rfl
        have r2_7 : wr.cell? ⟨b2, o2 + k * 9 + 7, none⟩ = some (.bool y.done_) := r2 7 _ rfl
        have r2_8 : wr.cell? ⟨b2, o2 + k * 9 + 8, none⟩ = some (.int .u64 y.to_) := r2 8 _ rfl
        have hn : ∀ W, (binOp .neq 110 (.agg #[.int .i64 x.step, .int .i64 x.user, .int .u8 x.kind, .int .i64 x.rect.c1, .int .i64 x.rect.r1, .int .i64 x.rect.c2, .int .i64 x.rect.r2, .bool x.done_, .int .u64 x.to_]) (.agg #[.int .i64 y.step, .int .i64 y.user, .int .u8 y.kind, .int .i64 y.rect.c1, .int .i64 y.rect.r1, .int .i64 y.rect.c2, .int .i64 y.rect.r2, .bool y.done_, .int .u64 y.to_])).run Tryz.prog W = .ok (.bool (!decide (x = y))) W := fun W => neq_evt x y W
        have hi0 : (0 : Int) ≤ (k : Int) := Int.natCast_nonneg _
        have hi1 : (k : Int) < (l.length : Int) := by omega
        have hi2 : (k : Int) < (m.length : Int) := by omega
        clear r1 r2
        by_cases hxy : x = y
        · have hd : decide (x = y) = true := by simpa using hxy
          rw [hd] at hn
          have HXY := Lib.hid hxy
          clear hd hxy
          go_wp2
          go_quiet (fail)
          go_wp2
          exact ⟨⟨k + 1, by omega, by go_num, by rw [HT1.out, HT2.out, HE.out, HXY.out], HS.out.drewN _⟩, by simp [intOf]; omega⟩
        · have hd : decide (x = y) = false := by simpa using hxy
          rw [hd] at hn
          have HXY := Lib.hid hxy
          clear hd hxy
          go_wp2
          go_quiet (fail)
          go_wp2
          go_ret
          have hne : ¬ l = m := by
            intro e
            have h2 := HT1.out
            rw [e, HT2.out, ← HE.out] at h2
            exact HXY.out (by simpa using h2.symm)
          exact ⟨by simp [hne], HS.out.drewN _⟩
      · go_wp2
        go_ret
        have h1 : k = l.length := by omega
        have h2 := HE.out
        rw [h1, List.take_length, HL.out, List.take_length] at h2
        exact ⟨by simp [h2], hs⟩
  · have h0 : ((l.length : Int) != (m.length : Int)) = true := by simpa using fun e => hl (by omega)
    have h1 : (l.length != m.length) = true := by simpa using hl
    have hne : ¬ l = m := fun e => hl (by rw [e])
    have HN := Lib.hid hne
    clear hne
    go_enter Tryz.func142, Tryz.ntmps142
    go_wp2
    go_ret
    exact ⟨by simp [HN.out], Same.refl _⟩

end Go.Proofs.YtamcgggmfghljaaGreatDoor

namespace Go.Proofs.YtamcgggmfghljaaGreatDoor
open Go.RowKit

set_option maxRecDepth 100000 in
set_option maxHeartbeats 2000000 in
theorem kit_equal_rls (v u : Value) (l m : List Rls) (B1 B2 : Nat) (w : World) (hv : Sls cRls w B1 v l) (hu : Sls cRls w B2 u m) :
    Calls Tryz.prog 122 #[v, u] w fun e w' => e = .returned (.bool (decide (l = m))) ∧ Same w w' := by
  obtain ⟨A1, cap1, rfl, hc1, hm1, hr1⟩ := id hv
  obtain ⟨A2, cap2, rfl, hc2, hm2, hr2⟩ := id hu
  have HV := Lib.hid hv
  have HU := Lib.hid hu
  clear hr1 hr2 hv hu
  unfold maxLen at hm1 hm2
  by_cases hl : l.length = m.length
  · have h0 : ((l.length : Int) != (m.length : Int)) = false := by simp [hl]
    have h1 : (l.length != m.length) = false := by simp [hl]
    have HL := Lib.hid hl
    clear hl
    go_enter Tryz.func122, Tryz.ntmps122
    go_wp2
    go_loopw [5] (fun i wr => ∃ k : Nat, k ≤ l.length ∧ i = .int .i64 k ∧ l.take k = m.take k ∧ Same w wr) (fun i _ => l.length - (intOf i).toNat)
    case atStart => exact ⟨0, by omega, rfl, by simp, Same.refl _⟩
    case round =>
      obtain ⟨k, hk, rfl, he, hs⟩ := hrel
      have HE := Lib.hid he
      clear he
      by_cases hlt : k < l.length
      · have hx : l[k]? = some l[k] := List.getElem?_eq_getElem hlt
        have hlt2 : k < m.length := by rw [← HL.out]; exact hlt
        have hy : m[k]? = some m[k] := List.getElem?_eq_getElem hlt2
        obtain ⟨b1, o1, rfl, _, r1⟩ := (HV.out.same hs).get 11 cRls_len hx
        obtain ⟨b2, o2, rfl, _, r2⟩ := (HU.out.same hs).get 11 cRls_len hy
        have ht1 : l.take (k + 1) = l.take k ++ [l[k]] := by rw [List.take_succ_eq_append_getElem hlt]
        have ht2 : m.take (k + 1) = m.take k ++ [m[k]] := by rw [List.take_succ_eq_append_getElem hlt2]
        have HT1 := Lib.hid ht1
        have HT2 := Lib.hid ht2
        have HS := Lib.hid hs
        clear hx hy ht1 ht2 hs
        generalize l[k] = x at *
        generalize m[k] = y at *
        have r1_0 : wr.cell? ⟨b1, o1 + k * 11, none⟩ = some (.int .i64 x.step) := r1 0 _ rfl
        have r1_1 : wr.cell? ⟨b1, o1 + k * 11 + 1, none⟩ = some (.int .i64 x.at_.col) := r1 1 _ rfl
        have r1_2 : wr.cell? ⟨b1, o1 + k * 11 + 2, none⟩ = some (.int .i64 x.at_.row) := r1 2 _ rfl
        have r1_3 : wr.cell? ⟨b1, o1 + k * 11 + 3, none⟩ = some (.int .i64 x.node) := r1 3 _ rfl
        have r1_4 : wr.cell? ⟨b1, o1 + k * 11 + 4, none⟩ = some (.int .u8 x.fn) := r1 4 _ rfl
        have r1_5 : wr.cell? ⟨b1, o1 + k * 11 + 5, none⟩ = some (.int .i64 x.rect.c1) := r1 5 _ rfl
        have r1_6 : wr.cell? ⟨b1, o1 + k * 11 + 6, none⟩ = some (.int .i64 x.rect.r1) := r1 6 _ rfl
        have r1_7 : wr.cell? ⟨b1, o1 + k * 11 + 7, none⟩ = some (.int .i64 x.rect.c2) := r1 7 _ rfl
        have r1_8 : wr.cell? ⟨b1, o1 + k * 11 + 8, none⟩ = some (.int .i64 x.rect.r2) := r1 8 _ rfl
        have r1_9 : wr.cell? ⟨b1, o1 + k * 11 + 9, none⟩ = some (.int .i64 x.grant) := r1 9 _ rfl
        have r1_10 : wr.cell? ⟨b1, o1 + k * 11 + 10, none⟩ = some (.int .u64 x.to_) := r1 10 _ rfl
        have r2_0 : wr.cell? ⟨b2, o2 + k * 11, none⟩ = some (.int .i64 y.step) := r2 0 _ rfl
        have r2_1 : wr.cell? ⟨b2, o2 + k * 11 + 1, none⟩ = some (.int .i64 y.at_.col) := r2 1 _ rfl
        have r2_2 : wr.cell? ⟨b2, o2 + k * 11 + 2, none⟩ = some (.int .i64 y.at_.row) := r2 2 _ rfl
        have r2_3 : wr.cell? ⟨b2, o2 + k * 11 + 3, none⟩ = some (.int .i64 y.node) := r2 3 _ rfl
        have r2_4 : wr.cell? ⟨b2, o2 + k * 11 + 4, none⟩ = some (.int .u8 y.fn) := r2 4 _ rfl
        have r2_5 : wr.cell? ⟨b2, o2 + k * 11 + 5, none⟩ = some (.int .i64 y.rect.c1) := r2 5 _ rfl
        have r2_6 : wr.cell? ⟨b2, o2 + k * 11 + 6, none⟩ = some (.int .i64 y.rect.r1) := r2 6 _ rfl
        have r2_7 : wr.cell? ⟨b2, o2 + k * 11 + 7, none⟩ = some (.int .i64 y.rect.c2) := r2 7 _ rfl
        have r2_8 : wr.cell? ⟨b2, o2 + k * 11 + 8, none⟩ = some (.int .i64 y.rect.r2) := r2 8 _ rfl
        have r2_9 : wr.cell? ⟨b2, o2 + k * 11 + 9, none⟩ = some (.int .i64 y.grant) := r2 9 _ rfl
        have r2_10 : wr.cell? ⟨b2, o2 + k * 11 + 10, none⟩ = some (.int .u64 y.to_) := r2 10 _ rfl
        have hn : ∀ W, (binOp .neq 116 (.agg #[.int .i64 x.step, .int .i64 x.at_.col, .int .i64 x.at_.row, .int .i64 x.node, .int .u8 x.fn, .int .i64 x.rect.c1, .int .i64 x.rect.r1, .int .i64 x.rect.c2, .int .i64 x.rect.r2, .int .i64 x.grant, .int .u64 x.to_]) (.agg #[.int .i64 y.step, .int .i64 y.at_.col, .int .i64 y.at_.row, .int .i64 y.node, .int .u8 y.fn, .int .i64 y.rect.c1, .int .i64 y.rect.r1, .int .i64 y.rect.c2, .int .i64 y.rect.r2, .int .i64 y.grant, .int .u64 y.to_])).run Tryz.prog W = .ok (.bool (!decide (x = y))) W := fun W => neq_rls x y W
        have hi0 : (0 : Int) ≤ (k : Int) := Int.natCast_nonneg _
        have hi1 : (k : Int) < (l.length : Int) := by omega
        have hi2 : (k : Int) < (m.length : Int) := by omega
        clear r1 r2
        by_cases hxy : x = y
        · have hd : decide (x = y) = true := by simpa using hxy
          rw [hd] at hn
          have HXY := Lib.hid hxy
          clear hd hxy
          go_wp2
          go_quiet (fail)
          go_wp2
          exact ⟨⟨k + 1, by omega, by go_num, by rw [HT1.out, HT2.out, HE.out, HXY.out], HS.out.drewN _⟩, by simp [intOf]; omega⟩
        · have hd : decide (x = y) = false := by simpa using hxy
          rw [hd] at hn
          have HXY := Lib.hid hxy
          clear hd hxy
          go_wp2
          go_quiet (fail)
          go_wp2
          go_ret
          have hne : ¬ l = m := by
            intro e
            have h2 := HT1.out
            rw [e, HT2.out, ← HE.out] at h2
            exact HXY.out (by simpa using h2.symm)
          exact ⟨by simp [hne], HS.out.drewN _⟩
      · go_wp2
        go_ret
        have h1 : k = l.length := by omega
        have h2 := HE.out
        rw [h1, List.take_length, HL.out, List.take_length] at h2
        exact ⟨by simp [h2], hs⟩
  · have h0 : ((l.length : Int) != (m.length : Int)) = true := by simpa using fun e => hl (by omega)
    have h1 : (l.length != m.length) = true := by simpa using hl
    have hne : ¬ l = m := fun e => hl (by rw [e])
    have HN := Lib.hid hne
    clear hne
    go_enter Tryz.func122, Tryz.ntmps122
    go_wp2
    go_ret
    exact ⟨by simp [HN.out], Same.refl _⟩

set_option maxRecDepth 100000 in
set_option maxHeartbeats 2000000 in
theorem sl_equal_rls (v u : Value) (l m : List Rls) (B1 B2 : Nat) (w : World) (hv : Sls cRls w B1 v l) (hu : Sls cRls w B2 u m) :
    Calls Tryz.prog 143 #[v, u] w fun e w' => e = .returned (.bool (decide (l = m))) ∧ Same w w' := by
  obtain ⟨A1, cap1, rfl, hc1, hm1, hr1⟩ := id hv
  obtain ⟨A2, cap2, rfl, hc2, hm2, hr2⟩ := id hu
  have HV := Lib.hid hv
  have HU := Lib.hid hu
  clear hr1 hr2 hv hu
  unfold maxLen at hm1 hm2
  by_cases hl : l.length = m.length
  · have h0 : ((l.length : Int) != (m.length : Int)) = false := by simp [hl]
    have h1 : (l.length != m.length) = false := by simp [hl]
    have HL := Lib.hid hl
    clear hl
    go_enter Tryz.func143, Tryz.ntmps143
    go_wp2
    go_loopw [13] (fun i wr => ∃ k : Nat, k ≤ l.length ∧ i = .int .i64 k ∧ l.take k = m.take k ∧ Same w wr) (fun i _ => l.length - (intOf i).toNat)
    case atStart => exact ⟨0, by omega, rfl, by simp, Same.refl _⟩
    case round =>
      obtain ⟨k, hk, rfl, he, hs⟩ := hrel
      have HE := Lib.hid he
      clear he
      by_cases hlt : k < l.length
      · have hx : l[k]? = some l[k] := List.getElem?_eq_getElem hlt
        have hlt2 : k < m.length := by rw [← HL.out]; exact hlt
        have hy : m[k]? = some m[k] := List.getElem?_eq_getElem hlt2
        obtain ⟨b1, o1, rfl, _, r1⟩ := (HV.out.same hs).get 11 cRls_len hx
        obtain ⟨b2, o2, rfl, _, r2⟩ := (HU.out.same hs).get 11 cRls_len hy
        have ht1 : l.take (k + 1) = l.take k ++ [l[k]] := by rw [List.take_succ_eq_append_getElem hlt]
        have ht2 : m.take (k + 1) = m.take k ++ [m[k]] := by rw [List.take_succ_eq_append_getElem hlt2]
        have HT1 := Lib.hid ht1
        have HT2 := Lib.hid ht2
        have HS := Lib.hid hs
        clear hx hy ht1 ht2 hs
        generalize l[k] = x at *
        generalize m[k] = y at *
        have r1_0 : wr.cell? ⟨b1, o1 + k * 11, none⟩ = some (.int .i64 x.step) := r1 0 _ rfl
        have r1_1 : wr.cell? ⟨b1, o1 + k * 11 + 1, none⟩ = some (.int .i64 x.at_.col) := r1 1 _ rfl
        have r1_2 : wr.cell? ⟨b1, o1 + k * 11 + 2, none⟩ = some (.int .i64 x.at_.row) := r1 2 _ rfl
        have r1_3 : wr.cell? ⟨b1, o1 + k * 11 + 3, none⟩ = some (.int .i64 x.node) := r1 3 _ rfl
        have r1_4 : wr.cell? ⟨b1, o1 + k * 11 + 4, none⟩ = some (.int .u8 x.fn) := r1 4 _ rfl
        have r1_5 : wr.cell? ⟨b1, o1 + k * 11 + 5, none⟩ = some (.int .i64 x.rect.c1) := r1 5 _ rfl
        have r1_6 : wr.cell? ⟨b1, o1 + k * 11 + 6, none⟩ = some (.int .i64 x.rect.r1) := r1 6 _ rfl
        have r1_7 : wr.cell? ⟨b1, o1 + k * 11 + 7, none⟩ = some (.int .i64 x.rect.c2) := r1 7 _ rfl
        have r1_8 : wr.cell? ⟨b1, o1 + k * 11 + 8, none⟩ = some (.int .i64 x.rect.r2) := r1 8 _ rfl
        have r1_9 : wr.cell? ⟨b1, o1 + k * 11 + 9, none⟩ = some (.int .i64 x.grant) := r1 9 _ rfl
        have r1_10 : wr.cell? ⟨b1, o1 + k * 11 + 10, none⟩ = some (.int .u64 x.to_) := r1 10 _ rfl
        have r2_0 : wr.cell? ⟨b2, o2 + k * 11, none⟩ = some (.int .i64 y.step) := r2 0 _ rfl
        have r2_1 : wr.cell? ⟨b2, o2 + k * 11 + 1, none⟩ = some (.int .i64 y.at_.col) := r2 1 _ rfl
        have r2_2 : wr.cell? ⟨b2, o2 + k * 11 + 2, none⟩ = some (.int .i64 y.at_.row) := r2 2 _ rfl
        have r2_3 : wr.cell? ⟨b2, o2 + k * 11 + 3, none⟩ = some (.int .i64 y.node) := r2 3 _ rfl
        have r2_4 : wr.cell? ⟨b2, o2 + k * 11 + 4, none⟩ = some (.int .u8 y.fn) := r2 4 _ rfl
        have r2_5 : wr.cell? ⟨b2, o2 + k * 11 + 5, none⟩ = some (.int .i64 y.rect.c1) := r2 5 _ rfl
        have r2_6 : wr.cell? ⟨b2, o2 + k * 11 + 6, none⟩ = some (.int .i64 y.rect.r1) := r2 6 _ rfl
        have r2_7 : wr.cell? ⟨b2, o2 + k * 11 + 7, none⟩ = some (.int .i64 y.rect.c2) := r2 7 _ rfl
        have r2_8 : wr.cell? ⟨b2, o2 + k * 11 + 8, none⟩ = some (.int .i64 y.rect.r2) := r2 8 _ rfl
        have r2_9 : wr.cell? ⟨b2, o2 + k * 11 + 9, none⟩ = some (.int .i64 y.grant) := r2 9 _ rfl
        have r2_10 : wr.cell? ⟨b2, o2 + k * 11 + 10, none⟩ = some (.int .u64 y.to_) := r2 10 _ rfl
        have hn : ∀ W, (binOp .neq 116 (.agg #[.int .i64 x.step, .int .i64 x.at_.col, .int .i64 x.at_.row, .int .i64 x.node, .int .u8 x.fn, .int .i64 x.rect.c1, .int .i64 x.rect.r1, .int .i64 x.rect.c2, .int .i64 x.rect.r2, .int .i64 x.grant, .int .u64 x.to_]) (.agg #[.int .i64 y.step, .int .i64 y.at_.col, .int .i64 y.at_.row, .int .i64 y.node, .int .u8 y.fn, .int .i64 y.rect.c1, .int .i64 y.rect.r1, .int .i64 y.rect.c2, .int .i64 y.rect.r2, .int .i64 y.grant, .int .u64 y.to_])).run Tryz.prog W = .ok (.bool (!decide (x = y))) W := fun W => neq_rls x y W
        have hi0 : (0 : Int) ≤ (k : Int) := Int.natCast_nonneg _
        have hi1 : (k : Int) < (l.length : Int) := by omega
        have hi2 : (k : Int) < (m.length : Int) := by omega
        clear r1 r2
        by_cases hxy : x = y
        · have hd : decide (x = y) = true := by simpa using hxy
          rw [hd] at hn
          have HXY := Lib.hid hxy
          clear hd hxy
          go_wp2
          go_quiet (fail)
          go_wp2
          exact ⟨⟨k + 1, by omega, by go_num, by rw [HT1.out, HT2.out, HE.out, HXY.out], HS.out.drewN _⟩, by simp [intOf]; omega⟩
        · have hd : decide (x = y) = false := by simpa using hxy
          rw [hd] at hn
          have HXY := Lib.hid hxy
          clear hd hxy
          go_wp2
          go_quiet (fail)
          go_wp2
          go_ret
          have hne : ¬ l = m := by
            intro e
            have h2 := HT1.out
            rw [e, HT2.out, ← HE.out] at h2
            exact HXY.out (by simpa using h2.symm)
          exact ⟨by simp [hne], HS.out.drewN _⟩
      · go_wp2
        go_ret
        have h1 : k = l.length := by omega
        have h2 := HE.out
        rw [h1, List.take_length, HL.out, List.take_length] at h2
        exact ⟨by simp [h2], hs⟩
  · have h0 : ((l.length : Int) != (m.length : Int)) = true := by simpa using fun e => hl (by omega)
    have h1 : (l.length != m.length) = true := by simpa using hl
    have hne : ¬ l = m := fun e => hl (by rw [e])
    have HN := Lib.hid hne
    clear hne
    go_enter Tryz.func143, Tryz.ntmps143
    go_wp2
    go_ret
    exact ⟨by simp [HN.out], Same.refl _⟩

end Go.Proofs.YtamcgggmfghljaaGreatDoor
