/- Go's slices.Insert of one entry. · Go's slices.Insert of one entry: no room; all cases. · Layer 41 (program): an entry put where there is none; the content that is a digit. · Layer 41 (program): an entry put at its place. -/
import Derived.Lib.Overlaps
import Derived.Deep.QuietTactic
import Derived.BigQuiet
import Derived.Test.YtamcgggmfghljaaGreatDoorC5
set_option maxRecDepth 100000
set_option maxHeartbeats 8000000
namespace Go.Proofs.YtamcgggmfghljaaGreatDoor
open Go.RowKit
theorem ent_all (l : List Ent) : ∀ u ∈ l.flatMap cEnt, u.oneCell' = true := by
  intro u hu
  obtain ⟨x, _, hx⟩ := List.mem_flatMap.1 hu
  exact cEnt_one x u hx
theorem info_ent : ∃ i, Tryz.prog.info? 58 = some i ∧ i.zero = some (.agg #[.int .i64 0, .int .i64 0, .string ⟨#[]⟩]) ∧ i.size = 3 ∧ i.bytes = 32 :=
  info_parts (show (Tryz.prog.info? 58).map (fun i => (i.zero, i.size, i.bytes)) = some (some (.agg #[.int .i64 0, .int .i64 0, .string ⟨#[]⟩]), 3, 32) by kernel_rfl)
/-- At the end. -/
theorem insert_end (v sv : Value) (l : List Ent) (x : Ent) (B : Nat) (w : World) (hown : Own cEnt 58 3 w v l) (hs : Sls cEnt w B sv [x]) (hl : l.length ≤ 1000) :
    Calls Tryz.prog 128 #[v, .int .i64 l.length, sv] w fun e w' => ∃ v', e = .returned v' ∧ Own cEnt 58 3 w' v' (l ++ [x]) ∧ OutTo w v w' v' := by
  obtain ⟨i0, hi0, hz0, hz1, hz2⟩ := info_ent
  obtain ⟨A, cap, rfl, hc, hm, hr⟩ := id hs
  have HS := Lib.hid hs
  clear hs hr
  simp only [List.length_singleton]
  have HS2 := Lib.hid (show Sls cEnt w B (.slice A 1 cap) [x] from HS.out)
  rcases Nat.eq_zero_or_pos l.length with h0 | h0
  · have hn : l = [] := List.eq_nil_of_length_eq_zero h0
    subst hn
    have hv : v = .slice none 0 0 ∨ ∃ g c, v = .slice (some ⟨g, 0, none⟩) 0 c := by
      rcases hown.2 with ⟨rfl, _⟩ | ⟨g, c, cur, rfl, _⟩
      · exact .inl rfl
      · exact .inr ⟨g, c, rfl⟩
    have HO := Lib.hid hown
    clear hown
    rcases hv with rfl | ⟨g, c, rfl⟩
    all_goals
      go_enter Tryz.func128, Tryz.ntmps128
      go_wp2_with (first
        | (at_builtin
           refine wpList_more cEnt rfl _ _ 22 rfl 58 i0 _ 3 32 Tryz.underlying22 hi0 hz0 hz1 hz2 rfl (by omega) _ [] rfl HO.out B _ [x] rfl HS2.out cEnt_len cEnt_one (by simp) (by omega) ?_
           intro v1 w1 o1 t1))
      go_ret
      exact ⟨v1, rfl, o1, t1⟩
  · obtain ⟨g, c, cur, rfl, hg, hnc, hcm, hcs, ht⟩ := hown.row cEnt_len h0
    unfold maxLen at hcm
    have HO := Lib.hid hown
    clear hown hg ht hcs
    have i2 : (l.length : Int) ≤ (c : Int) := by omega
    by_cases hcl : c = l.length
    all_goals
      go_enter Tryz.func128, Tryz.ntmps128
      go_wp2_with (first
        | (at_builtin
           refine wpList_more cEnt rfl _ _ 22 rfl 58 i0 _ 3 32 Tryz.underlying22 hi0 hz0 hz1 hz2 rfl (by omega) (.slice (some ⟨g, 0, none⟩) l.length c) l rfl HO.out B _ [x] rfl HS2.out cEnt_len cEnt_one (by simp; omega) (by omega) ?_
           intro v1 w1 o1 t1))
      go_ret
      exact ⟨v1, rfl, o1, t1⟩
theorem Blk.shape {w : World} {g : Nat} {t : TypeId} {cs : Array Value} (h : Blk w g t cs) : w.shape? g = some (t, cs.size) := by
  unfold Blk at h
  simp [World.shape?, h]
/-- There is room. -/
theorem insert_room (l : List Ent) (x : Ent) (i g g2 cap : Nat) (cur : Array Value) (w : World) (hg : Blk w g 58 cur) (hroom : l.length + 1 ≤ cap) (_hcm : cap ≤ 9223372036854775807) (hcs : cur.size = cap * 3) (ht : cur.toList.take (l.length * 3) = l.flatMap cEnt)
    (hk : Blk w g2 58 (cEnt x).toArray) (hne : g2 ≠ g) (hi : i < l.length) (hl : l.length ≤ 1000) :
    Calls Tryz.prog 128 #[.slice (some ⟨g, 0, none⟩) l.length cap, .int .i64 i, .slice (some ⟨g2, 0, none⟩) 1 1] w fun e w' => e = .returned (.slice (some ⟨g, 0, none⟩) (l.length + 1) cap) ∧ w' = (w.drew.setRow g (splice cur.toList ((i + 1) * 3) ((l.drop i).flatMap cEnt)).toArray).setRow g (splice (splice cur.toList ((i + 1) * 3) ((l.drop i).flatMap cEnt)) (i * 3) (cEnt x)).toArray := by
  obtain ⟨i0, hi0, hz0, hz1, hz2⟩ := info_ent
  have hov : ∀ lb cb, (callFunc 181 #[.slice (some ⟨g2, 0, none⟩) 1 1, .slice (some ⟨g, (i + 1) * 3, none⟩) lb cb]).run Tryz.prog w = .ok (.value (.bool false)) w := fun lb cb => by
    rw [run_callFunc_extern Tryz.func181 (by kernel_rfl) (by kernel_rfl) (by kernel_rfl) (e := Extern.SlicesOverlaps.overlaps #[22, 22] #[4]) (by kernel_rfl),
      Lib.run_overlaps_apart w 22 4 58 Tryz.underlying22 3 (fun W => by simp [sizeOf, typeInfo, hi0, hz1]) ⟨g2, 0, none⟩ ⟨g, (i + 1) * 3, none⟩ 1 1 lb cb hne 58 58 3 cur.size hk.shape hg.shape (by omega) (hk.frozen 0) (hk.frozen 3)]
    rfl
  have hdl : ((l.drop i).flatMap cEnt).length = (l.length - i) * 3 := by rw [flatMap_length cEnt 3 cEnt_len, List.length_drop]
  have q4 : cur.toList.length = cur.size := Array.length_toList
  have m1 : Nat.min (l.length + 1 - i) (l.length + 1 - (i + 1)) = l.length - i := by show min _ _ = _; omega
  have m2 : Nat.min 1 (l.length + 1 - i) = 1 := by show min _ _ = _; omega
  have c1 := run_copy_k (P := Tryz.prog) (w := w.drew) 22 22 3 58 i0 3 g ((i + 1) * 3) (l.length + 1 - (i + 1)) (cap - (i + 1)) ⟨g, i * 3, none⟩ (l.length + 1 - i) (cap - i) cur 58 ((l.drop i).flatMap cEnt) Tryz.underlying22 hi0 hz1 hg
    (by rw [hdl, m1]) (fun j v hj => by rw [addr_at]; exact (hg.cell _).trans (by have := row_at cEnt_len ht i j v hj; rwa [Array.getElem?_toList] at this)) (by rw [hdl]; omega) (ent_all _)
  obtain ⟨cur2, hcur2⟩ : ∃ c2, c2 = splice cur.toList ((i + 1) * 3) ((l.drop i).flatMap cEnt) := ⟨_, rfl⟩
  rw [← hcur2] at c1
  have hl2 : cur2.length = cur.size := by rw [hcur2]; exact (length_splice _ _ _ (by omega)).trans q4
  have hg2 := setRow_heap w.drew g cur cur2.toArray 58 (0, 0) hg
  have hk2 : Blk (w.drew.setRow g cur2.toArray) g2 58 (cEnt x).toArray := (setRow_other _ _ _ _ hne).trans hk
  have c2 := run_copy_k (P := Tryz.prog) (w := w.drew.setRow g cur2.toArray) 22 22 3 58 i0 3 g (i * 3) (l.length + 1 - i) (cap - i) ⟨g2, 0, none⟩ 1 1 cur2.toArray 58 (cEnt x) Tryz.underlying22 hi0 hz1 hg2
    (by rw [cEnt_len, m2]) (fun j v hj => by rw [addr_at, Nat.zero_add]; exact (hk2.cell _).trans (List.getElem?_toArray.trans hj)) (by rw [cEnt_len, List.size_toArray]; omega) (cEnt_one x)
  rw [show (cur2.toArray).toList = cur2 from rfl] at c2
  have C1 := Lib.hid c1
  have HU := Lib.hid hcur2
  have HK := Lib.hid hk
  clear c1 hcur2 hg hk hk2 hg2 ht hcs hl2 hdl
  have i1 : (i : Int) < (l.length : Int) := by omega
  have i2 : (l.length : Int) + 1 ≤ (cap : Int) := by omega
  have i3 : ((i : Int) == (l.length : Int)) = false := by simp; omega
  have n1 : ¬ cap = i + 1 := by omega
  have n2 : ¬ cap = i := by omega
  have e1 : ((i : Int) + 1).toNat = i + 1 := by omega
  go_enter Tryz.func128, Tryz.ntmps128
  go_wp2_with (simp only [hov])
  refine wp_region_noPanic ?_
  refine wp_region_held_drew (S := fun W => True) (by kernel_rfl) trivial (fun hHeld => ?_)
  refine wpAnyH_take (i := 0) (oi := ⟨some 69, .move (.tmp 0), 22, _, _, none⟩) (v := .slice (some ⟨g, 0, none⟩) (l.length + 1) cap) rfl (by kernel_rfl) (by kernel_rfl) (by kernel_rfl) (fun c d e h => NoPanic.put h) (Or.inl ⟨by rfl, by intro W hW; go_simp⟩) hHeld ?_
  try simp only [Act.put, List.setIfInBounds_toArray, List.set_cons_zero, List.set_cons_succ]
  refine wpAnyH_take (i := 1) (oi := ⟨some 70, .move (.tmp 1), 3, _, _, none⟩) (v := .int .i64 i) rfl (by kernel_rfl) (by kernel_rfl) (by kernel_rfl) (fun c d e h => NoPanic.put h) (Or.inl ⟨by rfl, by intro W hW; go_simp⟩) hHeld ?_
  try simp only [Act.put, List.setIfInBounds_toArray, List.set_cons_zero, List.set_cons_succ]
  refine wpAnyH_take (i := 2) (oi := ⟨some 71, .move (.tmp 7), 3, _, _, none⟩) (v := .int .i64 1) rfl (by kernel_rfl) (by kernel_rfl) (by kernel_rfl) (fun c d e h => NoPanic.put h) (Or.inl ⟨by rfl, by intro W hW; go_simp⟩) hHeld ?_
  try simp only [Act.put, List.setIfInBounds_toArray, List.set_cons_zero, List.set_cons_succ]
  refine wpAnyH_take (i := 3) (oi := ⟨some 72, .binOp .add 3 (.tmp 70) (.tmp 71) 3, 3, _, _, none⟩) (v := .int .i64 ((i : Int) + 1)) rfl (by kernel_rfl) (by kernel_rfl) (by kernel_rfl) (fun c d e h => NoPanic.put h) (Or.inl ⟨by rfl, by intro W hW; go_simp; exact IntWalk.i64_in _ (by omega)⟩) hHeld ?_
  try simp only [Act.put, List.setIfInBounds_toArray, List.set_cons_zero, List.set_cons_succ]
  refine wpAnyH_take (i := 5) (oi := ⟨some 74, .move (.tmp 0), 22, _, _, none⟩) (v := .slice (some ⟨g, 0, none⟩) (l.length + 1) cap) rfl (by kernel_rfl) (by kernel_rfl) (by kernel_rfl) (fun c d e h => NoPanic.put h) (Or.inl ⟨by rfl, by intro W hW; go_simp⟩) hHeld ?_
  try simp only [Act.put, List.setIfInBounds_toArray, List.set_cons_zero, List.set_cons_succ]
  refine wpAnyH_take (i := 6) (oi := ⟨some 75, .move (.tmp 1), 3, _, _, none⟩) (v := .int .i64 i) rfl (by kernel_rfl) (by kernel_rfl) (by kernel_rfl) (fun c d e h => NoPanic.put h) (Or.inl ⟨by rfl, by intro W hW; go_simp⟩) hHeld ?_
  try simp only [Act.put, List.setIfInBounds_toArray, List.set_cons_zero, List.set_cons_succ]
  refine wpAnyH_take (i := 4) (oi := ⟨some 73, .slice 22 (.tmp 69) (some (.tmp 72)) none none, 22, _, _, none⟩) (v := .slice (some ⟨g, (i + 1) * 3, none⟩) (l.length + 1 - (i + 1)) (cap - (i + 1))) rfl (by kernel_rfl) (by kernel_rfl) (by kernel_rfl) (fun c d e h => NoPanic.put h) (Or.inl ⟨by rfl, by intro W hW; go_simp; (intro h; exact absurd (h (by omega)) (by omega))⟩) hHeld ?_
  try simp only [Act.put, List.setIfInBounds_toArray, List.set_cons_zero, List.set_cons_succ]
  refine wpAnyH_take (i := 7) (oi := ⟨some 76, .slice 22 (.tmp 74) (some (.tmp 75)) none none, 22, _, _, none⟩) (v := .slice (some ⟨g, i * 3, none⟩) (l.length + 1 - i) (cap - i)) rfl (by kernel_rfl) (by kernel_rfl) (by kernel_rfl) (fun c d e h => NoPanic.put h) (Or.inl ⟨by rfl, by intro W hW; go_simp; (intro h; omega)⟩) hHeld ?_
  try simp only [Act.put, List.setIfInBounds_toArray, List.set_cons_zero, List.set_cons_succ]
  refine wpAnyH_ready (rs := [8]) (by kernel_rfl) (by simp) ?_
  refine AllReadyH.cons (o := ⟨some 77, .call { callee := .builtin .copy, args := #[.tmp 73, .tmp 76], argTypes := #[22, 22] }, 3, _, _, none⟩) rfl (fun K hK => ?_) AllReadyH.nil
  refine step_copy_eq rfl (.tmp 73) (.tmp 76) _ _ rfl _ _ _ _ rfl rfl C1.out ?_
  refine hK.out _ _ trivial (fun hHeld => ?_)
  clear hK K
  try simp only [Act.put, List.setIfInBounds_toArray, List.set_cons_zero, List.set_cons_succ]
  refine wpAnyH_done (by kernel_rfl) ?_ _
  refine NoPanic.normal ?_
  clear hHeld C1 hov
  go_wp2_with fail
  go_ret
  exact ⟨rfl, by rw [← HU.out]⟩
theorem zeros_len (z : Array Value) (n : Nat) : (Builtin.zeroCells z n).size = n * z.size := by simp [Builtin.zeroCells]
/-- The row behind the growth and the two copies. -/
theorem row_grow {cur : List Value} {l : List Ent} (x : Ent) {i : Nat} (hc : (l.length + 1) * 3 ≤ cur.length) (h : cur.take (i * 3) = (l.take i).flatMap cEnt) (hi : i ≤ l.length) :
    (splice (splice cur (i * 3) (cEnt x)) ((i + 1) * 3) ((l.drop i).flatMap cEnt)).take ((l.length + 1) * 3) = (l.insertIdx i x).flatMap cEnt := by
  have hD : ((l.drop i).flatMap cEnt).length = (l.length - i) * 3 := by rw [flatMap_length cEnt 3 cEnt_len, List.length_drop]
  have hx : (cEnt x).length = 3 := rfl
  have hl : (splice cur (i * 3) (cEnt x)).length = cur.length := length_splice _ _ _ (by rw [hx]; omega)
  rw [show (l.length + 1) * 3 = (i + 1) * 3 + ((l.drop i).flatMap cEnt).length by rw [hD]; omega, take_splice_end (by omega)]
  rw [show (i + 1) * 3 = i * 3 + (cEnt x).length by rw [hx]; omega, take_splice_end (by omega), h, ins_take_drop _ _ _ hi, List.flatMap_append, List.flatMap_cons, List.append_assoc]
/-- There is no room. -/
theorem insert_grow (l : List Ent) (x : Ent) (i g g2 cap : Nat) (cur : Array Value) (w : World) (hg : Blk w g 58 cur) (hroom : cap < l.length + 1) (hnc : l.length ≤ cap) (ht : cur.toList.take (l.length * 3) = l.flatMap cEnt)
    (hk : Blk w g2 58 (cEnt x).toArray) (hi : i < l.length) (hl : l.length ≤ 1000) :
    Calls Tryz.prog 128 #[.slice (some ⟨g, 0, none⟩) l.length cap, .int .i64 i, .slice (some ⟨g2, 0, none⟩) 1 1] w fun e w' => ∃ v', e = .returned v' ∧ Own cEnt 58 3 w' v' (l.insertIdx i x) ∧ OutTo w (.slice (some ⟨g, 0, none⟩) l.length cap) w' v' := by
  obtain ⟨i0, hi0, hz0, hz1, hz2⟩ := info_ent
  have hlt := hg.lt
  have hlt2 := hk.lt
  have hcells : ∀ j v, ((l.take i).flatMap cEnt)[j]? = some v → w.drew.cell? ((⟨g, 0, none⟩ : Addr).add j) = some v := fun j v hj => by
    rw [addr_at, Nat.zero_add]
    rw [← row_take cEnt_len ht (Nat.le_of_lt hi), List.getElem?_take] at hj
    split at hj
    · exact (hg.cell _).trans (by rwa [Array.getElem?_toList] at hj)
    · cases hj
  have hlen : ((l.take i).flatMap cEnt).length = i * 3 := by rw [flatMap_length cEnt 3 cEnt_len, List.length_take, Nat.min_eq_left (by omega)]
  have r1 := Lib.run_append_grow_zeros (P := Tryz.prog) w 22 3 22 58 i0 _ .i64 .i64 Tryz.underlying22 Tryz.underlying3 hi0 hz0 (some ⟨g, 0, none⟩) i cap ((l.take i).flatMap cEnt)
    (by rw [hz1]; exact run_firstCells_some w.drew 3 i ⟨g, 0, none⟩ i cap _ hlen hcells)
    (l.length + 1 - i) (by omega) (by omega) (by omega) (by omega) (by rw [hz2]; omega) (by rw [hz2]; exact growslice_fits (by omega) (by omega))
  rw [show i + (l.length + 1 - i) = l.length + 1 by omega] at r1
  generalize hcap : grownCap w (l.length + 1) cap 58 = nc at r1
  have hge : l.length + 1 ≤ nc := hcap ▸ grownCap_ge w (l.length + 1) cap 58
  have hncm : nc ≤ maxLen := hcap ▸ grownCap_le_maxLen w (l.length + 1) cap 58 (by unfold maxLen; omega)
  obtain ⟨cur0, hcur0⟩ : ∃ c0, c0 = ((l.take i).flatMap cEnt).toArray ++ Builtin.zeroCells (Value.agg #[.int .i64 0, .int .i64 0, .string ⟨#[]⟩]).cells (l.length + 1 - i) ++ Builtin.zeroCells (Value.agg #[.int .i64 0, .int .i64 0, .string ⟨#[]⟩]).cells (nc - (l.length + 1)) := ⟨_, rfl⟩
  rw [← hcur0] at r1
  have hz3 : (Value.agg #[.int .i64 0, .int .i64 0, .string ⟨#[]⟩]).cells.size = 3 := rfl
  have hs0 : cur0.size = nc * 3 := by
    rw [hcur0]
    simp only [Array.size_append, zeros_len, hz3, List.size_toArray, hlen]
    omega
  have ht0 : cur0.toList.take (i * 3) = (l.take i).flatMap cEnt := by
    rw [hcur0, Array.toList_append, Array.toList_append, List.append_assoc, List.take_append_of_le_length (by simp [hlen]), List.take_of_length_le (by simp [hlen])]
  obtain ⟨W0, hW0⟩ : ∃ W0, W0 = w.drew.alloc (.cells cur0 58) := ⟨_, rfl⟩
  rw [← hW0] at r1
  have hb0 : Blk W0 w.heap.size 58 cur0 := by rw [hW0]; exact Blk.new w.drew _ _
  have hk0 : Blk W0 g2 58 (cEnt x).toArray := by rw [hW0]; exact Blk.alloc (w := w.drew) hk _
  have hg0 : Blk W0 g 58 cur := by rw [hW0]; exact Blk.alloc (w := w.drew) hg _
  have m2 : Nat.min 1 (l.length + 1 - i) = 1 := by show min _ _ = _; omega
  have m1 : Nat.min (l.length - i) (l.length + 1 - (i + 1)) = l.length - i := by show min _ _ = _; omega
  have q0 : cur0.toList.length = cur0.size := Array.length_toList
  have r2 := run_copy_k (P := Tryz.prog) (w := W0) 22 22 3 58 i0 3 w.heap.size (i * 3) (l.length + 1 - i) (nc - i) ⟨g2, 0, none⟩ 1 1 cur0 58 (cEnt x) Tryz.underlying22 hi0 hz1 hb0
    (by rw [cEnt_len, m2]) (fun j v hj => by rw [addr_at, Nat.zero_add]; exact (hk0.cell _).trans (List.getElem?_toArray.trans hj)) (by rw [cEnt_len]; omega) (cEnt_one x)
  obtain ⟨cur2, hcur2⟩ : ∃ c2, c2 = splice cur0.toList (i * 3) (cEnt x) := ⟨_, rfl⟩
  rw [← hcur2] at r2
  obtain ⟨W2, hW2⟩ : ∃ W2, W2 = W0.setRow w.heap.size cur2.toArray := ⟨_, rfl⟩
  rw [← hW2] at r2
  have hl2 : cur2.length = cur0.size := by rw [hcur2]; exact (length_splice _ _ _ (by rw [cEnt_len]; omega)).trans q0
  have hb2 : W2.heap[w.heap.size]? = some (.cells cur2.toArray 58 (0, 0)) := by rw [hW2]; exact setRow_heap W0 w.heap.size cur0 cur2.toArray 58 (0, 0) hb0
  have hg2 : Blk W2 g 58 cur := by rw [hW2]; exact (setRow_other _ _ _ _ (by omega)).trans hg0
  have hdl : ((l.drop i).flatMap cEnt).length = (l.length - i) * 3 := by rw [flatMap_length cEnt 3 cEnt_len, List.length_drop]
  have r3 := run_copy_k (P := Tryz.prog) (w := W2.drew) 22 22 3 58 i0 3 w.heap.size ((i + 1) * 3) (l.length + 1 - (i + 1)) (nc - (i + 1)) ⟨g, i * 3, none⟩ (l.length - i) (cap - i) cur2.toArray 58 ((l.drop i).flatMap cEnt) Tryz.underlying22 hi0 hz1 hb2
    (by rw [hdl, m1]) (fun j v hj => by rw [addr_at]; exact (Blk.cell (w := W2.drew) hg2 _).trans (by have := row_at cEnt_len ht i j v hj; rwa [Array.getElem?_toList] at this)) (by rw [hdl, List.size_toArray]; omega) (ent_all _)
  rw [show (cur2.toArray).toList = cur2 from rfl] at r3
  obtain ⟨cur3, hcur3⟩ : ∃ c3, c3 = splice cur2 ((i + 1) * 3) ((l.drop i).flatMap cEnt) := ⟨_, rfl⟩
  rw [← hcur3] at r3
  have hl3 : cur3.length = cur0.size := by rw [hcur3]; exact (length_splice _ _ _ (by rw [hdl]; omega)).trans hl2
  have hb3 := setRow_heap W2.drew w.heap.size cur2.toArray cur3.toArray 58 (0, 0) hb2
  have htk : cur3.take ((l.insertIdx i x).length * 3) = (l.insertIdx i x).flatMap cEnt := by
    rw [List.length_insertIdx_of_le_length (by omega), hcur3, hcur2]
    exact row_grow x (by omega) ht0 (by omega)
  have hO := Own.of_row cEnt_len hb3 (l := l.insertIdx i x) (cap := nc) (by rw [List.length_insertIdx_of_le_length (by omega)]; omega) hncm (by rw [List.size_toArray]; omega) htk
  rw [List.length_insertIdx_of_le_length (by omega)] at hO
  have HO := Lib.hid hO
  have R3 := Lib.hid r3
  have R1 := Lib.hid r1
  have V0 := Lib.hid hW0
  have V2 := Lib.hid hW2
  clear hW0 hW2
  clear r3 r1 hO htk hb3 hl3 hcur3 hg2 hb2 hl2 hcur2 hk0 hg0 hb0 ht0 hs0 hcur0 hlen hcells q0 hdl hcap
  have i1 : (i : Int) < (l.length : Int) := by omega
  have i2 : (l.length : Int) ≤ (cap : Int) := by omega
  have i3 : ((i : Int) == (l.length : Int)) = false := by simp; omega
  have i4 : (cap : Int) < (l.length : Int) + 1 := by omega
  have i5 : (l.length : Int) + 1 ≤ (nc : Int) := by omega
  have n1 : ¬ cap = i := by omega
  have n2 : ¬ nc = i := by omega
  have n3 : ¬ nc = i + 1 := by omega
  have e1 : ((i : Int) + 1).toNat = i + 1 := by omega
  have e2 : IntKind.i64.wrap ((l.length : Int) + 1 - (i : Int)) = ((l.length + 1 - i : Nat) : Int) := (IntWalk.i64_in _ (by omega)).trans (by omega)
  go_enter Tryz.func128, Tryz.ntmps128
  go_wp2_with (first | (at_builtin; refine wpList_append_eq rfl (.tmp 34) (.tmp 39) 22 3 rfl (.slice (some ⟨g, 0, none⟩) i cap) (.int .i64 ((l.length + 1 - i : Nat) : Int)) _ _ rfl rfl R1.out ?_))
  refine wp_region_noPanic ?_
  refine wp_region_held_drew (S := fun W => True) (by kernel_rfl) trivial (fun hHeld => ?_)
  refine wpAnyH_take (i := 0) (oi := ⟨some 46, .move (.tmp 9), 22, _, _, none⟩) (v := .slice (some ⟨w.heap.size, 0, none⟩) (l.length + 1) nc) rfl (by kernel_rfl) (by kernel_rfl) (by kernel_rfl) (fun c d e h => NoPanic.put h) (Or.inl ⟨by rfl, by intro W hW; go_simp⟩) hHeld ?_
  try simp only [Act.put, List.setIfInBounds_toArray, List.set_cons_zero, List.set_cons_succ]
  refine wpAnyH_take (i := 1) (oi := ⟨some 47, .move (.tmp 1), 3, _, _, none⟩) (v := .int .i64 i) rfl (by kernel_rfl) (by kernel_rfl) (by kernel_rfl) (fun c d e h => NoPanic.put h) (Or.inl ⟨by rfl, by intro W hW; go_simp⟩) hHeld ?_
  try simp only [Act.put, List.setIfInBounds_toArray, List.set_cons_zero, List.set_cons_succ]
  refine wpAnyH_take (i := 2) (oi := ⟨some 48, .move (.tmp 7), 3, _, _, none⟩) (v := .int .i64 1) rfl (by kernel_rfl) (by kernel_rfl) (by kernel_rfl) (fun c d e h => NoPanic.put h) (Or.inl ⟨by rfl, by intro W hW; go_simp⟩) hHeld ?_
  try simp only [Act.put, List.setIfInBounds_toArray, List.set_cons_zero, List.set_cons_succ]
  refine wpAnyH_take (i := 3) (oi := ⟨some 49, .binOp .add 3 (.tmp 47) (.tmp 48) 3, 3, _, _, none⟩) (v := .int .i64 ((i : Int) + 1)) rfl (by kernel_rfl) (by kernel_rfl) (by kernel_rfl) (fun c d e h => NoPanic.put h) (Or.inl ⟨by rfl, by intro W hW; go_simp; exact IntWalk.i64_in _ (by omega)⟩) hHeld ?_
  try simp only [Act.put, List.setIfInBounds_toArray, List.set_cons_zero, List.set_cons_succ]
  refine wpAnyH_take (i := 5) (oi := ⟨some 51, .move (.tmp 0), 22, _, _, none⟩) (v := .slice (some ⟨g, 0, none⟩) l.length cap) rfl (by kernel_rfl) (by kernel_rfl) (by kernel_rfl) (fun c d e h => NoPanic.put h) (Or.inl ⟨by rfl, by intro W hW; go_simp⟩) hHeld ?_
  try simp only [Act.put, List.setIfInBounds_toArray, List.set_cons_zero, List.set_cons_succ]
  refine wpAnyH_take (i := 6) (oi := ⟨some 52, .move (.tmp 1), 3, _, _, none⟩) (v := .int .i64 i) rfl (by kernel_rfl) (by kernel_rfl) (by kernel_rfl) (fun c d e h => NoPanic.put h) (Or.inl ⟨by rfl, by intro W hW; go_simp⟩) hHeld ?_
  try simp only [Act.put, List.setIfInBounds_toArray, List.set_cons_zero, List.set_cons_succ]
  refine wpAnyH_take (i := 4) (oi := ⟨some 50, .slice 22 (.tmp 46) (some (.tmp 49)) none none, 22, _, _, none⟩) (v := .slice (some ⟨w.heap.size, (i + 1) * 3, none⟩) (l.length + 1 - (i + 1)) (nc - (i + 1))) rfl (by kernel_rfl) (by kernel_rfl) (by kernel_rfl) (fun c d e h => NoPanic.put h) (Or.inl ⟨by rfl, by intro W hW; go_simp; (intro h; exact absurd (h (by omega)) (by omega))⟩) hHeld ?_
  try simp only [Act.put, List.setIfInBounds_toArray, List.set_cons_zero, List.set_cons_succ]
  refine wpAnyH_take (i := 7) (oi := ⟨some 53, .slice 22 (.tmp 51) (some (.tmp 52)) none none, 22, _, _, none⟩) (v := .slice (some ⟨g, i * 3, none⟩) (l.length - i) (cap - i)) rfl (by kernel_rfl) (by kernel_rfl) (by kernel_rfl) (fun c d e h => NoPanic.put h) (Or.inl ⟨by rfl, by intro W hW; go_simp; (intro h; omega)⟩) hHeld ?_
  try simp only [Act.put, List.setIfInBounds_toArray, List.set_cons_zero, List.set_cons_succ]
  refine wpAnyH_ready (rs := [8]) (by kernel_rfl) (by simp) ?_
  refine AllReadyH.cons (o := ⟨some 54, .call { callee := .builtin .copy, args := #[.tmp 50, .tmp 53], argTypes := #[22, 22] }, 3, _, _, none⟩) rfl (fun K hK => ?_) AllReadyH.nil
  refine step_copy_eq rfl (.tmp 50) (.tmp 53) _ _ rfl _ _ _ _ rfl rfl R3.out ?_
  refine hK.out _ _ trivial (fun hHeld => ?_)
  clear hK K
  try simp only [Act.put, List.setIfInBounds_toArray, List.set_cons_zero, List.set_cons_succ]
  refine wpAnyH_done (by kernel_rfl) ?_ _
  refine NoPanic.normal ?_
  go_wp2_with fail
  go_ret
  refine ⟨_, rfl, HO.out, ?_, fun k hk => ?_⟩
  · rw [V2.out, V0.out]
    refine ⟨rfl, rfl, rfl, by simp [World.setRow], fun k hk _ => ?_⟩
    rw [setRow_other _ _ _ _ (by omega)]
    show (World.setRow _ _ _).heap[k]? = _
    rw [setRow_other _ _ _ _ (by omega)]
    exact Below.heap_alloc w.drew _ _ hk
  · right
    simp [Value.ownBlock] at hk
    omega
theorem content_1 (g : Nat) (s : Bytes) (w : World) (h1 : (take 12 s).1 = 1) (k0 : Blk w g 74 #[str s]) :
    Calls Tryz.prog 40 #[.pointer (some ⟨g, 0, none⟩)] w fun e w' =>
      e = .returned (str [dig (take 10 (take 12 s).2).1.toNat]) ∧ Blk w' g 74 #[str (take 10 (take 12 s).2).2] ∧ Chg (fun k => k = g) w w' := by
  have hg := k0.lt
  have K0 := Lib.hid k0
  have H1 := Lib.hid h1
  clear k0 h1
  go_enter Tryz.func40, Tryz.ntmps40
  go_wp2_with fail
  refine (take_any g s 12 _ (by decide) K0.out).mono ?_
  rintro e w1 ⟨rfl, k1, hd1⟩
  rw [H1.out]
  go_wp2_with fail
  refine (take_any g _ 10 _ (by decide) k1).mono ?_
  rintro e w2 ⟨rfl, k2, hd2⟩
  obtain ⟨n, hn, hn2⟩ : ∃ n : Nat, (take 10 (take 12 s).2).1 = (n : Int) ∧ n < 10 := by
    have := take_bd 10 (by decide) (take 12 s).2
    exact ⟨(take 10 (take 12 s).2).1.toNat, by omega, by omega⟩
  rw [hn]
  have HN := Lib.hid hn
  have K2 := Lib.hid k2
  have HD := Lib.hid (hd1.trans hd2)
  clear hn k1 k2 hd1 hd2
  go_wp2_with fail
  refine (itoa_small n hn2 _).mono ?_
  rintro e w3 ⟨rfl, rfl⟩
  go_wp2
  go_ret
  exact ⟨by rw [HN.out]; rfl, K2.out, HD.out⟩
theorem indexfunc_nil (cap : Nat) (A : Option Addr) (f : Value) (w : World) :
    Calls Tryz.prog 124 #[.slice A 0 cap, f] w fun e w' => e = .returned (.int .i64 (-1)) ∧ w = w' := by
  go_enter Tryz.func124, Tryz.ntmps124
  go_wp2
  refine wp_loop_rounds 1 ?_
  rw [rounds_succ]
  go_wp2
  go_ret
  exact ⟨rfl, rfl⟩
/-- A slice over one element. -/
theorem Sls.one {α : Type} {c : α → List Value} {w : World} {g : Nat} {t : TypeId} {cs : Array Value} {x : α} (h : Blk w g t cs) (hx : cs = (c x).toArray) : Sls c w w.heap.size (.slice (some ⟨g, 0, none⟩) 1 1) [x] :=
  ⟨_, 1, rfl, by simp, by simp [maxLen], fun _ => ⟨g, 0, rfl, h.lt, h.range fun j v hv => by
    rw [Nat.zero_add, hx]
    simpa using hv⟩⟩
theorem insert_nil (x : Ent) (sv : Value) (w : World) (hs : Sls cEnt w w.heap.size sv [x]) :
    Calls Tryz.prog 128 #[.slice none 0 0, .int .i64 0, sv] w fun e w' => ∃ v, e = .returned v ∧ SlsN cEnt w.heap.size w' v [x] ∧ Below w.heap.size w w' := by
  obtain ⟨A, cap, rfl, hc, hm, hr⟩ := id hs
  obtain ⟨i0, hi0, hz0, hz1, hz2⟩ := info_parts (show (Tryz.prog.info? 58).map (fun i => (i.zero, i.size, i.bytes)) = some (some (.agg #[.int .i64 0, .int .i64 0, .string ⟨#[]⟩]), 3, 32) by kernel_rfl)
  have HS := Lib.hid hs
  clear hs hr
  simp only [List.length_singleton]
  have HS2 := Lib.hid (show Sls cEnt w w.heap.size (.slice A 1 cap) [x] from HS.out)
  go_enter Tryz.func128, Tryz.ntmps128
  go_wp2_with (first
    | (at_builtin
       refine wpList_copy cEnt rfl _ _ 22 rfl 58 i0 _ 3 32 rfl hi0 hz0 hz1 hz2 rfl (by omega) rfl w.heap.size _ [x] rfl HS2.out cEnt_len cEnt_one (by simp) ?_
       intro v1 w1 hs1 hb1))
  go_ret
  exact ⟨v1, rfl, hs1, hb1⟩
theorem put_nil (x : Ent) (w : World) (h : x.input ≠ []) :
    Calls Tryz.prog 39 #[.slice none 0 0, .agg #[.int .i64 x.at_.col, .int .i64 x.at_.row, str x.input]] w fun e w' => ∃ v, e = .returned v ∧ SlsN cEnt w.heap.size w' v [x] ∧ Below w.heap.size w w' := by
  go_enter Tryz.func39, Tryz.ntmps39
  go_wp2_with fail
  refine (indexfunc_nil 0 none _ _).mono ?_
  rintro e w1 ⟨rfl, rfl⟩
  go_wp2_with fail
  go_quiet (fail)
  have h0 : (x.input == ([] : List UInt8)) = false := by simpa using h
  have HH := Lib.hid h
  clear h
  go_wp2_with fail
  have kk : Blk (((w.alloc (.cells #[.int .i64 x.at_.col, .int .i64 x.at_.row, str x.input] 58)).drewN nq).alloc (.cells #[.int .i64 x.at_.col, .int .i64 x.at_.row, str x.input] 58)) (w.heap.size + 1) 58 #[.int .i64 x.at_.col, .int .i64 x.at_.row, str x.input] := by
    have := Blk.new ((w.alloc (.cells #[.int .i64 x.at_.col, .int .i64 x.at_.row, str x.input] 58)).drewN nq) 58 #[.int .i64 x.at_.col, .int .i64 x.at_.row, str x.input]
    simpa using this
  refine (insert_nil x _ _ (Sls.one kk rfl)).mono ?_
  rintro e w2 ⟨v, rfl, hs, hb⟩
  have HS := Lib.hid hs
  have HB := Lib.hid (show Below w.heap.size w w2 from Below.next (Below.alloc (Below.drewN_ ((Below.refl w.heap.size w).alloc (Nat.le_refl _) _) nq) (by simp) _) hb (by simp; omega))
  obtain ⟨A, cap, rfl, _⟩ := id hs.1
  clear hs hb kk
  go_wp2
  go_ret
  exact ⟨_, rfl, HS.out.older (by simp; omega), HB.out⟩
theorem insert_any (v : Value) (l : List Ent) (x : Ent) (i g2 : Nat) (w : World) (hown : Own cEnt 58 3 w v l) (hk : Blk w g2 58 (cEnt x).toArray) (hne : v.ownBlock ≠ some g2) (hi : i ≤ l.length) (hl : l.length ≤ 1000) :
    Calls Tryz.prog 128 #[v, .int .i64 i, .slice (some ⟨g2, 0, none⟩) 1 1] w fun e w' => ∃ v', e = .returned v' ∧ Own cEnt 58 3 w' v' (l.insertIdx i x) ∧ OutTo w v w' v' := by
  rcases Nat.lt_or_ge i l.length with h | h
  · obtain ⟨g, cap, cur, rfl, hg, hnc, hcm, hcs, ht⟩ := hown.row cEnt_len (by omega)
    have hgg : g2 ≠ g := fun e => hne (by rw [e]; rfl)
    by_cases hroom : l.length + 1 ≤ cap
    · refine (insert_room l x i g g2 cap cur w hg hroom (by unfold maxLen at hcm; omega) hcs ht hk hgg h hl).mono ?_
      rintro e w' ⟨rfl, rfl⟩
      have hdl : ((l.drop i).flatMap cEnt).length = (l.length - i) * 3 := by rw [flatMap_length cEnt 3 cEnt_len, List.length_drop]
      have q4 : cur.toList.length = cur.size := Array.length_toList
      have l2 : (splice cur.toList ((i + 1) * 3) ((l.drop i).flatMap cEnt)).length = cur.size := (length_splice _ _ _ (by omega)).trans q4
      have l3 : (splice (splice cur.toList ((i + 1) * 3) ((l.drop i).flatMap cEnt)) (i * 3) (cEnt x)).length = cur.size := (length_splice _ _ _ (by rw [cEnt_len]; omega)).trans l2
      have e1 : (l.insertIdx i x).length = l.length + 1 := List.length_insertIdx_of_le_length (by omega) _
      have hO := Own.of_row cEnt_len (setRow_heap _ g _ (splice (splice cur.toList ((i + 1) * 3) ((l.drop i).flatMap cEnt)) (i * 3) (cEnt x)).toArray 58 (0, 0) (setRow_heap w.drew g cur (splice cur.toList ((i + 1) * 3) ((l.drop i).flatMap cEnt)).toArray 58 (0, 0) hg)) (l := l.insertIdx i x) (cap := cap) (by omega) hcm (by rw [List.size_toArray]; omega)
        (by rw [e1]; exact row_ins cEnt_len ht (by omega) (by omega) x)
      rw [e1] at hO
      refine ⟨_, rfl, hO, ⟨rfl, rfl, rfl, by simp [World.setRow], fun k _ hk => ?_⟩, fun k hk => .inl hk⟩
      have hkg : k ≠ g := fun e => hk (by rw [e]; rfl)
      rw [setRow_other _ _ _ _ hkg, setRow_other _ _ _ _ hkg]
      rfl
    · exact insert_grow l x i g g2 cap cur w hg (by omega) hnc ht hk h hl
  · obtain rfl : i = l.length := by omega
    refine (insert_end v _ l x w.heap.size w hown (Sls.one hk rfl) hl).mono ?_
    rintro e w' ⟨v', rfl, h1, h2⟩
    exact ⟨v', rfl, by rw [List.insertIdx_length_self]; exact h1, h2⟩
/-- What a function of entries says. -/
def Tests (v : Value) (φ : Ent → Bool) (w0 : World) : Prop :=
  ∃ K fs, v = .func (.func K) #[] fs ∧ (∀ (args : Array Value) (w : World), (callFunc K args).run Tryz.prog w = .ok (.enter K args) w) ∧ ∀ (y : Ent) (w : World), Below w0.heap.size w0 w → Calls Tryz.prog K (#[.agg (cEnt y).toArray] ++ fs) w fun e w' => e = .returned (.bool (φ y)) ∧ Below w.heap.size w w'
theorem findIdx_at {φ : Ent → Bool} {l : List Ent} {k : Nat} {x : Ent} (h : (l.take k).all (fun y => !φ y) = true) (hx : l[k]? = some x) (hφ : φ x = true) : l.findIdx φ = k := by
  have hk := (List.getElem?_eq_some_iff.1 hx).1
  have hxk : l[k] = x := by rw [List.getElem?_eq_getElem hk] at hx; simpa using hx
  refine (List.findIdx_eq hk).2 ⟨by rw [hxk]; exact hφ, fun j hj => ?_⟩
  have hm : l[j]'(by omega) ∈ l.take k := by
    rw [List.mem_take_iff_getElem]
    exact ⟨j, by omega, rfl⟩
  have := List.all_eq_true.1 h _ hm
  simpa using this
theorem findIdx_none {φ : Ent → Bool} {l : List Ent} (h : l.all (fun y => !φ y) = true) : l.findIdx φ = l.length := by
  rw [List.findIdx_eq_length]
  intro x hx
  simpa using List.all_eq_true.1 h x hx
def idxI (φ : Ent → Bool) (l : List Ent) : Int := if l.findIdx φ < l.length then (l.findIdx φ : Int) else -1
theorem indexfunc_any (l : List Ent) (A : Option Addr) (cap : Nat) (f : Value) (φ : Ent → Bool) (B : Nat) (w : World) (hB : B ≤ w.heap.size) (hs : Sls cEnt w B (.slice A l.length cap) l) (hf : Tests f φ w) (hl : l.length ≤ 1000) :
    Calls Tryz.prog 124 #[.slice A l.length cap, f] w fun e w' => e = .returned (.int .i64 (idxI φ l)) ∧ Below w.heap.size w w' := by
  obtain ⟨K, fs, rfl, hE, hK⟩ := hf
  have HK := Lib.hid hK
  have HS := Lib.hid hs
  clear hK hs
  go_enter Tryz.func124, Tryz.ntmps124
  go_wp2_with fail
  go_loopw [8] (fun i wr => ∃ k : Nat, k ≤ l.length ∧ i = .int .i64 k ∧ (l.take k).all (fun y => !φ y) = true ∧ Below w.heap.size w wr) (fun i _ => l.length - (intOf i).toNat)
  case atStart => exact ⟨0, by omega, rfl, by simp, Below.refl _ _⟩
  case round =>
    obtain ⟨k, hk, rfl, ha, hb⟩ := hrel
    have HA := Lib.hid ha
    have HB := Lib.hid hb
    clear ha hb
    by_cases hlt : k < l.length
    · have hx : l[k]? = some l[k] := List.getElem?_eq_getElem hlt
      obtain ⟨b, o, rfl, hbb, r⟩ := (HS.out.below (HB.out.mono hB)).get 3 cEnt_len hx
      have htk : l.take (k + 1) = l.take k ++ [l[k]] := by rw [List.take_succ_eq_append_getElem hlt]
      have HT := Lib.hid htk
      have HX := Lib.hid hx
      clear hx htk
      generalize l[k] = x at *
      have r0 : wr.cell? ⟨b, o + k * 3, none⟩ = some (.int .i64 x.at_.col) := r 0 _ rfl
      have r1 : wr.cell? ⟨b, o + k * 3 + 1, none⟩ = some (.int .i64 x.at_.row) := r 1 _ rfl
      have r2 : wr.cell? ⟨b, o + k * 3 + 2, none⟩ = some (str x.input) := r 2 _ rfl
      have hi0 : (0 : Int) ≤ (k : Int) := Int.natCast_nonneg _
      have hi1 : (k : Int) < (l.length : Int) := by omega
      clear r
      go_wp2_with fail
      refine (HK.out x _ HB.out).mono ?_
      rintro e w2 ⟨rfl, hb2⟩
      have HB2 := Lib.hid (Below.next_ HB.out hb2)
      clear hb2
      by_cases hφ : φ x = true
      · rw [hφ]
        have HF := Lib.hid (findIdx_at HA.out HX.out hφ)
        go_wp2_with fail
        go_ret
        refine ⟨?_, HB2.out⟩
        rw [show idxI φ l = (k : Int) by unfold idxI; rw [HF.out, if_pos hlt]]
        rfl
      · have hφ' : φ x = false := by simpa using hφ
        rw [hφ']
        have HN := Lib.hid hφ'
        clear hφ hφ'
        go_wp2
        refine ⟨⟨k + 1, by omega, by go_num, ?_, HB2.out⟩, by simp [intOf]; omega⟩
        rw [HT.out, List.all_append, HA.out]
        simp [HN.out]
    · go_wp2_with fail
      go_ret
      obtain rfl : k = l.length := by omega
      refine ⟨?_, HB.out⟩
      rw [show idxI φ l = -1 by unfold idxI; rw [findIdx_none (by have := HA.out; rwa [List.take_length] at this), if_neg (by omega)]]
      rfl
theorem put_test (c r : Int) (y : Ent) (g : Nat) (w : World) (h0 : w.cell? ⟨g, 0, none⟩ = some (.int .i64 c)) (h1 : w.cell? ⟨g, 1, none⟩ = some (.int .i64 r)) (hg : g < w.heap.size) :
    Calls Tryz.prog 125 #[.agg #[.int .i64 y.at_.col, .int .i64 y.at_.row, str y.input], .pointer (some ⟨g, 0, none⟩)] w fun e w' => e = .returned (.bool (!lessB y.at_ ⟨c, r⟩)) ∧ Below w.heap.size w w' := by
  go_enter Tryz.func125, Tryz.ntmps125
  go_wp2_with fail
  refine (addr_less _ _ _ _ _).mono ?_
  rintro e w1 ⟨rfl, hb1⟩
  have hB1 : Below w.heap.size w w1 := Below.next (by go_grown) hb1 (by simp)
  go_wp2_with fail
  go_ret
  exact ⟨rfl, hB1⟩
end Go.Proofs.YtamcgggmfghljaaGreatDoor
