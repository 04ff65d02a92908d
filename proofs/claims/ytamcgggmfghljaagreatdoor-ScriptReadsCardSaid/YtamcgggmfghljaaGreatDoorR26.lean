/- Layer 41 (reference): Read (printed by tools/gen_readr.py). -/
import Derived.Test.YtamcgggmfghljaaGreatDoorR25
namespace Go.Proofs.YtamcgggmfghljaaGreatDoor
open Go.RowKit

theorem QS.start {w w1 : World} {s : Bytes} (u : Int) (hr : Blk w1 w.heap.size 31 #[.int .i64 0, .slice none 0 0, .slice none 0 0, .slice none 0 0, .slice none 0 0, .slice none 0 0, .int .i64 0, .slice none 0 0]) (hk : Blk w1 (w.heap.size + 1) 90 #[str s]) (hb : Below w.heap.size w w1) :
    QS w w1.heap.size (w1.alloc (.cells #[.int .i64 u, .slice none 0 0, .slice none 0 0, .slice none 0 0, .slice none 0 0, .slice none 0 0, .int .i64 0] 28)) s u (.slice none 0 0) (.slice none 0 0) (.slice none 0 0) [] [] [] where
  rs := hr.alloc _
  tk := hk.alloc _
  bx := Blk.new _ _ _
  ls := ⟨Own.nil _ _ _ _, Own.nil _ _ _ _, Own.nil _ _ _ _, Own.nil _ _ _ _, by simp [Value.ownBlock], by simp [Value.ownBlock], by simp [Value.ownBlock], by simp [Value.ownBlock], by simp [Value.ownBlock], by simp [Value.ownBlock], by simp [Value.ownBlock], by simp [Value.ownBlock], by simp [Value.ownBlock], by simp [Value.ownBlock]⟩
  bw := hb.alloc hb.size _
  hg := hk.lt

theorem withR_len (l : List Ent) (x : Ent) : (withR l x).length ≤ l.length + 1 := by
  unfold withR
  have h := List.length_filter_le (fun y => !decide (y.at_ = x.at_)) l
  have h2 : ((without l x.at_).takeWhile (fun y => lessB y.at_ x.at_)).length + ((without l x.at_).dropWhile (fun y => lessB y.at_ x.at_)).length = (without l x.at_).length := by
    rw [← List.length_append, List.takeWhile_append_dropWhile]
  simp only [List.length_append, List.length_cons]
  unfold without at *
  omega
theorem rng23 (a b c : Value) : ∀ (j : Nat) (v : Value), [a, b][j]? = some v → #[a, b, c][0 + j]? = some v := by
  intro j v hj
  rcases j with _ | _ | j
  · simpa using hj
  · simpa using hj
  · simp at hj
theorem entsR_len (s : Bytes) : ∀ k, (entsS putR s k).1.length ≤ k := fun k => by
  rw [← (ents_same s k).1]
  exact entsS_len s k

set_option maxRecDepth 100000 in
set_option maxHeartbeats 16000000 in
theorem read_r (s : Bytes) (w : World) (_hs : s.length ≤ 2000) :
    Calls Tryz.prog 18 #[str s] w fun u w' => ∃ e r g l x o, u = .returned (vScp (readB putR s) e r g l x o) ∧ RdScp w' w'.heap.size (readB putR s) e r g l x o ∧ Below w.heap.size w w' := by
  obtain ⟨ie, ei0, ei1, ei2, ei3⟩ := info_ent
  obtain ⟨ir, ri0, ri1, ri2, ri3⟩ := info_rul
  obtain ⟨ig, gi0, gi1, gi2, gi3⟩ := info_grt
  obtain ⟨io, oi0, oi1, oi2, oi3⟩ := info_opr
  have hb4 := take_bd 4 (by decide) s
  obtain ⟨u, hu⟩ : ∃ u : Nat, 1 + (take 4 s).1 = (u : Int) := ⟨(1 + (take 4 s).1).toNat, by omega⟩
  have hu1 : (u : Int) ≤ 4 := by omega
  have hu0 : (0 : Int) < (u : Int) := by omega
  have kr : Blk ((w.alloc (.cells #[.int .i64 0, .slice none 0 0, .slice none 0 0, .slice none 0 0, .slice none 0 0, .slice none 0 0, .int .i64 0, .slice none 0 0] 31)).alloc (.cells #[str s] 90)) w.heap.size 31 #[.int .i64 0, .slice none 0 0, .slice none 0 0, .slice none 0 0, .slice none 0 0, .slice none 0 0, .int .i64 0, .slice none 0 0] := (Blk.new w _ _).alloc _
  have kk : Blk ((w.alloc (.cells #[.int .i64 0, .slice none 0 0, .slice none 0 0, .slice none 0 0, .slice none 0 0, .slice none 0 0, .int .i64 0, .slice none 0 0] 31)).alloc (.cells #[str s] 90)) (w.heap.size + 1) 90 #[str s] := by
    have := Blk.new (w.alloc (.cells #[.int .i64 0, .slice none 0 0, .slice none 0 0, .slice none 0 0, .slice none 0 0, .slice none 0 0, .int .i64 0, .slice none 0 0] 31)) 90 #[str s]
    simpa using this
  have KR0 := Lib.hid kr
  have KK0 := Lib.hid kk
  clear kr kk
  go_enter Tryz.func18, Tryz.ntmps18
  go_wp2_with fail
  refine (rtake_any _ s 4 _ (by decide) KK0.out).mono ?_
  rintro e w1 ⟨rfl, kt, hd⟩
  have hb1 : Below w.heap.size w w1 := Below.trans (by go_grown) (hd.to_below (B := w.heap.size) (by simp; omega) (by omega))
  have hkr := KR0.out.chg hd (by omega)
  have Q0 := Lib.hid (QS.start (u : Int) hkr kt hb1)
  clear kt hd hb1 hkr KR0 KK0
  obtain ⟨gb, hgb⟩ : ∃ g, g = w1.heap.size := ⟨_, rfl⟩
  rw [← hgb] at Q0
  have Q1 := Lib.hid ((Q0.out.alloc (.cells #[.int .i64 1, .int .i64 1, .int .i64 1024, .int .i64 1024] 43)).drewN 1)
  have KW := Lib.hid (show Blk ((w1.alloc (.cells #[.int .i64 u, .slice none 0 0, .slice none 0 0, .slice none 0 0, .slice none 0 0, .slice none 0 0, .int .i64 0] 28)).alloc (.cells #[.int .i64 1, .int .i64 1, .int .i64 1024, .int .i64 1024] 43)).drew (gb + 1) 43 #[.int .i64 1, .int .i64 1, .int .i64 1024, .int .i64 1024] by
    have := (Blk.new (w1.alloc (.cells #[.int .i64 u, .slice none 0 0, .slice none 0 0, .slice none 0 0, .slice none 0 0, .slice none 0 0, .int .i64 0] 28)) 43 #[.int .i64 1, .int .i64 1, .int .i64 1024, .int .i64 1024]).drew
    rw [hgb]
    simpa using this)
  go_wp2_with fail
  rw [← hgb]
  have HGB := Lib.hid hgb
  clear hgb
  refine wp_region_noPanic ?_
  refine wp_region_U (fun W => Blk W gb 28 #[.int .i64 u, .slice none 0 0, .slice none 0 0, .slice none 0 0, .slice none 0 0, .slice none 0 0, .int .i64 0] ∧ Blk W (gb + 1) 43 #[.int .i64 1, .int .i64 1, .int .i64 1024, .int .i64 1024]) 8 (by kernel_rfl) ?_
  have hHeld : (fun W => Blk W gb 28 #[.int .i64 u, .slice none 0 0, .slice none 0 0, .slice none 0 0, .slice none 0 0, .slice none 0 0, .int .i64 0] ∧ Blk W (gb + 1) 43 #[.int .i64 1, .int .i64 1, .int .i64 1024, .int .i64 1024]) _ := ⟨Q1.out.bx, KW.out⟩
  refine wpAnyU_take 0 (oi := ⟨some 22, .load 43 (.tmp 5), 43, _, _, none⟩) (v := .agg _) rfl (by kernel_rfl) (by kernel_rfl) (by kernel_rfl) (by kernel_rfl) (by decide) (by kernel_rfl) (fun c d e h => NoPanic.put h) (yieldsIf_load_mid rfl _ _ rfl (gb + 1) (0) rfl _ _ (fun W h => h.2.range (l := [_, _, _, _]) (o := 0) (by intro j v hj; rw [Nat.zero_add]; exact List.getElem?_toArray.trans hj)) rfl rfl (by kernel_rfl)) hHeld ?_
  try simp only [Act.put, List.setIfInBounds_toArray, List.set_cons_zero, List.set_cons_succ]
  refine wpAnyU_take0 1 (oi := ⟨some 23, .move (.tmp 3), _, _, _, none⟩) (v := .pointer (some ⟨w.heap.size + 1, 0, none⟩)) rfl (by kernel_rfl) (by kernel_rfl) (by kernel_rfl) (by decide) (fun c d e h => NoPanic.put h) (Or.inl ⟨by rfl, by intro W hW; go_simp⟩) (fun _ => hHeld) ?_
  try simp only [Act.put, List.setIfInBounds_toArray, List.set_cons_zero, List.set_cons_succ]
  refine wpAnyU_take0 2 (oi := ⟨some 24, .fieldAddr 28 (.tmp 4) 0, _, _, _, none⟩) (v := .pointer (some ⟨gb, 0, none⟩)) rfl (by kernel_rfl) (by kernel_rfl) (by kernel_rfl) (by decide) (fun c d e h => NoPanic.put h) (Or.inl ⟨by rfl, by intro W hW; go_simp⟩) (fun _ => hHeld) ?_
  try simp only [Act.put, List.setIfInBounds_toArray, List.set_cons_zero, List.set_cons_succ]
  refine wpAnyU_take 3 (oi := ⟨some 25, .load 3 (.tmp 24), 3, _, _, none⟩) (v := .int .i64 u) rfl (by kernel_rfl) (by kernel_rfl) (by kernel_rfl) (by kernel_rfl) (by decide) (by kernel_rfl) (fun c d e h => NoPanic.put h) (Or.inl ⟨by rfl, by intro W hW; have hc : W.cell? ⟨gb, 0, none⟩ = some (.int .i64 u) := hW.1.cell 0; go_simp⟩) hHeld ?_
  try simp only [Act.put, List.setIfInBounds_toArray, List.set_cons_zero, List.set_cons_succ]
  refine wpAnyU_step 4 (o := ⟨some 26, .call { callee := .value (.func 44), args := #[.tmp 23, .tmp 25], argTypes := #[88, 3] }, 46, _, _, none⟩) (by kernel_rfl) rfl rfl (fun K hK => ?_)
  go_simp
  go_at_call 44
  refine (rcrowds_any _ (take 4 s).2 u _ hu1 Q1.out.tk).mono ?_
  rintro e w3 ⟨rfl, kt, hd⟩
  have Q2 := Lib.hid (Q1.out.take kt hd)
  have KW2 := Lib.hid (KW.out.chg hd (by have := Q0.out.hg; omega))
  clear kt hd
  obtain ⟨c, hc⟩ : ∃ c, crowds u (take 4 s).2 = c := ⟨_, rfl⟩
  rw [hc] at Q2
  rw [hc]
  have HC := Lib.hid hc
  clear hc
  refine hK.out _ _ (fun _ => ⟨Q2.out.bx, KW2.out⟩) ?_
  have hHeld : (fun W => Blk W gb 28 #[.int .i64 u, .slice none 0 0, .slice none 0 0, .slice none 0 0, .slice none 0 0, .slice none 0 0, .int .i64 0] ∧ Blk W (gb + 1) 43 #[.int .i64 1, .int .i64 1, .int .i64 1024, .int .i64 1024]) _ := ⟨Q2.out.bx, KW2.out⟩
  clear hK K
  try simp only [Act.put, List.setIfInBounds_toArray, List.set_cons_zero, List.set_cons_succ]
  refine wpAnyU_take0 5 (oi := ⟨some 27, .build 79 #[(0, .tmp 22), (1, .tmp 26)], _, _, _, none⟩) (v := .agg #[.int .i64 1, .int .i64 1, .int .i64 1024, .int .i64 1024, .int .u64 c.1.rd, .int .u64 c.1.wr, .int .u64 c.1.ow]) rfl (by kernel_rfl) (by kernel_rfl) (by kernel_rfl) (by decide) (fun c d e h => NoPanic.put h) (Or.inl ⟨by rfl, by intro W hW; go_simp <;> rfl⟩) (fun _ => hHeld) ?_
  try simp only [Act.put, List.setIfInBounds_toArray, List.set_cons_zero, List.set_cons_succ]
  obtain ⟨W9, hW9⟩ : ∃ W9, W9 = w3.alloc (.cells #[.int .i64 1, .int .i64 1, .int .i64 1024, .int .i64 1024, .int .u64 c.1.rd, .int .u64 c.1.wr, .int .u64 c.1.ow] 79) := ⟨_, rfl⟩
  have o9 : Own cRul 79 7 W9 (.slice (some ⟨w3.heap.size, 0, none⟩) 1 1) [(⟨⟨1, 1, 1024, 1024⟩, c.1⟩ : Rul)] := by rw [hW9]; exact own_one cRul_len w3 (⟨⟨1, 1, 1024, 1024⟩, c.1⟩ : Rul)
  have t9 : OutTo w3 (.slice none 0 0) W9 (.slice (some ⟨w3.heap.size, 0, none⟩) 1 1) := by rw [hW9]; exact ⟨(Chg.refl _ _).alloc _, fun k hk => .inr (by simp [Value.ownBlock] at hk; omega)⟩
  have Q3 := Lib.hid (Q2.out.putR o9 t9)
  have hB9 : Blk W9 gb 28 #[.int .i64 u, .slice none 0 0, .slice none 0 0, .slice none 0 0, .slice none 0 0, .slice none 0 0, .int .i64 0] := by rw [hW9]; exact Q2.out.bx.alloc _
  have hK9 : Blk W9 (gb + 1) 43 #[.int .i64 1, .int .i64 1, .int .i64 1024, .int .i64 1024] := by rw [hW9]; exact KW2.out.alloc _
  refine wpAnyU_step 6 (o := ⟨some 28, .buildSlice 23 1 #[(0, .tmp 27)], 23, _, _, none⟩) (by kernel_rfl) rfl rfl (fun K hK => ?_)
  go_simp
  rw [← hW9]
  refine hK.out _ _ (fun _ => ⟨hB9, hK9⟩) ?_
  have hHeld : (fun W => Blk W gb 28 #[.int .i64 u, .slice none 0 0, .slice none 0 0, .slice none 0 0, .slice none 0 0, .slice none 0 0, .int .i64 0] ∧ Blk W (gb + 1) 43 #[.int .i64 1, .int .i64 1, .int .i64 1024, .int .i64 1024]) _ := ⟨hB9, hK9⟩
  clear hK K
  try simp only [Act.put, List.setIfInBounds_toArray, List.set_cons_zero, List.set_cons_succ]
  clear hW9
  refine wpAnyU_take0 7 (oi := ⟨some 29, .fieldAddr 28 (.tmp 4) 2, _, _, _, none⟩) (v := .pointer (some ⟨gb, 2, none⟩)) rfl (by kernel_rfl) (by kernel_rfl) (by kernel_rfl) (by decide) (fun c d e h => NoPanic.put h) (Or.inl ⟨by rfl, by intro W hW; go_simp⟩) (fun _ => hHeld) ?_
  try simp only [Act.put, List.setIfInBounds_toArray, List.set_cons_zero, List.set_cons_succ]
  refine wpAnyU_step 8 (o := ⟨none, .store 23 (.tmp 29) (.tmp 28), 0, _, _, none⟩) (by kernel_rfl) rfl rfl (fun K hK => ?_)
  have kc : W9.cell? ⟨gb, 2, none⟩ = some (.slice none 0 0) := hB9.cell 2
  have kf := hB9.frozen
  go_simp
  refine hK.out _ _ (fun h => absurd h (by decide)) ?_
  clear hK K
  try simp only [Act.put, List.setIfInBounds_toArray, List.set_cons_zero, List.set_cons_succ]
  refine wpAnyU_done (by kernel_rfl) ?_
  refine NoPanic.normal ?_
  clear hHeld hB9 hK9 o9 t9 Q0 Q1 Q2 KW KW2
  go_wp2_with fail
  refine (rtake_any _ c.2 3 _ (by decide) Q3.out.tk).mono ?_
  rintro e w4 ⟨rfl, kt, hd⟩
  have Q4 := Lib.hid (Q3.out.take kt hd)
  clear kt hd
  have hbn := take_bd 3 (by decide) c.2
  obtain ⟨n, hn⟩ : ∃ n : Nat, (take 3 c.2).1 = (n : Int) := ⟨(take 3 c.2).1.toNat, by omega⟩
  have n2 : n ≤ 2 := by omega
  have Hn := Lib.hid hn
  rw [hn]
  clear hbn hn
  obtain ⟨r0, hr0⟩ : ∃ r0 : Rul, r0 = ⟨⟨1, 1, 1024, 1024⟩, c.1⟩ := ⟨_, rfl⟩
  rw [← hr0] at Q4
  have HR0 := Lib.hid hr0
  have hgg := Q4.out.hg
  have HU := Lib.hid hu
  clear hr0 hu
  go_wp2_with fail
  go_loopw [7] (fun i wr => ∃ k : Nat, k ≤ n ∧ i = .int .i64 k ∧ ∃ r, QS w gb wr (rulesS u r0 (take 3 c.2).2 k).2 u (.slice none 0 0) r (.slice none 0 0) [] (rulesS u r0 (take 3 c.2).2 k).1 []) (fun i _ => n - (intOf i).toNat)
  case atStart => exact ⟨0, by omega, rfl, _, Q4.out⟩
  case round =>
    obtain ⟨k, hk, rfl, r, hP⟩ := hrel
    have hlen := rulesS_len u r0 (take 3 c.2).2 k
    by_cases hlt : k < n
    · have hnx : rulesS u r0 (take 3 c.2).2 (k + 1) = ((rulesS u r0 (take 3 c.2).2 k).1 ++ [⟨(field (rulesS u r0 (take 3 c.2).2 k).2).1, (crowds u (field (rulesS u r0 (take 3 c.2).2 k).2).2).1⟩], (crowds u (field (rulesS u r0 (take 3 c.2).2 k).2).2).2) := rfl
      have HX := Lib.hid hnx
      clear hnx
      generalize rulesS u r0 (take 3 c.2).2 k = p at *
      obtain ⟨lr, sk⟩ := p
      simp only at hlen hP HX
      have P5 := Lib.hid hP
      clear hP
      go_wp2_with fail
      refine (rfield_any _ sk _ P5.out.tk).mono ?_
      rintro e w5 ⟨rfl, kt, hd⟩
      have P6 := Lib.hid (P5.out.take kt hd)
      clear kt hd P5
      obtain ⟨f, hf⟩ : ∃ f, field sk = f := ⟨_, rfl⟩
      rw [hf] at P6 HX
      rw [hf]
      clear hf
      have hz := P6.out.size
      have HF := Lib.hid (P6.out.ls.fresh (k := w5.heap.size) (Nat.le_refl _))
      have hne1 : gb ≠ w5.heap.size := by omega
      have hne2 : w5.heap.size ≠ gb := by omega
      have P7 := Lib.hid (P6.out.alloc (.cells #[.int .i64 f.1.c1, .int .i64 f.1.r1, .int .i64 f.1.c2, .int .i64 f.1.r2, .int .u64 0, .int .u64 0, .int .u64 0] 79))
      have KR := Lib.hid (Blk.new w5 79 #[.int .i64 f.1.c1, .int .i64 f.1.r1, .int .i64 f.1.c2, .int .i64 f.1.r2, .int .u64 0, .int .u64 0, .int .u64 0])
      have ku7 : w5.cell? ⟨gb, 0, none⟩ = some (.int .i64 u) := P6.out.bx.cell 0
      have ku8 : (w5.alloc (.cells #[.int .i64 f.1.c1, .int .i64 f.1.r1, .int .i64 f.1.c2, .int .i64 f.1.r2, .int .u64 0, .int .u64 0, .int .u64 0] 79)).cell? ⟨gb, 0, none⟩ = some (.int .i64 u) := P7.out.bx.cell 0
      go_wp2_with fail
      refine (rcrowds_any _ f.2 u _ hu1 P7.out.tk).mono ?_
      rintro e w8 ⟨rfl, kt, hd⟩
      have P8 := Lib.hid (P7.out.take kt hd)
      have KR8 := Lib.hid (KR.out.chg hd (by omega))
      have hz8 := hd.size
      simp at hz8
      clear kt hd P7 KR ku7 ku8
      obtain ⟨q, hq⟩ : ∃ q, crowds u f.2 = q := ⟨_, rfl⟩
      rw [hq] at P8 HX
      rw [hq]
      clear hq
      have x4 : w8.cell? ⟨w5.heap.size, 4, none⟩ = some (.int .u64 0) := KR8.out.cell 4
      have x5 : w8.cell? ⟨w5.heap.size, 5, none⟩ = some (.int .u64 0) := KR8.out.cell 5
      have x6 : w8.cell? ⟨w5.heap.size, 6, none⟩ = some (.int .u64 0) := KR8.out.cell 6
      have x0 : w8.cell? ⟨w5.heap.size, 0, none⟩ = some (.int .i64 f.1.c1) := KR8.out.cell 0
      have x1 : w8.cell? ⟨w5.heap.size, 1, none⟩ = some (.int .i64 f.1.r1) := KR8.out.cell 1
      have x2 : w8.cell? ⟨w5.heap.size, 2, none⟩ = some (.int .i64 f.1.c2) := KR8.out.cell 2
      have x3 : w8.cell? ⟨w5.heap.size, 3, none⟩ = some (.int .i64 f.1.r2) := KR8.out.cell 3
      have xf : ∀ o, w8.frozen? ⟨w5.heap.size, o, none⟩ = false := KR8.out.frozen
      have b2 : w8.cell? ⟨gb, 2, none⟩ = some r := P8.out.bx.cell 2
      have bf : ∀ o, w8.frozen? ⟨gb, o, none⟩ = false := P8.out.bx.frozen
      have P9 := Lib.hid ((((P8.out.far (p := ⟨w5.heap.size, 4, none⟩) hz HF.out (.int .u64 q.1.rd)).far (p := ⟨w5.heap.size, 5, none⟩) hz HF.out (.int .u64 q.1.wr)).far (p := ⟨w5.heap.size, 6, none⟩) hz HF.out (.int .u64 q.1.ow)).alloc (.cells (cRul (⟨f.1, q.1⟩ : Rul)).toArray 79))
      have hbr : ∀ k, r.ownBlock = some k → gb + 1 ≤ k := P8.out.ls.br
      have HBR := Lib.hid hbr
      clear hbr
      have KN := Lib.hid (show Blk ((((w8.setCell ⟨w5.heap.size, 4, none⟩ (.int .u64 q.1.rd)).setCell ⟨w5.heap.size, 5, none⟩ (.int .u64 q.1.wr)).setCell ⟨w5.heap.size, 6, none⟩ (.int .u64 q.1.ow)).alloc (.cells (cRul (⟨f.1, q.1⟩ : Rul)).toArray 79)) w8.heap.size 79 (cRul (⟨f.1, q.1⟩ : Rul)).toArray by
        rw [show w8.heap.size = (((w8.setCell ⟨w5.heap.size, 4, none⟩ (.int .u64 q.1.rd)).setCell ⟨w5.heap.size, 5, none⟩ (.int .u64 q.1.wr)).setCell ⟨w5.heap.size, 6, none⟩ (.int .u64 q.1.ow)).heap.size by simp]
        exact Blk.new _ _ _)
      go_wp2_with (at_builtin; refine RowKit.Hid.out ?_)
      refine Lib.hid ?_
      refine wpList_more cRul rfl _ _ 23 rfl 79 ir _ 7 56 Tryz.underlying23 ri0 ri1 ri2 ri3 rfl (by omega) r lr rfl P9.out.ls.oru _ _ [(⟨f.1, q.1⟩ : Rul)] rfl (Sls.one (x := (⟨f.1, q.1⟩ : Rul)) KN.out rfl) cRul_len cRul_one (by simp; omega) (by omega) ?_
      intro v9 w9 o9 t9
      obtain ⟨A9, c9, hv9, -⟩ := id (o9.sls (by simp [maxLen]; omega))
      generalize hL9 : (lr ++ [(⟨f.1, q.1⟩ : Rul)]).length = L9 at hv9
      have HL9 := Lib.hid hL9
      clear hL9
      subst hv9
      have hB9 := P9.out.bx.outTo t9 (fun e => by have := HBR.out _ e; omega)
      have c2 : w9.cell? ⟨gb, 2, none⟩ = some r := hB9.cell 2
      have cf : ∀ o, w9.frozen? ⟨gb, o, none⟩ = false := hB9.frozen
      have P10 := Lib.hid (P9.out.putR o9 t9)
      clear o9 t9 hB9 KN P9
      go_wp2
      refine ⟨⟨k + 1, by omega, by go_num, .slice A9 L9 c9, ?_⟩, by simp [intOf]; omega⟩
      rw [HX.out]
      exact P10.out
    · have hkn : n = k := by omega
      subst hkn
      have QA := Lib.hid hP
      clear hP hlt
      obtain ⟨pr, hpr⟩ : ∃ p, rulesS u r0 (take 3 c.2).2 n = p := ⟨_, rfl⟩
      rw [hpr] at QA hlen
      have HPR := Lib.hid hpr
      clear hpr
      go_wp2_with fail
      refine (rtake_any _ pr.2 8 _ (by decide) QA.out.tk).mono ?_
      rintro e w11 ⟨rfl, kt, hd⟩
      have QB := Lib.hid (QA.out.take kt hd)
      clear kt hd
      have hbn := take_bd 8 (by decide) pr.2
      obtain ⟨m, hn⟩ : ∃ n : Nat, (take 8 pr.2).1 = (n : Int) := ⟨(take 8 pr.2).1.toNat, by omega⟩
      have m2 : m ≤ 7 := by omega
      have Hm := Lib.hid hn
      rw [hn]
      clear hbn hn
      go_wp2_with fail
      go_loopw [9] (fun i wr => ∃ k : Nat, k ≤ m ∧ i = .int .i64 k ∧ ∃ e, QS w gb wr (entsS putR (take 8 pr.2).2 k).2 u e r (.slice none 0 0) (entsS putR (take 8 pr.2).2 k).1 pr.1 []) (fun i _ => m - (intOf i).toNat)
      case atStart => exact ⟨0, by omega, rfl, _, QB.out⟩
      case round =>
        obtain ⟨k, hk, rfl, e, hP⟩ := hrel
        have hlen2 := entsR_len (take 8 pr.2).2 k
        by_cases hlt : k < m
        · have hnx : entsS putR (take 8 pr.2).2 (k + 1) = (putR (entsS putR (take 8 pr.2).2 k).1 ⟨(spot (entsS putR (take 8 pr.2).2 k).2).1, (content (spot (entsS putR (take 8 pr.2).2 k).2).2).1⟩, (content (spot (entsS putR (take 8 pr.2).2 k).2).2).2) := rfl
          have HX := Lib.hid hnx
          clear hnx
          generalize entsS putR (take 8 pr.2).2 k = p at *
          obtain ⟨le, sk⟩ := p
          simp only at hlen2 hP HX
          have P5 := Lib.hid hP
          clear hP
          go_wp2_with fail
          refine (rspot_any _ sk _ P5.out.tk).mono ?_
          rintro e' w5 ⟨rfl, kt, hd⟩
          have P6 := Lib.hid (P5.out.take kt hd)
          clear kt hd P5
          obtain ⟨f, hf⟩ : ∃ f, spot sk = f := ⟨_, rfl⟩
          rw [hf] at P6 HX
          rw [hf]
          clear hf
          have hz := P6.out.size
          have HF := Lib.hid (P6.out.ls.fresh (k := w5.heap.size) (Nat.le_refl _))
          have hne1 : gb ≠ w5.heap.size := by omega
          have hne2 : w5.heap.size ≠ gb := by omega
          have P7 := Lib.hid (P6.out.alloc (.cells #[.int .i64 f.1.col, .int .i64 f.1.row, .string ⟨#[]⟩] 58))
          have KR := Lib.hid (Blk.new w5 58 #[.int .i64 f.1.col, .int .i64 f.1.row, .string ⟨#[]⟩])
          go_wp2_with fail
          refine (rcontent_any _ f.2 _ P7.out.tk).mono ?_
          rintro e' w8 ⟨rfl, kt, hd⟩
          have P8 := Lib.hid (P7.out.take kt hd)
          have KR8 := Lib.hid (KR.out.chg hd (by omega))
          have hz8 := hd.size
          simp at hz8
          clear kt hd P7 KR
          obtain ⟨q, hq⟩ : ∃ q, content f.2 = q := ⟨_, rfl⟩
          rw [hq] at P8 HX
          rw [hq]
          clear hq
          have x2 : w8.cell? ⟨w5.heap.size, 2, none⟩ = some (.string ⟨#[]⟩) := KR8.out.cell 2
          have xf : ∀ o, w8.frozen? ⟨w5.heap.size, o, none⟩ = false := KR8.out.frozen
          go_wp2_with fail
          have P10 := Lib.hid ((P8.out.far (p := ⟨w5.heap.size, 2, none⟩) hz HF.out (str q.1)).drewN 1)
          have KR10 := Lib.hid (show Blk _ w5.heap.size 58 #[.int .i64 f.1.col, .int .i64 f.1.row, str q.1] from (KR8.out.set_ 2 (str q.1)).drewN 1)
          have hz10 := hz8
          clear P8 KR8 x2 xf
          refine wp_region_noPanic ?_
          refine wp_region_U (fun W => Blk W gb 28 #[.int .i64 u, e, r, .slice none 0 0, .slice none 0 0, .slice none 0 0, .int .i64 0] ∧ Blk W w5.heap.size 58 #[.int .i64 f.1.col, .int .i64 f.1.row, str q.1]) 7 (by kernel_rfl) ?_
          have hHeld : (fun W => Blk W gb 28 #[.int .i64 u, e, r, .slice none 0 0, .slice none 0 0, .slice none 0 0, .int .i64 0] ∧ Blk W w5.heap.size 58 #[.int .i64 f.1.col, .int .i64 f.1.row, str q.1]) _ := ⟨P10.out.bx, KR10.out⟩
          refine wpAnyU_take0 0 (oi := ⟨some 64, .fieldAddr 28 (.tmp 4) 1, _, _, _, none⟩) (v := .pointer (some ⟨gb, 1, none⟩)) rfl (by kernel_rfl) (by kernel_rfl) (by kernel_rfl) (by decide) (fun c d e h => NoPanic.put h) (Or.inl ⟨by rfl, by intro W hW; go_simp⟩) (fun _ => hHeld) ?_
          try simp only [Act.put, List.setIfInBounds_toArray, List.set_cons_zero, List.set_cons_succ]
          refine wpAnyU_take 1 (oi := ⟨some 65, .load 22 (.tmp 64), 22, _, _, none⟩) (v := e) rfl (by kernel_rfl) (by kernel_rfl) (by kernel_rfl) (by kernel_rfl) (by decide) (by kernel_rfl) (fun c d e h => NoPanic.put h) (Or.inl ⟨by rfl, by intro W hW; have hc : W.cell? ⟨gb, 1, none⟩ = some (e) := hW.1.cell 1; go_simp⟩) hHeld ?_
          try simp only [Act.put, List.setIfInBounds_toArray, List.set_cons_zero, List.set_cons_succ]
          refine wpAnyU_take0 2 (oi := ⟨some 66, .fieldAddr 58 (.tmp 10) 0, _, _, _, none⟩) (v := .pointer (some ⟨w5.heap.size, 0, none⟩)) rfl (by kernel_rfl) (by kernel_rfl) (by kernel_rfl) (by decide) (fun c d e h => NoPanic.put h) (Or.inl ⟨by rfl, by intro W hW; go_simp⟩) (fun _ => hHeld) ?_
          try simp only [Act.put, List.setIfInBounds_toArray, List.set_cons_zero, List.set_cons_succ]
          refine wpAnyU_take 3 (oi := ⟨some 67, .load 56 (.tmp 66), 56, _, _, none⟩) (v := .agg _) rfl (by kernel_rfl) (by kernel_rfl) (by kernel_rfl) (by kernel_rfl) (by decide) (by kernel_rfl) (fun c d e h => NoPanic.put h) (yieldsIf_load_mid rfl _ _ rfl (w5.heap.size) (0) rfl _ _ (fun W h => h.2.range (l := [.int .i64 f.1.col, .int .i64 f.1.row]) (o := 0) (rng23 _ _ _)) rfl rfl (by kernel_rfl)) hHeld ?_
          try simp only [Act.put, List.setIfInBounds_toArray, List.set_cons_zero, List.set_cons_succ]
          refine wpAnyU_step 4 (o := ⟨some 68, .call { callee := .value (.func 49), args := #[.tmp 67], argTypes := #[56] }, 43, _, _, none⟩) (by kernel_rfl) rfl rfl (fun K hK => ?_)
          go_simp
          go_at_call 49
          refine (r03_one f.1.col f.1.row _).mono ?_
          rintro e' w12 ⟨rfl, hb⟩
          have P11 := Lib.hid (P10.out.below hb)
          have KR11 := Lib.hid (KR10.out.below_ hb)
          clear hb
          refine hK.out _ _ (fun _ => ⟨P11.out.bx, KR11.out⟩) ?_
          have hHeld : (fun W => Blk W gb 28 #[.int .i64 u, e, r, .slice none 0 0, .slice none 0 0, .slice none 0 0, .int .i64 0] ∧ Blk W w5.heap.size 58 #[.int .i64 f.1.col, .int .i64 f.1.row, str q.1]) _ := ⟨P11.out.bx, KR11.out⟩
          clear hK K
          try simp only [Act.put, List.setIfInBounds_toArray, List.set_cons_zero, List.set_cons_succ]
          refine wpAnyU_step 5 (o := ⟨some 69, .call { callee := .value (.func 48), args := #[.tmp 65, .tmp 68], argTypes := #[22, 43] }, 22, _, _, none⟩) (by kernel_rfl) rfl rfl (fun K hK => ?_)
          go_simp
          go_at_call 48
          refine (without_any e le f.1 _ _ (Nat.le_refl _) (P11.out.ls.oe.sls (by unfold maxLen; omega)) (by omega)).mono ?_
          rintro e' w13 ⟨v9, rfl, o9, hf9, hb⟩
          have P12 := Lib.hid (P11.out.below hb)
          have KR12 := Lib.hid (KR11.out.below_ hb)
          have t9 : OutTo w12 e w13 v9 := OutTo.anew hb hf9
          have hwl : (without le f.1).length ≤ le.length := List.length_filter_le _ _
          obtain ⟨A9, c9, hv9, -⟩ := id (o9.sls (by unfold maxLen; omega))
          generalize hL9 : (without le f.1).length = L9 at hv9
          have HL9 := Lib.hid hL9
          clear hL9 hb
          subst hv9
          refine hK.out _ _ (fun _ => ⟨P12.out.bx, KR12.out⟩) ?_
          have hHeld : (fun W => Blk W gb 28 #[.int .i64 u, e, r, .slice none 0 0, .slice none 0 0, .slice none 0 0, .int .i64 0] ∧ Blk W w5.heap.size 58 #[.int .i64 f.1.col, .int .i64 f.1.row, str q.1]) _ := ⟨P12.out.bx, KR12.out⟩
          clear hK K
          try simp only [Act.put, List.setIfInBounds_toArray, List.set_cons_zero, List.set_cons_succ]
          refine wpAnyU_take0 6 (oi := ⟨some 70, .fieldAddr 28 (.tmp 4) 1, _, _, _, none⟩) (v := .pointer (some ⟨gb, 1, none⟩)) rfl (by kernel_rfl) (by kernel_rfl) (by kernel_rfl) (by decide) (fun c d e h => NoPanic.put h) (Or.inl ⟨by rfl, by intro W hW; go_simp⟩) (fun _ => hHeld) ?_
          try simp only [Act.put, List.setIfInBounds_toArray, List.set_cons_zero, List.set_cons_succ]
          refine wpAnyU_step 7 (o := ⟨none, .store 22 (.tmp 70) (.tmp 69), 0, _, _, none⟩) (by kernel_rfl) rfl rfl (fun K hK => ?_)
          have kc : w13.cell? ⟨gb, 1, none⟩ = some e := P12.out.bx.cell 1
          have kf := P12.out.bx.frozen
          go_simp
          refine hK.out _ _ (fun h => absurd h (by decide)) ?_
          clear hK K
          try simp only [Act.put, List.setIfInBounds_toArray, List.set_cons_zero, List.set_cons_succ]
          refine wpAnyU_done (by kernel_rfl) ?_
          refine NoPanic.normal ?_
          have P13 := Lib.hid (P11.out.putE o9 t9)
          have KR13 := Lib.hid (KR12.out.far (p := ⟨gb, 1, none⟩) (by simp; omega) (.slice A9 L9 c9))
          clear hHeld o9 t9 P10 KR10 P11 KR11 P12 KR12 kc kf hf9
          obtain ⟨W14, hW14⟩ : ∃ W14, W14 = w13.setCell ⟨gb, 1, none⟩ (.slice A9 L9 c9) := ⟨_, rfl⟩
          rw [← hW14] at P13 KR13
          rw [← hW14]
          have hz14 : w5.heap.size + 1 ≤ W14.heap.size := KR13.out.lt
          clear hW14
          have x0 : W14.cell? ⟨w5.heap.size, 0, none⟩ = some (.int .i64 f.1.col) := KR13.out.cell 0
          have x1 : W14.cell? ⟨w5.heap.size, 1, none⟩ = some (.int .i64 f.1.row) := KR13.out.cell 1
          have x2 : W14.cell? ⟨w5.heap.size, 2, none⟩ = some (str q.1) := KR13.out.cell 2
          have b1 : W14.cell? ⟨gb, 1, none⟩ = some (.slice A9 L9 c9) := P13.out.bx.cell 1
          have bf : ∀ o, W14.frozen? ⟨gb, o, none⟩ = false := P13.out.bx.frozen
          by_cases hq0 : q.1 = []
          · have e0 : (q.1 == ([] : List UInt8)) = true := by simpa using hq0
            have HXE := Lib.hid (HX.out.trans (by unfold putR; rw [if_pos hq0] : _ = (without le f.1, q.2)))
            clear hq0
            go_wp2
            refine ⟨⟨k + 1, by omega, by go_num, .slice A9 L9 c9, ?_⟩, by simp [intOf]; omega⟩
            rw [HXE.out]
            exact P13.out
          · have e0 : (q.1 == ([] : List UInt8)) = false := by simpa using hq0
            have HXE := Lib.hid (HX.out.trans (by unfold putR; rw [if_neg hq0] : _ = (withR (without le f.1) ⟨f.1, q.1⟩, q.2)))
            have HQ0 := Lib.hid hq0
            clear hq0
            go_wp2_with fail
            refine (with_any (.slice A9 L9 c9) (without le f.1) ⟨f.1, q.1⟩ _ _ (Nat.le_refl _) (P13.out.ls.oe.sls (by unfold maxLen; omega)) (by omega) HQ0.out).mono ?_
            rintro e' w15 ⟨v9, rfl, o9, hf9, hb⟩
            have P14 := Lib.hid (P13.out.below hb)
            have t9 : OutTo W14 (.slice A9 L9 c9) w15 v9 := OutTo.anew hb hf9
            have hrl := withR_len (without le f.1) ⟨f.1, q.1⟩
            obtain ⟨A8, c8, hv8, -⟩ := id (o9.sls (by unfold maxLen; omega))
            generalize hL8 : (withR (without le f.1) ⟨f.1, q.1⟩).length = L8 at hv8
            have HL8 := Lib.hid hL8
            clear hL8
            subst hv8
            have b1' : w15.cell? ⟨gb, 1, none⟩ = some (.slice A9 L9 c9) := P14.out.bx.cell 1
            have bf' : ∀ o, w15.frozen? ⟨gb, o, none⟩ = false := P14.out.bx.frozen
            have P15 := Lib.hid (P13.out.putE o9 t9)
            clear o9 t9 hf9 hb P13 P14 KR13 x0 x1 x2 b1 bf
            go_wp2
            refine ⟨⟨k + 1, by omega, by go_num, .slice A8 L8 c8, ?_⟩, by simp [intOf]; omega⟩
            rw [HXE.out]
            exact P15.out
        · have hkm : m = k := by omega
          subst hkm
          have QC := Lib.hid hP
          clear hP hlt
          obtain ⟨pe, hpe⟩ : ∃ p, entsS putR (take 8 pr.2).2 m = p := ⟨_, rfl⟩
          rw [hpe] at QC hlen2
          have HPE := Lib.hid hpe
          clear hpe
          go_wp2_with fail
          refine (rtake_any _ pe.2 3 _ (by decide) QC.out.tk).mono ?_
          rintro e w21 ⟨rfl, kt, hd⟩
          have QD := Lib.hid (QC.out.take kt hd)
          clear kt hd
          have hbn := take_bd 3 (by decide) pe.2
          obtain ⟨j, hn⟩ : ∃ n : Nat, (take 3 pe.2).1 = (n : Int) := ⟨(take 3 pe.2).1.toNat, by omega⟩
          have j2 : j ≤ 2 := by omega
          have Hj := Lib.hid hn
          rw [hn]
          clear hbn hn
          go_wp2_with fail
          go_loopw [11] (fun i wr => ∃ k : Nat, k ≤ j ∧ i = .int .i64 k ∧ ∃ g, QS w gb wr (grtsS u (take 3 pe.2).2 k).2 u e r g pe.1 pr.1 (grtsS u (take 3 pe.2).2 k).1) (fun i _ => j - (intOf i).toNat)
          case atStart => exact ⟨0, by omega, rfl, _, QD.out⟩
          case round =>
            obtain ⟨k, hk, rfl, g, hP⟩ := hrel
            have hlen3 := grtsS_len u (take 3 pe.2).2 k
            by_cases hlt : k < j
            · have hnx : grtsS u (take 3 pe.2).2 (k + 1) = ((grtsS u (take 3 pe.2).2 k).1 ++ [⟨(field (grtsS u (take 3 pe.2).2 k).2).1, 1 + (take 31 (field (grtsS u (take 3 pe.2).2 k).2).2).1, (crowd u (take 31 (field (grtsS u (take 3 pe.2).2 k).2).2).2).1, (take u (crowd u (take 31 (field (grtsS u (take 3 pe.2).2 k).2).2).2).2).1, false⟩], (take u (crowd u (take 31 (field (grtsS u (take 3 pe.2).2 k).2).2).2).2).2) := rfl
              have HX := Lib.hid hnx
              clear hnx
              generalize grtsS u (take 3 pe.2).2 k = p at *
              obtain ⟨lg, sk⟩ := p
              simp only at hlen3 hP HX
              have P5 := Lib.hid hP
              clear hP
              go_wp2_with fail
              refine (rfield_any _ sk _ P5.out.tk).mono ?_
              rintro e' w5 ⟨rfl, kt, hd⟩
              have P6 := Lib.hid (P5.out.take kt hd)
              clear kt hd P5
              obtain ⟨f, hf⟩ : ∃ f, field sk = f := ⟨_, rfl⟩
              rw [hf] at P6 HX
              rw [hf]
              clear hf
              have hz := P6.out.size
              have HF := Lib.hid (P6.out.ls.fresh (k := w5.heap.size) (Nat.le_refl _))
              have hne1 : gb ≠ w5.heap.size := by omega
              have hne2 : w5.heap.size ≠ gb := by omega
              go_wp2_with fail
              have P7 := Lib.hid (P6.out.alloc (.cells #[.int .i64 f.1.c1, .int .i64 f.1.r1, .int .i64 f.1.c2, .int .i64 f.1.r2, .int .u8 0, .int .u64 0, .int .i64 0, .bool false] 85))
              have KR := Lib.hid (Blk.new w5 85 #[.int .i64 f.1.c1, .int .i64 f.1.r1, .int .i64 f.1.c2, .int .i64 f.1.r2, .int .u8 0, .int .u64 0, .int .i64 0, .bool false])
              refine (rtake_any _ f.2 31 _ (by decide) P7.out.tk).mono ?_
              rintro e' w8 ⟨rfl, kt, hd⟩
              have P8 := Lib.hid (P7.out.take kt hd)
              have KR8 := Lib.hid (KR.out.chg hd (by omega))
              have hz8 := hd.size
              simp at hz8
              clear kt hd P7 KR
              have hb31 := take_bd 31 (by decide) f.2
              obtain ⟨q1, hq1⟩ : ∃ q, take 31 f.2 = q := ⟨_, rfl⟩
              rw [hq1] at P8 HX hb31
              rw [hq1]
              clear hq1
              have kc8 : w8.cell? ⟨w5.heap.size, 4, none⟩ = some (.int .u8 0) := KR8.out.cell 4
              have kf8 : ∀ o, w8.frozen? ⟨w5.heap.size, o, none⟩ = false := KR8.out.frozen
              have ku8 : w8.cell? ⟨gb, 0, none⟩ = some (.int .i64 u) := P8.out.bx.cell 0
              go_wp2_with fail
              have P9 := Lib.hid (P8.out.far (p := ⟨w5.heap.size, 4, none⟩) hz HF.out (.int .u8 (1 + q1.1)))
              have KR9 := Lib.hid (KR8.out.set_ 4 (.int .u8 (1 + q1.1)))
              refine (rcrowd_any _ q1.2 u _ hu1 P9.out.tk).mono ?_
              rintro e' w10 ⟨rfl, kt, hd⟩
              have P10 := Lib.hid (P9.out.take kt hd)
              have KR10 := Lib.hid (KR9.out.chg hd (by omega))
              have hz10 := hd.size
              simp at hz10
              clear kt hd P9 KR9 P8 KR8 kc8 kf8 ku8
              obtain ⟨q2, hq2⟩ : ∃ q, crowd u q1.2 = q := ⟨_, rfl⟩
              rw [hq2] at P10 HX
              rw [hq2]
              clear hq2
              have kc10 : w10.cell? ⟨w5.heap.size, 5, none⟩ = some (.int .u64 0) := KR10.out.cell 5
              have kf10 : ∀ o, w10.frozen? ⟨w5.heap.size, o, none⟩ = false := KR10.out.frozen
              have ku10 : w10.cell? ⟨gb, 0, none⟩ = some (.int .i64 u) := P10.out.bx.cell 0
              go_wp2_with fail
              have P11 := Lib.hid (P10.out.far (p := ⟨w5.heap.size, 5, none⟩) hz HF.out (.int .u64 q2.1))
              have KR11 := Lib.hid (KR10.out.set_ 5 (.int .u64 q2.1))
              refine (rtake_any _ q2.2 u _ hu0 P11.out.tk).mono ?_
              rintro e' w12 ⟨rfl, kt, hd⟩
              have P12 := Lib.hid (P11.out.take kt hd)
              have KR12 := Lib.hid (KR11.out.chg hd (by omega))
              have hz12 := hd.size
              simp at hz12
              clear kt hd P11 KR11 P10 KR10 kc10 kf10 ku10
              obtain ⟨q3, hq3⟩ : ∃ q, take u q2.2 = q := ⟨_, rfl⟩
              rw [hq3] at P12 HX
              rw [hq3]
              clear hq3
              have x0 : w12.cell? ⟨w5.heap.size, 0, none⟩ = some (.int .i64 f.1.c1) := KR12.out.cell 0
              have x1 : w12.cell? ⟨w5.heap.size, 1, none⟩ = some (.int .i64 f.1.r1) := KR12.out.cell 1
              have x2 : w12.cell? ⟨w5.heap.size, 2, none⟩ = some (.int .i64 f.1.c2) := KR12.out.cell 2
              have x3 : w12.cell? ⟨w5.heap.size, 3, none⟩ = some (.int .i64 f.1.r2) := KR12.out.cell 3
              have x4 : w12.cell? ⟨w5.heap.size, 4, none⟩ = some (.int .u8 (1 + q1.1)) := KR12.out.cell 4
              have x5 : w12.cell? ⟨w5.heap.size, 5, none⟩ = some (.int .u64 q2.1) := KR12.out.cell 5
              have x6 : w12.cell? ⟨w5.heap.size, 6, none⟩ = some (.int .i64 0) := KR12.out.cell 6
              have x7 : w12.cell? ⟨w5.heap.size, 7, none⟩ = some (.bool false) := KR12.out.cell 7
              have xf : ∀ o, w12.frozen? ⟨w5.heap.size, o, none⟩ = false := KR12.out.frozen
              have b3 : w12.cell? ⟨gb, 3, none⟩ = some g := P12.out.bx.cell 3
              have bf : ∀ o, w12.frozen? ⟨gb, o, none⟩ = false := P12.out.bx.frozen
              have P13 := Lib.hid ((P12.out.far (p := ⟨w5.heap.size, 6, none⟩) hz HF.out (.int .i64 q3.1)).alloc (.cells (cGrt (⟨f.1, 1 + q1.1, q2.1, q3.1, false⟩ : Grt)).toArray 85))
              have hbg : ∀ k, g.ownBlock = some k → gb + 1 ≤ k := P12.out.ls.bg
              have HBG := Lib.hid hbg
              clear hbg
              have KN := Lib.hid (show Blk ((w12.setCell ⟨w5.heap.size, 6, none⟩ (.int .i64 q3.1)).alloc (.cells (cGrt (⟨f.1, 1 + q1.1, q2.1, q3.1, false⟩ : Grt)).toArray 85)) w12.heap.size 85 (cGrt (⟨f.1, 1 + q1.1, q2.1, q3.1, false⟩ : Grt)).toArray by
                rw [show w12.heap.size = (w12.setCell ⟨w5.heap.size, 6, none⟩ (.int .i64 q3.1)).heap.size by simp]
                exact Blk.new _ _ _)
              go_wp2_with (at_builtin; refine RowKit.Hid.out ?_)
              refine Lib.hid ?_
              refine wpList_more cGrt rfl _ _ 24 rfl 85 ig _ 8 64 Tryz.underlying24 gi0 gi1 gi2 gi3 rfl (by omega) g lg rfl P13.out.ls.og _ _ [(⟨f.1, 1 + q1.1, q2.1, q3.1, false⟩ : Grt)] rfl (Sls.one (x := (⟨f.1, 1 + q1.1, q2.1, q3.1, false⟩ : Grt)) KN.out rfl) cGrt_len cGrt_one (by simp; omega) (by omega) ?_
              intro v9 w9 o9 t9
              obtain ⟨A9, c9, hv9, -⟩ := id (o9.sls (by simp [maxLen]; omega))
              generalize hL9 : (lg ++ [(⟨f.1, 1 + q1.1, q2.1, q3.1, false⟩ : Grt)]).length = L9 at hv9
              have HL9 := Lib.hid hL9
              clear hL9
              subst hv9
              have hB9 := P13.out.bx.outTo t9 (fun e => by have := HBG.out _ e; omega)
              have c3 : w9.cell? ⟨gb, 3, none⟩ = some g := hB9.cell 3
              have cf : ∀ o, w9.frozen? ⟨gb, o, none⟩ = false := hB9.frozen
              have P15 := Lib.hid (P13.out.putG o9 t9)
              clear o9 t9 hB9 KN P13 P12 KR12 x0 x1 x2 x3 x4 x5 x6 x7 xf b3 bf
              go_wp2
              refine ⟨⟨k + 1, by omega, by go_num, .slice A9 L9 c9, ?_⟩, by simp [intOf]; omega⟩
              rw [HX.out]
              exact P15.out
            · have hkj : j = k := by omega
              subst hkj
              have QE := Lib.hid hP
              clear hP hlt
              obtain ⟨pg, hpg⟩ : ∃ p, grtsS u (take 3 pe.2).2 j = p := ⟨_, rfl⟩
              rw [hpg] at QE hlen3
              have HPG := Lib.hid hpg
              have HL1 := Lib.hid hlen
              have HL2 := Lib.hid hlen2
              have HL3 := Lib.hid hlen3
              clear hpg
              obtain ⟨Ae, ce, hve, -⟩ := id (QE.out.ls.oe.sls (by have := HL2.out; unfold maxLen; omega))
              obtain ⟨Ar, cr, hvr, -⟩ := id (QE.out.ls.oru.sls (by have := HL1.out; unfold maxLen; omega))
              obtain ⟨Ag, cg, hvg, -⟩ := id (QE.out.ls.og.sls (by have := HL3.out; unfold maxLen; omega))
              subst hve hvr hvg
              clear hlen hlen2 hlen3
              have QE0 : wr.cell? ⟨gb, 0, none⟩ = some (.int .i64 u) := QE.out.bx.cell 0
              have QE1 : wr.cell? ⟨gb, 1, none⟩ = some (.slice Ae pe.1.length ce) := QE.out.bx.cell 1
              have QE2 : wr.cell? ⟨gb, 2, none⟩ = some (.slice Ar pr.1.length cr) := QE.out.bx.cell 2
              have QE3 : wr.cell? ⟨gb, 3, none⟩ = some (.slice Ag pg.1.length cg) := QE.out.bx.cell 3
              have QE4 : wr.cell? ⟨gb, 4, none⟩ = some (.slice none 0 0) := QE.out.bx.cell 4
              have QE5 : wr.cell? ⟨gb, 5, none⟩ = some (.slice none 0 0) := QE.out.bx.cell 5
              have QE6 : wr.cell? ⟨gb, 6, none⟩ = some (.int .i64 0) := QE.out.bx.cell 6
              have QEf := QE.out.bx.frozen
              have QF := Lib.hid (QO.start QE.out)
              go_wp2_with fail
              obtain ⟨gs, hgs⟩ : ∃ g, g = wr.heap.size := ⟨_, rfl⟩
              rw [← hgs] at QF
              rw [← hgs]
              have HGS := Lib.hid hgs
              clear hgs
              clear QE0 QE1 QE2 QE3 QE4 QE5 QE6 QEf
              go_loopw [115] (fun _ wr => ∃ sk lo o, QO w gb gs wr sk u (.slice Ae pe.1.length ce) (.slice Ar pr.1.length cr) (.slice Ag pg.1.length cg) o pe.1 pr.1 pg.1 lo ∧ lo.length ≤ 4096 ∧ lo ++ opsRest u lo.length sk = opsAll u pg.2) (fun _ wr => sizeAt (w.heap.size + 1) wr)
              case atStart => exact ⟨_, [], _, QF.out, by simp, by rw [List.nil_append]; exact opsRest_zero u _⟩
              case round =>
                obtain ⟨sk, lo, o, hP, hlo, heq⟩ := hrel
                have P5 := Lib.hid hP
                have HEQ := Lib.hid heq
                have hms := sizeAt_eq hP.tk
                obtain ⟨Ao, co, hvo, -⟩ := id (hP.ls.oo.sls (by unfold maxLen; omega))
                subst hvo
                clear hP heq
                have kt5 : wr.cell? ⟨w.heap.size + 1, 0, none⟩ = some (str sk) := P5.out.tk.cell 0
                have ko5 : wr.cell? ⟨gs, 7, none⟩ = some (.slice Ao lo.length co) := P5.out.sx.cell 7
                by_cases hgo : sk ≠ [] ∧ lo.length < 4096
                · obtain ⟨hsk, hl4⟩ := hgo
                  have e0 : (sk == ([] : List UInt8)) = false := by simpa using hsk
                  have hl5 : (lo.length : Int) < 4096 := by omega
                  have hdec := oper_lt u sk hsk
                  have hop := opsRest_step u hl4 hsk
                  have HOP := Lib.hid hop
                  clear hop hsk
                  go_wp2_with fail
                  have P7 := Lib.hid (P5.out.drewN 1)
                  refine wp_region_noPanic ?_
                  refine wp_region_U (fun W => Blk W gb 28 #[.int .i64 u, .slice Ae pe.1.length ce, .slice Ar pr.1.length cr, .slice Ag pg.1.length cg, .slice none 0 0, .slice none 0 0, .int .i64 0] ∧ Blk W gs 31 #[.int .i64 u, .slice Ae pe.1.length ce, .slice Ar pr.1.length cr, .slice Ag pg.1.length cg, .slice none 0 0, .slice none 0 0, .int .i64 0, .slice Ao lo.length co]) 9 (by kernel_rfl) ?_
                  have hHeld : (fun W => Blk W gb 28 #[.int .i64 u, .slice Ae pe.1.length ce, .slice Ar pr.1.length cr, .slice Ag pg.1.length cg, .slice none 0 0, .slice none 0 0, .int .i64 0] ∧ Blk W gs 31 #[.int .i64 u, .slice Ae pe.1.length ce, .slice Ar pr.1.length cr, .slice Ag pg.1.length cg, .slice none 0 0, .slice none 0 0, .int .i64 0, .slice Ao lo.length co]) _ := ⟨P7.out.bx, P7.out.sx⟩
                  refine wpAnyU_take0 0 (oi := ⟨some 124, .fieldAddr 31 (.tmp 13) 1, _, _, _, none⟩) (v := .pointer (some ⟨gs, 7, none⟩)) rfl (by kernel_rfl) (by kernel_rfl) (by kernel_rfl) (by decide) (fun c d e h => NoPanic.put h) (Or.inl ⟨by rfl, by intro W hW; go_simp⟩) (fun _ => hHeld) ?_
                  try simp only [Act.put, List.setIfInBounds_toArray, List.set_cons_zero, List.set_cons_succ]
                  refine wpAnyU_take 1 (oi := ⟨some 125, .load 29 (.tmp 124), 29, _, _, none⟩) (v := .slice Ao lo.length co) rfl (by kernel_rfl) (by kernel_rfl) (by kernel_rfl) (by kernel_rfl) (by decide) (by kernel_rfl) (fun c d e h => NoPanic.put h) (Or.inl ⟨by rfl, by intro W hW; have hc : W.cell? ⟨gs, 7, none⟩ = some (.slice Ao lo.length co) := hW.2.cell 7; go_simp⟩) hHeld ?_
                  try simp only [Act.put, List.setIfInBounds_toArray, List.set_cons_zero, List.set_cons_succ]
                  refine wpAnyU_take0 2 (oi := ⟨some 126, .move (.tmp 3), _, _, _, none⟩) (v := .pointer (some ⟨w.heap.size + 1, 0, none⟩)) rfl (by kernel_rfl) (by kernel_rfl) (by kernel_rfl) (by decide) (fun c d e h => NoPanic.put h) (Or.inl ⟨by rfl, by intro W hW; go_simp⟩) (fun _ => hHeld) ?_
                  try simp only [Act.put, List.setIfInBounds_toArray, List.set_cons_zero, List.set_cons_succ]
                  refine wpAnyU_take0 3 (oi := ⟨some 127, .fieldAddr 28 (.tmp 4) 0, _, _, _, none⟩) (v := .pointer (some ⟨gb, 0, none⟩)) rfl (by kernel_rfl) (by kernel_rfl) (by kernel_rfl) (by decide) (fun c d e h => NoPanic.put h) (Or.inl ⟨by rfl, by intro W hW; go_simp⟩) (fun _ => hHeld) ?_
                  try simp only [Act.put, List.setIfInBounds_toArray, List.set_cons_zero, List.set_cons_succ]
                  refine wpAnyU_take 4 (oi := ⟨some 128, .load 3 (.tmp 127), 3, _, _, none⟩) (v := .int .i64 u) rfl (by kernel_rfl) (by kernel_rfl) (by kernel_rfl) (by kernel_rfl) (by decide) (by kernel_rfl) (fun c d e h => NoPanic.put h) (Or.inl ⟨by rfl, by intro W hW; have hc : W.cell? ⟨gb, 0, none⟩ = some (.int .i64 u) := hW.1.cell 0; go_simp⟩) hHeld ?_
                  try simp only [Act.put, List.setIfInBounds_toArray, List.set_cons_zero, List.set_cons_succ]
                  refine wpAnyU_step 5 (o := ⟨some 129, .call { callee := .value (.func 52), args := #[.tmp 126, .tmp 128], argTypes := #[88, 3] }, 48, _, _, none⟩) (by kernel_rfl) rfl rfl (fun K hK => ?_)
                  go_simp
                  go_at_call 52
                  refine (roper_any _ sk u _ hu1 hu0 P7.out.tk).mono ?_
                  rintro e' w6 ⟨rfl, kt, hd⟩
                  have P8 := Lib.hid (P7.out.take kt hd)
                  clear kt hd
                  obtain ⟨q, hq⟩ : ∃ q, oper u sk = q := ⟨_, rfl⟩
                  rw [hq] at P8 HOP hdec
                  rw [hq]
                  clear hq
                  rw [show Value.agg (cOpr q.1).toArray = .agg #[.int .u8 q.1.kind, .int .i64 q.1.user, .int .i64 q.1.rect.c1, .int .i64 q.1.rect.r1, .int .i64 q.1.rect.c2, .int .i64 q.1.rect.r2, str q.1.input, .int .u64 q.1.rights.rd, .int .u64 q.1.rights.wr, .int .u64 q.1.rights.ow, .int .u8 q.1.fns, .int .u64 q.1.to_, .int .i64 q.1.index] from rfl]
                  refine hK.out _ _ (fun _ => ⟨P8.out.bx, P8.out.sx⟩) ?_
                  have hHeld : (fun W => Blk W gb 28 #[.int .i64 u, .slice Ae pe.1.length ce, .slice Ar pr.1.length cr, .slice Ag pg.1.length cg, .slice none 0 0, .slice none 0 0, .int .i64 0] ∧ Blk W gs 31 #[.int .i64 u, .slice Ae pe.1.length ce, .slice Ar pr.1.length cr, .slice Ag pg.1.length cg, .slice none 0 0, .slice none 0 0, .int .i64 0, .slice Ao lo.length co]) _ := ⟨P8.out.bx, P8.out.sx⟩
                  clear hK K
                  try simp only [Act.put, List.setIfInBounds_toArray, List.set_cons_zero, List.set_cons_succ]
                  have P9 := Lib.hid (P8.out.alloc (.cells #[.int .u8 q.1.kind, .int .i64 q.1.user, .int .i64 q.1.rect.c1, .int .i64 q.1.rect.r1, .int .i64 q.1.rect.c2, .int .i64 q.1.rect.r2, str q.1.input, .int .u64 q.1.rights.rd, .int .u64 q.1.rights.wr, .int .u64 q.1.rights.ow, .int .u8 q.1.fns, .int .u64 q.1.to_, .int .i64 q.1.index] 48))
                  refine wpAnyU_step 6 (o := ⟨some 130, .buildSlice 29 1 #[(0, .tmp 129)], 29, _, _, none⟩) (by kernel_rfl) rfl rfl (fun K hK => ?_)
                  go_simp
                  refine hK.out _ _ (fun _ => ⟨P9.out.bx, P9.out.sx⟩) ?_
                  have hHeld : (fun W => Blk W gb 28 #[.int .i64 u, .slice Ae pe.1.length ce, .slice Ar pr.1.length cr, .slice Ag pg.1.length cg, .slice none 0 0, .slice none 0 0, .int .i64 0] ∧ Blk W gs 31 #[.int .i64 u, .slice Ae pe.1.length ce, .slice Ar pr.1.length cr, .slice Ag pg.1.length cg, .slice none 0 0, .slice none 0 0, .int .i64 0, .slice Ao lo.length co]) _ := ⟨P9.out.bx, P9.out.sx⟩
                  clear hK K
                  try simp only [Act.put, List.setIfInBounds_toArray, List.set_cons_zero, List.set_cons_succ]
                  obtain ⟨r9, w9, hr9, o9, t9⟩ := run_more (P := Tryz.prog) _ cOpr 29 29 48 io _ 13 112 Tryz.underlying29 oi0 oi1 oi2 oi3 rfl (by omega) (.slice Ao lo.length co) lo P9.out.ls.oo _ _ [q.1] (Sls.one (x := q.1) (Blk.new _ _ _) rfl) cOpr_len cOpr_one (by simp; omega) (by omega)
                  have hn1 : (Value.slice Ao lo.length co).ownBlock ≠ some gb := fun e => by have := P9.out.ls.bo _ e; omega
                  obtain ⟨A9, c9, hv9, -⟩ := id (o9.sls (by simp [maxLen]; omega))
                  generalize hL9 : (lo ++ [q.1]).length = L9 at hv9
                  have HL9 := Lib.hid hL9
                  clear hL9
                  subst hv9
                  have hB9 := P9.out.bx.outTo t9 hn1
                  have hS9 := P9.out.sx.outTo t9 P9.out.ng.2.2.2
                  refine wpAnyU_step 7 (o := ⟨some 131, .call { callee := .builtin .append, args := #[.tmp 125, .tmp 130], argTypes := #[29, 29] }, 29, _, _, none⟩) (by kernel_rfl) rfl rfl (fun K hK => ?_)
                  refine wp_append_eq (.tmp 125) (.tmp 130) _ _ rfl _ _ _ _ rfl rfl hr9 ?_
                  refine hK.out _ _ (fun _ => ⟨hB9, hS9⟩) ?_
                  have hHeld : (fun W => Blk W gb 28 #[.int .i64 u, .slice Ae pe.1.length ce, .slice Ar pr.1.length cr, .slice Ag pg.1.length cg, .slice none 0 0, .slice none 0 0, .int .i64 0] ∧ Blk W gs 31 #[.int .i64 u, .slice Ae pe.1.length ce, .slice Ar pr.1.length cr, .slice Ag pg.1.length cg, .slice none 0 0, .slice none 0 0, .int .i64 0, .slice Ao lo.length co]) _ := ⟨hB9, hS9⟩
                  clear hK K
                  try simp only [Act.put, List.setIfInBounds_toArray, List.set_cons_zero, List.set_cons_succ]
                  refine wpAnyU_take0 8 (oi := ⟨some 132, .fieldAddr 31 (.tmp 13) 1, _, _, _, none⟩) (v := .pointer (some ⟨gs, 7, none⟩)) rfl (by kernel_rfl) (by kernel_rfl) (by kernel_rfl) (by decide) (fun c d e h => NoPanic.put h) (Or.inl ⟨by rfl, by intro W hW; go_simp⟩) (fun _ => hHeld) ?_
                  try simp only [Act.put, List.setIfInBounds_toArray, List.set_cons_zero, List.set_cons_succ]
                  refine wpAnyU_step 9 (o := ⟨none, .store 29 (.tmp 132) (.tmp 131), 0, _, _, none⟩) (by kernel_rfl) rfl rfl (fun K hK => ?_)
                  have kc : w9.cell? ⟨gs, 7, none⟩ = some (.slice Ao lo.length co) := hS9.cell 7
                  have kf := hS9.frozen
                  go_simp
                  refine hK.out _ _ (fun h => absurd h (by decide)) ?_
                  clear hK K
                  try simp only [Act.put, List.setIfInBounds_toArray, List.set_cons_zero, List.set_cons_succ]
                  refine wpAnyU_done (by kernel_rfl) ?_
                  refine NoPanic.normal ?_
                  have P10 := Lib.hid (P9.out.putO o9 t9)
                  have hms2 := sizeAt_eq P10.out.tk
                  clear hHeld hB9 hS9 o9 t9 hr9
                  go_wp2
                  refine ⟨⟨q.2, lo ++ [q.1], .slice A9 L9 c9, P10.out, by simp; omega, ?_⟩, by rw [hms, hms2]; exact hdec⟩
                  rw [← HEQ.out, HOP.out]
                  simp
                · have hfin : lo = opsAll u pg.2 := by
                    rw [← HEQ.out]
                    rcases Nat.lt_or_ge lo.length 4096 with h | h
                    · have hsk : sk = [] := Classical.not_not.1 fun hn => hgo ⟨hn, h⟩
                      rw [hsk, opsRest_nil u h, List.append_nil]
                    · rw [opsRest_full u h, List.append_nil]
                  have HFin := Lib.hid hfin
                  clear hfin
                  have HS := Lib.hid (show readB putR s = (⟨⟨u, pe.1, pr.1, pg.1, [], [], 0⟩, lo⟩ : Scp) by
                    have e1 : (1 + (take 4 s).1).toNat = u := by have := HU.out; omega
                    have e2 : (take 3 c.2).1.toNat = n := by have := Hn.out; omega
                    have e3 : (take 8 pr.2).1.toNat = m := by have := Hm.out; omega
                    have e4 : (take 3 pe.2).1.toNat = j := by have := Hj.out; omega
                    have h1 := HPR.out
                    rw [HR0.out] at h1
                    unfold readB
                    simp only [e1, HC.out, e2, h1, e3, HPE.out, e4, HPG.out]
                    rw [HFin.out]
                    rfl)
                  have HA := Lib.hid (P5.out.ls.away (k := w.heap.size) (by omega))
                  have x0 : wr.cell? ⟨gs, 0, none⟩ = some (.int .i64 u) := P5.out.sx.cell 0
                  have x1 : wr.cell? ⟨gs, 1, none⟩ = some (.slice Ae pe.1.length ce) := P5.out.sx.cell 1
                  have x2 : wr.cell? ⟨gs, 2, none⟩ = some (.slice Ar pr.1.length cr) := P5.out.sx.cell 2
                  have x3 : wr.cell? ⟨gs, 3, none⟩ = some (.slice Ag pg.1.length cg) := P5.out.sx.cell 3
                  have x4 : wr.cell? ⟨gs, 4, none⟩ = some (.slice none 0 0) := P5.out.sx.cell 4
                  have x5 : wr.cell? ⟨gs, 5, none⟩ = some (.slice none 0 0) := P5.out.sx.cell 5
                  have x6 : wr.cell? ⟨gs, 6, none⟩ = some (.int .i64 0) := P5.out.sx.cell 6
                  have x7 : wr.cell? ⟨gs, 7, none⟩ = some (.slice Ao lo.length co) := P5.out.sx.cell 7
                  have r0' : wr.cell? ⟨w.heap.size, 0, none⟩ = some (.int .i64 0) := P5.out.rs.cell 0
                  have r1' : wr.cell? ⟨w.heap.size, 1, none⟩ = some (.slice none 0 0) := P5.out.rs.cell 1
                  have r2' : wr.cell? ⟨w.heap.size, 2, none⟩ = some (.slice none 0 0) := P5.out.rs.cell 2
                  have r3' : wr.cell? ⟨w.heap.size, 3, none⟩ = some (.slice none 0 0) := P5.out.rs.cell 3
                  have r4' : wr.cell? ⟨w.heap.size, 4, none⟩ = some (.slice none 0 0) := P5.out.rs.cell 4
                  have r5' : wr.cell? ⟨w.heap.size, 5, none⟩ = some (.slice none 0 0) := P5.out.rs.cell 5
                  have r6' : wr.cell? ⟨w.heap.size, 6, none⟩ = some (.int .i64 0) := P5.out.rs.cell 6
                  have r7' : wr.cell? ⟨w.heap.size, 7, none⟩ = some (.slice none 0 0) := P5.out.rs.cell 7
                  have fr := P5.out.rs.frozen
                  have hgs1 : gs ≠ w.heap.size := by have := P5.out.hs; omega
                  have hgs2 : w.heap.size ≠ gs := by omega
                  by_cases hsk : sk = []
                  all_goals
                    first
                      | (have e1 : ¬ 0 < sk.length := by rw [hsk]; simp
                         have e2 : ¬ (0 : Int) < (sk.length : Int) := by omega)
                      | (have e1 : 0 < sk.length := List.length_pos_iff.2 hsk
                         have e2 : (0 : Int) < (sk.length : Int) := by omega
                         have h45 : (4096 : Int) ≤ (lo.length : Int) := by
                           have := Nat.not_lt.1 (fun h => hgo ⟨hsk, h⟩)
                           omega)
                    clear hgo hsk
                    go_wp2
                    refine bodyPost_ret (v := vScp (⟨⟨u, pe.1, pr.1, pg.1, [], [], 0⟩, lo⟩ : Scp) (.slice Ae pe.1.length ce) (.slice Ar pr.1.length cr) (.slice Ag pg.1.length cg) (.slice none 0 0) (.slice none 0 0) (.slice Ao lo.length co)) (by simp (maxDischargeDepth := 9) [results, Tryz.results18, go_sem, r0', r1', r2', r3', r4', r5', r6', r7']) rfl ?_
                    rw [HS.out]
                    refine ⟨_, _, _, _, _, _, rfl, ⟨⟨?_, ?_, ?_, Sls.nil _ _ _ _ _, Sls.nil _ _ _ _ _⟩, ?_⟩, ?_⟩
                    · refine (?_ : L4 (gb + 1) _ _ (.slice Ar pr.1.length cr) (.slice Ag pg.1.length cg) (.slice Ao lo.length co) pe.1 pr.1 pg.1 lo).oe.sls (by have := HL2.out; unfold maxLen; omega)
                      iterate 8 refine L4.set ?_ HA.out _
                      exact P5.out.ls
                    · refine (?_ : L4 (gb + 1) _ (.slice Ae pe.1.length ce) _ (.slice Ag pg.1.length cg) (.slice Ao lo.length co) pe.1 pr.1 pg.1 lo).oru.sls (by have := HL1.out; unfold maxLen; omega)
                      iterate 8 refine L4.set ?_ HA.out _
                      exact P5.out.ls
                    · refine (?_ : L4 (gb + 1) _ (.slice Ae pe.1.length ce) (.slice Ar pr.1.length cr) _ (.slice Ao lo.length co) pe.1 pr.1 pg.1 lo).og.sls (by have := HL3.out; unfold maxLen; omega)
                      iterate 8 refine L4.set ?_ HA.out _
                      exact P5.out.ls
                    · refine (?_ : L4 (gb + 1) _ (.slice Ae pe.1.length ce) (.slice Ar pr.1.length cr) (.slice Ag pg.1.length cg) _ pe.1 pr.1 pg.1 lo).oo.sls (by unfold maxLen; omega)
                      iterate 8 refine L4.set ?_ HA.out _
                      exact P5.out.ls
                    · iterate 8 refine Below.setCell ?_ (by simp) _
                      exact P5.out.bw

end Go.Proofs.YtamcgggmfghljaaGreatDoor
