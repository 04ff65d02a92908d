/- Layer 41 (program): Read (printed by tools/gen_read.py). -/
import Derived.Deep.QuietTactic
import Derived.BigQuiet
import Derived.Test.YtamcgggmfghljaaGreatDoorC8
set_option maxRecDepth 100000
set_option maxHeartbeats 8000000
namespace Go.Proofs.YtamcgggmfghljaaGreatDoor
open Go.RowKit
theorem read_p (s : Bytes) (w : World) (_hs : s.length ≤ 2000) :
    Calls Tryz.prog 17 #[str s] w fun u w' => ∃ e r g l x o, u = .returned (vScp (readB putB s) e r g l x o) ∧ RdScp w' w'.heap.size (readB putB s) e r g l x o ∧ Below w.heap.size w w' := by
  obtain ⟨ir, ri0, ri1, ri2, ri3⟩ := info_rul
  obtain ⟨ig, gi0, gi1, gi2, gi3⟩ := info_grt
  obtain ⟨io, oi0, oi1, oi2, oi3⟩ := info_opr
  have hb4 := take_bd 4 (by decide) s
  obtain ⟨u, hu⟩ : ∃ u : Nat, 1 + (take 4 s).1 = (u : Int) := ⟨(1 + (take 4 s).1).toNat, by omega⟩
  have hu1 : (u : Int) ≤ 4 := by omega
  have hu0 : (0 : Int) < (u : Int) := by omega
  go_enter Tryz.func17, Tryz.ntmps17
  go_wp2_with fail
  refine (take_any _ s 4 _ (by decide) (PS.start w s).tk).mono ?_
  rintro e w1 ⟨rfl, kt, hd⟩
  have P1 := Lib.hid ((PS.start w s).take kt hd)
  have hx : w1.cell? ⟨w.heap.size + 1 + 1, 0, none⟩ = some (.int .i64 0) := P1.out.bx.cell 0
  have fx := P1.out.bx.frozen
  clear kt hd
  go_wp2_with fail
  refine (crowds_any _ (take 4 s).2 u _ hu1 (P1.out.putU u).tk).mono ?_
  rintro e w2 ⟨rfl, kt, hd⟩
  have P2 := Lib.hid ((P1.out.putU u).take kt hd)
  clear kt hd hx fx P1
  have hx : w2.cell? ⟨w.heap.size + 1 + 1, 2, none⟩ = some (.slice none 0 0) := P2.out.bx.cell 2
  have fx := P2.out.bx.frozen
  have lx := P2.out.bx.lt
  obtain ⟨c, hc⟩ : ∃ c, crowds u (take 4 s).2 = c := ⟨_, rfl⟩
  rw [hc] at P2
  rw [hc]
  have hq2 : w.heap.size + 1 + 1 < w2.heap.size := lx
  go_wp2_with fail
  have P3 := Lib.hid (P2.out.putR (own_one cRul_len w2 (⟨⟨1, 1, 1024, 1024⟩, c.1⟩ : Rul)) ⟨(Chg.refl _ _).alloc _, fun k hk => .inr (by simp [Value.ownBlock] at hk; omega)⟩)
  rw [World.setCell_alloc_past _ _ _ _ hq2] at P3
  refine (take_any _ c.2 3 _ (by decide) P3.out.tk).mono ?_
  rintro e w3 ⟨rfl, kt, hd⟩
  have P4 := Lib.hid (P3.out.take kt hd)
  clear kt hd hx fx P2 P3 lx hq2
  have hb3 := take_bd 3 (by decide) c.2
  obtain ⟨n, hn⟩ : ∃ n : Nat, (take 3 c.2).1 = (n : Int) := ⟨(take 3 c.2).1.toNat, by omega⟩
  have hn2 : n ≤ 2 := by omega
  have HN0 := Lib.hid hn
  rw [hn]
  clear hb3 hb4 hn
  obtain ⟨r0, hr0⟩ : ∃ r0 : Rul, r0 = ⟨⟨1, 1, 1024, 1024⟩, c.1⟩ := ⟨_, rfl⟩
  rw [← hr0] at P4
  have HR0 := Lib.hid hr0
  have HC := Lib.hid hc
  have HU := Lib.hid hu
  clear hr0 hc hu
  go_wp2_with fail
  go_loopw [33] (fun i wr => ∃ k : Nat, k ≤ n ∧ i = .int .i64 k ∧ ∃ r, PS w wr (rulesS u r0 (take 3 c.2).2 k).2 u (.slice none 0 0) r (.slice none 0 0) (.slice none 0 0) [] (rulesS u r0 (take 3 c.2).2 k).1 [] []) (fun i _ => n - (intOf i).toNat)
  case atStart => exact ⟨0, by omega, rfl, _, P4.out⟩
  case round =>
    obtain ⟨k, hk, rfl, r, hP⟩ := hrel
    have hlen := rulesS_len u r0 (take 3 c.2).2 k
    by_cases hlt : k < n
    · have hnx : rulesS u r0 (take 3 c.2).2 (k + 1) = ((rulesS u r0 (take 3 c.2).2 k).1 ++ [⟨(field (rulesS u r0 (take 3 c.2).2 k).2).1, (crowds u (field (rulesS u r0 (take 3 c.2).2 k).2).2).1⟩], (crowds u (field (rulesS u r0 (take 3 c.2).2 k).2).2).2) := rfl
      have HX := Lib.hid hnx
      clear hnx
      generalize rulesS u r0 (take 3 c.2).2 k = p at *
      obtain ⟨lr, sk⟩ := p
      simp only at hlen hP HX
      have P5 := Lib.hid hP
      clear hP
      go_wp2_with fail
      refine (field_any _ sk _ P5.out.tk).mono ?_
      rintro e w5 ⟨rfl, kt, hd⟩
      have P6 := Lib.hid (P5.out.take kt hd)
      clear kt hd P5
      obtain ⟨f, hf⟩ : ∃ f, field sk = f := ⟨_, rfl⟩
      rw [hf] at P6 HX
      rw [hf]
      clear hf
      go_wp2_with fail
      have P7 := Lib.hid ((P6.out.alloc (.cells #[.int .i64 f.1.c1, .int .i64 f.1.r1, .int .i64 f.1.c2, .int .i64 f.1.r2] 43)).drewN 1)
      have KR := Lib.hid ((Blk.new w5 43 #[.int .i64 f.1.c1, .int .i64 f.1.r1, .int .i64 f.1.c2, .int .i64 f.1.r2]).drewN 1)
      have hz := P6.out.size
      refine wp_region_noPanic ?_
      refine wp_region_U (fun W => Blk W (w.heap.size + 1 + 1) 31 #[.int .i64 u, .slice none 0 0, r, .slice none 0 0, .slice none 0 0, .slice none 0 0, .int .i64 0, .slice none 0 0] ∧ Blk W w5.heap.size 43 #[.int .i64 f.1.c1, .int .i64 f.1.r1, .int .i64 f.1.c2, .int .i64 f.1.r2]) 17 (by kernel_rfl) ?_
      have hHeld : (fun W => Blk W (w.heap.size + 1 + 1) 31 #[.int .i64 u, .slice none 0 0, r, .slice none 0 0, .slice none 0 0, .slice none 0 0, .int .i64 0, .slice none 0 0] ∧ Blk W w5.heap.size 43 #[.int .i64 f.1.c1, .int .i64 f.1.r1, .int .i64 f.1.c2, .int .i64 f.1.r2]) _ := ⟨P7.out.bx, KR.out⟩
      refine wpAnyU_take0 0 (oi := ⟨some 37, .move (.tmp 5), _, _, _, none⟩) (v := .pointer (some ⟨w.heap.size + 1 + 1, 0, none⟩)) rfl (by kernel_rfl) (by kernel_rfl) (by kernel_rfl) (by decide) (fun c d e h => NoPanic.put h) (Or.inl ⟨by rfl, by intro W hW; go_simp⟩) (fun _ => hHeld) ?_
      try simp only [Act.put, List.setIfInBounds_toArray, List.set_cons_zero, List.set_cons_succ]
      refine wpAnyU_take0 1 (oi := ⟨some 38, .move (.tmp 5), _, _, _, none⟩) (v := .pointer (some ⟨w.heap.size + 1 + 1, 0, none⟩)) rfl (by kernel_rfl) (by kernel_rfl) (by kernel_rfl) (by decide) (fun c d e h => NoPanic.put h) (Or.inl ⟨by rfl, by intro W hW; go_simp⟩) (fun _ => hHeld) ?_
      try simp only [Act.put, List.setIfInBounds_toArray, List.set_cons_zero, List.set_cons_succ]
      refine wpAnyU_take0 2 (oi := ⟨some 39, .nilCheck (.tmp 38), _, _, _, none⟩) (v := .pointer (some ⟨w.heap.size + 1 + 1, 0, none⟩)) rfl (by kernel_rfl) (by kernel_rfl) (by kernel_rfl) (by decide) (fun c d e h => NoPanic.put h) (Or.inl ⟨by rfl, by intro W hW; go_simp⟩) (fun _ => hHeld) ?_
      try simp only [Act.put, List.setIfInBounds_toArray, List.set_cons_zero, List.set_cons_succ]
      refine wpAnyU_take0 3 (oi := ⟨some 40, .fieldAddr 28 (.tmp 39) 2, _, _, _, none⟩) (v := .pointer (some ⟨w.heap.size + 1 + 1, 2, none⟩)) rfl (by kernel_rfl) (by kernel_rfl) (by kernel_rfl) (by decide) (fun c d e h => NoPanic.put h) (Or.inl ⟨by rfl, by intro W hW; go_simp⟩) (fun _ => hHeld) ?_
      try simp only [Act.put, List.setIfInBounds_toArray, List.set_cons_zero, List.set_cons_succ]
      refine wpAnyU_take 4 (oi := ⟨some 41, .load 23 (.tmp 40), 23, _, _, none⟩) (v := r) rfl (by kernel_rfl) (by kernel_rfl) (by kernel_rfl) (by kernel_rfl) (by decide) (by kernel_rfl) (fun c d e h => NoPanic.put h) (Or.inl ⟨by rfl, by intro W hW; have hc : W.cell? ⟨w.heap.size + 1 + 1, 2, none⟩ = some (r) := hW.1.cell 2; go_simp⟩) hHeld ?_
      try simp only [Act.put, List.setIfInBounds_toArray, List.set_cons_zero, List.set_cons_succ]
      refine wpAnyU_take 5 (oi := ⟨some 42, .load 43 (.tmp 6), 43, _, _, none⟩) (v := .agg _) rfl (by kernel_rfl) (by kernel_rfl) (by kernel_rfl) (by kernel_rfl) (by decide) (by kernel_rfl) (fun c d e h => NoPanic.put h) (yieldsIf_load_mid rfl _ _ rfl (w5.heap.size) (0) rfl _ _ (fun W h => h.2.range (l := [_, _, _, _]) (o := 0) (by intro j v hj; rw [Nat.zero_add]; exact List.getElem?_toArray.trans hj)) rfl rfl (by kernel_rfl)) hHeld ?_
      try simp only [Act.put, List.setIfInBounds_toArray, List.set_cons_zero, List.set_cons_succ]
      refine wpAnyU_take0 6 (oi := ⟨some 43, .move (.tmp 3), _, _, _, none⟩) (v := .pointer (some ⟨w.heap.size + 1, 0, none⟩)) rfl (by kernel_rfl) (by kernel_rfl) (by kernel_rfl) (by decide) (fun c d e h => NoPanic.put h) (Or.inl ⟨by rfl, by intro W hW; go_simp⟩) (fun _ => hHeld) ?_
      try simp only [Act.put, List.setIfInBounds_toArray, List.set_cons_zero, List.set_cons_succ]
      refine wpAnyU_take0 7 (oi := ⟨some 44, .move (.tmp 5), _, _, _, none⟩) (v := .pointer (some ⟨w.heap.size + 1 + 1, 0, none⟩)) rfl (by kernel_rfl) (by kernel_rfl) (by kernel_rfl) (by decide) (fun c d e h => NoPanic.put h) (Or.inl ⟨by rfl, by intro W hW; go_simp⟩) (fun _ => hHeld) ?_
      try simp only [Act.put, List.setIfInBounds_toArray, List.set_cons_zero, List.set_cons_succ]
      refine wpAnyU_take0 8 (oi := ⟨some 45, .nilCheck (.tmp 44), _, _, _, none⟩) (v := .pointer (some ⟨w.heap.size + 1 + 1, 0, none⟩)) rfl (by kernel_rfl) (by kernel_rfl) (by kernel_rfl) (by decide) (fun c d e h => NoPanic.put h) (Or.inl ⟨by rfl, by intro W hW; go_simp⟩) (fun _ => hHeld) ?_
      try simp only [Act.put, List.setIfInBounds_toArray, List.set_cons_zero, List.set_cons_succ]
      refine wpAnyU_take0 9 (oi := ⟨some 46, .fieldAddr 28 (.tmp 45) 0, _, _, _, none⟩) (v := .pointer (some ⟨w.heap.size + 1 + 1, 0, none⟩)) rfl (by kernel_rfl) (by kernel_rfl) (by kernel_rfl) (by decide) (fun c d e h => NoPanic.put h) (Or.inl ⟨by rfl, by intro W hW; go_simp⟩) (fun _ => hHeld) ?_
      try simp only [Act.put, List.setIfInBounds_toArray, List.set_cons_zero, List.set_cons_succ]
      refine wpAnyU_take 10 (oi := ⟨some 47, .load 3 (.tmp 46), 3, _, _, none⟩) (v := .int .i64 u) rfl (by kernel_rfl) (by kernel_rfl) (by kernel_rfl) (by kernel_rfl) (by decide) (by kernel_rfl) (fun c d e h => NoPanic.put h) (Or.inl ⟨by rfl, by intro W hW; have hc : W.cell? ⟨w.heap.size + 1 + 1, 0, none⟩ = some (.int .i64 u) := hW.1.cell 0; go_simp⟩) hHeld ?_
      try simp only [Act.put, List.setIfInBounds_toArray, List.set_cons_zero, List.set_cons_succ]
      refine wpAnyU_step 11 (o := ⟨some 48, .call { callee := .value (.func 36), args := #[.tmp 43, .tmp 47], argTypes := #[72, 3] }, 46, _, _, none⟩) (by kernel_rfl) rfl rfl (fun K hK => ?_)
      go_simp
      go_at_call 36
      refine (crowds_any _ f.2 u _ hu1 P7.out.tk).mono ?_
      rintro e w6 ⟨rfl, kt, hd⟩
      have P8 := Lib.hid (P7.out.take kt hd)
      have KR8 := Lib.hid (KR.out.chg hd (by omega))
      clear kt hd
      obtain ⟨q, hq⟩ : ∃ q, crowds u f.2 = q := ⟨_, rfl⟩
      rw [hq] at P8 HX
      rw [hq]
      clear hq
      refine hK.out _ _ (fun _ => ⟨P8.out.bx, KR8.out⟩) ?_
      have hHeld : (fun W => Blk W (w.heap.size + 1 + 1) 31 #[.int .i64 u, .slice none 0 0, r, .slice none 0 0, .slice none 0 0, .slice none 0 0, .int .i64 0, .slice none 0 0] ∧ Blk W w5.heap.size 43 #[.int .i64 f.1.c1, .int .i64 f.1.r1, .int .i64 f.1.c2, .int .i64 f.1.r2]) _ := ⟨P8.out.bx, KR8.out⟩
      clear hK K
      try simp only [Act.put, List.setIfInBounds_toArray, List.set_cons_zero, List.set_cons_succ]
      refine wpAnyU_take0 12 (oi := ⟨some 49, .build 79 #[(0, .tmp 42), (1, .tmp 48)], _, _, _, none⟩) (v := .agg (cRul (⟨f.1, q.1⟩ : Rul)).toArray) rfl (by kernel_rfl) (by kernel_rfl) (by kernel_rfl) (by decide) (fun c d e h => NoPanic.put h) (Or.inl ⟨by rfl, by intro W hW; go_simp <;> rfl⟩) (fun _ => hHeld) ?_
      try simp only [Act.put, List.setIfInBounds_toArray, List.set_cons_zero, List.set_cons_succ]
      have P9 := Lib.hid (P8.out.alloc (.cells (cRul (⟨f.1, q.1⟩ : Rul)).toArray 79))
      have KR9 := Lib.hid (KR8.out.alloc (.cells (cRul (⟨f.1, q.1⟩ : Rul)).toArray 79))
      refine wpAnyU_step 13 (o := ⟨some 50, .buildSlice 23 1 #[(0, .tmp 49)], 23, _, _, none⟩) (by kernel_rfl) rfl rfl (fun K hK => ?_)
      go_simp
      refine hK.out _ _ (fun _ => ⟨P9.out.bx, KR9.out⟩) ?_
      have hHeld : (fun W => Blk W (w.heap.size + 1 + 1) 31 #[.int .i64 u, .slice none 0 0, r, .slice none 0 0, .slice none 0 0, .slice none 0 0, .int .i64 0, .slice none 0 0] ∧ Blk W w5.heap.size 43 #[.int .i64 f.1.c1, .int .i64 f.1.r1, .int .i64 f.1.c2, .int .i64 f.1.r2]) _ := ⟨P9.out.bx, KR9.out⟩
      clear hK K
      try simp only [Act.put, List.setIfInBounds_toArray, List.set_cons_zero, List.set_cons_succ]
      obtain ⟨r9, w9, hr9, o9, t9⟩ := run_more (P := Tryz.prog) _ cRul 23 23 79 ir _ 7 56 Tryz.underlying23 ri0 ri1 ri2 ri3 rfl (by omega) r lr P9.out.ls.oru _ _ [(⟨f.1, q.1⟩ : Rul)] (Sls.one (x := (⟨f.1, q.1⟩ : Rul)) (Blk.new _ _ _) rfl) cRul_len cRul_one (by simp; omega) (by omega)
      have hn1 : r.ownBlock ≠ some (w.heap.size + 1 + 1) := fun e => by have := P9.out.ls.br _ e; omega
      have hn2 : r.ownBlock ≠ some w5.heap.size := fun e => by have := P6.out.ls.oru.lt _ e; omega
      obtain ⟨A9, c9, hv9, -⟩ := id (o9.sls (by simp [maxLen]; omega))
      generalize hL9 : (lr ++ [(⟨f.1, q.1⟩ : Rul)]).length = L9 at hv9
      have HL9 := Lib.hid hL9
      clear hL9
      subst hv9
      have hB9 := P9.out.bx.outTo t9 hn1
      refine wpAnyU_step 14 (o := ⟨some 51, .call { callee := .builtin .append, args := #[.tmp 41, .tmp 50], argTypes := #[23, 23] }, 23, _, _, none⟩) (by kernel_rfl) rfl rfl (fun K hK => ?_)
      refine wp_append_eq (.tmp 41) (.tmp 50) _ _ rfl _ _ _ _ rfl rfl hr9 ?_
      refine hK.out _ _ (fun _ => ⟨hB9, KR9.out.outTo t9 hn2⟩) ?_
      have hHeld : (fun W => Blk W (w.heap.size + 1 + 1) 31 #[.int .i64 u, .slice none 0 0, r, .slice none 0 0, .slice none 0 0, .slice none 0 0, .int .i64 0, .slice none 0 0] ∧ Blk W w5.heap.size 43 #[.int .i64 f.1.c1, .int .i64 f.1.r1, .int .i64 f.1.c2, .int .i64 f.1.r2]) _ := ⟨hB9, KR9.out.outTo t9 hn2⟩
      clear hK K
      try simp only [Act.put, List.setIfInBounds_toArray, List.set_cons_zero, List.set_cons_succ]
      refine wpAnyU_take0 15 (oi := ⟨some 52, .nilCheck (.tmp 37), _, _, _, none⟩) (v := .pointer (some ⟨w.heap.size + 1 + 1, 0, none⟩)) rfl (by kernel_rfl) (by kernel_rfl) (by kernel_rfl) (by decide) (fun c d e h => NoPanic.put h) (Or.inl ⟨by rfl, by intro W hW; go_simp⟩) (fun _ => hHeld) ?_
      try simp only [Act.put, List.setIfInBounds_toArray, List.set_cons_zero, List.set_cons_succ]
      refine wpAnyU_take0 16 (oi := ⟨some 53, .fieldAddr 28 (.tmp 52) 2, _, _, _, none⟩) (v := .pointer (some ⟨w.heap.size + 1 + 1, 2, none⟩)) rfl (by kernel_rfl) (by kernel_rfl) (by kernel_rfl) (by decide) (fun c d e h => NoPanic.put h) (Or.inl ⟨by rfl, by intro W hW; go_simp⟩) (fun _ => hHeld) ?_
      try simp only [Act.put, List.setIfInBounds_toArray, List.set_cons_zero, List.set_cons_succ]
      refine wpAnyU_step 17 (o := ⟨none, .store 23 (.tmp 53) (.tmp 51), 0, _, _, none⟩) (by kernel_rfl) rfl rfl (fun K hK => ?_)
      have kc : w9.cell? ⟨w.heap.size + 1 + 1, 2, none⟩ = some r := hB9.cell 2
      have kf := hB9.frozen
      go_simp
      refine hK.out _ _ (fun h => absurd h (by decide)) ?_
      clear hK K
      try simp only [Act.put, List.setIfInBounds_toArray, List.set_cons_zero, List.set_cons_succ]
      refine wpAnyU_done (by kernel_rfl) ?_
      refine NoPanic.normal ?_
      have P10 := Lib.hid (P9.out.putR o9 t9)
      clear hHeld hB9 o9 t9 hr9
      go_wp2
      refine ⟨⟨k + 1, by omega, by go_num, .slice A9 L9 c9, ?_⟩, by simp [intOf]; omega⟩
      rw [HX.out]
      exact P10.out
    · have hkn : n = k := by omega
      subst hkn
      have QA := Lib.hid hP
      clear hP hlt
      obtain ⟨pr, hpr⟩ : ∃ p, rulesS u r0 (take 3 c.2).2 n = p := ⟨_, rfl⟩
      rw [hpr] at QA hlen
      have HPR := Lib.hid hpr
      clear hpr
      go_wp2_with fail
      refine (take_any _ pr.2 8 _ (by decide) QA.out.tk).mono ?_
      rintro e w11 ⟨rfl, kt, hd⟩
      have QB := Lib.hid (QA.out.take kt hd)
      clear kt hd
      have hbn := take_bd 8 (by decide) pr.2
      obtain ⟨m, hn⟩ : ∃ n : Nat, (take 8 pr.2).1 = (n : Int) := ⟨(take 8 pr.2).1.toNat, by omega⟩
      have m2 : m ≤ 7 := by omega
      have Hm := Lib.hid hn
      rw [hn]
      clear hbn hn
      go_wp2_with fail
      go_loopw [57] (fun i wr => ∃ k : Nat, k ≤ m ∧ i = .int .i64 k ∧ ∃ e, PS w wr (entsS putB (take 8 pr.2).2 k).2 u e r (.slice none 0 0) (.slice none 0 0) (entsS putB (take 8 pr.2).2 k).1 pr.1 [] []) (fun i _ => m - (intOf i).toNat)
      case atStart => exact ⟨0, by omega, rfl, _, QB.out⟩
      case round =>
        obtain ⟨k, hk, rfl, e, hP⟩ := hrel
        have hlen2 := entsS_len (take 8 pr.2).2 k
        by_cases hlt : k < m
        · have hnx : entsS putB (take 8 pr.2).2 (k + 1) = (putB (entsS putB (take 8 pr.2).2 k).1 ⟨(spot (entsS putB (take 8 pr.2).2 k).2).1, (content (spot (entsS putB (take 8 pr.2).2 k).2).2).1⟩, (content (spot (entsS putB (take 8 pr.2).2 k).2).2).2) := rfl
          have HX := Lib.hid hnx
          clear hnx
          generalize entsS putB (take 8 pr.2).2 k = p at *
          obtain ⟨le, sk⟩ := p
          simp only at hlen2 hP HX
          have P5 := Lib.hid hP
          clear hP
          go_wp2_with fail
          refine (spot_any _ sk _ P5.out.tk).mono ?_
          rintro e w5 ⟨rfl, kt, hd⟩
          have P6 := Lib.hid (P5.out.take kt hd)
          clear kt hd P5
          obtain ⟨f, hf⟩ : ∃ f, spot sk = f := ⟨_, rfl⟩
          rw [hf] at P6 HX
          rw [hf]
          clear hf
          go_wp2_with fail
          have P7 := Lib.hid ((P6.out.alloc (.cells #[.int .i64 f.1.col, .int .i64 f.1.row] 56)).drewN 1)
          have KR := Lib.hid ((Blk.new w5 56 #[.int .i64 f.1.col, .int .i64 f.1.row]).drewN 1)
          have hz := P6.out.size
          refine wp_region_noPanic ?_
          refine wp_region_U (fun W => Blk W (w.heap.size + 1 + 1) 31 #[.int .i64 u, e, r, .slice none 0 0, .slice none 0 0, .slice none 0 0, .int .i64 0, .slice none 0 0] ∧ Blk W w5.heap.size 56 #[.int .i64 f.1.col, .int .i64 f.1.row]) 12 (by kernel_rfl) ?_
          have hHeld : (fun W => Blk W (w.heap.size + 1 + 1) 31 #[.int .i64 u, e, r, .slice none 0 0, .slice none 0 0, .slice none 0 0, .int .i64 0, .slice none 0 0] ∧ Blk W w5.heap.size 56 #[.int .i64 f.1.col, .int .i64 f.1.row]) _ := ⟨P7.out.bx, KR.out⟩
          refine wpAnyU_take0 0 (oi := ⟨some 61, .move (.tmp 5), _, _, _, none⟩) (v := .pointer (some ⟨w.heap.size + 1 + 1, 0, none⟩)) rfl (by kernel_rfl) (by kernel_rfl) (by kernel_rfl) (by decide) (fun c d e h => NoPanic.put h) (Or.inl ⟨by rfl, by intro W hW; go_simp⟩) (fun _ => hHeld) ?_
          try simp only [Act.put, List.setIfInBounds_toArray, List.set_cons_zero, List.set_cons_succ]
          refine wpAnyU_take0 1 (oi := ⟨some 62, .move (.tmp 5), _, _, _, none⟩) (v := .pointer (some ⟨w.heap.size + 1 + 1, 0, none⟩)) rfl (by kernel_rfl) (by kernel_rfl) (by kernel_rfl) (by decide) (fun c d e h => NoPanic.put h) (Or.inl ⟨by rfl, by intro W hW; go_simp⟩) (fun _ => hHeld) ?_
          try simp only [Act.put, List.setIfInBounds_toArray, List.set_cons_zero, List.set_cons_succ]
          refine wpAnyU_take0 2 (oi := ⟨some 63, .nilCheck (.tmp 62), _, _, _, none⟩) (v := .pointer (some ⟨w.heap.size + 1 + 1, 0, none⟩)) rfl (by kernel_rfl) (by kernel_rfl) (by kernel_rfl) (by decide) (fun c d e h => NoPanic.put h) (Or.inl ⟨by rfl, by intro W hW; go_simp⟩) (fun _ => hHeld) ?_
          try simp only [Act.put, List.setIfInBounds_toArray, List.set_cons_zero, List.set_cons_succ]
          refine wpAnyU_take0 3 (oi := ⟨some 64, .fieldAddr 28 (.tmp 63) 1, _, _, _, none⟩) (v := .pointer (some ⟨w.heap.size + 1 + 1, 1, none⟩)) rfl (by kernel_rfl) (by kernel_rfl) (by kernel_rfl) (by decide) (fun c d e h => NoPanic.put h) (Or.inl ⟨by rfl, by intro W hW; go_simp⟩) (fun _ => hHeld) ?_
          try simp only [Act.put, List.setIfInBounds_toArray, List.set_cons_zero, List.set_cons_succ]
          refine wpAnyU_take 4 (oi := ⟨some 65, .load 22 (.tmp 64), 22, _, _, none⟩) (v := e) rfl (by kernel_rfl) (by kernel_rfl) (by kernel_rfl) (by kernel_rfl) (by decide) (by kernel_rfl) (fun c d e h => NoPanic.put h) (Or.inl ⟨by rfl, by intro W hW; have hc : W.cell? ⟨w.heap.size + 1 + 1, 1, none⟩ = some (e) := hW.1.cell 1; go_simp⟩) hHeld ?_
          try simp only [Act.put, List.setIfInBounds_toArray, List.set_cons_zero, List.set_cons_succ]
          refine wpAnyU_take 5 (oi := ⟨some 66, .load 56 (.tmp 7), 56, _, _, none⟩) (v := .agg _) rfl (by kernel_rfl) (by kernel_rfl) (by kernel_rfl) (by kernel_rfl) (by decide) (by kernel_rfl) (fun c d e h => NoPanic.put h) (yieldsIf_load_mid rfl _ _ rfl (w5.heap.size) (0) rfl _ _ (fun W h => h.2.range (l := [_, _]) (o := 0) (by intro j v hj; rw [Nat.zero_add]; exact List.getElem?_toArray.trans hj)) rfl rfl (by kernel_rfl)) hHeld ?_
          try simp only [Act.put, List.setIfInBounds_toArray, List.set_cons_zero, List.set_cons_succ]
          refine wpAnyU_take0 6 (oi := ⟨some 67, .move (.tmp 3), _, _, _, none⟩) (v := .pointer (some ⟨w.heap.size + 1, 0, none⟩)) rfl (by kernel_rfl) (by kernel_rfl) (by kernel_rfl) (by decide) (fun c d e h => NoPanic.put h) (Or.inl ⟨by rfl, by intro W hW; go_simp⟩) (fun _ => hHeld) ?_
          try simp only [Act.put, List.setIfInBounds_toArray, List.set_cons_zero, List.set_cons_succ]
          refine wpAnyU_step 7 (o := ⟨some 68, .call { callee := .value (.func 40), args := #[.tmp 67], argTypes := #[72] }, 9, _, _, none⟩) (by kernel_rfl) rfl rfl (fun K hK => ?_)
          go_simp
          go_at_call 40
          refine (content_any _ f.2 _ P7.out.tk).mono ?_
          rintro e' w6 ⟨rfl, kt, hd⟩
          have P8 := Lib.hid (P7.out.take kt hd)
          have KR8 := Lib.hid (KR.out.chg hd (by omega))
          clear kt hd
          obtain ⟨q, hq⟩ : ∃ q, content f.2 = q := ⟨_, rfl⟩
          rw [hq] at P8 HX
          rw [hq]
          clear hq
          refine hK.out _ _ (fun _ => ⟨P8.out.bx, KR8.out⟩) ?_
          have hHeld : (fun W => Blk W (w.heap.size + 1 + 1) 31 #[.int .i64 u, e, r, .slice none 0 0, .slice none 0 0, .slice none 0 0, .int .i64 0, .slice none 0 0] ∧ Blk W w5.heap.size 56 #[.int .i64 f.1.col, .int .i64 f.1.row]) _ := ⟨P8.out.bx, KR8.out⟩
          clear hK K
          try simp only [Act.put, List.setIfInBounds_toArray, List.set_cons_zero, List.set_cons_succ]
          refine wpAnyU_take0 8 (oi := ⟨some 69, .build 58 #[(0, .tmp 66), (1, .tmp 68)], _, _, _, none⟩) (v := .agg (cEnt (⟨f.1, q.1⟩ : Ent)).toArray) rfl (by kernel_rfl) (by kernel_rfl) (by kernel_rfl) (by decide) (fun c d e h => NoPanic.put h) (Or.inl ⟨by rfl, by intro W hW; go_simp <;> rfl⟩) (fun _ => hHeld) ?_
          try simp only [Act.put, List.setIfInBounds_toArray, List.set_cons_zero, List.set_cons_succ]
          refine wpAnyU_step 9 (o := ⟨some 70, .call { callee := .value (.func 39), args := #[.tmp 65, .tmp 69], argTypes := #[22, 58] }, 22, _, _, none⟩) (by kernel_rfl) rfl rfl (fun K hK => ?_)
          go_simp
          go_at_call 39
          refine (put_any e le (⟨f.1, q.1⟩ : Ent) _ P8.out.ls.oe (by omega)).mono ?_
          rintro e' w9 ⟨r9, rfl, o9, t9⟩
          have hn1 : e.ownBlock ≠ some (w.heap.size + 1 + 1) := fun h => by have := P8.out.ls.be _ h; omega
          have hn2 : e.ownBlock ≠ some w5.heap.size := fun h => by have := P6.out.ls.oe.lt _ h; omega
          have hpl := putB_len le (⟨f.1, q.1⟩ : Ent)
          obtain ⟨A9, c9, hv9, -⟩ := id (o9.sls (by unfold maxLen; omega))
          generalize hL9 : (putB le (⟨f.1, q.1⟩ : Ent)).length = L9 at hv9
          have HL9 := Lib.hid hL9
          clear hL9
          subst hv9
          have hB9 := P8.out.bx.outTo t9 hn1
          refine hK.out _ _ (fun _ => ⟨hB9, KR8.out.outTo t9 hn2⟩) ?_
          have hHeld : (fun W => Blk W (w.heap.size + 1 + 1) 31 #[.int .i64 u, e, r, .slice none 0 0, .slice none 0 0, .slice none 0 0, .int .i64 0, .slice none 0 0] ∧ Blk W w5.heap.size 56 #[.int .i64 f.1.col, .int .i64 f.1.row]) _ := ⟨hB9, KR8.out.outTo t9 hn2⟩
          clear hK K
          try simp only [Act.put, List.setIfInBounds_toArray, List.set_cons_zero, List.set_cons_succ]
          refine wpAnyU_take0 10 (oi := ⟨some 71, .nilCheck (.tmp 61), _, _, _, none⟩) (v := .pointer (some ⟨w.heap.size + 1 + 1, 0, none⟩)) rfl (by kernel_rfl) (by kernel_rfl) (by kernel_rfl) (by decide) (fun c d e h => NoPanic.put h) (Or.inl ⟨by rfl, by intro W hW; go_simp⟩) (fun _ => hHeld) ?_
          try simp only [Act.put, List.setIfInBounds_toArray, List.set_cons_zero, List.set_cons_succ]
          refine wpAnyU_take0 11 (oi := ⟨some 72, .fieldAddr 28 (.tmp 71) 1, _, _, _, none⟩) (v := .pointer (some ⟨w.heap.size + 1 + 1, 1, none⟩)) rfl (by kernel_rfl) (by kernel_rfl) (by kernel_rfl) (by decide) (fun c d e h => NoPanic.put h) (Or.inl ⟨by rfl, by intro W hW; go_simp⟩) (fun _ => hHeld) ?_
          try simp only [Act.put, List.setIfInBounds_toArray, List.set_cons_zero, List.set_cons_succ]
          refine wpAnyU_step 12 (o := ⟨none, .store 22 (.tmp 72) (.tmp 70), 0, _, _, none⟩) (by kernel_rfl) rfl rfl (fun K hK => ?_)
          have kc : w9.cell? ⟨w.heap.size + 1 + 1, 1, none⟩ = some e := hB9.cell 1
          have kf := hB9.frozen
          go_simp
          refine hK.out _ _ (fun h => absurd h (by decide)) ?_
          clear hK K
          try simp only [Act.put, List.setIfInBounds_toArray, List.set_cons_zero, List.set_cons_succ]
          refine wpAnyU_done (by kernel_rfl) ?_
          refine NoPanic.normal ?_
          have P10 := Lib.hid (P8.out.putE o9 t9)
          clear hHeld hB9 o9 t9
          go_wp2
          refine ⟨⟨k + 1, by omega, by go_num, .slice A9 L9 c9, ?_⟩, by simp [intOf]; omega⟩
          rw [HX.out]
          exact P10.out
        · have hkm : m = k := by omega
          subst hkm
          have QC := Lib.hid hP
          clear hP hlt
          obtain ⟨pe, hpe⟩ : ∃ p, entsS putB (take 8 pr.2).2 m = p := ⟨_, rfl⟩
          rw [hpe] at QC hlen2
          have HPE := Lib.hid hpe
          clear hpe
          go_wp2_with fail
          refine (take_any _ pe.2 3 _ (by decide) QC.out.tk).mono ?_
          rintro e w21 ⟨rfl, kt, hd⟩
          have QD := Lib.hid (QC.out.take kt hd)
          clear kt hd
          have hbn := take_bd 3 (by decide) pe.2
          obtain ⟨j, hn⟩ : ∃ n : Nat, (take 3 pe.2).1 = (n : Int) := ⟨(take 3 pe.2).1.toNat, by omega⟩
          have j2 : j ≤ 2 := by omega
          have Hj := Lib.hid hn
          rw [hn]
          clear hbn hn
          go_wp2_with fail
          go_loopw [76] (fun i wr => ∃ k : Nat, k ≤ j ∧ i = .int .i64 k ∧ ∃ g, PS w wr (grtsS u (take 3 pe.2).2 k).2 u e r g (.slice none 0 0) pe.1 pr.1 (grtsS u (take 3 pe.2).2 k).1 []) (fun i _ => j - (intOf i).toNat)
          case atStart => exact ⟨0, by omega, rfl, _, QD.out⟩
          case round =>
            obtain ⟨k, hk, rfl, g, hP⟩ := hrel
            have hlen3 := grtsS_len u (take 3 pe.2).2 k
            by_cases hlt : k < j
            · have hnx : grtsS u (take 3 pe.2).2 (k + 1) = ((grtsS u (take 3 pe.2).2 k).1 ++ [⟨(field (grtsS u (take 3 pe.2).2 k).2).1, 1 + (take 31 (field (grtsS u (take 3 pe.2).2 k).2).2).1, (crowd u (take 31 (field (grtsS u (take 3 pe.2).2 k).2).2).2).1, (take u (crowd u (take 31 (field (grtsS u (take 3 pe.2).2 k).2).2).2).2).1, false⟩], (take u (crowd u (take 31 (field (grtsS u (take 3 pe.2).2 k).2).2).2).2).2) := rfl
              have HX := Lib.hid hnx
              clear hnx
              generalize grtsS u (take 3 pe.2).2 k = p at *
              obtain ⟨lg, sk⟩ := p
              simp only at hlen3 hP HX
              have P5 := Lib.hid hP
              clear hP
              go_wp2_with fail
              refine (field_any _ sk _ P5.out.tk).mono ?_
              rintro e' w5 ⟨rfl, kt, hd⟩
              have P6 := Lib.hid (P5.out.take kt hd)
              clear kt hd P5
              obtain ⟨f, hf⟩ : ∃ f, field sk = f := ⟨_, rfl⟩
              rw [hf] at P6 HX
              rw [hf]
              clear hf
              have hz := P6.out.size
              have HF := Lib.hid (P6.out.ls.fresh (k := w5.heap.size) (Nat.le_refl _))
              have hne1 : w.heap.size + 1 + 1 ≠ w5.heap.size := by omega
              have hne2 : w5.heap.size ≠ w.heap.size + 1 + 1 := by omega
              go_wp2_with fail
              have P7 := Lib.hid (P6.out.alloc (.cells #[.int .i64 f.1.c1, .int .i64 f.1.r1, .int .i64 f.1.c2, .int .i64 f.1.r2, .int .u8 0, .int .u64 0, .int .i64 0, .bool false] 85))
              have KR := Lib.hid (Blk.new w5 85 #[.int .i64 f.1.c1, .int .i64 f.1.r1, .int .i64 f.1.c2, .int .i64 f.1.r2, .int .u8 0, .int .u64 0, .int .i64 0, .bool false])
              refine (take_any _ f.2 31 _ (by decide) P7.out.tk).mono ?_
              rintro e' w8 ⟨rfl, kt, hd⟩
              have P8 := Lib.hid (P7.out.take kt hd)
              have KR8 := Lib.hid (KR.out.chg hd (by omega))
              have hz8 := hd.size
              simp at hz8
              clear kt hd P7 KR
              have hb31 := take_bd 31 (by decide) f.2
              obtain ⟨q1, hq1⟩ : ∃ q, take 31 f.2 = q := ⟨_, rfl⟩
              rw [hq1] at P8 HX hb31
              rw [hq1]
              clear hq1
              have kc8 : w8.cell? ⟨w5.heap.size, 4, none⟩ = some (.int .u8 0) := KR8.out.cell 4
              have kf8 : ∀ o, w8.frozen? ⟨w5.heap.size, o, none⟩ = false := KR8.out.frozen
              have ku8 : w8.cell? ⟨w.heap.size + 1 + 1, 0, none⟩ = some (.int .i64 u) := P8.out.bx.cell 0
              go_wp2_with fail
              have P9 := Lib.hid (P8.out.far (p := ⟨w5.heap.size, 4, none⟩) hz HF.out (.int .u8 (1 + q1.1)))
              have KR9 := Lib.hid (KR8.out.set_ 4 (.int .u8 (1 + q1.1)))
              refine (crowd_any _ q1.2 u _ hu1 P9.out.tk).mono ?_
              rintro e' w10 ⟨rfl, kt, hd⟩
              have P10 := Lib.hid (P9.out.take kt hd)
              have KR10 := Lib.hid (KR9.out.chg hd (by omega))
              have hz10 := hd.size
              simp at hz10
              clear kt hd P9 KR9 P8 KR8 kc8 kf8 ku8
              obtain ⟨q2, hq2⟩ : ∃ q, crowd u q1.2 = q := ⟨_, rfl⟩
              rw [hq2] at P10 HX
              rw [hq2]
              clear hq2
              have kc10 : w10.cell? ⟨w5.heap.size, 5, none⟩ = some (.int .u64 0) := KR10.out.cell 5
              have kf10 : ∀ o, w10.frozen? ⟨w5.heap.size, o, none⟩ = false := KR10.out.frozen
              have ku10 : w10.cell? ⟨w.heap.size + 1 + 1, 0, none⟩ = some (.int .i64 u) := P10.out.bx.cell 0
              go_wp2_with fail
              have P11 := Lib.hid (P10.out.far (p := ⟨w5.heap.size, 5, none⟩) hz HF.out (.int .u64 q2.1))
              have KR11 := Lib.hid (KR10.out.set_ 5 (.int .u64 q2.1))
              refine (take_any _ q2.2 u _ hu0 P11.out.tk).mono ?_
              rintro e' w12 ⟨rfl, kt, hd⟩
              have P12 := Lib.hid (P11.out.take kt hd)
              have KR12 := Lib.hid (KR11.out.chg hd (by omega))
              have hz12 := hd.size
              simp at hz12
              clear kt hd P11 KR11 P10 KR10 kc10 kf10 ku10
              obtain ⟨q3, hq3⟩ : ∃ q, take u q2.2 = q := ⟨_, rfl⟩
              rw [hq3] at P12 HX
              rw [hq3]
              clear hq3
              have kc12 : w12.cell? ⟨w5.heap.size, 6, none⟩ = some (.int .i64 0) := KR12.out.cell 6
              have kf12 : ∀ o, w12.frozen? ⟨w5.heap.size, o, none⟩ = false := KR12.out.frozen
              go_wp2_with fail
              have P13 := Lib.hid ((P12.out.far (p := ⟨w5.heap.size, 6, none⟩) hz HF.out (.int .i64 q3.1)).drewN 1)
              have KR13 := Lib.hid (show Blk _ w5.heap.size 85 (cGrt (⟨f.1, 1 + q1.1, q2.1, q3.1, false⟩ : Grt)).toArray from (KR12.out.set_ 6 (.int .i64 q3.1)).drewN 1)
              clear P12 KR12 kc12 kf12
              refine wp_region_noPanic ?_
              refine wp_region_U (fun W => Blk W (w.heap.size + 1 + 1) 31 #[.int .i64 u, e, r, g, .slice none 0 0, .slice none 0 0, .int .i64 0, .slice none 0 0] ∧ Blk W w5.heap.size 85 (cGrt (⟨f.1, 1 + q1.1, q2.1, q3.1, false⟩ : Grt)).toArray) 10 (by kernel_rfl) ?_
              have hHeld : (fun W => Blk W (w.heap.size + 1 + 1) 31 #[.int .i64 u, e, r, g, .slice none 0 0, .slice none 0 0, .int .i64 0, .slice none 0 0] ∧ Blk W w5.heap.size 85 (cGrt (⟨f.1, 1 + q1.1, q2.1, q3.1, false⟩ : Grt)).toArray) _ := ⟨P13.out.bx, KR13.out⟩
              refine wpAnyU_take0 0 (oi := ⟨some 100, .move (.tmp 5), _, _, _, none⟩) (v := .pointer (some ⟨w.heap.size + 1 + 1, 0, none⟩)) rfl (by kernel_rfl) (by kernel_rfl) (by kernel_rfl) (by decide) (fun c d e h => NoPanic.put h) (Or.inl ⟨by rfl, by intro W hW; go_simp⟩) (fun _ => hHeld) ?_
              try simp only [Act.put, List.setIfInBounds_toArray, List.set_cons_zero, List.set_cons_succ]
              refine wpAnyU_take0 1 (oi := ⟨some 101, .move (.tmp 5), _, _, _, none⟩) (v := .pointer (some ⟨w.heap.size + 1 + 1, 0, none⟩)) rfl (by kernel_rfl) (by kernel_rfl) (by kernel_rfl) (by decide) (fun c d e h => NoPanic.put h) (Or.inl ⟨by rfl, by intro W hW; go_simp⟩) (fun _ => hHeld) ?_
              try simp only [Act.put, List.setIfInBounds_toArray, List.set_cons_zero, List.set_cons_succ]
              refine wpAnyU_take0 2 (oi := ⟨some 102, .nilCheck (.tmp 101), _, _, _, none⟩) (v := .pointer (some ⟨w.heap.size + 1 + 1, 0, none⟩)) rfl (by kernel_rfl) (by kernel_rfl) (by kernel_rfl) (by decide) (fun c d e h => NoPanic.put h) (Or.inl ⟨by rfl, by intro W hW; go_simp⟩) (fun _ => hHeld) ?_
              try simp only [Act.put, List.setIfInBounds_toArray, List.set_cons_zero, List.set_cons_succ]
              refine wpAnyU_take0 3 (oi := ⟨some 103, .fieldAddr 28 (.tmp 102) 3, _, _, _, none⟩) (v := .pointer (some ⟨w.heap.size + 1 + 1, 3, none⟩)) rfl (by kernel_rfl) (by kernel_rfl) (by kernel_rfl) (by decide) (fun c d e h => NoPanic.put h) (Or.inl ⟨by rfl, by intro W hW; go_simp⟩) (fun _ => hHeld) ?_
              try simp only [Act.put, List.setIfInBounds_toArray, List.set_cons_zero, List.set_cons_succ]
              refine wpAnyU_take 4 (oi := ⟨some 104, .load 24 (.tmp 103), 24, _, _, none⟩) (v := g) rfl (by kernel_rfl) (by kernel_rfl) (by kernel_rfl) (by kernel_rfl) (by decide) (by kernel_rfl) (fun c d e h => NoPanic.put h) (Or.inl ⟨by rfl, by intro W hW; have hc : W.cell? ⟨w.heap.size + 1 + 1, 3, none⟩ = some (g) := hW.1.cell 3; go_simp⟩) hHeld ?_
              try simp only [Act.put, List.setIfInBounds_toArray, List.set_cons_zero, List.set_cons_succ]
              refine wpAnyU_take 5 (oi := ⟨some 105, .load 85 (.tmp 8), 85, _, _, none⟩) (v := .agg _) rfl (by kernel_rfl) (by kernel_rfl) (by kernel_rfl) (by kernel_rfl) (by decide) (by kernel_rfl) (fun c d e h => NoPanic.put h) (yieldsIf_load_mid rfl _ _ rfl (w5.heap.size) (0) rfl _ _ (fun W h => h.2.range (l := cGrt (⟨f.1, 1 + q1.1, q2.1, q3.1, false⟩ : Grt)) (o := 0) (by intro j v hj; rw [Nat.zero_add]; exact List.getElem?_toArray.trans hj)) rfl rfl (by kernel_rfl)) hHeld ?_
              try simp only [Act.put, List.setIfInBounds_toArray, List.set_cons_zero, List.set_cons_succ]
              have P14 := Lib.hid (P13.out.alloc (.cells (cGrt (⟨f.1, 1 + q1.1, q2.1, q3.1, false⟩ : Grt)).toArray 85))
              have KR14 := Lib.hid (KR13.out.alloc (.cells (cGrt (⟨f.1, 1 + q1.1, q2.1, q3.1, false⟩ : Grt)).toArray 85))
              refine wpAnyU_step 6 (o := ⟨some 106, .buildSlice 24 1 #[(0, .tmp 105)], 24, _, _, none⟩) (by kernel_rfl) rfl rfl (fun K hK => ?_)
              go_simp
              refine hK.out _ _ (fun _ => ⟨P14.out.bx, KR14.out⟩) ?_
              have hHeld : (fun W => Blk W (w.heap.size + 1 + 1) 31 #[.int .i64 u, e, r, g, .slice none 0 0, .slice none 0 0, .int .i64 0, .slice none 0 0] ∧ Blk W w5.heap.size 85 (cGrt (⟨f.1, 1 + q1.1, q2.1, q3.1, false⟩ : Grt)).toArray) _ := ⟨P14.out.bx, KR14.out⟩
              clear hK K
              try simp only [Act.put, List.setIfInBounds_toArray, List.set_cons_zero, List.set_cons_succ]
              obtain ⟨r9, w9, hr9, o9, t9⟩ := run_more (P := Tryz.prog) _ cGrt 24 24 85 ig _ 8 64 Tryz.underlying24 gi0 gi1 gi2 gi3 rfl (by omega) g lg P14.out.ls.og _ _ [(⟨f.1, 1 + q1.1, q2.1, q3.1, false⟩ : Grt)] (Sls.one (x := (⟨f.1, 1 + q1.1, q2.1, q3.1, false⟩ : Grt)) (Blk.new _ _ _) rfl) cGrt_len cGrt_one (by simp; omega) (by omega)
              have hn1 : g.ownBlock ≠ some (w.heap.size + 1 + 1) := fun e => by have := P14.out.ls.bg _ e; omega
              have hn2 : g.ownBlock ≠ some w5.heap.size := HF.out.2.2.1
              obtain ⟨A9, c9, hv9, -⟩ := id (o9.sls (by simp [maxLen]; omega))
              generalize hL9 : (lg ++ [(⟨f.1, 1 + q1.1, q2.1, q3.1, false⟩ : Grt)]).length = L9 at hv9
              have HL9 := Lib.hid hL9
              clear hL9
              subst hv9
              have hB9 := P14.out.bx.outTo t9 hn1
              refine wpAnyU_step 7 (o := ⟨some 107, .call { callee := .builtin .append, args := #[.tmp 104, .tmp 106], argTypes := #[24, 24] }, 24, _, _, none⟩) (by kernel_rfl) rfl rfl (fun K hK => ?_)
              refine wp_append_eq (.tmp 104) (.tmp 106) _ _ rfl _ _ _ _ rfl rfl hr9 ?_
              refine hK.out _ _ (fun _ => ⟨hB9, KR14.out.outTo t9 hn2⟩) ?_
              have hHeld : (fun W => Blk W (w.heap.size + 1 + 1) 31 #[.int .i64 u, e, r, g, .slice none 0 0, .slice none 0 0, .int .i64 0, .slice none 0 0] ∧ Blk W w5.heap.size 85 (cGrt (⟨f.1, 1 + q1.1, q2.1, q3.1, false⟩ : Grt)).toArray) _ := ⟨hB9, KR14.out.outTo t9 hn2⟩
              clear hK K
              try simp only [Act.put, List.setIfInBounds_toArray, List.set_cons_zero, List.set_cons_succ]
              refine wpAnyU_take0 8 (oi := ⟨some 108, .nilCheck (.tmp 100), _, _, _, none⟩) (v := .pointer (some ⟨w.heap.size + 1 + 1, 0, none⟩)) rfl (by kernel_rfl) (by kernel_rfl) (by kernel_rfl) (by decide) (fun c d e h => NoPanic.put h) (Or.inl ⟨by rfl, by intro W hW; go_simp⟩) (fun _ => hHeld) ?_
              try simp only [Act.put, List.setIfInBounds_toArray, List.set_cons_zero, List.set_cons_succ]
              refine wpAnyU_take0 9 (oi := ⟨some 109, .fieldAddr 28 (.tmp 108) 3, _, _, _, none⟩) (v := .pointer (some ⟨w.heap.size + 1 + 1, 3, none⟩)) rfl (by kernel_rfl) (by kernel_rfl) (by kernel_rfl) (by decide) (fun c d e h => NoPanic.put h) (Or.inl ⟨by rfl, by intro W hW; go_simp⟩) (fun _ => hHeld) ?_
              try simp only [Act.put, List.setIfInBounds_toArray, List.set_cons_zero, List.set_cons_succ]
              refine wpAnyU_step 10 (o := ⟨none, .store 24 (.tmp 109) (.tmp 107), 0, _, _, none⟩) (by kernel_rfl) rfl rfl (fun K hK => ?_)
              have kc : w9.cell? ⟨w.heap.size + 1 + 1, 3, none⟩ = some g := hB9.cell 3
              have kf := hB9.frozen
              go_simp
              refine hK.out _ _ (fun h => absurd h (by decide)) ?_
              clear hK K
              try simp only [Act.put, List.setIfInBounds_toArray, List.set_cons_zero, List.set_cons_succ]
              refine wpAnyU_done (by kernel_rfl) ?_
              refine NoPanic.normal ?_
              have P15 := Lib.hid (P14.out.putG o9 t9)
              clear hHeld hB9 o9 t9 hr9
              go_wp2
              refine ⟨⟨k + 1, by omega, by go_num, .slice A9 L9 c9, ?_⟩, by simp [intOf]; omega⟩
              rw [HX.out]
              exact P15.out
            · have hkj : j = k := by omega
              subst hkj
              have QE := Lib.hid hP
              clear hP hlt
              obtain ⟨pg, hpg⟩ : ∃ p, grtsS u (take 3 pe.2).2 j = p := ⟨_, rfl⟩
              rw [hpg] at QE hlen3
              have HPG := Lib.hid hpg
              clear hpg
              go_wp2_with fail
              go_loopw [114] (fun _ wr => ∃ sk lo o, PS w wr sk u e r g o pe.1 pr.1 pg.1 lo ∧ lo.length ≤ 4096 ∧ lo ++ opsRest u lo.length sk = opsAll u pg.2) (fun _ wr => sizeAt (w.heap.size + 1) wr)
              case atStart => exact ⟨_, [], _, QE.out, by simp, by rw [List.nil_append]; exact opsRest_zero u _⟩
              case round =>
                obtain ⟨sk, lo, o, hP, hlo, heq⟩ := hrel
                have P5 := Lib.hid hP
                have HEQ := Lib.hid heq
                have hms := sizeAt_eq hP.tk
                obtain ⟨Ao, co, hvo, -⟩ := id (hP.ls.oo.sls (by unfold maxLen; omega))
                subst hvo
                clear hP heq
                have kt5 : wr.cell? ⟨w.heap.size + 1, 0, none⟩ = some (str sk) := P5.out.tk.cell 0
                have ko5 : wr.cell? ⟨w.heap.size + 1 + 1, 7, none⟩ = some (.slice Ao lo.length co) := P5.out.bx.cell 7
                have hz := P5.out.size
                by_cases hgo : sk ≠ [] ∧ lo.length < 4096
                · obtain ⟨hsk, hl4⟩ := hgo
                  have e0 : (sk == ([] : List UInt8)) = false := by simpa using hsk
                  have hl5 : (lo.length : Int) < 4096 := by omega
                  have hdec := oper_lt u sk hsk
                  have hop := opsRest_step u hl4 hsk
                  have HOP := Lib.hid hop
                  clear hop hsk
                  go_wp2_with fail
                  have P7 := Lib.hid (P5.out.drewN 1)
                  refine wp_region_noPanic ?_
                  refine wp_region_U (fun W => Blk W (w.heap.size + 1 + 1) 31 #[.int .i64 u, e, r, g, .slice none 0 0, .slice none 0 0, .int .i64 0, .slice Ao lo.length co]) 11 (by kernel_rfl) ?_
                  have hHeld : (fun W => Blk W (w.heap.size + 1 + 1) 31 #[.int .i64 u, e, r, g, .slice none 0 0, .slice none 0 0, .int .i64 0, .slice Ao lo.length co]) _ := P7.out.bx
                  refine wpAnyU_take0 0 (oi := ⟨some 122, .fieldAddr 31 (.tmp 4) 1, _, _, _, none⟩) (v := .pointer (some ⟨w.heap.size + 1 + 1, 7, none⟩)) rfl (by kernel_rfl) (by kernel_rfl) (by kernel_rfl) (by decide) (fun c d e h => NoPanic.put h) (Or.inl ⟨by rfl, by intro W hW; go_simp⟩) (fun _ => hHeld) ?_
                  try simp only [Act.put, List.setIfInBounds_toArray, List.set_cons_zero, List.set_cons_succ]
                  refine wpAnyU_take 1 (oi := ⟨some 123, .load 29 (.tmp 122), 29, _, _, none⟩) (v := .slice Ao lo.length co) rfl (by kernel_rfl) (by kernel_rfl) (by kernel_rfl) (by kernel_rfl) (by decide) (by kernel_rfl) (fun c d e h => NoPanic.put h) (Or.inl ⟨by rfl, by intro W hW; have hc : W.cell? ⟨w.heap.size + 1 + 1, 7, none⟩ = some (.slice Ao lo.length co) := hW.cell 7; go_simp⟩) hHeld ?_
                  try simp only [Act.put, List.setIfInBounds_toArray, List.set_cons_zero, List.set_cons_succ]
                  refine wpAnyU_take0 2 (oi := ⟨some 124, .move (.tmp 3), _, _, _, none⟩) (v := .pointer (some ⟨w.heap.size + 1, 0, none⟩)) rfl (by kernel_rfl) (by kernel_rfl) (by kernel_rfl) (by decide) (fun c d e h => NoPanic.put h) (Or.inl ⟨by rfl, by intro W hW; go_simp⟩) (fun _ => hHeld) ?_
                  try simp only [Act.put, List.setIfInBounds_toArray, List.set_cons_zero, List.set_cons_succ]
                  refine wpAnyU_take0 3 (oi := ⟨some 125, .move (.tmp 5), _, _, _, none⟩) (v := .pointer (some ⟨w.heap.size + 1 + 1, 0, none⟩)) rfl (by kernel_rfl) (by kernel_rfl) (by kernel_rfl) (by decide) (fun c d e h => NoPanic.put h) (Or.inl ⟨by rfl, by intro W hW; go_simp⟩) (fun _ => hHeld) ?_
                  try simp only [Act.put, List.setIfInBounds_toArray, List.set_cons_zero, List.set_cons_succ]
                  refine wpAnyU_take0 4 (oi := ⟨some 126, .nilCheck (.tmp 125), _, _, _, none⟩) (v := .pointer (some ⟨w.heap.size + 1 + 1, 0, none⟩)) rfl (by kernel_rfl) (by kernel_rfl) (by kernel_rfl) (by decide) (fun c d e h => NoPanic.put h) (Or.inl ⟨by rfl, by intro W hW; go_simp⟩) (fun _ => hHeld) ?_
                  try simp only [Act.put, List.setIfInBounds_toArray, List.set_cons_zero, List.set_cons_succ]
                  refine wpAnyU_take0 5 (oi := ⟨some 127, .fieldAddr 28 (.tmp 126) 0, _, _, _, none⟩) (v := .pointer (some ⟨w.heap.size + 1 + 1, 0, none⟩)) rfl (by kernel_rfl) (by kernel_rfl) (by kernel_rfl) (by decide) (fun c d e h => NoPanic.put h) (Or.inl ⟨by rfl, by intro W hW; go_simp⟩) (fun _ => hHeld) ?_
                  try simp only [Act.put, List.setIfInBounds_toArray, List.set_cons_zero, List.set_cons_succ]
                  refine wpAnyU_take 6 (oi := ⟨some 128, .load 3 (.tmp 127), 3, _, _, none⟩) (v := .int .i64 u) rfl (by kernel_rfl) (by kernel_rfl) (by kernel_rfl) (by kernel_rfl) (by decide) (by kernel_rfl) (fun c d e h => NoPanic.put h) (Or.inl ⟨by rfl, by intro W hW; have hc : W.cell? ⟨w.heap.size + 1 + 1, 0, none⟩ = some (.int .i64 u) := hW.cell 0; go_simp⟩) hHeld ?_
                  try simp only [Act.put, List.setIfInBounds_toArray, List.set_cons_zero, List.set_cons_succ]
                  refine wpAnyU_step 7 (o := ⟨some 129, .call { callee := .value (.func 42), args := #[.tmp 124, .tmp 128], argTypes := #[72, 3] }, 48, _, _, none⟩) (by kernel_rfl) rfl rfl (fun K hK => ?_)
                  go_simp
                  go_at_call 42
                  refine (oper_any _ sk u _ hu1 hu0 P7.out.tk).mono ?_
                  rintro e' w6 ⟨rfl, kt, hd⟩
                  have P8 := Lib.hid (P7.out.take kt hd)
                  clear kt hd
                  obtain ⟨q, hq⟩ : ∃ q, oper u sk = q := ⟨_, rfl⟩
                  rw [hq] at P8 HOP hdec
                  rw [hq]
                  clear hq
                  rw [show Value.agg (cOpr q.1).toArray = .agg #[.int .u8 q.1.kind, .int .i64 q.1.user, .int .i64 q.1.rect.c1, .int .i64 q.1.rect.r1, .int .i64 q.1.rect.c2, .int .i64 q.1.rect.r2, str q.1.input, .int .u64 q.1.rights.rd, .int .u64 q.1.rights.wr, .int .u64 q.1.rights.ow, .int .u8 q.1.fns, .int .u64 q.1.to_, .int .i64 q.1.index] from rfl]
                  refine hK.out _ _ (fun _ => P8.out.bx) ?_
                  have hHeld : (fun W => Blk W (w.heap.size + 1 + 1) 31 #[.int .i64 u, e, r, g, .slice none 0 0, .slice none 0 0, .int .i64 0, .slice Ao lo.length co]) _ := P8.out.bx
                  clear hK K
                  try simp only [Act.put, List.setIfInBounds_toArray, List.set_cons_zero, List.set_cons_succ]
                  have P9 := Lib.hid (P8.out.alloc (.cells #[.int .u8 q.1.kind, .int .i64 q.1.user, .int .i64 q.1.rect.c1, .int .i64 q.1.rect.r1, .int .i64 q.1.rect.c2, .int .i64 q.1.rect.r2, str q.1.input, .int .u64 q.1.rights.rd, .int .u64 q.1.rights.wr, .int .u64 q.1.rights.ow, .int .u8 q.1.fns, .int .u64 q.1.to_, .int .i64 q.1.index] 48))
                  refine wpAnyU_step 8 (o := ⟨some 130, .buildSlice 29 1 #[(0, .tmp 129)], 29, _, _, none⟩) (by kernel_rfl) rfl rfl (fun K hK => ?_)
                  go_simp
                  refine hK.out _ _ (fun _ => P9.out.bx) ?_
                  have hHeld : (fun W => Blk W (w.heap.size + 1 + 1) 31 #[.int .i64 u, e, r, g, .slice none 0 0, .slice none 0 0, .int .i64 0, .slice Ao lo.length co]) _ := P9.out.bx
                  clear hK K
                  try simp only [Act.put, List.setIfInBounds_toArray, List.set_cons_zero, List.set_cons_succ]
                  obtain ⟨r9, w9, hr9, o9, t9⟩ := run_more (P := Tryz.prog) _ cOpr 29 29 48 io _ 13 112 Tryz.underlying29 oi0 oi1 oi2 oi3 rfl (by omega) (.slice Ao lo.length co) lo P9.out.ls.oo _ _ [q.1] (Sls.one (x := q.1) (Blk.new _ _ _) rfl) cOpr_len cOpr_one (by simp; omega) (by omega)
                  have hn1 : (Value.slice Ao lo.length co).ownBlock ≠ some (w.heap.size + 1 + 1) := fun e => by have := P9.out.ls.bo _ e; omega
                  obtain ⟨A9, c9, hv9, -⟩ := id (o9.sls (by simp [maxLen]; omega))
                  generalize hL9 : (lo ++ [q.1]).length = L9 at hv9
                  have HL9 := Lib.hid hL9
                  clear hL9
                  subst hv9
                  have hB9 := P9.out.bx.outTo t9 hn1
                  refine wpAnyU_step 9 (o := ⟨some 131, .call { callee := .builtin .append, args := #[.tmp 123, .tmp 130], argTypes := #[29, 29] }, 29, _, _, none⟩) (by kernel_rfl) rfl rfl (fun K hK => ?_)
                  refine wp_append_eq (.tmp 123) (.tmp 130) _ _ rfl _ _ _ _ rfl rfl hr9 ?_
                  refine hK.out _ _ (fun _ => hB9) ?_
                  have hHeld : (fun W => Blk W (w.heap.size + 1 + 1) 31 #[.int .i64 u, e, r, g, .slice none 0 0, .slice none 0 0, .int .i64 0, .slice Ao lo.length co]) _ := hB9
                  clear hK K
                  try simp only [Act.put, List.setIfInBounds_toArray, List.set_cons_zero, List.set_cons_succ]
                  refine wpAnyU_take0 10 (oi := ⟨some 132, .fieldAddr 31 (.tmp 4) 1, _, _, _, none⟩) (v := .pointer (some ⟨w.heap.size + 1 + 1, 7, none⟩)) rfl (by kernel_rfl) (by kernel_rfl) (by kernel_rfl) (by decide) (fun c d e h => NoPanic.put h) (Or.inl ⟨by rfl, by intro W hW; go_simp⟩) (fun _ => hHeld) ?_
                  try simp only [Act.put, List.setIfInBounds_toArray, List.set_cons_zero, List.set_cons_succ]
                  refine wpAnyU_step 11 (o := ⟨none, .store 29 (.tmp 132) (.tmp 131), 0, _, _, none⟩) (by kernel_rfl) rfl rfl (fun K hK => ?_)
                  have kc : w9.cell? ⟨w.heap.size + 1 + 1, 7, none⟩ = some (.slice Ao lo.length co) := hB9.cell 7
                  have kf := hB9.frozen
                  go_simp
                  refine hK.out _ _ (fun h => absurd h (by decide)) ?_
                  clear hK K
                  try simp only [Act.put, List.setIfInBounds_toArray, List.set_cons_zero, List.set_cons_succ]
                  refine wpAnyU_done (by kernel_rfl) ?_
                  refine NoPanic.normal ?_
                  have P10 := Lib.hid (P9.out.putO o9 t9)
                  have hms2 := sizeAt_eq P10.out.tk
                  clear hHeld hB9 o9 t9 hr9
                  go_wp2
                  refine ⟨⟨q.2, lo ++ [q.1], .slice A9 L9 c9, P10.out, by simp; omega, ?_⟩, by rw [hms, hms2]; exact hdec⟩
                  rw [← HEQ.out, HOP.out]
                  simp
                · have hfin : lo = opsAll u pg.2 := by
                    rw [← HEQ.out]
                    rcases Nat.lt_or_ge lo.length 4096 with h | h
                    · have hsk : sk = [] := Classical.not_not.1 fun hn => hgo ⟨hn, h⟩
                      rw [hsk, opsRest_nil u h, List.append_nil]
                    · rw [opsRest_full u h, List.append_nil]
                  have HFin := Lib.hid hfin
                  clear hfin
                  have HS := Lib.hid (show readB putB s = (⟨⟨u, pe.1, pr.1, pg.1, [], [], 0⟩, lo⟩ : Scp) by
                    have e1 : (1 + (take 4 s).1).toNat = u := by have := HU.out; omega
                    have e2 : (take 3 c.2).1.toNat = n := by have := HN0.out; omega
                    have e3 : (take 8 pr.2).1.toNat = m := by have := Hm.out; omega
                    have e4 : (take 3 pe.2).1.toNat = j := by have := Hj.out; omega
                    have h1 := HPR.out
                    rw [HR0.out] at h1
                    unfold readB
                    simp only [e1, HC.out, e2, h1, e3, HPE.out, e4, HPG.out]
                    rw [HFin.out]
                    rfl)
                  have HL1 := Lib.hid hlen
                  have HL2 := Lib.hid hlen2
                  have HL3 := Lib.hid hlen3
                  clear hlen hlen2 hlen3
                  obtain ⟨Ae, ce, hve, -⟩ := id (P5.out.ls.oe.sls (by have := HL2.out; unfold maxLen; omega))
                  obtain ⟨Ar, cr, hvr, -⟩ := id (P5.out.ls.oru.sls (by have := HL1.out; unfold maxLen; omega))
                  obtain ⟨Ag, cg, hvg, -⟩ := id (P5.out.ls.og.sls (by have := HL3.out; unfold maxLen; omega))
                  subst hve hvr hvg
                  have HA := Lib.hid (P5.out.ls.away (k := w.heap.size) (by omega))
                  have x0 : wr.cell? ⟨w.heap.size + 1 + 1, 0, none⟩ = some (.int .i64 u) := P5.out.bx.cell 0
                  have x1 : wr.cell? ⟨w.heap.size + 1 + 1, 1, none⟩ = some (.slice Ae pe.1.length ce) := P5.out.bx.cell 1
                  have x2 : wr.cell? ⟨w.heap.size + 1 + 1, 2, none⟩ = some (.slice Ar pr.1.length cr) := P5.out.bx.cell 2
                  have x3 : wr.cell? ⟨w.heap.size + 1 + 1, 3, none⟩ = some (.slice Ag pg.1.length cg) := P5.out.bx.cell 3
                  have x4 : wr.cell? ⟨w.heap.size + 1 + 1, 4, none⟩ = some (.slice none 0 0) := P5.out.bx.cell 4
                  have x5 : wr.cell? ⟨w.heap.size + 1 + 1, 5, none⟩ = some (.slice none 0 0) := P5.out.bx.cell 5
                  have x6 : wr.cell? ⟨w.heap.size + 1 + 1, 6, none⟩ = some (.int .i64 0) := P5.out.bx.cell 6
                  have r0' : wr.cell? ⟨w.heap.size, 0, none⟩ = some (.int .i64 0) := P5.out.rs.cell 0
                  have r1' : wr.cell? ⟨w.heap.size, 1, none⟩ = some (.slice none 0 0) := P5.out.rs.cell 1
                  have r2' : wr.cell? ⟨w.heap.size, 2, none⟩ = some (.slice none 0 0) := P5.out.rs.cell 2
                  have r3' : wr.cell? ⟨w.heap.size, 3, none⟩ = some (.slice none 0 0) := P5.out.rs.cell 3
                  have r4' : wr.cell? ⟨w.heap.size, 4, none⟩ = some (.slice none 0 0) := P5.out.rs.cell 4
                  have r5' : wr.cell? ⟨w.heap.size, 5, none⟩ = some (.slice none 0 0) := P5.out.rs.cell 5
                  have r6' : wr.cell? ⟨w.heap.size, 6, none⟩ = some (.int .i64 0) := P5.out.rs.cell 6
                  have r7' : wr.cell? ⟨w.heap.size, 7, none⟩ = some (.slice none 0 0) := P5.out.rs.cell 7
                  have fr := P5.out.rs.frozen
                  by_cases hsk : sk = []
                  all_goals
                    first
                      | (have e0 : (sk == ([] : List UInt8)) = true := by simpa using hsk)
                      | (have e0 : (sk == ([] : List UInt8)) = false := by simpa using hsk
                         have h45 : (4096 : Int) ≤ (lo.length : Int) := by
                           have := Nat.not_lt.1 (fun h => hgo ⟨hsk, h⟩)
                           omega)
                    clear hgo hsk
                    go_wp2
                    refine bodyPost_ret (v := vScp (⟨⟨u, pe.1, pr.1, pg.1, [], [], 0⟩, lo⟩ : Scp) (.slice Ae pe.1.length ce) (.slice Ar pr.1.length cr) (.slice Ag pg.1.length cg) (.slice none 0 0) (.slice none 0 0) (.slice Ao lo.length co)) (by simp (maxDischargeDepth := 9) [results, Tryz.results17, go_sem, r0', r1', r2', r3', r4', r5', r6', r7']) rfl ?_
                    rw [HS.out]
                    refine ⟨_, _, _, _, _, _, rfl, ⟨⟨?_, ?_, ?_, Sls.nil _ _ _ _ _, Sls.nil _ _ _ _ _⟩, ?_⟩, ?_⟩
                    · refine (?_ : L4 (w.heap.size + 3) _ _ (.slice Ar pr.1.length cr) (.slice Ag pg.1.length cg) (.slice Ao lo.length co) pe.1 pr.1 pg.1 lo).oe.sls (by have := HL2.out; unfold maxLen; omega)
                      iterate 8 refine L4.set ?_ HA.out _
                      exact P5.out.ls
                    · refine (?_ : L4 (w.heap.size + 3) _ (.slice Ae pe.1.length ce) _ (.slice Ag pg.1.length cg) (.slice Ao lo.length co) pe.1 pr.1 pg.1 lo).oru.sls (by have := HL1.out; unfold maxLen; omega)
                      iterate 8 refine L4.set ?_ HA.out _
                      exact P5.out.ls
                    · refine (?_ : L4 (w.heap.size + 3) _ (.slice Ae pe.1.length ce) (.slice Ar pr.1.length cr) _ (.slice Ao lo.length co) pe.1 pr.1 pg.1 lo).og.sls (by have := HL3.out; unfold maxLen; omega)
                      iterate 8 refine L4.set ?_ HA.out _
                      exact P5.out.ls
                    · refine (?_ : L4 (w.heap.size + 3) _ (.slice Ae pe.1.length ce) (.slice Ar pr.1.length cr) (.slice Ag pg.1.length cg) _ pe.1 pr.1 pg.1 lo).oo.sls (by unfold maxLen; omega)
                      iterate 8 refine L4.set ?_ HA.out _
                      exact P5.out.ls
                    · iterate 8 refine Below.setCell ?_ (by simp) _
                      exact P5.out.bw
end Go.Proofs.YtamcgggmfghljaaGreatDoor
