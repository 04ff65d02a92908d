/- Layer 4 (program): the text of a literal. · Layer 7 (program): a text's token (printed by tools/gen_lext.py). -/
import Derived.Deep.QuietTactic
import Derived.BigQuiet
import Derived.Test.YtamcgggmfghljaaGreatDoorC15
set_option maxRecDepth 100000
set_option maxHeartbeats 8000000
namespace Go.Proofs.YtamcgggmfghljaaGreatDoor
open Go.RowKit
theorem unqL_ne (c : UInt8) (t : Bytes) (h : c ≠ 34) : unqL (c :: t) = (unqL t).map (c :: ·) := by
  cases t with
  | nil =>
    conv => lhs; unfold unqL
    rw [if_neg h]
    rfl
  | cons d t =>
    conv => lhs; unfold unqL
    rw [if_neg h]
theorem unqL_q1 : unqL [34] = none := by decide
theorem unqL_qq (t : Bytes) : unqL (34 :: 34 :: t) = (unqL t).map (34 :: ·) := by
  conv => lhs; unfold unqL
  simp
theorem unqL_qd (d : UInt8) (t : Bytes) (h : d ≠ 34) : unqL (34 :: d :: t) = none := by
  conv => lhs; unfold unqL
  simp [h]
/-- What is left of a literal's inner bytes. -/
def restQ (s : Bytes) (j : Nat) : Bytes := (s.drop j).take (s.length - 1 - j)
theorem restQ_end (s : Bytes) : restQ s (s.length - 1) = [] := by unfold restQ; simp
theorem restQ_step (s : Bytes) (j : Nat) (h : j < s.length - 1) : restQ s j = s.getD j 0 :: restQ s (j + 1) := by
  unfold restQ
  rw [List.drop_eq_getElem_cons (by omega), show s.length - 1 - j = s.length - 1 - (j + 1) + 1 by omega, List.take_succ_cons, List.getD_eq_getElem?_getD, List.getElem?_eq_getElem (by omega)]
  rfl
theorem map_app (o : Bytes) (c : UInt8) (x : Option Bytes) : (x.map (c :: ·)).map (o ++ ·) = x.map ((o ++ [c]) ++ ·) := by cases x <;> simp
theorem out_str0 {w : World} {v : Value} {l : Bytes} (h : Out w v l) : ∃ A cap, v = .slice A l.length cap ∧ (convert 59 9 (.slice A l.length cap)).run Tryz.prog w = .ok (str l) w := by
  by_cases hp : 0 < l.length
  · obtain ⟨g, cap, rfl, hr⟩ := out_str h hp
    exact ⟨_, _, rfl, hr⟩
  · have hl : l = [] := List.eq_nil_of_length_eq_zero (by omega)
    subst hl
    rcases h.2 with ⟨rfl, _⟩ | ⟨g, cap, cur, rfl, _⟩
    · exact ⟨none, 0, rfl, by kernel_rfl⟩
    · exact ⟨_, cap, rfl, run_convert_bytes_back (P := Tryz.prog) w 59 9 5 ⟨g, 0, none⟩ cap [] Tryz.underlying59 Tryz.underlying5 Tryz.underlying9 (fun j hj => by simp at hj)⟩
theorem unquote_any (s : Bytes) (w : World) (hs : s.length ≤ 1000000) :
    Calls Tryz.prog 275 #[str s] w fun u w' => u = .returned (.tuple #[str (unqB s).1, .int .i64 (unqB s).2]) ∧ Below w.heap.size w w' := by
  obtain ⟨i0, hi0, hz0, hz1, hz2⟩ := info_parts (show (Tryz.prog.info? 5).map (fun i => (i.zero, i.size, i.bytes)) = some (some (.int .u8 0), 1, 1) by kernel_rfl)
  by_cases h2 : s.length < 2
  · have h2' : (s.length : Int) < 2 := by omega
    have HE := Lib.hid (show unqB s = ([], 4) by unfold unqB; rw [if_pos (.inl h2)])
    go_enter Tryz.func275, Tryz.ntmps275
    go_wp2
    go_step3
    go_wp2
    try rw [Exit.noGoto_ret]
    go_ret2
    exact ⟨by rw [HE.out]; rfl, by go_grown⟩
  · have h2' : ¬ (s.length : Int) < 2 := by omega
    have hx0 := str_at s 0 (by rw [str_size]; omega)
    by_cases q0 : ub s 0 = 34
    · have q0' : (((s.getD 0 0).toNat : Int) != 34) = false := by unfold ub at q0; rw [q0]; rfl
      generalize s.getD 0 0 = c0 at hx0 q0'
      have hb1 : (0 : Int) ≤ (s.length : Int) - 1 := by omega
      have hb2 : (s.length : Int) - 1 < (s.length : Int) := by omega
      have hx1 := str_at s (s.length - 1) (by rw [str_size]; omega)
      have hb3 : ((s.length : Int) - 1).toNat = s.length - 1 := by omega
      by_cases q1 : ub s (s.length - 1) = 34
      · have q1' : (((s.getD (s.length - 1) 0).toNat : Int) != 34) = false := by unfold ub at q1; rw [q1]; rfl
        generalize s.getD (s.length - 1) 0 = c1 at hx1 q1'
        go_enter Tryz.func275, Tryz.ntmps275
        go_wp2
        go_step3
        go_wp2_with fail
        refine (printable_any s _ hs).mono ?_
        rintro u w1 ⟨rfl, hbw⟩
        have HB := Lib.hid hbw
        clear hbw
        by_cases hp : prB s = true
        · have HE := Lib.hid (show unqB s = _ by unfold unqB; rw [if_neg (by simp [h2, q0, q1]; exact hp)])
          clear hx0 hx1 q0' q1'
          rw [hp]
          go_wp2
          go_step3
          go_wp2
          have hn1 : 1 ≤ s.length - 1 := by omega
          go_loopw [5, 6] (fun v i wr => ∃ (j : Nat) (o : Bytes), 1 ≤ j ∧ j ≤ s.length - 1 ∧ i = .int .i64 j ∧ Out wr v o ∧ OutTo w1 (.slice none 0 0) wr v ∧ o.length ≤ j ∧ unqL (restQ s 1) = (unqL (restQ s j)).map (o ++ ·)) (fun _ i _ => s.length - (intOf i).toNat)
          case atStart => exact ⟨1, [], by omega, hn1, rfl, Out.nil _, OutTo.refl _ _, by simp, by cases unqL (restQ s 1) <;> simp⟩
          case round =>
            obtain ⟨j, o, hj1, hjn, rfl, ho, ht, hol, hun⟩ := hrel
            have HO := Lib.hid ho
            have HT := Lib.hid ht
            have HUN := Lib.hid hun
            clear ho ht hun
            by_cases hend : j = s.length - 1
            · have HR := Lib.hid (show unqL (restQ s 1) = some o by rw [HUN.out, hend, restQ_end]; unfold unqL; simp)
              have hj2 : ((j : Int) == (s.length : Int) - 1) = true := by simp only [beq_iff_eq]; omega
              obtain ⟨A, cap, hv, hcv⟩ := out_str0 HO.out
              subst hv
              have hol2 : (o.length : Int) ≤ 1000000 := by omega
              by_cases hbig : 256 < o.length
              · have hb' : (256 : Int) < (o.length : Int) := by omega
                have HF := Lib.hid (show unqB s = ([], 5) by rw [HE.out, show (s.drop 1).take (s.length - 2) = restQ s 1 by unfold restQ; rw [show s.length - 1 - 1 = s.length - 2 by omega], HR.out]; simp [hbig])
                go_wp2
                try rw [Exit.noGoto_ret]
                go_ret2
                exact ⟨by rw [HF.out]; rfl, HB.out.trans (HT.out.old HB.out.size (fun k hk => by simp [Value.ownBlock] at hk))⟩
              · have hb' : ¬ (256 : Int) < (o.length : Int) := by omega
                have HF := Lib.hid (show unqB s = (o, 0) by rw [HE.out, show (s.drop 1).take (s.length - 2) = restQ s 1 by unfold restQ; rw [show s.length - 1 - 1 = s.length - 2 by omega], HR.out]; simp [hbig])
                go_wp2
                try rw [Exit.noGoto_ret]
                go_ret2
                exact ⟨by rw [HF.out]; rfl, HB.out.trans (HT.out.old HB.out.size (fun k hk => by simp [Value.ownBlock] at hk))⟩
            · have hj2 : ((j : Int) == (s.length : Int) - 1) = false := by simp only [beq_eq_false_iff_ne, ne_eq]; omega
              have hj3 : (j : Int) < (s.length : Int) := by omega
              have hj4 : (0 : Int) ≤ (j : Int) := by omega
              have hx := str_at s j (by rw [str_size]; omega)
              have HST := Lib.hid (restQ_step s j (by omega))
              generalize s.getD j 0 = c at *
              have hcl := c.toNat_lt
              by_cases hc : c = 34
              · subst hc
                by_cases hl : j + 1 = s.length - 1
                · have hl2 : ((j : Int) + 1 == (s.length : Int) - 1) = true := by simp only [beq_iff_eq]; omega
                  have HF := Lib.hid (show unqB s = ([], 4) by rw [HE.out, show (s.drop 1).take (s.length - 2) = restQ s 1 by unfold restQ; rw [show s.length - 1 - 1 = s.length - 2 by omega], HUN.out, HST.out, hl, restQ_end, unqL_q1]; rfl)
                  have hx34 : ((34 : UInt8).toNat : Int) = 34 := rfl
                  go_wp2
                  try rw [Exit.noGoto_ret]
                  go_ret2
                  exact ⟨by rw [HF.out]; rfl, HB.out.trans (HT.out.old HB.out.size (fun k hk => by simp [Value.ownBlock] at hk))⟩
                · have hl2 : ((j : Int) + 1 == (s.length : Int) - 1) = false := by simp only [beq_eq_false_iff_ne, ne_eq]; omega
                  have hj5 : (j : Int) + 1 < (s.length : Int) := by omega
                  have hx2 := str_at s (j + 1) (by rw [str_size]; omega)
                  have HST2 := Lib.hid (restQ_step s (j + 1) (by omega))
                  generalize s.getD (j + 1) 0 = d at *
                  by_cases hd : d = 34
                  · subst hd
                    go_wp2_with (at_builtin; refine wpList_push rfl _ _ 59 rfl i0 rfl hi0 hz0 hz1 hz2 u5 o rfl (HO.out.alloc _) wr.heap.size (34) rfl (by omega) (by omega) (World.cell?_alloc_at _ _ _ _ rfl) (by omega) ?_; intro v2 w2 o2 t2)
                    have T2 := Lib.hid (HT.out.trans (((OutTo.refl wr u5).alloc _).trans t2))
                    have O2 := Lib.hid o2
                    clear t2 o2
                    go_wp2
                    refine ⟨⟨j + 2, o ++ [34], by omega, by omega, by go_num, ?_, T2.out, by simp; omega, ?_⟩, by simp [intOf]; omega⟩
                    · exact O2.out
                    · rw [HUN.out, HST.out, HST2.out, unqL_qq, map_app]
                  · have hd2 : ((d.toNat : Int) != 34) = true := by
                      simp only [bne_iff_ne, ne_eq]
                      intro e
                      exact hd (UInt8.toNat_inj.1 (by simpa using (by omega : d.toNat = 34)))
                    have HF := Lib.hid (show unqB s = ([], 4) by rw [HE.out, show (s.drop 1).take (s.length - 2) = restQ s 1 by unfold restQ; rw [show s.length - 1 - 1 = s.length - 2 by omega], HUN.out, HST.out, HST2.out, unqL_qd d _ hd]; rfl)
                    go_wp2
                    try rw [Exit.noGoto_ret]
                    go_ret2
                    exact ⟨by rw [HF.out]; rfl, HB.out.trans (HT.out.old HB.out.size (fun k hk => by simp [Value.ownBlock] at hk))⟩
              · have hc2 : ((c.toNat : Int) != 34) = true := by
                  simp only [bne_iff_ne, ne_eq]
                  intro e
                  exact hc (UInt8.toNat_inj.1 (by simpa using (by omega : c.toNat = 34)))
                go_wp2_with (at_builtin; refine wpList_push rfl _ _ 59 rfl i0 rfl hi0 hz0 hz1 hz2 u5 o rfl (HO.out.alloc _) wr.heap.size ((c.toNat : Int)) rfl (by omega) (by omega) (World.cell?_alloc_at _ _ _ _ rfl) (by omega) ?_; intro v2 w2 o2 t2)
                have T2 := Lib.hid (HT.out.trans (((OutTo.refl wr u5).alloc _).trans t2))
                have O2 := Lib.hid o2
                clear t2 o2
                go_wp2
                refine ⟨⟨j + 1, o ++ [c], by omega, by omega, by go_num, ?_, T2.out, by simp; omega, ?_⟩, by simp [intOf]; omega⟩
                · have h := O2.out
                  rw [show UInt8.ofNat ((c.toNat : Int)).toNat = c by simp] at h
                  exact h
                · rw [HUN.out, HST.out, unqL_ne c _ hc, map_app]
        · have hp' : prB s = false := by simpa using hp
          have HE := Lib.hid (show unqB s = ([], 4) by unfold unqB; rw [if_pos (.inr (.inr (.inr hp')))])
          rw [hp']
          go_wp2
          try rw [Exit.noGoto_ret]
          go_ret2
          exact ⟨by rw [HE.out]; rfl, HB.out⟩
      · have q1' : (((s.getD (s.length - 1) 0).toNat : Int) != 34) = true := by unfold ub at q1; simp only [bne_iff_ne, ne_eq]; omega
        generalize s.getD (s.length - 1) 0 = c1 at hx1 q1'
        have HE := Lib.hid (show unqB s = ([], 4) by unfold unqB; rw [if_pos (.inr (.inr (.inl q1)))])
        go_enter Tryz.func275, Tryz.ntmps275
        go_wp2
        go_step3
        go_wp2
        try rw [Exit.noGoto_ret]
        go_ret2
        exact ⟨by rw [HE.out]; rfl, by go_grown⟩
    · have q0' : (((s.getD 0 0).toNat : Int) != 34) = true := by unfold ub at q0; simp only [bne_iff_ne, ne_eq]; omega
      generalize s.getD 0 0 = c0 at hx0 q0'
      have HE := Lib.hid (show unqB s = ([], 4) by unfold unqB; rw [if_pos (.inr (.inl q0))])
      go_enter Tryz.func275, Tryz.ntmps275
      go_wp2
      go_step3
      go_wp2
      try rw [Exit.noGoto_ret]
      go_ret2
      exact ⟨by rw [HE.out]; rfl, by go_grown⟩
theorem endQ_past (s : Bytes) (f k : Nat) (h : s.length ≤ k) : endQ s (f + 1) k = none := by unfold endQ; rw [if_pos h]
theorem endQ_other (s : Bytes) (f k : Nat) (h : k < s.length) (hc : ub s k ≠ 34) : endQ s (f + 1) k = endQ s f (k + 1) := by
  conv => lhs; unfold endQ
  rw [if_neg (by omega), if_pos hc]
theorem endQ_two (s : Bytes) (f k : Nat) (_h : k < s.length) (hc : ub s k = 34) (h2 : k + 1 < s.length) (hd : ub s (k + 1) = 34) : endQ s (f + 1) k = endQ s f (k + 2) := by
  conv => lhs; unfold endQ
  rw [if_neg (by omega), if_neg (by simp [hc]), if_pos ⟨h2, hd⟩]
theorem endQ_one (s : Bytes) (f k : Nat) (h : k < s.length) (hc : ub s k = 34) (h2 : ¬ (k + 1 < s.length ∧ ub s (k + 1) = 34)) : endQ s (f + 1) k = some k := by
  conv => lhs; unfold endQ
  rw [if_neg (by omega), if_neg (by simp [hc]), if_neg h2]
theorem ub_eq (s : Bytes) (k : Nat) {c : UInt8} (h : s.getD k 0 = c) : ub s k = c.toNat := by unfold ub; rw [h]
theorem beq_u8 (c : UInt8) (n : Nat) (h : c.toNat = n) : ((c.toNat : Int) == (n : Int)) = true := by rw [h]; simp
theorem bne_u8 (c : UInt8) (n : Nat) (h : c.toNat = n) : ((c.toNat : Int) != (n : Int)) = false := by rw [h]; simp
theorem nbeq_u8 (c : UInt8) (n : Nat) (h : c.toNat ≠ n) : ((c.toNat : Int) == (n : Int)) = false := by simp only [beq_eq_false_iff_ne, ne_eq]; omega
theorem nbne_u8 (c : UInt8) (n : Nat) (h : c.toNat ≠ n) : ((c.toNat : Int) != (n : Int)) = true := by simp only [bne_iff_ne, ne_eq]; omega
theorem lex_text (g : Nat) (s : Bytes) (i : Nat) (w : World) (hs : s.length ≤ 1000000) (hi : i < s.length) (hg : Blk w g 263 #[str s]) :
    Calls Tryz.prog 247 #[.pointer (some ⟨g, 0, none⟩), .int .i64 i] w fun u w' => u = .returned (.tuple #[.agg (cTok (textS s i).1).toArray, .int .i64 (textS s i).2]) ∧ Below w.heap.size w w' := by
  have hgl := hg.lt
  have hc : w.cell? ⟨g, 0, none⟩ = some (str s) := hg.cell 0
  have HG := Lib.hid hg
  clear hg
  have hi0 : (0 : Int) ≤ (i : Int) := Int.natCast_nonneg _
  have hi1 : (i : Int) < (s.length : Int) := by omega
  have hx0 := str_at s i (by rw [str_size]; exact hi)
  have hu0 := ub_eq s i rfl
  obtain ⟨c0, hc0⟩ : ∃ c0, s.getD i 0 = c0 := ⟨_, rfl⟩
  rw [hc0] at hx0 hu0
  clear hc0
  by_cases h34 : c0.toNat = 34
  · have t0 : ((c0.toNat : Int) != 34) = false := bne_u8 c0 34 h34
    have HS := Lib.hid (show textS s i = match endQ s s.length (i + 1) with
      | none => (tok0, 0)
      | some k => if (unqB ((s.drop i).take (k + 1 - i))).2 ≠ 0 then (tok0, 0) else (⟨3 - 1, 0, (unqB ((s.drop i).take (k + 1 - i))).1, z4, i⟩, k + 1 - i) by unfold textS; rw [if_neg (by rw [hu0, h34]; simp)]; rfl)
    have KZ := Lib.hid (show TokZ _ w.heap.size from Blk.new w 239 #[.int .u8 0, .int .i64 0, str [], .int .i64 0, .int .i64 0, .int .i64 0, .int .i64 0, .int .i64 0])
    have HG1 := Lib.hid (HG.out.alloc (.cells #[.int .u8 0, .int .i64 0, str [], .int .i64 0, .int .i64 0, .int .i64 0, .int .i64 0, .int .i64 0] 239))
    have HB1 := Lib.hid (show Below w.heap.size w (w.alloc (.cells #[.int .u8 0, .int .i64 0, str [], .int .i64 0, .int .i64 0, .int .i64 0, .int .i64 0, .int .i64 0] 239)) from by go_grown)
    clear hu0 h34
    go_enter Tryz.func247, Tryz.ntmps247
    go_wp2
    clear hc
    obtain ⟨W1, hW1⟩ : ∃ W1, w.alloc (.cells #[.int .u8 0, .int .i64 0, str [], .int .i64 0, .int .i64 0, .int .i64 0, .int .i64 0, .int .i64 0] 239) = W1 := ⟨_, rfl⟩
    have hW1' : w.alloc (.cells #[.int .u8 0, .int .i64 0, .string ⟨#[]⟩, .int .i64 0, .int .i64 0, .int .i64 0, .int .i64 0, .int .i64 0] 239) = W1 := hW1
    rw [hW1] at KZ HG1 HB1
    first | rw [hW1'] | rw [hW1]
    clear hW1 hW1' hx0 t0
    go_loopw [6] (fun v wr => ∃ k f : Nat, i < k ∧ k ≤ s.length ∧ s.length - k < f ∧ v = .int .i64 k ∧ endQ s s.length (i + 1) = endQ s f k ∧ W1 = wr) (fun v _ => s.length + 1 - (intOf v).toNat)
    case atStart => exact ⟨i + 1, s.length, by omega, by omega, by omega, rfl, rfl, rfl⟩
    case round =>
      obtain ⟨k, f, hik, hk, hf, rfl, hq, rfl⟩ := hrel
      have HQ := Lib.hid hq
      clear hq
      obtain ⟨f, rfl⟩ : ∃ f', f = f' + 1 := ⟨f - 1, by omega⟩
      have hgc : W1.cell? ⟨g, 0, none⟩ = some (str s) := HG1.out.cell 0
      have hk0 : (0 : Int) ≤ (k : Int) := by omega
      by_cases hlt : k < s.length
      · have hk1 : (k : Int) < (s.length : Int) := by omega
        have hx := str_at s k (by rw [str_size]; exact hlt)
        have hu := ub_eq s k rfl
        obtain ⟨c, hcc⟩ : ∃ c, s.getD k 0 = c := ⟨_, rfl⟩
        rw [hcc] at hx hu
        clear hcc
        by_cases h34 : c.toNat = 34
        · have t1 : ((c.toNat : Int) != 34) = false := bne_u8 c 34 h34
          by_cases hk2 : k + 1 < s.length
          · have hk3 : (k : Int) + 1 < (s.length : Int) := by omega
            have hx2 := str_at s (k + 1) (by rw [str_size]; exact hk2)
            have hu2 := ub_eq s (k + 1) rfl
            obtain ⟨d, hdd⟩ : ∃ d, s.getD (k + 1) 0 = d := ⟨_, rfl⟩
            rw [hdd] at hx2 hu2
            clear hdd
            by_cases h34d : d.toNat = 34
            · have t2 : ((d.toNat : Int) == 34) = true := beq_u8 d 34 h34d
              have HN := Lib.hid (endQ_two s f k hlt (by rw [hu, h34]) hk2 (by rw [hu2, h34d]))
              clear hu hu2 h34 h34d
              go_wp2
              exact ⟨⟨k + 2, f, by omega, by omega, by omega, by go_num, by rw [HQ.out, HN.out], trivial⟩, by simp [intOf]; omega⟩
            · have t2 : ((d.toNat : Int) == 34) = false := nbeq_u8 d 34 h34d
              have HN := Lib.hid (endQ_one s f k hlt (by rw [hu, h34]) (fun h => h34d (by rw [← hu2]; exact h.2)))
              clear hu hu2 h34 h34d
              have he1 : (k : Int) + 1 ≤ (s.length : Int) := by omega
              have he2 : (i : Int) ≤ (k : Int) + 1 := by omega
              go_wp2_with fail
              rw [show k + 1 = i + (k + 1 - i) by omega, ext_mid]
              refine (unquote_any _ _ (by simp; omega)).mono ?_
              rintro u w5 ⟨rfl, hb5⟩
              have HB5 := Lib.hid (show Below w.heap.size w w5 from Below.next HB1.out hb5 HB1.out.size)
              have KZ5 := Lib.hid (KZ.out.below_ hb5)
              clear hb5 hgc
              obtain ⟨r, hr⟩ : ∃ r, unqB ((s.drop i).take (k + 1 - i)) = r := ⟨_, rfl⟩
              rw [hr]
              have HR := Lib.hid hr
              clear hr
              by_cases he : r.2 = 0
              · have HE := Lib.hid (show textS s i = (⟨3 - 1, 0, r.1, z4, i⟩, k + 1 - i) by
                  rw [HS.out, HQ.out, HN.out]
                  dsimp only
                  rw [HR.out, if_neg (by simpa using he)])
                obtain ⟨q0, q1, q2, q3, q4, q5, q6, q7, qf⟩ := tokz_facts KZ5.out
                have he3 : (r.2 != 0) = false := by simpa using he
                clear he
                go_wp2
                refine bodyPost_ret (v := .tuple #[.agg (cTok ⟨3 - 1, 0, r.1, z4, i⟩).toArray, .int .i64 ((k : Int) + 1 - (i : Int))]) (by simp (maxDischargeDepth := 9) [results, Tryz.results247, go_sem, q0, q1, q2, q3, q4, q5, q6, q7, cTok, z4]) rfl ?_
                rw [HE.out]
                exact ⟨by rw [show ((k + 1 - i : Nat) : Int) = (k : Int) + 1 - (i : Int) by omega], below8 HB5.out (Nat.le_refl _) _ _ _ _ _ _ _ _⟩
              · have HE := Lib.hid (show textS s i = (tok0, 0) by
                  rw [HS.out, HQ.out, HN.out]
                  dsimp only
                  rw [HR.out, if_pos he])
                have he3 : (r.2 != 0) = true := by simpa using he
                clear he
                obtain ⟨q0, q1, q2, q3, q4, q5, q6, q7, qf⟩ := tokz_facts KZ5.out
                go_wp2
                refine bodyPost_ret (v := .tuple #[.agg (cTok tok0).toArray, .int .i64 0]) (by simp (maxDischargeDepth := 9) [results, Tryz.results247, go_sem, q0, q1, q2, q3, q4, q5, q6, q7, cTok, tok0, z4]) rfl ?_
                rw [HE.out]
                exact ⟨rfl, below8 HB5.out (Nat.le_refl _) _ _ _ _ _ _ _ _⟩
          · have hk3 : ¬ (k : Int) + 1 < (s.length : Int) := by omega
            have HN := Lib.hid (endQ_one s f k hlt (by rw [hu, h34]) (fun h => hk2 h.1))
            clear hu h34
            have he1 : (k : Int) + 1 ≤ (s.length : Int) := by omega
            have he2 : (i : Int) ≤ (k : Int) + 1 := by omega
            go_wp2_with fail
            rw [show k + 1 = i + (k + 1 - i) by omega, ext_mid]
            refine (unquote_any _ _ (by simp; omega)).mono ?_
            rintro u w5 ⟨rfl, hb5⟩
            have HB5 := Lib.hid (show Below w.heap.size w w5 from Below.next HB1.out hb5 HB1.out.size)
            have KZ5 := Lib.hid (KZ.out.below_ hb5)
            clear hb5 hgc
            obtain ⟨r, hr⟩ : ∃ r, unqB ((s.drop i).take (k + 1 - i)) = r := ⟨_, rfl⟩
            rw [hr]
            have HR := Lib.hid hr
            clear hr
            by_cases he : r.2 = 0
            · have HE := Lib.hid (show textS s i = (⟨3 - 1, 0, r.1, z4, i⟩, k + 1 - i) by
                rw [HS.out, HQ.out, HN.out]
                dsimp only
                rw [HR.out, if_neg (by simpa using he)])
              obtain ⟨q0, q1, q2, q3, q4, q5, q6, q7, qf⟩ := tokz_facts KZ5.out
              have he3 : (r.2 != 0) = false := by simpa using he
              clear he
              go_wp2
              refine bodyPost_ret (v := .tuple #[.agg (cTok ⟨3 - 1, 0, r.1, z4, i⟩).toArray, .int .i64 ((k : Int) + 1 - (i : Int))]) (by simp (maxDischargeDepth := 9) [results, Tryz.results247, go_sem, q0, q1, q2, q3, q4, q5, q6, q7, cTok, z4]) rfl ?_
              rw [HE.out]
              exact ⟨by rw [show ((k + 1 - i : Nat) : Int) = (k : Int) + 1 - (i : Int) by omega], below8 HB5.out (Nat.le_refl _) _ _ _ _ _ _ _ _⟩
            · have HE := Lib.hid (show textS s i = (tok0, 0) by
                rw [HS.out, HQ.out, HN.out]
                dsimp only
                rw [HR.out, if_pos he])
              have he3 : (r.2 != 0) = true := by simpa using he
              clear he
              obtain ⟨q0, q1, q2, q3, q4, q5, q6, q7, qf⟩ := tokz_facts KZ5.out
              go_wp2
              refine bodyPost_ret (v := .tuple #[.agg (cTok tok0).toArray, .int .i64 0]) (by simp (maxDischargeDepth := 9) [results, Tryz.results247, go_sem, q0, q1, q2, q3, q4, q5, q6, q7, cTok, tok0, z4]) rfl ?_
              rw [HE.out]
              exact ⟨rfl, below8 HB5.out (Nat.le_refl _) _ _ _ _ _ _ _ _⟩
        · have t1 : ((c.toNat : Int) != 34) = true := nbne_u8 c 34 h34
          have HN := Lib.hid (endQ_other s f k hlt (by rw [hu]; exact h34))
          clear hu h34
          go_wp2
          exact ⟨⟨k + 1, f, by omega, by omega, by omega, by go_num, by rw [HQ.out, HN.out], trivial⟩, by simp [intOf]; omega⟩
      · have hk1 : ¬ (k : Int) < (s.length : Int) := by omega
        have HE := Lib.hid (show textS s i = (tok0, 0) by rw [HS.out, HQ.out, endQ_past s f k (by omega)])
        obtain ⟨q0, q1, q2, q3, q4, q5, q6, q7, qf⟩ := tokz_facts KZ.out
        go_wp2
        refine bodyPost_ret (v := .tuple #[.agg (cTok tok0).toArray, .int .i64 0]) (by simp (maxDischargeDepth := 9) [results, Tryz.results247, go_sem, q0, q1, q2, q3, q4, q5, q6, q7, cTok, tok0, z4]) rfl ?_
        rw [HE.out]
        exact ⟨rfl, below8 HB1.out (Nat.le_refl _) _ _ _ _ _ _ _ _⟩
  · have t0 : ((c0.toNat : Int) != 34) = true := nbne_u8 c0 34 h34
    have HE := Lib.hid (show textS s i = (tok0, 0) by unfold textS; rw [if_pos (by rw [hu0]; exact h34)])
    go_enter Tryz.func247, Tryz.ntmps247
    go_wp2
    refine bodyPost_ret (v := .tuple #[.agg (cTok tok0).toArray, .int .i64 0]) (by simp (maxDischargeDepth := 9) [results, Tryz.results247, go_sem, cTok, tok0, z4]) rfl ?_
    rw [HE.out]
    exact ⟨rfl, by go_grown⟩
end Go.Proofs.YtamcgggmfghljaaGreatDoor
