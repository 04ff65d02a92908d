/- Layer 9 (program): the parser's level (printed by tools/gen_parh.py). · Layer 9 (program): the parser's argument. · Layer 8 (program): the functions' names. · Go's slices.Index on strings. · Layer 8 (program): Function. -/
import Derived.Laws.EntriesVeiled
import Derived.Deep.QuietTactic
import Derived.BigQuiet
import Derived.Great.BuildSlice
import Derived.Laws.Rows
import Derived.Test.YtamcgggmfghljaaGreatDoorC23
set_option maxRecDepth 100000
set_option maxHeartbeats 8000000
namespace Go.Proofs.YtamcgggmfghljaaGreatDoor
open Go.RowKit
theorem lev_in (e : Int) (f k : Nat) (hk : k ≤ 4) (hl : RunS 251 (lev1 (k + 1)) e f (.level (k + 1))) (p : Nat) (ov : Value) (st : PSt) (W : World) (b2 b3 : Nat) (h : PA W p e ov st) (hn : st.1.length + st.2.length ≤ 2000) (hf : needS (.level (k + 1)) st.1.length ≤ f)
    (h2 : W.cell? ⟨b2, 0, none⟩ = some (.pointer (some ⟨p, 0, none⟩))) (h3 : W.cell? ⟨b3, 0, none⟩ = some (.int .i64 k)) :
    Calls Tryz.prog 285 #[.pointer (some ⟨b2, 0, none⟩), .pointer (some ⟨b3, 0, none⟩)] W (Went p e W ov (parS e f (.level (k + 1)) st)) := by
  have HH := Lib.hid h
  have HC := Lib.hid (hl p ov st W h hn hf)
  have k0 : (0 : Int) ≤ (k : Int) := by omega
  have k4 : (k : Int) ≤ 4 := by omega
  clear h hl
  unfold lev1 at HC
  rw [show ((k + 1 : Nat) : Int) = (k : Int) + 1 by omega] at HC
  generalize hR : parS e f (.level (k + 1)) st = R at HC ⊢
  clear hR
  go_enter Tryz.func285, Tryz.ntmps285
  go_wp2_with fail
  refine HC.out.mono ?_
  intro u w1 hw
  rcases went_cases hw with ⟨s1, ov1, hr, rfl, ha, ht⟩ | ⟨a, er, hr, rfl, hb⟩
  · have HR2 := Lib.hid hr
    have H1 := Lib.hid ha
    have T1 := Lib.hid ht
    clear hr ha ht hw
    go_wp2
    refine bodyPost_end (results_none rfl _ _ _) rfl ?_
    exact went_ok HR2.out H1.out T1.out
  · have HR2 := Lib.hid hr
    have HB := Lib.hid hb
    clear hr hw hb
    unfold flt
    go_wp2
    exact ⟨rfl, went_err HR2.out HB.out⟩
theorem level_low (e : Int) (f k : Nat) (hk1 : 1 ≤ k) (hk : k < 4) (hl : ∀ f', f' ≤ f → RunS 251 (lev1 (k + 1)) e f' (.level (k + 1))) :
    RunS 251 (lev1 k) e (f + 1) (.level k) := by
  intro p ov st W h hn hf
  have HL := Lib.hid hl
  have HH := Lib.hid h
  have HLT := Lib.hid h.lt
  have HOV := Lib.hid (show ∀ q, W.heap.size ≤ q → ov.ownBlock ≠ some q from fun q hq e => by have := h.ow.lt _ e; omega)
  simp only [needS] at hf
  have HR : RowKit.Hid (parS e (f + 1) (.level k) st = thenS (parS e f (.level (k + 1)) st) (parS e f (.loop k))) := Lib.hid (by show thenS (parS e f (if k < 4 then .level (k + 1) else .sign) st) _ = _; rw [if_pos hk])
  have HLP : RowKit.Hid (∀ f s, parS e (f + 1) (.loop k) s = if (headS e s).kind ≠ 8 ∨ bindsS (headS e s).num ≠ k then .ok s else thenS (parS e f (.level (k + 1)) (skipS s)) fun st' => parS e f (.loop k) (putS { nod0 6 with op := (headS e s).num } st')) := Lib.hid (fun f s => by
    show (if _ then _ else thenS (parS e f (if k < 4 then .level (k + 1) else .sign) (skipS s)) _) = _
    rw [if_pos hk])
  generalize parS e (f + 1) (.level k) st = R at HR ⊢
  clear hl h
  have KB2 := Lib.hid ((Blk.new W 235 #[.pointer (some ⟨p, 0, none⟩)]).alloc (.cells #[.int .i64 k] 3))
  have KB3 := Lib.hid (show Blk ((W.alloc (.cells #[.pointer (some ⟨p, 0, none⟩)] 235)).alloc (.cells #[.int .i64 k] 3)) (W.heap.size + 1) 3 #[.int .i64 k] by
    have := Blk.new (W.alloc (.cells #[.pointer (some ⟨p, 0, none⟩)] 235)) 3 #[.int .i64 k]
    simpa using this)
  have HB0 := Lib.hid (show Below W.heap.size W ((W.alloc (.cells #[.pointer (some ⟨p, 0, none⟩)] 235)).alloc (.cells #[.int .i64 k] 3)) from by go_grown)
  have SZ : RowKit.Hid (((W.alloc (.cells #[.pointer (some ⟨p, 0, none⟩)] 235)).alloc (.cells #[.int .i64 k] 3)).heap.size = W.heap.size + 1 + 1) := Lib.hid (by simp)
  have hmf : ∀ (fn : Fn) (first cap : Array Value) (w : World), (Instr.makeFunc fn first cap).run Tryz.prog w = .ok (.func fn first cap) w := fun _ _ _ _ => rfl
  have k0 : (0 : Int) ≤ (k : Int) := by omega
  have k4 : (k : Int) < 4 := by omega
  unfold lev1
  go_enter Tryz.func251, Tryz.ntmps251
  go_upto_region 1 with (fail)
  obtain ⟨W2, hW2⟩ : ∃ W2, (W.alloc (.cells #[.pointer (some ⟨p, 0, none⟩)] 235)).alloc (.cells #[.int .i64 k] 3) = W2 := ⟨_, rfl⟩
  rw [hW2] at KB2 KB3 HB0 SZ ⊢
  clear hW2
  have y2 : W2.cell? ⟨W.heap.size, 0, none⟩ = some (.pointer (some ⟨p, 0, none⟩)) := KB2.out.cell 0
  have y3 : W2.cell? ⟨W.heap.size + 1, 0, none⟩ = some (.int .i64 k) := KB3.out.cell 0
  have H1 := Lib.hid (HH.out.below HB0.out)
  go_wp2_with fail
  refine (lev_in e (f) k (by omega) (HL.out (f) (by omega)) p ov st _ _ _ H1.out hn (by simp only [needS]; omega) y2 y3).mono ?_
  intro u w3 hw
  rcases went_cases hw with ⟨s3, ov3, hr, rfl, ha, ht⟩ | ⟨a, er, hr, rfl, hb⟩
  · have HLE := Lib.hid (par_len e f _ _ _ hr)
    have HR1 := Lib.hid (show R = parS e f (.loop k) s3 by rw [HR.out, hr]; rfl)
    have H3 := Lib.hid ha
    have T3 := Lib.hid ht
    clear ha ht hr hw HR y2 y3
    go_wp2_with fail
    go_loopw [6] (fun _ wr => ∃ f' s' ov', R = parS e f' (.loop k) s' ∧ 10 * s'.1.length + 2 * (5 - k) + 2 ≤ f' ∧ f' ≤ f ∧ s'.1.length + s'.2.length ≤ 2000 ∧ PA wr p e ov' s' ∧ PTo p W2 ov wr ov') (fun _ wr => lenAt p wr)
    case atStart => exact ⟨f, s3, ov3, HR1.out, by have := HLE.out; simp only [usesS] at this; omega, Nat.le_refl _, by have := HLE.out; omega, H3.out, T3.out⟩
    case round =>
      obtain ⟨f', s', ov', hr, hf', hff, hn', ha, ht⟩ := hrel
      obtain ⟨f2, rfl⟩ : ∃ f2, f' = f2 + 1 := ⟨f' - 1, by omega⟩
      have HR2 := Lib.hid (hr.trans (HLP.out f2 s'))
      have H4 := Lib.hid ha
      have T4 := Lib.hid ht
      have HLA := Lib.hid (lenAt_eq ha)
      have HLW := Lib.hid ha.lt
      have q2 := ht.blk KB2.out (by have := HLT.out; omega) (HOV.out _ (Nat.le_refl _))
      have q3 := ht.blk KB3.out (by have := HLT.out; omega) (HOV.out _ (Nat.le_succ _))
      have z2 : wr.cell? ⟨W.heap.size, 0, none⟩ = some (.pointer (some ⟨p, 0, none⟩)) := q2.cell 0
      have Q2 := Lib.hid q2
      have Q3 := Lib.hid q3
      have HOW := Lib.hid (show ∀ q, wr.heap.size ≤ q → ov'.ownBlock ≠ some q from fun q hq e => by have := ha.ow.lt _ e; omega)
      clear hr ha ht q2 q3
      go_wp2_with fail
      refine (par_head p e ov' s' _ H4.out (by omega)).mono ?_
      rintro u w5 ⟨rfl, hb5⟩
      have HN : RowKit.Hid ((headS e s').kind ≠ 0 → s'.1 ≠ []) := Lib.hid head_ne
      generalize headS e s' = t at HR2 HN ⊢
      have K5 := Lib.hid (Blk.new w5 239 (cTok t).toArray)
      have HB5 := Lib.hid (show Below wr.heap.size wr (w5.alloc (.cells (cTok t).toArray 239)) from hb5.alloc hb5.size _)
      have HS5 := Lib.hid hb5.size
      clear hb5 z2
      have H5 := Lib.hid (H4.out.below HB5.out)
      have T5 := Lib.hid (PTo.below T4.out HB5.out)
      have P2 := Lib.hid (Q2.out.below_ HB5.out)
      have P3 := Lib.hid (Q3.out.below_ HB5.out)
      obtain ⟨W5, hW5⟩ : ∃ W5, w5.alloc (.cells (cTok t).toArray 239) = W5 := ⟨_, rfl⟩
      rw [hW5] at K5 HB5 H5 T5 P2 P3
      rw [show (cTok t).toArray = #[.int .u8 t.kind, .int .i64 t.num, str t.text, .int .i64 t.rect.c1, .int .i64 t.rect.r1, .int .i64 t.rect.c2, .int .i64 t.rect.r2, .int .i64 t.at_] from rfl] at hW5 ⊢
      obtain ⟨g, hg⟩ : ∃ g, g = w5.heap.size := ⟨_, rfl⟩
      rw [← hg] at K5 HS5
      have HGN := Lib.hid (show g ≠ p by have := HLW.out; have := HS5.out; omega)
      have HGO := Lib.hid (HOW.out g HS5.out)
      go_upto_region 6 with (fail)
      rw [← hg]
      clear hW5 hg
      have x0 : W5.cell? ⟨g, 0, none⟩ = some (.int .u8 t.kind) := K5.out.cell 0
      have x1 : W5.cell? ⟨g, 1, none⟩ = some (.int .i64 t.num) := K5.out.cell 1
      by_cases h8 : t.kind = 8
      · have b8 : (t.kind != 8) = false := by simpa using h8
        have hne := HN.out (by omega)
        have hpos : 1 ≤ s'.1.length := List.length_pos_iff.2 hne
        have H8 := Lib.hid h8
        clear h8
        go_wp2_with fail
        refine (par_binds t.num _).mono ?_
        rintro u w6 ⟨⟨bb, ee, rfl⟩, rfl⟩
        have z2 : W5.cell? ⟨W.heap.size, 0, none⟩ = some (.pointer (some ⟨p, 0, none⟩)) := P2.out.cell 0
        have z3 : W5.cell? ⟨W.heap.size + 1, 0, none⟩ = some (.int .i64 k) := P3.out.cell 0
        generalize hbn : bindsS t.num = bn at HR2 ⊢
        clear hbn
        by_cases hbk : bn = k
        · have bk : (bn != (k : Int)) = false := by simpa using hbk
          have HR3 := Lib.hid (HR2.out.trans (if_neg (by rw [not_or]; exact ⟨fun h => h H8.out, fun h => h hbk⟩)))
          clear hbk HR2
          go_wp2_with fail
          refine (par_skip p e ov' s' _ H5.out (by omega) hne).mono ?_
          rintro u w7 ⟨rfl, ha, ht⟩
          have H7 := Lib.hid ha
          have T7 := Lib.hid (T5.out.trans ht)
          have K7 := Lib.hid (ht.blk K5.out HGN.out HGO.out)
          clear ha ht z2 z3
          have u2 : w7.cell? ⟨W.heap.size, 0, none⟩ = some (.pointer (some ⟨p, 0, none⟩)) := (T7.out.blk KB2.out (by have := HLT.out; omega) (HOV.out _ (Nat.le_refl _))).cell 0
          have u3 : w7.cell? ⟨W.heap.size + 1, 0, none⟩ = some (.int .i64 k) := (T7.out.blk KB3.out (by have := HLT.out; omega) (HOV.out _ (Nat.le_succ _))).cell 0
          go_wp2_with fail
          refine (lev_in e (f2) k (by omega) (HL.out (f2) (by omega)) p ov' (skipS s') _ _ _ H7.out (by rw [skip_len, skip_two]; omega) (by simp only [needS, skip_len]; omega) u2 u3).mono ?_
          intro u w8 hw
          rcases went_cases hw with ⟨s8, ov8, hr, rfl, ha, ht⟩ | ⟨a, er, hr, rfl, hb⟩
          · have HL8 := Lib.hid (par_len e f2 _ _ _ hr)
            have HR4 := Lib.hid (show R = parS e f2 (.loop k) (putS { nod0 6 with op := t.num } s8) by rw [HR3.out, hr]; rfl)
            have H8' := Lib.hid ha
            have T8 := Lib.hid (T7.out.trans ht)
            have K8 := Lib.hid (ht.blk K7.out HGN.out HGO.out)
            clear ha ht hr hw u2 u3
            have v2 : w8.cell? ⟨W.heap.size, 0, none⟩ = some (.pointer (some ⟨p, 0, none⟩)) := (T8.out.blk KB2.out (by have := HLT.out; omega) (HOV.out _ (Nat.le_refl _))).cell 0
            have v1 : w8.cell? ⟨g, 1, none⟩ = some (.int .i64 t.num) := K8.out.cell 1
            go_wp2_with fail
            refine (par_put p e ov8 s8 { nod0 6 with op := t.num } _ H8'.out (by have := HL8.out; rw [skip_len, skip_two] at this; omega)).mono ?_
            rintro u w9 ⟨rfl, ov9, ha, ht⟩
            have H9 := Lib.hid ha
            have T9 := Lib.hid (T8.out.trans ht)
            have hl9 := lenAt_eq ha
            rw [put_one] at hl9
            have HL9 := Lib.hid hl9
            clear ha ht hl9 v2 v1
            go_wp2
            exact ⟨⟨f2, _, ov9, HR4.out, by have := HL8.out; rw [put_one]; simp only [skip_len, usesS] at this; omega, by omega, by have := HL8.out; rw [put_one, put_len]; simp only [skip_len, skip_two, usesS] at this; omega, H9.out, T9.out⟩, by rw [HL9.out, HLA.out]; have := HL8.out; simp only [skip_len, usesS] at this; omega⟩
          · have HR4 := Lib.hid (show R = .error (a, er) by rw [HR3.out, hr]; rfl)
            have HB8 := Lib.hid ((HB0.out.mono (Nat.le_of_lt HLT.out)).trans ((T7.out.old' H1.out).trans hb))
            clear hr hw hb
            unfold flt
            go_wp2
            exact ⟨rfl, went_err HR4.out HB8.out⟩
        · have bk : (bn != (k : Int)) = true := by simpa using hbk
          have HR3 := Lib.hid (HR2.out.trans (if_pos (.inr hbk)))
          clear hbk HR2
          go_wp2
          refine bodyPost_ret (results_none rfl _ _ _) rfl ?_
          exact went_ok HR3.out H5.out ((PTo.below (PTo.refl p W ov) HB0.out).trans T5.out)
      · have b8 : (t.kind != 8) = true := by simpa using h8
        have HR3 := Lib.hid (HR2.out.trans (if_pos (.inl h8)))
        clear h8 HR2
        go_wp2
        refine bodyPost_ret (results_none rfl _ _ _) rfl ?_
        exact went_ok HR3.out H5.out ((PTo.below (PTo.refl p W ov) HB0.out).trans T5.out)
  · have HR3 := Lib.hid (show R = .error (a, er) by rw [HR.out, hr]; rfl)
    have HB3 := Lib.hid ((HB0.out.mono (Nat.le_of_lt HLT.out)).trans hb)
    clear hr hw hb
    unfold flt
    go_wp2
    exact ⟨rfl, went_err HR3.out HB3.out⟩
theorem level_four (e : Int) (f k : Nat) (hk1 : 1 ≤ k) (hk : k = 4) (hl : ∀ f', f' ≤ f → RunS 284 one1 e f' .sign) :
    RunS 251 (lev1 k) e (f + 1) (.level k) := by
  intro p ov st W h hn hf
  have HL := Lib.hid hl
  have HH := Lib.hid h
  have HLT := Lib.hid h.lt
  have HOV := Lib.hid (show ∀ q, W.heap.size ≤ q → ov.ownBlock ≠ some q from fun q hq e => by have := h.ow.lt _ e; omega)
  simp only [needS] at hf
  have HR : RowKit.Hid (parS e (f + 1) (.level k) st = thenS (parS e f (.sign) st) (parS e f (.loop k))) := Lib.hid (by show thenS (parS e f (if k < 4 then .level (k + 1) else .sign) st) _ = _; rw [if_neg (by omega)])
  have HLP : RowKit.Hid (∀ f s, parS e (f + 1) (.loop k) s = if (headS e s).kind ≠ 8 ∨ bindsS (headS e s).num ≠ k then .ok s else thenS (parS e f (.sign) (skipS s)) fun st' => parS e f (.loop k) (putS { nod0 6 with op := (headS e s).num } st')) := Lib.hid (fun f s => by
    show (if _ then _ else thenS (parS e f (if k < 4 then .level (k + 1) else .sign) (skipS s)) _) = _
    rw [if_neg (show ¬ k < 4 by omega)])
  generalize parS e (f + 1) (.level k) st = R at HR ⊢
  clear hl h
  have KB2 := Lib.hid ((Blk.new W 235 #[.pointer (some ⟨p, 0, none⟩)]).alloc (.cells #[.int .i64 k] 3))
  have KB3 := Lib.hid (show Blk ((W.alloc (.cells #[.pointer (some ⟨p, 0, none⟩)] 235)).alloc (.cells #[.int .i64 k] 3)) (W.heap.size + 1) 3 #[.int .i64 k] by
    have := Blk.new (W.alloc (.cells #[.pointer (some ⟨p, 0, none⟩)] 235)) 3 #[.int .i64 k]
    simpa using this)
  have HB0 := Lib.hid (show Below W.heap.size W ((W.alloc (.cells #[.pointer (some ⟨p, 0, none⟩)] 235)).alloc (.cells #[.int .i64 k] 3)) from by go_grown)
  have SZ : RowKit.Hid (((W.alloc (.cells #[.pointer (some ⟨p, 0, none⟩)] 235)).alloc (.cells #[.int .i64 k] 3)).heap.size = W.heap.size + 1 + 1) := Lib.hid (by simp)
  have hmf : ∀ (fn : Fn) (first cap : Array Value) (w : World), (Instr.makeFunc fn first cap).run Tryz.prog w = .ok (.func fn first cap) w := fun _ _ _ _ => rfl
  have k0 : (0 : Int) ≤ (k : Int) := by omega
  have k4 : ¬ (k : Int) < 4 := by omega
  have hk5 : k ≤ 4 := by omega
  clear hk
  unfold lev1
  go_enter Tryz.func251, Tryz.ntmps251
  go_upto_region 1 with (fail)
  obtain ⟨W2, hW2⟩ : ∃ W2, (W.alloc (.cells #[.pointer (some ⟨p, 0, none⟩)] 235)).alloc (.cells #[.int .i64 k] 3) = W2 := ⟨_, rfl⟩
  rw [hW2] at KB2 KB3 HB0 SZ ⊢
  clear hW2
  have y2 : W2.cell? ⟨W.heap.size, 0, none⟩ = some (.pointer (some ⟨p, 0, none⟩)) := KB2.out.cell 0
  have y3 : W2.cell? ⟨W.heap.size + 1, 0, none⟩ = some (.int .i64 k) := KB3.out.cell 0
  have H1 := Lib.hid (HH.out.below HB0.out)
  go_wp2_with fail
  refine (HL.out (f) (by omega) p ov st _ H1.out hn (by simp only [needS]; omega)).mono ?_
  intro u w3 hw
  rcases went_cases hw with ⟨s3, ov3, hr, rfl, ha, ht⟩ | ⟨a, er, hr, rfl, hb⟩
  · have HLE := Lib.hid (par_len e f _ _ _ hr)
    have HR1 := Lib.hid (show R = parS e f (.loop k) s3 by rw [HR.out, hr]; rfl)
    have H3 := Lib.hid ha
    have T3 := Lib.hid ht
    clear ha ht hr hw HR y2 y3
    go_wp2_with fail
    go_loopw [6] (fun _ wr => ∃ f' s' ov', R = parS e f' (.loop k) s' ∧ 10 * s'.1.length + 2 * (5 - k) + 2 ≤ f' ∧ f' ≤ f ∧ s'.1.length + s'.2.length ≤ 2000 ∧ PA wr p e ov' s' ∧ PTo p W2 ov wr ov') (fun _ wr => lenAt p wr)
    case atStart => exact ⟨f, s3, ov3, HR1.out, by have := HLE.out; simp only [usesS] at this; omega, Nat.le_refl _, by have := HLE.out; omega, H3.out, T3.out⟩
    case round =>
      obtain ⟨f', s', ov', hr, hf', hff, hn', ha, ht⟩ := hrel
      obtain ⟨f2, rfl⟩ : ∃ f2, f' = f2 + 1 := ⟨f' - 1, by omega⟩
      have HR2 := Lib.hid (hr.trans (HLP.out f2 s'))
      have H4 := Lib.hid ha
      have T4 := Lib.hid ht
      have HLA := Lib.hid (lenAt_eq ha)
      have HLW := Lib.hid ha.lt
      have q2 := ht.blk KB2.out (by have := HLT.out; omega) (HOV.out _ (Nat.le_refl _))
      have q3 := ht.blk KB3.out (by have := HLT.out; omega) (HOV.out _ (Nat.le_succ _))
      have z2 : wr.cell? ⟨W.heap.size, 0, none⟩ = some (.pointer (some ⟨p, 0, none⟩)) := q2.cell 0
      have Q2 := Lib.hid q2
      have Q3 := Lib.hid q3
      have HOW := Lib.hid (show ∀ q, wr.heap.size ≤ q → ov'.ownBlock ≠ some q from fun q hq e => by have := ha.ow.lt _ e; omega)
      clear hr ha ht q2 q3
      go_wp2_with fail
      refine (par_head p e ov' s' _ H4.out (by omega)).mono ?_
      rintro u w5 ⟨rfl, hb5⟩
      have HN : RowKit.Hid ((headS e s').kind ≠ 0 → s'.1 ≠ []) := Lib.hid head_ne
      generalize headS e s' = t at HR2 HN ⊢
      have K5 := Lib.hid (Blk.new w5 239 (cTok t).toArray)
      have HB5 := Lib.hid (show Below wr.heap.size wr (w5.alloc (.cells (cTok t).toArray 239)) from hb5.alloc hb5.size _)
      have HS5 := Lib.hid hb5.size
      clear hb5 z2
      have H5 := Lib.hid (H4.out.below HB5.out)
      have T5 := Lib.hid (PTo.below T4.out HB5.out)
      have P2 := Lib.hid (Q2.out.below_ HB5.out)
      have P3 := Lib.hid (Q3.out.below_ HB5.out)
      obtain ⟨W5, hW5⟩ : ∃ W5, w5.alloc (.cells (cTok t).toArray 239) = W5 := ⟨_, rfl⟩
      rw [hW5] at K5 HB5 H5 T5 P2 P3
      rw [show (cTok t).toArray = #[.int .u8 t.kind, .int .i64 t.num, str t.text, .int .i64 t.rect.c1, .int .i64 t.rect.r1, .int .i64 t.rect.c2, .int .i64 t.rect.r2, .int .i64 t.at_] from rfl] at hW5 ⊢
      obtain ⟨g, hg⟩ : ∃ g, g = w5.heap.size := ⟨_, rfl⟩
      rw [← hg] at K5 HS5
      have HGN := Lib.hid (show g ≠ p by have := HLW.out; have := HS5.out; omega)
      have HGO := Lib.hid (HOW.out g HS5.out)
      go_upto_region 6 with (fail)
      rw [← hg]
      clear hW5 hg
      have x0 : W5.cell? ⟨g, 0, none⟩ = some (.int .u8 t.kind) := K5.out.cell 0
      have x1 : W5.cell? ⟨g, 1, none⟩ = some (.int .i64 t.num) := K5.out.cell 1
      by_cases h8 : t.kind = 8
      · have b8 : (t.kind != 8) = false := by simpa using h8
        have hne := HN.out (by omega)
        have hpos : 1 ≤ s'.1.length := List.length_pos_iff.2 hne
        have H8 := Lib.hid h8
        clear h8
        go_wp2_with fail
        refine (par_binds t.num _).mono ?_
        rintro u w6 ⟨⟨bb, ee, rfl⟩, rfl⟩
        have z2 : W5.cell? ⟨W.heap.size, 0, none⟩ = some (.pointer (some ⟨p, 0, none⟩)) := P2.out.cell 0
        have z3 : W5.cell? ⟨W.heap.size + 1, 0, none⟩ = some (.int .i64 k) := P3.out.cell 0
        generalize hbn : bindsS t.num = bn at HR2 ⊢
        clear hbn
        by_cases hbk : bn = k
        · have bk : (bn != (k : Int)) = false := by simpa using hbk
          have HR3 := Lib.hid (HR2.out.trans (if_neg (by rw [not_or]; exact ⟨fun h => h H8.out, fun h => h hbk⟩)))
          clear hbk HR2
          go_wp2_with fail
          refine (par_skip p e ov' s' _ H5.out (by omega) hne).mono ?_
          rintro u w7 ⟨rfl, ha, ht⟩
          have H7 := Lib.hid ha
          have T7 := Lib.hid (T5.out.trans ht)
          have K7 := Lib.hid (ht.blk K5.out HGN.out HGO.out)
          clear ha ht z2 z3
          have u2 : w7.cell? ⟨W.heap.size, 0, none⟩ = some (.pointer (some ⟨p, 0, none⟩)) := (T7.out.blk KB2.out (by have := HLT.out; omega) (HOV.out _ (Nat.le_refl _))).cell 0
          have u3 : w7.cell? ⟨W.heap.size + 1, 0, none⟩ = some (.int .i64 k) := (T7.out.blk KB3.out (by have := HLT.out; omega) (HOV.out _ (Nat.le_succ _))).cell 0
          go_wp2_with fail
          refine (HL.out (f2) (by omega) p ov' (skipS s') _ H7.out (by rw [skip_len, skip_two]; omega) (by simp only [needS, skip_len]; omega)).mono ?_
          intro u w8 hw
          rcases went_cases hw with ⟨s8, ov8, hr, rfl, ha, ht⟩ | ⟨a, er, hr, rfl, hb⟩
          · have HL8 := Lib.hid (par_len e f2 _ _ _ hr)
            have HR4 := Lib.hid (show R = parS e f2 (.loop k) (putS { nod0 6 with op := t.num } s8) by rw [HR3.out, hr]; rfl)
            have H8' := Lib.hid ha
            have T8 := Lib.hid (T7.out.trans ht)
            have K8 := Lib.hid (ht.blk K7.out HGN.out HGO.out)
            clear ha ht hr hw u2 u3
            have v2 : w8.cell? ⟨W.heap.size, 0, none⟩ = some (.pointer (some ⟨p, 0, none⟩)) := (T8.out.blk KB2.out (by have := HLT.out; omega) (HOV.out _ (Nat.le_refl _))).cell 0
            have v1 : w8.cell? ⟨g, 1, none⟩ = some (.int .i64 t.num) := K8.out.cell 1
            go_wp2_with fail
            refine (par_put p e ov8 s8 { nod0 6 with op := t.num } _ H8'.out (by have := HL8.out; rw [skip_len, skip_two] at this; omega)).mono ?_
            rintro u w9 ⟨rfl, ov9, ha, ht⟩
            have H9 := Lib.hid ha
            have T9 := Lib.hid (T8.out.trans ht)
            have hl9 := lenAt_eq ha
            rw [put_one] at hl9
            have HL9 := Lib.hid hl9
            clear ha ht hl9 v2 v1
            go_wp2
            exact ⟨⟨f2, _, ov9, HR4.out, by have := HL8.out; rw [put_one]; simp only [skip_len, usesS] at this; omega, by omega, by have := HL8.out; rw [put_one, put_len]; simp only [skip_len, skip_two, usesS] at this; omega, H9.out, T9.out⟩, by rw [HL9.out, HLA.out]; have := HL8.out; simp only [skip_len, usesS] at this; omega⟩
          · have HR4 := Lib.hid (show R = .error (a, er) by rw [HR3.out, hr]; rfl)
            have HB8 := Lib.hid ((HB0.out.mono (Nat.le_of_lt HLT.out)).trans ((T7.out.old' H1.out).trans hb))
            clear hr hw hb
            unfold flt
            go_wp2
            exact ⟨rfl, went_err HR4.out HB8.out⟩
        · have bk : (bn != (k : Int)) = true := by simpa using hbk
          have HR3 := Lib.hid (HR2.out.trans (if_pos (.inr hbk)))
          clear hbk HR2
          go_wp2
          refine bodyPost_ret (results_none rfl _ _ _) rfl ?_
          exact went_ok HR3.out H5.out ((PTo.below (PTo.refl p W ov) HB0.out).trans T5.out)
      · have b8 : (t.kind != 8) = true := by simpa using h8
        have HR3 := Lib.hid (HR2.out.trans (if_pos (.inl h8)))
        clear h8 HR2
        go_wp2
        refine bodyPost_ret (results_none rfl _ _ _) rfl ?_
        exact went_ok HR3.out H5.out ((PTo.below (PTo.refl p W ov) HB0.out).trans T5.out)
  · have HR3 := Lib.hid (show R = .error (a, er) by rw [HR.out, hr]; rfl)
    have HB3 := Lib.hid ((HB0.out.mono (Nat.le_of_lt HLT.out)).trans hb)
    clear hr hw hb
    unfold flt
    go_wp2
    exact ⟨rfl, went_err HR3.out HB3.out⟩
def arg1 (fn n : Nat) (p : Nat) : Array Value := #[.pointer (some ⟨p, 0, none⟩), .int .u8 fn, .int .i64 n]
theorem arg_ok (e : Int) (f fn n : Nat) (h1 : 1 ≤ fn) (h2 : fn ≤ 50) (hn2 : n ≤ 2000) (hl : RunS 224 one1 e f (.level 1)) :
    RunS 356 (arg1 fn n) e (f + 1) (.arg fn n) := by
  intro p ov st W h hn hf
  have HFO := Lib.hid hl
  have HH := Lib.hid h
  simp only [needS] at hf
  have HWI : RowKit.Hid (∀ W : World, Calls Tryz.prog 327 #[.int .u8 fn, .int .i64 n] W fun u W' => u = .returned (.tuple #[.bool (wideS fn n).1, .int .i64 (wideS fn n).2]) ∧ W = W') := Lib.hid (fun W => tree_wide fn n h1 h2 hn2 W)
  generalize ht : headS e st = t
  have HR : RowKit.Hid (parS e (f + 1) (.arg fn n) st = if t.kind ≠ 6 then parS e f (.level 1) st
    else if (wideS fn n).1 = false ∨ (wideS fn n).2 ≠ 0 then .error (t.at_, 4)
    else .ok (putS { nod0 3 with rect := t.rect } (skipS st))) := Lib.hid (by subst ht; rfl)
  generalize parS e (f + 1) (.arg fn n) st = R at HR ⊢
  generalize wideS fn n = wd at HWI HR
  obtain ⟨wb, we⟩ := wd
  have HN : RowKit.Hid (t.kind ≠ 0 → st.1 ≠ []) := Lib.hid (by rw [← ht]; exact head_ne)
  have HLT := Lib.hid h.lt
  have HOV := Lib.hid (show ∀ k, W.heap.size ≤ k → ov.ownBlock ≠ some k from fun k hk e => by have := h.ow.lt _ e; omega)
  clear hl h
  unfold arg1
  go_enter Tryz.func356, Tryz.ntmps356
  go_wp2_with fail
  refine (par_head p e ov st _ HH.out (by omega)).mono ?_
  rintro u w1 ⟨rfl, hb1⟩
  rw [ht]
  clear ht
  have K1 := Lib.hid (Blk.new w1 239 (cTok t).toArray)
  have HB2 := Lib.hid (show Below W.heap.size W (w1.alloc (.cells (cTok t).toArray 239)) from hb1.alloc hb1.size _)
  have HS1 := Lib.hid hb1.size
  clear hb1
  have H1 := Lib.hid (HH.out.below HB2.out)
  have T1 := Lib.hid (PTo.below (PTo.refl p W ov) HB2.out)
  obtain ⟨W1, hW1⟩ : ∃ W1, w1.alloc (.cells (cTok t).toArray 239) = W1 := ⟨_, rfl⟩
  rw [hW1] at K1 HB2 H1 T1
  rw [show (cTok t).toArray = #[.int .u8 t.kind, .int .i64 t.num, str t.text, .int .i64 t.rect.c1, .int .i64 t.rect.r1, .int .i64 t.rect.c2, .int .i64 t.rect.r2, .int .i64 t.at_] from rfl] at hW1 ⊢
  obtain ⟨g, hg⟩ : ∃ g, g = w1.heap.size := ⟨_, rfl⟩
  rw [← hg] at K1 HS1
  have HGN := Lib.hid (show g ≠ p by have := HLT.out; have := HS1.out; omega)
  have HGO := Lib.hid (HOV.out g HS1.out)
  go_upto_region 1 with (fail)
  rw [← hg]
  clear hW1 hg
  have x0 : W1.cell? ⟨g, 0, none⟩ = some (.int .u8 t.kind) := K1.out.cell 0
  have x7 : W1.cell? ⟨g, 7, none⟩ = some (.int .i64 t.at_) := K1.out.cell 7
  by_cases h6 : t.kind = 6
  · have b6 : (t.kind != 6) = false := by simpa using h6
    have hne := HN.out (by omega)
    have HR2 := Lib.hid (HR.out.trans (if_neg (by simpa using h6)))
    clear h6 HR
    go_wp2_with fail
    refine (HWI.out _).mono ?_
    rintro u w2 ⟨rfl, rfl⟩
    by_cases hw : wb = false ∨ we ≠ 0
    · have HR3 := Lib.hid (HR2.out.trans (if_pos hw))
      have HX : RowKit.Hid (wb = false ∨ we ≠ 0) := Lib.hid hw
      clear hw HR2
      rcases Bool.eq_false_or_eq_true wb with hwb | hwb
      · have he : (we != 0) = true := by
          rcases HX.out with h | h
          · rw [hwb] at h; cases h
          · simpa using h
        subst hwb
        clear HX
        go_wp2_with fail
        refine (par_fail _ t.at_ 4 _).mono ?_
        rintro u w3 ⟨rfl, rfl⟩
        unfold flt
        go_wp2
        exact ⟨rfl, went_err HR3.out (T1.out.old' HH.out)⟩
      · subst hwb
        clear HX
        go_wp2_with fail
        refine (par_fail _ t.at_ 4 _).mono ?_
        rintro u w3 ⟨rfl, rfl⟩
        unfold flt
        go_wp2
        exact ⟨rfl, went_err HR3.out (T1.out.old' HH.out)⟩
    · have HR3 := Lib.hid (HR2.out.trans (if_neg hw))
      obtain ⟨ha, hb⟩ := not_or.1 hw
      have hwb : wb = true := eq_true_of_ne_false ha
      have hwe : we = 0 := Decidable.not_not.1 hb
      subst hwb hwe
      clear hw ha hb HR2
      go_wp2_with fail
      refine (par_skip p e ov st _ H1.out (by omega) hne).mono ?_
      rintro u w3 ⟨rfl, ha, ht⟩
      have H2 := Lib.hid ha
      have T2 := Lib.hid (T1.out.trans ht)
      have K2 := Lib.hid (ht.blk K1.out HGN.out HGO.out)
      clear ha ht
      have y3 : w3.cell? ⟨g, 3, none⟩ = some (.int .i64 t.rect.c1) := K2.out.cell 3
      have y4 : w3.cell? ⟨g, 4, none⟩ = some (.int .i64 t.rect.r1) := K2.out.cell 4
      have y5 : w3.cell? ⟨g, 5, none⟩ = some (.int .i64 t.rect.c2) := K2.out.cell 5
      have y6 : w3.cell? ⟨g, 6, none⟩ = some (.int .i64 t.rect.r2) := K2.out.cell 6
      go_wp2_with fail
      refine (par_put p e ov (skipS st) { nod0 3 with rect := t.rect } _ H2.out (by rw [skip_two]; omega)).mono ?_
      rintro u w4 ⟨rfl, ov3, ha, ht⟩
      have H3 := Lib.hid ha
      have T3 := Lib.hid (T2.out.trans ht)
      clear ha ht
      go_wp2
      refine bodyPost_end (results_none rfl _ _ _) rfl ?_
      exact went_ok HR3.out H3.out T3.out
  · have b6 : (t.kind != 6) = true := by simpa using h6
    have HR2 := Lib.hid (HR.out.trans (if_pos h6))
    clear h6 HR
    go_wp2_with fail
    refine (HFO.out p ov st _ H1.out hn (by simp only [needS]; omega)).mono ?_
    intro u w2 hw
    rcases went_cases hw with ⟨s2, ov2, hr, rfl, ha, ht⟩ | ⟨a, er, hr, rfl, hb⟩
    · have HR3 := Lib.hid (HR2.out.trans hr)
      have H2 := Lib.hid ha
      have T2 := Lib.hid (T1.out.trans ht)
      clear ha ht hr hw
      go_wp2
      refine bodyPost_ret (results_none rfl _ _ _) rfl ?_
      exact went_ok HR3.out H2.out T2.out
    · have HR3 := Lib.hid (HR2.out.trans hr)
      have HB3 := Lib.hid ((T1.out.old' HH.out).trans hb)
      clear hr hw hb
      unfold flt
      go_wp2
      exact ⟨rfl, went_err HR3.out HB3.out⟩
def nameCells : Array Value := (fnNames.map str).toArray
theorem tree_names (W : World) : Calls Tryz.prog 364 #[] W fun u W' => u = .returned (.agg nameCells) ∧ Below W.heap.size W W' := by
  go_enter Tryz.func364, Tryz.ntmps364
  go_upto_region 1 with (fail)
  apply wp_region_lit
  refine wpList_buildTo rfl 355 _ rfl (some 1) rfl nameCells (by kernel_rfl) ?_
  refine wpList_store_row rfl 355 (.tmp 0) (.tmp 1) rfl W.heap.size nameCells rfl rfl 355 _ (heap_alloc_new W _) (by kernel_rfl) (by kernel_rfl) (by kernel_rfl) ?_
  rw [setRow_new]
  refine wpList_nil ?_
  have HB := Lib.hid (show Below W.heap.size W (W.alloc (.cells nameCells 355)) from by go_grown)
  refine (by assumption : ∀ (a : Act) (w : World), Code.wp Tryz.prog Code.ret _ a w → _) _ _ ?_
  refine wp_ret ?_
  refine bodyPost_ret (results_cell_row rfl _ _ W.heap.size 355 nameCells (0, 0) _ (by rfl) (heap_alloc_new W _) Tryz.underlying355 rfl (by kernel_rfl)) rfl ?_
  exact ⟨rfl, HB.out⟩
def cStr (b : Bytes) : List Value := [str b]
def idxS (l : List Bytes) (s : Bytes) : Int := if l.contains s then (l.idxOf s : Int) else -1
theorem idx_lt (s : Bytes) : ∀ (l : List Bytes) (k : Nat), k < l.idxOf s → l[k]? ≠ some s
  | [], k, h => by simp
  | x :: l, 0, h => by
    intro e
    simp at e
    subst e
    simp at h
  | x :: l, k + 1, h => by
    rw [List.idxOf_cons] at h
    by_cases hx : x = s
    · simp [hx] at h
    · have hx' : (x == s) = false := by simpa using hx
      rw [hx'] at h
      simp at h
      simpa using idx_lt s l k h
theorem idx_hit (l : List Bytes) (s : Bytes) (k : Nat) (hk : l[k]? = some s) (h : ∀ j, j < k → l[j]? ≠ some s) : idxS l s = k := by
  have hlt := (List.getElem?_eq_some_iff.1 hk).1
  have hm : s ∈ l := List.mem_of_getElem? hk
  unfold idxS
  rw [if_pos (by simpa using hm)]
  have h1 : l.idxOf s < l.length := List.idxOf_lt_length_of_mem hm
  have h2 : l[l.idxOf s]? = some s := by rw [List.getElem?_eq_getElem h1, List.getElem_idxOf]
  rcases Nat.lt_trichotomy (l.idxOf s) k with c | c | c
  · exact absurd h2 (h _ c)
  · rw [c]
  · exact absurd hk (idx_lt s l k c)
theorem idx_none (l : List Bytes) (s : Bytes) (h : ∀ j, j < l.length → l[j]? ≠ some s) : idxS l s = -1 := by
  unfold idxS
  rw [if_neg]
  intro hc
  have hm : s ∈ l := by simpa using hc
  obtain ⟨j, hj, e⟩ := List.getElem_of_mem hm
  exact h j hj (by rw [List.getElem?_eq_getElem hj, e])
theorem index_str (B : Nat) (v : Value) (l : List Bytes) (s : Bytes) (W : World) (h : Sls cStr W B v l) (hl : l.length ≤ 1000) :
    Calls Tryz.prog 365 #[v, str s] W fun u W' => u = .returned (.int .i64 (idxS l s)) ∧ W = W' := by
  obtain ⟨A, cap, rfl, hc, hm, hr⟩ := id h
  have HS := Lib.hid h
  clear h hr hm
  generalize hn : l.length = n at hc hl
  have HNn := Lib.hid hn
  clear hn
  go_enter Tryz.func365, Tryz.ntmps365
  go_wp2_with fail
  go_loopw [8] (fun v wr => ∃ k : Nat, k ≤ n ∧ v = .int .i64 k ∧ (∀ j, j < k → l[j]? ≠ some s) ∧ W = wr) (fun v _ => n - (intOf v).toNat)
  case atStart => exact ⟨0, by omega, rfl, fun j hj => by omega, rfl⟩
  case round =>
    obtain ⟨k, hk, rfl, hz, rfl⟩ := hrel
    have HZ := Lib.hid hz
    clear hz
    by_cases hkn : k < n
    · have hk1 : (k : Int) < (n : Int) := by omega
      have k0 : (0 : Int) ≤ (k : Int) := by omega
      have hlk : k < l.length := by rw [HNn.out]; exact hkn
      have hx : l[k]? = some l[k] := List.getElem?_eq_getElem hlk
      have HS2 := HS.out
      rw [HNn.out] at HS2
      obtain ⟨b, o, rfl, hb, hrg⟩ := HS2.get 1 (fun _ => rfl) hx
      generalize hx0 : l[k] = x at hx hrg
      have hc0 : W.cell? ⟨b, o + k, none⟩ = some (str x) := by
        have := hrg 0 (str x) rfl
        simpa using this
      have HX := Lib.hid hx
      clear hx hx0 hrg HS2 hlk
      by_cases hsx : s = x
      · have HE := Lib.hid (idx_hit l s k (by rw [HX.out, hsx]) HZ.out)
        have be : (s == x) = true := by simpa using hsx
        clear hsx
        go_wp2
        go_ret
        exact ⟨by rw [HE.out]; rfl, rfl⟩
      · have HZ2 := Lib.hid (show ∀ j, j < k + 1 → l[j]? ≠ some s from fun j hj => by
          rcases Nat.lt_or_ge j k with c | c
          · exact HZ.out j c
          · obtain rfl : j = k := by omega
            rw [HX.out]
            exact fun e => hsx (Option.some.inj e).symm)
        have be : (s == x) = false := by simpa using hsx
        clear hsx
        go_wp2
        exact ⟨⟨k + 1, by omega, by go_num, HZ2.out, trivial⟩, by simp [intOf]; omega⟩
    · have hk1 : ¬ (k : Int) < (n : Int) := by omega
      have HE := Lib.hid (idx_none l s (fun j hj => HZ.out j (by rw [HNn.out] at hj; omega)))
      go_wp2
      go_ret
      exact ⟨by rw [HE.out]; rfl, rfl⟩
theorem names_size : nameCells.size = 50 := by decide
theorem store_names (w : World) (cur : Array Value) (hc : cur.size = 50) : (storeCells ⟨w.heap.size, 0, none⟩ nameCells.toList).run Tryz.prog (w.alloc (.cells cur 355)) = .ok () (w.alloc (.cells nameCells 355)) := by
  have h := run_storeCells_at Tryz.prog w.heap.size 0 355 nameCells.toList 0 cur (w.alloc (.cells cur 355)) (heap_alloc_new w _) (by rw [Array.length_toList, names_size, hc]; omega) (by
    intro v hv
    simp only [nameCells, List.mem_map] at hv
    obtain ⟨x, _, rfl⟩ := hv
    rfl)
  rw [h, setRow_new]
  congr 3
  apply Array.ext'
  simp [names_size, hc]
theorem names_sls (w : World) : Sls cStr (w.alloc (.cells nameCells 355)) (w.heap.size + 1) (.slice (some ⟨w.heap.size, 0, none⟩) 50 50) fnNames :=
  ⟨_, 50, rfl, Nat.le_refl _, by unfold maxLen; decide, fun _ => ⟨w.heap.size, 0, rfl, Nat.lt_succ_self _, (Blk.new w 355 nameCells).range fun j v hv => by
    rw [Nat.zero_add]
    have e : nameCells.toList = fnNames.flatMap cStr := rfl
    rw [← Array.getElem?_toList, e]
    exact hv⟩⟩
theorem fn_some (s : Bytes) (h : fnNames.contains s = true) : ∃ i : Nat, i < 50 ∧ idxS fnNames s = i ∧ fnOf s = i + 1 := by
  refine ⟨fnNames.idxOf s, List.idxOf_lt_length_of_mem (by simpa using h), ?_, ?_⟩
  · unfold idxS; rw [if_pos h]
  · unfold fnOf; rw [if_pos h]
theorem fn_none (s : Bytes) (h : fnNames.contains s = false) : idxS fnNames s = -1 ∧ fnOf s = 0 := by
  unfold idxS fnOf
  rw [h]
  exact ⟨rfl, rfl⟩
theorem tree_function (s : Bytes) (W : World) : Calls Tryz.prog 355 #[str s] W fun u W' => (∃ er : Int, (er = 0 ↔ fnOf s ≠ 0) ∧ u = .returned (.tuple #[.int .u8 (fnOf s), .int .i64 er])) ∧ Below W.heap.size W W' := by
  go_enter Tryz.func355, Tryz.ntmps355
  go_wp2_with fail
  refine (tree_names _).mono ?_
  rintro u w1 ⟨rfl, hb1⟩
  go_wp2_with fail
  rw [store_names w1 _ rfl]
  go_simp
  go_wp2_with fail
  refine (index_str (w1.heap.size + 1) _ fnNames s _ (names_sls w1) (by decide)).mono ?_
  rintro u w2 ⟨rfl, rfl⟩
  have HB := Lib.hid (show Below W.heap.size W (w1.alloc (.cells nameCells 355)) from hb1.alloc hb1.size _)
  clear hb1
  cases hc : fnNames.contains s with
  | true =>
    obtain ⟨i, hi, e1, e2⟩ := fn_some s hc
    rw [e1]
    have E2 := Lib.hid e2
    have i0 : (0 : Int) ≤ (i : Int) := by omega
    have i1 : (i : Int) < 50 := by omega
    clear e1 e2 hc
    go_wp2
    go_ret2
    exact ⟨⟨0, by rw [E2.out]; simp, by rw [E2.out]; rfl⟩, HB.out⟩
  | false =>
    obtain ⟨e1, e2⟩ := fn_none s hc
    rw [e1]
    have E2 := Lib.hid e2
    clear e1 e2 hc
    go_wp2
    go_ret2
    exact ⟨⟨6, by rw [E2.out]; simp, by rw [E2.out]; rfl⟩, HB.out⟩
end Go.Proofs.YtamcgggmfghljaaGreatDoor
