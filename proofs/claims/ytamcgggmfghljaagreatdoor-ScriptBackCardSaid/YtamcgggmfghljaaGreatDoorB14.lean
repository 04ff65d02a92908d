/- Layer 41 (program): the reader takes lists (printed by tools/gen_rdl.py). -/
import Derived.Laws.CopyOwn
import Derived.Test.YtamcgggmfghljaaGreatDoorB13
set_option maxRecDepth 100000
set_option maxHeartbeats 8000000
namespace Go.Proofs.YtamcgggmfghljaaGreatDoor
open Go.RowKit
theorem manyR_stop {α : Type} (one : Rd → α × Rd) (n : Nat) {r : Rd} (h : r.2 = true) : manyR one n r = ([], r) := by
  cases n with
  | zero => rfl
  | succ n => simp only [manyR, h, if_true]
theorem manyR_step {α : Type} (one : Rd → α × Rd) (n : Nat) {r : Rd} (h : r.2 = false) {q : α × Rd} (hq : one r = q) : manyR one (n + 1) r = (q.1 :: (manyR one n q.2).1, (manyR one n q.2).2) := by
  simp only [manyR, h, hq, Bool.false_eq_true, if_false]
theorem listR_len {α : Type} (one : Rd → α × Rd) {r : Rd} {q : Nat × Rd} (hq : numR r = q) {n : Int} (hn : wrapI q.1 = n) {b : Bool} (hb : (q.2.2 || decide (n < 0) || decide ((q.2.1.length : Int) < n)) = b) : listR one r = manyR one n.toNat (q.2.1, b) := by
  unfold listR lenR
  rw [intR_q hq hn]
  dsimp only
  rw [hb]
theorem manyR_len {α : Type} (one : Rd → α × Rd) (h : ∀ r, (one r).2.1.length ≤ r.1.length) : ∀ (n : Nat) (r : Rd), (manyR one n r).2.1.length ≤ r.1.length
  | 0, _ => Nat.le_refl _
  | n + 1, r => by
    by_cases hb : r.2 = true
    · rw [manyR_stop one _ hb]
      exact Nat.le_refl _
    · rw [manyR_step one n (by simpa using hb) rfl]
      exact Nat.le_trans (manyR_len one h n _) (h r)
theorem listR_le {α : Type} (one : Rd → α × Rd) (h : ∀ r, (one r).2.1.length ≤ r.1.length) (r : Rd) : (listR one r).2.1.length ≤ r.1.length := by
  rw [listR_len one rfl rfl rfl]
  exact Nat.le_trans (manyR_len one h _ _) (numR_len r)
theorem RdTo.out {p : Nat} {W W1 w' : World} {r : Rd} {v v' : Value} (h : RdTo p W W1 r) (ht : OutTo W1 v w' v') (hv : ∀ q, v.ownBlock = some q → W.heap.size ≤ q) (hp : p < W.heap.size) : RdTo p W w' r :=
  ⟨Blk.outTo h.blk ht (fun e => by have := hv p e; omega), ⟨ht.chg.os.trans h.chg.os, ht.chg.tape.trans h.chg.tape, ht.chg.output.trans h.chg.output, Nat.le_trans h.chg.size ht.chg.size, fun i hi hs =>
    (ht.chg.block i (Nat.lt_of_lt_of_le hi h.chg.size) (fun e => by have := hv i e; omega)).trans (h.chg.block i hi hs)⟩⟩
theorem entR_len (r : Rd) : (entR r).2.1.length ≤ r.1.length := by
  obtain ⟨q, hq⟩ : ∃ q, textR (placeR r).2 = q := ⟨_, rfl⟩
  have h1 := textR_len (placeR r).2
  rw [hq] at h1
  rw [entR_eq, hq]
  exact Nat.le_trans h1 (placeR_len r)
theorem rulR_len (r : Rd) : (rulR r).2.1.length ≤ r.1.length := by
  rw [rulR_eq]
  exact Nat.le_trans (setsR_len _) (cornR_len _)
theorem grtR_len (r : Rd) : (grtR r).2.1.length ≤ r.1.length := by
  rw [grtR_eq]
  exact Nat.le_trans (numR_len _) (Nat.le_trans (numR_len _) (Nat.le_trans (numR_len _) (Nat.le_trans (numR_len _) (cornR_len _))))
theorem evtR_len (r : Rd) : (evtR r).2.1.length ≤ r.1.length := by
  rw [evtR_eq]
  exact Nat.le_trans (numR_len _) (Nat.le_trans (numR_len _) (Nat.le_trans (cornR_len _) (Nat.le_trans (numR_len _) (Nat.le_trans (numR_len _) (numR_len _)))))
theorem rlsR_len (r : Rd) : (rlsR r).2.1.length ≤ r.1.length := by
  rw [rlsR_eq]
  exact Nat.le_trans (numR_len _) (Nat.le_trans (numR_len _) (Nat.le_trans (cornR_len _) (Nat.le_trans (numR_len _) (Nat.le_trans (numR_len _) (Nat.le_trans (placeR_len _) (numR_len _))))))
theorem oprR_len (r : Rd) : (oprR r).2.1.length ≤ r.1.length := by
  rw [oprR_st]
  exact Nat.le_trans (stO_len _ _ _ 7) (Nat.le_trans (numR_len _) (numR_len _))
theorem rl_ent (p c : Nat) (r : Rd) (W : World) (hc : Blk W c 95 #[.pointer (some ⟨p, 0, none⟩)]) (hcp : c ≠ p) (h : RdAt W p r) (hl : r.1.length ≤ 1000000) :
    Calls Tryz.prog 58 #[.pointer (some ⟨p, 0, none⟩), .func (.func 59) #[] #[.pointer (some ⟨c, 0, none⟩)]] W fun u W' => ∃ v', u = .returned v' ∧ Own cEnt 58 3 W' v' (listR entR r).1 ∧ (∀ q, v'.ownBlock = some q → W.heap.size ≤ q) ∧ RdTo p W W' (listR entR r).2 := by
  obtain ⟨ie, i0, i1, i2, i3⟩ := info_parts (show (Tryz.prog.info? 58).map (fun i => (i.zero, i.size, i.bytes)) = some (some (.agg #[.int .i64 0, .int .i64 0, .string ⟨#[]⟩]), 3, 32) by kernel_rfl)
  have I0 := Lib.hid i0
  have I1 := Lib.hid i1
  have I2 := Lib.hid i2
  have I3 := Lib.hid i3
  clear i0 i1 i2 i3
  have hlt := h.lt
  have HH := Lib.hid h
  have HC := Lib.hid hc
  clear h hc
  go_enter Tryz.func58, Tryz.ntmps58
  go_wp2_with fail
  have hC := rd_int p r W HH.out hl
  have hL := numR_len r
  obtain ⟨q1, hq⟩ : ∃ q, numR r = q := ⟨_, rfl⟩
  rw [hq] at hC hL
  have HQ := Lib.hid hq
  clear hq
  refine hC.mono ?_
  rintro e W1 ⟨rfl, t1⟩
  have T1 := Lib.hid t1
  have hl1 := Nat.le_trans hL hl
  clear t1 hC hL
  generalize hn : wrapI q1.1 = n
  have HN := Lib.hid hn
  clear hn
  obtain ⟨v1, s1, b1⟩ := q1
  have hl1 : s1.length ≤ 1000000 := hl1
  have c0 : W1.cell? ⟨p, 0, none⟩ = some (str s1) := T1.out.blk.cell 0
  have c1 : W1.cell? ⟨p, 1, none⟩ = some (.bool b1) := T1.out.blk.cell 1
  have f1 : W1.frozen? ⟨p, 1, none⟩ = false := T1.out.blk.frozen 1
  have HLR := Lib.hid (fun (b : Bool) (hb : (b1 || decide (n < 0) || decide ((s1.length : Int) < n)) = b) => listR_len entR HQ.out HN.out (b := b) hb)
  clear HQ HN
  obtain ⟨b, hB⟩ : ∃ b, (b1 || decide (n < 0) || decide ((s1.length : Int) < n)) = b := ⟨_, rfl⟩
  have HE := Lib.hid (HLR.out b hB)
  have HNB := Lib.hid (show b = false → 0 ≤ n ∧ n ≤ 1000000 from fun h => by
    rw [h] at hB
    simp only [Bool.or_eq_false_iff, decide_eq_false_iff_not] at hB
    omega)
  have T2 := Lib.hid (show RdTo p W (W1.setCell ⟨p, 1, none⟩ (.bool b)) (s1, b) from ⟨Blk.set_ T1.out.blk 1 _, T1.out.chg.setCell (p := ⟨p, 1, none⟩) (.inl rfl) _⟩)
  cases b1 with
  | true =>
    have HB := Lib.hid hB
    clear HLR hB
    go_wp2_with fail
    obtain rfl : b = true := by simpa using HB.out.symm
    obtain ⟨W2, hW2⟩ : ∃ W2, W1.setCell ⟨p, 1, none⟩ (.bool true) = W2 := ⟨_, rfl⟩
    rw [hW2] at T2 ⊢
    clear hW2 c0 c1 f1 T1 HB
    obtain ⟨m, hm⟩ : ∃ m, n.toNat = m := ⟨_, rfl⟩
    rw [hm] at HE
    go_loopw [5, 7] (fun ov i wr => ∃ (k : Nat) (l : List Ent) (rk : Rd), k ≤ m ∧ i = .int .i64 k ∧ Own cEnt 58 3 wr ov l ∧ (∀ q, ov.ownBlock = some q → W.heap.size ≤ q) ∧ RdTo p W wr rk ∧ l.length = k ∧ rk.1.length ≤ 1000000 ∧ manyR entR m (s1, true) = (l ++ (manyR entR (m - k) rk).1, (manyR entR (m - k) rk).2) ∧ (rk.2 = false → 0 ≤ n ∧ n ≤ 1000000)) (fun _ i _ => m - (intOf i).toNat)
    case atStart => exact ⟨0, [], (s1, true), by omega, rfl, Own.nil _ _ _ _, fun q hq => by simp [Value.ownBlock] at hq, T2.out, rfl, hl1, by simp, HNB.out⟩
    case round =>
      rename World => w0
      obtain ⟨k, l, ⟨sk, bk⟩, hk, rfl, how, hob, hto, hlk, hrk, hmk, hnb⟩ := hrel
      have HNK := Lib.hid hnb
      have HOW := Lib.hid how
      have HOB := Lib.hid hob
      have T4 := Lib.hid hto
      have HMK := Lib.hid (HE.out.trans hmk)
      have c1 : w0.cell? ⟨p, 1, none⟩ = some (.bool bk) := hto.blk.cell 1
      clear how hob hto hmk hnb
      by_cases hlt2 : (k : Int) < n
      · have hkm : k < m := by omega
        cases bk with
        | true =>
          have HF := Lib.hid (HMK.out.trans (by rw [manyR_stop entR _ rfl, List.append_nil] : _ = (l, (sk, true))))
          clear hkm hk hlk hrk hl1 hl hm
          go_wp2
          go_ret
          exact ⟨_, rfl, by rw [HF.out]; exact HOW.out, HOB.out, by rw [HF.out]; exact T4.out⟩
        | false =>
          have hn2 := HNK.out rfl
          obtain ⟨j, hj⟩ : ∃ j, m - k = j + 1 := ⟨m - k - 1, by omega⟩
          have CW := Lib.hid (T4.out.keep HC.out hcp)
          have hC := rc_ent p c 95 (sk, false) w0 CW.out hcp T4.out.blk hrk
          have hL := entR_len (sk, false)
          obtain ⟨q2, hq⟩ : ∃ q, entR (sk, false) = q := ⟨_, rfl⟩
          have hS := manyR_step entR j (r := (sk, false)) rfl hq
          rw [hj, hS] at HMK
          rw [hq] at hC hL
          obtain ⟨x, rk⟩ := q2
          rw [show (cEnt x).toArray = #[.int .i64 x.at_.col, .int .i64 x.at_.row, str x.input] from rfl] at hC
          have HCC := Lib.hid hC
          have hL2 : rk.1.length ≤ 1000000 := Nat.le_trans hL hrk
          have hjk : j = m - (k + 1) := by omega
          have HJ := Lib.hid hjk
          clear hC hL hq hS hj hjk
          go_wp2_with fail
          refine HCC.out.mono ?_
          rintro e W5 ⟨rfl, t5⟩
          have T5 := Lib.hid ((T4.out.trans t5).alloc (.cells #[.int .i64 x.at_.col, .int .i64 x.at_.row, str x.input] 58))
          have O5 := Lib.hid ((HOW.out.chg t5.chg (fun q hq e => by have h1 := HOB.out q hq; have h2 : q = p := e; omega)).alloc (.cells #[.int .i64 x.at_.col, .int .i64 x.at_.row, str x.input] 58))
          have K5 := Lib.hid (Blk.new W5 58 #[.int .i64 x.at_.col, .int .i64 x.at_.row, str x.input])
          clear t5 HCC
          go_wp2_with (at_builtin; refine RowKit.Hid.out ?_)
          refine Lib.hid ?_
          refine wpList_more cEnt rfl _ _ 22 rfl 58 ie _ 3 32 Tryz.underlying22 I0.out I1.out I2.out I3.out rfl (by omega) _ l rfl O5.out _ _ [x] rfl (Sls.one (x := x) K5.out rfl) cEnt_len cEnt_one (by simp; omega) (by omega) ?_
          intro v9 w9 o9 t9
          have O9 := Lib.hid o9
          have T9 := Lib.hid (T5.out.out t9 HOB.out hlt)
          have B9 := Lib.hid (show ∀ q, v9.ownBlock = some q → W.heap.size ≤ q from fun q hq => by
            rcases t9.own q hq with e | e
            · exact HOB.out q e
            · exact Nat.le_trans T5.out.chg.size e)
          clear o9 t9
          go_wp2
          exact ⟨⟨k + 1, l ++ [x], rk, by omega, by go_num, O9.out, B9.out, T9.out, by simp; omega, hL2, by rw [← HJ.out, ← HE.out, HMK.out]; simp, fun _ => hn2⟩, by simp [intOf]; omega⟩
      · have hld := hlt2
        have HF := Lib.hid (HMK.out.trans (by rw [show m - k = 0 by omega]; simp only [manyR, List.append_nil] : _ = (l, (sk, bk))))
        clear hk hlk hrk hl1 hl hm
        go_wp2
        go_ret
        exact ⟨_, rfl, by rw [HF.out]; exact HOW.out, HOB.out, by rw [HF.out]; exact T4.out⟩
  | false =>
    by_cases hn0 : n < 0
    · have hn0d : decide (n < 0) = true := by simp [hn0]
      have HB := Lib.hid hB
      clear HLR hB
      go_wp2_with fail
      obtain rfl : b = true := by rw [← HB.out]; simp [hn0]
      obtain ⟨W2, hW2⟩ : ∃ W2, W1.setCell ⟨p, 1, none⟩ (.bool true) = W2 := ⟨_, rfl⟩
      rw [hW2] at T2 ⊢
      clear hW2 c0 c1 f1 T1 HB
      obtain ⟨m, hm⟩ : ∃ m, n.toNat = m := ⟨_, rfl⟩
      rw [hm] at HE
      go_loopw [5, 7] (fun ov i wr => ∃ (k : Nat) (l : List Ent) (rk : Rd), k ≤ m ∧ i = .int .i64 k ∧ Own cEnt 58 3 wr ov l ∧ (∀ q, ov.ownBlock = some q → W.heap.size ≤ q) ∧ RdTo p W wr rk ∧ l.length = k ∧ rk.1.length ≤ 1000000 ∧ manyR entR m (s1, true) = (l ++ (manyR entR (m - k) rk).1, (manyR entR (m - k) rk).2) ∧ (rk.2 = false → 0 ≤ n ∧ n ≤ 1000000)) (fun _ i _ => m - (intOf i).toNat)
      case atStart => exact ⟨0, [], (s1, true), by omega, rfl, Own.nil _ _ _ _, fun q hq => by simp [Value.ownBlock] at hq, T2.out, rfl, hl1, by simp, HNB.out⟩
      case round =>
        rename World => w0
        obtain ⟨k, l, ⟨sk, bk⟩, hk, rfl, how, hob, hto, hlk, hrk, hmk, hnb⟩ := hrel
        have HNK := Lib.hid hnb
        have HOW := Lib.hid how
        have HOB := Lib.hid hob
        have T4 := Lib.hid hto
        have HMK := Lib.hid (HE.out.trans hmk)
        have c1 : w0.cell? ⟨p, 1, none⟩ = some (.bool bk) := hto.blk.cell 1
        clear how hob hto hmk hnb
        by_cases hlt2 : (k : Int) < n
        · exfalso; omega
        · have hld := hlt2
          have HF := Lib.hid (HMK.out.trans (by rw [show m - k = 0 by omega]; simp only [manyR, List.append_nil] : _ = (l, (sk, bk))))
          clear hk hlk hrk hl1 hl hm
          go_wp2
          go_ret
          exact ⟨_, rfl, by rw [HF.out]; exact HOW.out, HOB.out, by rw [HF.out]; exact T4.out⟩
    have hn0d : decide (n < 0) = false := by simp [hn0]
    by_cases hn1 : (s1.length : Int) < n
    · have hn1d : decide ((s1.length : Int) < n) = true := by simp [hn1]
      have HB := Lib.hid hB
      clear HLR hB
      go_wp2_with fail
      obtain rfl : b = true := by rw [← HB.out]; simp [hn1]
      obtain ⟨W2, hW2⟩ : ∃ W2, W1.setCell ⟨p, 1, none⟩ (.bool true) = W2 := ⟨_, rfl⟩
      rw [hW2] at T2 ⊢
      clear hW2 c0 c1 f1 T1 HB
      obtain ⟨m, hm⟩ : ∃ m, n.toNat = m := ⟨_, rfl⟩
      rw [hm] at HE
      go_loopw [5, 7] (fun ov i wr => ∃ (k : Nat) (l : List Ent) (rk : Rd), k ≤ m ∧ i = .int .i64 k ∧ Own cEnt 58 3 wr ov l ∧ (∀ q, ov.ownBlock = some q → W.heap.size ≤ q) ∧ RdTo p W wr rk ∧ l.length = k ∧ rk.1.length ≤ 1000000 ∧ manyR entR m (s1, true) = (l ++ (manyR entR (m - k) rk).1, (manyR entR (m - k) rk).2) ∧ (rk.2 = false → 0 ≤ n ∧ n ≤ 1000000)) (fun _ i _ => m - (intOf i).toNat)
      case atStart => exact ⟨0, [], (s1, true), by omega, rfl, Own.nil _ _ _ _, fun q hq => by simp [Value.ownBlock] at hq, T2.out, rfl, hl1, by simp, HNB.out⟩
      case round =>
        rename World => w0
        obtain ⟨k, l, ⟨sk, bk⟩, hk, rfl, how, hob, hto, hlk, hrk, hmk, hnb⟩ := hrel
        have HNK := Lib.hid hnb
        have HOW := Lib.hid how
        have HOB := Lib.hid hob
        have T4 := Lib.hid hto
        have HMK := Lib.hid (HE.out.trans hmk)
        have c1 : w0.cell? ⟨p, 1, none⟩ = some (.bool bk) := hto.blk.cell 1
        clear how hob hto hmk hnb
        by_cases hlt2 : (k : Int) < n
        · have hkm : k < m := by omega
          cases bk with
          | true =>
            have HF := Lib.hid (HMK.out.trans (by rw [manyR_stop entR _ rfl, List.append_nil] : _ = (l, (sk, true))))
            clear hkm hk hlk hrk hl1 hl hm
            go_wp2
            go_ret
            exact ⟨_, rfl, by rw [HF.out]; exact HOW.out, HOB.out, by rw [HF.out]; exact T4.out⟩
          | false =>
            have hn2 := HNK.out rfl
            obtain ⟨j, hj⟩ : ∃ j, m - k = j + 1 := ⟨m - k - 1, by omega⟩
            have CW := Lib.hid (T4.out.keep HC.out hcp)
            have hC := rc_ent p c 95 (sk, false) w0 CW.out hcp T4.out.blk hrk
            have hL := entR_len (sk, false)
            obtain ⟨q2, hq⟩ : ∃ q, entR (sk, false) = q := ⟨_, rfl⟩
            have hS := manyR_step entR j (r := (sk, false)) rfl hq
            rw [hj, hS] at HMK
            rw [hq] at hC hL
            obtain ⟨x, rk⟩ := q2
            rw [show (cEnt x).toArray = #[.int .i64 x.at_.col, .int .i64 x.at_.row, str x.input] from rfl] at hC
            have HCC := Lib.hid hC
            have hL2 : rk.1.length ≤ 1000000 := Nat.le_trans hL hrk
            have hjk : j = m - (k + 1) := by omega
            have HJ := Lib.hid hjk
            clear hC hL hq hS hj hjk
            go_wp2_with fail
            refine HCC.out.mono ?_
            rintro e W5 ⟨rfl, t5⟩
            have T5 := Lib.hid ((T4.out.trans t5).alloc (.cells #[.int .i64 x.at_.col, .int .i64 x.at_.row, str x.input] 58))
            have O5 := Lib.hid ((HOW.out.chg t5.chg (fun q hq e => by have h1 := HOB.out q hq; have h2 : q = p := e; omega)).alloc (.cells #[.int .i64 x.at_.col, .int .i64 x.at_.row, str x.input] 58))
            have K5 := Lib.hid (Blk.new W5 58 #[.int .i64 x.at_.col, .int .i64 x.at_.row, str x.input])
            clear t5 HCC
            go_wp2_with (at_builtin; refine RowKit.Hid.out ?_)
            refine Lib.hid ?_
            refine wpList_more cEnt rfl _ _ 22 rfl 58 ie _ 3 32 Tryz.underlying22 I0.out I1.out I2.out I3.out rfl (by omega) _ l rfl O5.out _ _ [x] rfl (Sls.one (x := x) K5.out rfl) cEnt_len cEnt_one (by simp; omega) (by omega) ?_
            intro v9 w9 o9 t9
            have O9 := Lib.hid o9
            have T9 := Lib.hid (T5.out.out t9 HOB.out hlt)
            have B9 := Lib.hid (show ∀ q, v9.ownBlock = some q → W.heap.size ≤ q from fun q hq => by
              rcases t9.own q hq with e | e
              · exact HOB.out q e
              · exact Nat.le_trans T5.out.chg.size e)
            clear o9 t9
            go_wp2
            exact ⟨⟨k + 1, l ++ [x], rk, by omega, by go_num, O9.out, B9.out, T9.out, by simp; omega, hL2, by rw [← HJ.out, ← HE.out, HMK.out]; simp, fun _ => hn2⟩, by simp [intOf]; omega⟩
        · have hld := hlt2
          have HF := Lib.hid (HMK.out.trans (by rw [show m - k = 0 by omega]; simp only [manyR, List.append_nil] : _ = (l, (sk, bk))))
          clear hk hlk hrk hl1 hl hm
          go_wp2
          go_ret
          exact ⟨_, rfl, by rw [HF.out]; exact HOW.out, HOB.out, by rw [HF.out]; exact T4.out⟩
    have hn1d : decide ((s1.length : Int) < n) = false := by simp [hn1]
    have HB := Lib.hid hB
    clear HLR hB
    go_wp2_with fail
    obtain rfl : b = false := by rw [← HB.out]; simp [hn0, hn1]
    obtain ⟨W2, hW2⟩ : ∃ W2, W1.setCell ⟨p, 1, none⟩ (.bool false) = W2 := ⟨_, rfl⟩
    rw [hW2] at T2 ⊢
    clear hW2 c0 c1 f1 T1 HB
    obtain ⟨m, hm⟩ : ∃ m, n.toNat = m := ⟨_, rfl⟩
    rw [hm] at HE
    go_loopw [5, 7] (fun ov i wr => ∃ (k : Nat) (l : List Ent) (rk : Rd), k ≤ m ∧ i = .int .i64 k ∧ Own cEnt 58 3 wr ov l ∧ (∀ q, ov.ownBlock = some q → W.heap.size ≤ q) ∧ RdTo p W wr rk ∧ l.length = k ∧ rk.1.length ≤ 1000000 ∧ manyR entR m (s1, false) = (l ++ (manyR entR (m - k) rk).1, (manyR entR (m - k) rk).2) ∧ (rk.2 = false → 0 ≤ n ∧ n ≤ 1000000)) (fun _ i _ => m - (intOf i).toNat)
    case atStart => exact ⟨0, [], (s1, false), by omega, rfl, Own.nil _ _ _ _, fun q hq => by simp [Value.ownBlock] at hq, T2.out, rfl, hl1, by simp, HNB.out⟩
    case round =>
      rename World => w0
      obtain ⟨k, l, ⟨sk, bk⟩, hk, rfl, how, hob, hto, hlk, hrk, hmk, hnb⟩ := hrel
      have HNK := Lib.hid hnb
      have HOW := Lib.hid how
      have HOB := Lib.hid hob
      have T4 := Lib.hid hto
      have HMK := Lib.hid (HE.out.trans hmk)
      have c1 : w0.cell? ⟨p, 1, none⟩ = some (.bool bk) := hto.blk.cell 1
      clear how hob hto hmk hnb
      by_cases hlt2 : (k : Int) < n
      · have hkm : k < m := by omega
        cases bk with
        | true =>
          have HF := Lib.hid (HMK.out.trans (by rw [manyR_stop entR _ rfl, List.append_nil] : _ = (l, (sk, true))))
          clear hkm hk hlk hrk hl1 hl hm
          go_wp2
          go_ret
          exact ⟨_, rfl, by rw [HF.out]; exact HOW.out, HOB.out, by rw [HF.out]; exact T4.out⟩
        | false =>
          have hn2 := HNK.out rfl
          obtain ⟨j, hj⟩ : ∃ j, m - k = j + 1 := ⟨m - k - 1, by omega⟩
          have CW := Lib.hid (T4.out.keep HC.out hcp)
          have hC := rc_ent p c 95 (sk, false) w0 CW.out hcp T4.out.blk hrk
          have hL := entR_len (sk, false)
          obtain ⟨q2, hq⟩ : ∃ q, entR (sk, false) = q := ⟨_, rfl⟩
          have hS := manyR_step entR j (r := (sk, false)) rfl hq
          rw [hj, hS] at HMK
          rw [hq] at hC hL
          obtain ⟨x, rk⟩ := q2
          rw [show (cEnt x).toArray = #[.int .i64 x.at_.col, .int .i64 x.at_.row, str x.input] from rfl] at hC
          have HCC := Lib.hid hC
          have hL2 : rk.1.length ≤ 1000000 := Nat.le_trans hL hrk
          have hjk : j = m - (k + 1) := by omega
          have HJ := Lib.hid hjk
          clear hC hL hq hS hj hjk
          go_wp2_with fail
          refine HCC.out.mono ?_
          rintro e W5 ⟨rfl, t5⟩
          have T5 := Lib.hid ((T4.out.trans t5).alloc (.cells #[.int .i64 x.at_.col, .int .i64 x.at_.row, str x.input] 58))
          have O5 := Lib.hid ((HOW.out.chg t5.chg (fun q hq e => by have h1 := HOB.out q hq; have h2 : q = p := e; omega)).alloc (.cells #[.int .i64 x.at_.col, .int .i64 x.at_.row, str x.input] 58))
          have K5 := Lib.hid (Blk.new W5 58 #[.int .i64 x.at_.col, .int .i64 x.at_.row, str x.input])
          clear t5 HCC
          go_wp2_with (at_builtin; refine RowKit.Hid.out ?_)
          refine Lib.hid ?_
          refine wpList_more cEnt rfl _ _ 22 rfl 58 ie _ 3 32 Tryz.underlying22 I0.out I1.out I2.out I3.out rfl (by omega) _ l rfl O5.out _ _ [x] rfl (Sls.one (x := x) K5.out rfl) cEnt_len cEnt_one (by simp; omega) (by omega) ?_
          intro v9 w9 o9 t9
          have O9 := Lib.hid o9
          have T9 := Lib.hid (T5.out.out t9 HOB.out hlt)
          have B9 := Lib.hid (show ∀ q, v9.ownBlock = some q → W.heap.size ≤ q from fun q hq => by
            rcases t9.own q hq with e | e
            · exact HOB.out q e
            · exact Nat.le_trans T5.out.chg.size e)
          clear o9 t9
          go_wp2
          exact ⟨⟨k + 1, l ++ [x], rk, by omega, by go_num, O9.out, B9.out, T9.out, by simp; omega, hL2, by rw [← HJ.out, ← HE.out, HMK.out]; simp, fun _ => hn2⟩, by simp [intOf]; omega⟩
      · have hld := hlt2
        have HF := Lib.hid (HMK.out.trans (by rw [show m - k = 0 by omega]; simp only [manyR, List.append_nil] : _ = (l, (sk, bk))))
        clear hk hlk hrk hl1 hl hm
        go_wp2
        go_ret
        exact ⟨_, rfl, by rw [HF.out]; exact HOW.out, HOB.out, by rw [HF.out]; exact T4.out⟩
theorem rl_rul (p c : Nat) (r : Rd) (W : World) (hc : Blk W c 95 #[.pointer (some ⟨p, 0, none⟩)]) (hcp : c ≠ p) (h : RdAt W p r) (hl : r.1.length ≤ 1000000) :
    Calls Tryz.prog 62 #[.pointer (some ⟨p, 0, none⟩), .func (.func 63) #[] #[.pointer (some ⟨c, 0, none⟩)]] W fun u W' => ∃ v', u = .returned v' ∧ Own cRul 79 7 W' v' (listR rulR r).1 ∧ (∀ q, v'.ownBlock = some q → W.heap.size ≤ q) ∧ RdTo p W W' (listR rulR r).2 := by
  obtain ⟨ie, i0, i1, i2, i3⟩ := info_parts (show (Tryz.prog.info? 79).map (fun i => (i.zero, i.size, i.bytes)) = some (some (.agg #[.int .i64 0, .int .i64 0, .int .i64 0, .int .i64 0, .int .u64 0, .int .u64 0, .int .u64 0]), 7, 56) by kernel_rfl)
  have I0 := Lib.hid i0
  have I1 := Lib.hid i1
  have I2 := Lib.hid i2
  have I3 := Lib.hid i3
  clear i0 i1 i2 i3
  have hlt := h.lt
  have HH := Lib.hid h
  have HC := Lib.hid hc
  clear h hc
  go_enter Tryz.func62, Tryz.ntmps62
  go_wp2_with fail
  have hC := rd_int p r W HH.out hl
  have hL := numR_len r
  obtain ⟨q1, hq⟩ : ∃ q, numR r = q := ⟨_, rfl⟩
  rw [hq] at hC hL
  have HQ := Lib.hid hq
  clear hq
  refine hC.mono ?_
  rintro e W1 ⟨rfl, t1⟩
  have T1 := Lib.hid t1
  have hl1 := Nat.le_trans hL hl
  clear t1 hC hL
  generalize hn : wrapI q1.1 = n
  have HN := Lib.hid hn
  clear hn
  obtain ⟨v1, s1, b1⟩ := q1
  have hl1 : s1.length ≤ 1000000 := hl1
  have c0 : W1.cell? ⟨p, 0, none⟩ = some (str s1) := T1.out.blk.cell 0
  have c1 : W1.cell? ⟨p, 1, none⟩ = some (.bool b1) := T1.out.blk.cell 1
  have f1 : W1.frozen? ⟨p, 1, none⟩ = false := T1.out.blk.frozen 1
  have HLR := Lib.hid (fun (b : Bool) (hb : (b1 || decide (n < 0) || decide ((s1.length : Int) < n)) = b) => listR_len rulR HQ.out HN.out (b := b) hb)
  clear HQ HN
  obtain ⟨b, hB⟩ : ∃ b, (b1 || decide (n < 0) || decide ((s1.length : Int) < n)) = b := ⟨_, rfl⟩
  have HE := Lib.hid (HLR.out b hB)
  have HNB := Lib.hid (show b = false → 0 ≤ n ∧ n ≤ 1000000 from fun h => by
    rw [h] at hB
    simp only [Bool.or_eq_false_iff, decide_eq_false_iff_not] at hB
    omega)
  have T2 := Lib.hid (show RdTo p W (W1.setCell ⟨p, 1, none⟩ (.bool b)) (s1, b) from ⟨Blk.set_ T1.out.blk 1 _, T1.out.chg.setCell (p := ⟨p, 1, none⟩) (.inl rfl) _⟩)
  cases b1 with
  | true =>
    have HB := Lib.hid hB
    clear HLR hB
    go_wp2_with fail
    obtain rfl : b = true := by simpa using HB.out.symm
    obtain ⟨W2, hW2⟩ : ∃ W2, W1.setCell ⟨p, 1, none⟩ (.bool true) = W2 := ⟨_, rfl⟩
    rw [hW2] at T2 ⊢
    clear hW2 c0 c1 f1 T1 HB
    obtain ⟨m, hm⟩ : ∃ m, n.toNat = m := ⟨_, rfl⟩
    rw [hm] at HE
    go_loopw [5, 7] (fun ov i wr => ∃ (k : Nat) (l : List Rul) (rk : Rd), k ≤ m ∧ i = .int .i64 k ∧ Own cRul 79 7 wr ov l ∧ (∀ q, ov.ownBlock = some q → W.heap.size ≤ q) ∧ RdTo p W wr rk ∧ l.length = k ∧ rk.1.length ≤ 1000000 ∧ manyR rulR m (s1, true) = (l ++ (manyR rulR (m - k) rk).1, (manyR rulR (m - k) rk).2) ∧ (rk.2 = false → 0 ≤ n ∧ n ≤ 1000000)) (fun _ i _ => m - (intOf i).toNat)
    case atStart => exact ⟨0, [], (s1, true), by omega, rfl, Own.nil _ _ _ _, fun q hq => by simp [Value.ownBlock] at hq, T2.out, rfl, hl1, by simp, HNB.out⟩
    case round =>
      rename World => w0
      obtain ⟨k, l, ⟨sk, bk⟩, hk, rfl, how, hob, hto, hlk, hrk, hmk, hnb⟩ := hrel
      have HNK := Lib.hid hnb
      have HOW := Lib.hid how
      have HOB := Lib.hid hob
      have T4 := Lib.hid hto
      have HMK := Lib.hid (HE.out.trans hmk)
      have c1 : w0.cell? ⟨p, 1, none⟩ = some (.bool bk) := hto.blk.cell 1
      clear how hob hto hmk hnb
      by_cases hlt2 : (k : Int) < n
      · have hkm : k < m := by omega
        cases bk with
        | true =>
          have HF := Lib.hid (HMK.out.trans (by rw [manyR_stop rulR _ rfl, List.append_nil] : _ = (l, (sk, true))))
          clear hkm hk hlk hrk hl1 hl hm
          go_wp2
          go_ret
          exact ⟨_, rfl, by rw [HF.out]; exact HOW.out, HOB.out, by rw [HF.out]; exact T4.out⟩
        | false =>
          have hn2 := HNK.out rfl
          obtain ⟨j, hj⟩ : ∃ j, m - k = j + 1 := ⟨m - k - 1, by omega⟩
          have CW := Lib.hid (T4.out.keep HC.out hcp)
          have hC := rc_rul p c 95 (sk, false) w0 CW.out hcp T4.out.blk hrk
          have hL := rulR_len (sk, false)
          obtain ⟨q2, hq⟩ : ∃ q, rulR (sk, false) = q := ⟨_, rfl⟩
          have hS := manyR_step rulR j (r := (sk, false)) rfl hq
          rw [hj, hS] at HMK
          rw [hq] at hC hL
          obtain ⟨x, rk⟩ := q2
          rw [show (cRul x).toArray = #[.int .i64 x.rect.c1, .int .i64 x.rect.r1, .int .i64 x.rect.c2, .int .i64 x.rect.r2, .int .u64 x.rights.rd, .int .u64 x.rights.wr, .int .u64 x.rights.ow] from rfl] at hC
          have HCC := Lib.hid hC
          have hL2 : rk.1.length ≤ 1000000 := Nat.le_trans hL hrk
          have hjk : j = m - (k + 1) := by omega
          have HJ := Lib.hid hjk
          clear hC hL hq hS hj hjk
          go_wp2_with fail
          refine HCC.out.mono ?_
          rintro e W5 ⟨rfl, t5⟩
          have T5 := Lib.hid ((T4.out.trans t5).alloc (.cells #[.int .i64 x.rect.c1, .int .i64 x.rect.r1, .int .i64 x.rect.c2, .int .i64 x.rect.r2, .int .u64 x.rights.rd, .int .u64 x.rights.wr, .int .u64 x.rights.ow] 79))
          have O5 := Lib.hid ((HOW.out.chg t5.chg (fun q hq e => by have h1 := HOB.out q hq; have h2 : q = p := e; omega)).alloc (.cells #[.int .i64 x.rect.c1, .int .i64 x.rect.r1, .int .i64 x.rect.c2, .int .i64 x.rect.r2, .int .u64 x.rights.rd, .int .u64 x.rights.wr, .int .u64 x.rights.ow] 79))
          have K5 := Lib.hid (Blk.new W5 79 #[.int .i64 x.rect.c1, .int .i64 x.rect.r1, .int .i64 x.rect.c2, .int .i64 x.rect.r2, .int .u64 x.rights.rd, .int .u64 x.rights.wr, .int .u64 x.rights.ow])
          clear t5 HCC
          go_wp2_with (at_builtin; refine RowKit.Hid.out ?_)
          refine Lib.hid ?_
          refine wpList_more cRul rfl _ _ 23 rfl 79 ie _ 7 56 Tryz.underlying23 I0.out I1.out I2.out I3.out rfl (by omega) _ l rfl O5.out _ _ [x] rfl (Sls.one (x := x) K5.out rfl) cRul_len cRul_one (by simp; omega) (by omega) ?_
          intro v9 w9 o9 t9
          have O9 := Lib.hid o9
          have T9 := Lib.hid (T5.out.out t9 HOB.out hlt)
          have B9 := Lib.hid (show ∀ q, v9.ownBlock = some q → W.heap.size ≤ q from fun q hq => by
            rcases t9.own q hq with e | e
            · exact HOB.out q e
            · exact Nat.le_trans T5.out.chg.size e)
          clear o9 t9
          go_wp2
          exact ⟨⟨k + 1, l ++ [x], rk, by omega, by go_num, O9.out, B9.out, T9.out, by simp; omega, hL2, by rw [← HJ.out, ← HE.out, HMK.out]; simp, fun _ => hn2⟩, by simp [intOf]; omega⟩
      · have hld := hlt2
        have HF := Lib.hid (HMK.out.trans (by rw [show m - k = 0 by omega]; simp only [manyR, List.append_nil] : _ = (l, (sk, bk))))
        clear hk hlk hrk hl1 hl hm
        go_wp2
        go_ret
        exact ⟨_, rfl, by rw [HF.out]; exact HOW.out, HOB.out, by rw [HF.out]; exact T4.out⟩
  | false =>
    by_cases hn0 : n < 0
    · have hn0d : decide (n < 0) = true := by simp [hn0]
      have HB := Lib.hid hB
      clear HLR hB
      go_wp2_with fail
      obtain rfl : b = true := by rw [← HB.out]; simp [hn0]
      obtain ⟨W2, hW2⟩ : ∃ W2, W1.setCell ⟨p, 1, none⟩ (.bool true) = W2 := ⟨_, rfl⟩
      rw [hW2] at T2 ⊢
      clear hW2 c0 c1 f1 T1 HB
      obtain ⟨m, hm⟩ : ∃ m, n.toNat = m := ⟨_, rfl⟩
      rw [hm] at HE
      go_loopw [5, 7] (fun ov i wr => ∃ (k : Nat) (l : List Rul) (rk : Rd), k ≤ m ∧ i = .int .i64 k ∧ Own cRul 79 7 wr ov l ∧ (∀ q, ov.ownBlock = some q → W.heap.size ≤ q) ∧ RdTo p W wr rk ∧ l.length = k ∧ rk.1.length ≤ 1000000 ∧ manyR rulR m (s1, true) = (l ++ (manyR rulR (m - k) rk).1, (manyR rulR (m - k) rk).2) ∧ (rk.2 = false → 0 ≤ n ∧ n ≤ 1000000)) (fun _ i _ => m - (intOf i).toNat)
      case atStart => exact ⟨0, [], (s1, true), by omega, rfl, Own.nil _ _ _ _, fun q hq => by simp [Value.ownBlock] at hq, T2.out, rfl, hl1, by simp, HNB.out⟩
      case round =>
        rename World => w0
        obtain ⟨k, l, ⟨sk, bk⟩, hk, rfl, how, hob, hto, hlk, hrk, hmk, hnb⟩ := hrel
        have HNK := Lib.hid hnb
        have HOW := Lib.hid how
        have HOB := Lib.hid hob
        have T4 := Lib.hid hto
        have HMK := Lib.hid (HE.out.trans hmk)
        have c1 : w0.cell? ⟨p, 1, none⟩ = some (.bool bk) := hto.blk.cell 1
        clear how hob hto hmk hnb
        by_cases hlt2 : (k : Int) < n
        · exfalso; omega
        · have hld := hlt2
          have HF := Lib.hid (HMK.out.trans (by rw [show m - k = 0 by omega]; simp only [manyR, List.append_nil] : _ = (l, (sk, bk))))
          clear hk hlk hrk hl1 hl hm
          go_wp2
          go_ret
          exact ⟨_, rfl, by rw [HF.out]; exact HOW.out, HOB.out, by rw [HF.out]; exact T4.out⟩
    have hn0d : decide (n < 0) = false := by simp [hn0]
    by_cases hn1 : (s1.length : Int) < n
    · have hn1d : decide ((s1.length : Int) < n) = true := by simp [hn1]
      have HB := Lib.hid hB
      clear HLR hB
      go_wp2_with fail
      obtain rfl : b = true := by rw [← HB.out]; simp [hn1]
      obtain ⟨W2, hW2⟩ : ∃ W2, W1.setCell ⟨p, 1, none⟩ (.bool true) = W2 := ⟨_, rfl⟩
      rw [hW2] at T2 ⊢
      clear hW2 c0 c1 f1 T1 HB
      obtain ⟨m, hm⟩ : ∃ m, n.toNat = m := ⟨_, rfl⟩
      rw [hm] at HE
      go_loopw [5, 7] (fun ov i wr => ∃ (k : Nat) (l : List Rul) (rk : Rd), k ≤ m ∧ i = .int .i64 k ∧ Own cRul 79 7 wr ov l ∧ (∀ q, ov.ownBlock = some q → W.heap.size ≤ q) ∧ RdTo p W wr rk ∧ l.length = k ∧ rk.1.length ≤ 1000000 ∧ manyR rulR m (s1, true) = (l ++ (manyR rulR (m - k) rk).1, (manyR rulR (m - k) rk).2) ∧ (rk.2 = false → 0 ≤ n ∧ n ≤ 1000000)) (fun _ i _ => m - (intOf i).toNat)
      case atStart => exact ⟨0, [], (s1, true), by omega, rfl, Own.nil _ _ _ _, fun q hq => by simp [Value.ownBlock] at hq, T2.out, rfl, hl1, by simp, HNB.out⟩
      case round =>
        rename World => w0
        obtain ⟨k, l, ⟨sk, bk⟩, hk, rfl, how, hob, hto, hlk, hrk, hmk, hnb⟩ := hrel
        have HNK := Lib.hid hnb
        have HOW := Lib.hid how
        have HOB := Lib.hid hob
        have T4 := Lib.hid hto
        have HMK := Lib.hid (HE.out.trans hmk)
        have c1 : w0.cell? ⟨p, 1, none⟩ = some (.bool bk) := hto.blk.cell 1
        clear how hob hto hmk hnb
        by_cases hlt2 : (k : Int) < n
        · have hkm : k < m := by omega
          cases bk with
          | true =>
            have HF := Lib.hid (HMK.out.trans (by rw [manyR_stop rulR _ rfl, List.append_nil] : _ = (l, (sk, true))))
            clear hkm hk hlk hrk hl1 hl hm
            go_wp2
            go_ret
            exact ⟨_, rfl, by rw [HF.out]; exact HOW.out, HOB.out, by rw [HF.out]; exact T4.out⟩
          | false =>
            have hn2 := HNK.out rfl
            obtain ⟨j, hj⟩ : ∃ j, m - k = j + 1 := ⟨m - k - 1, by omega⟩
            have CW := Lib.hid (T4.out.keep HC.out hcp)
            have hC := rc_rul p c 95 (sk, false) w0 CW.out hcp T4.out.blk hrk
            have hL := rulR_len (sk, false)
            obtain ⟨q2, hq⟩ : ∃ q, rulR (sk, false) = q := ⟨_, rfl⟩
            have hS := manyR_step rulR j (r := (sk, false)) rfl hq
            rw [hj, hS] at HMK
            rw [hq] at hC hL
            obtain ⟨x, rk⟩ := q2
            rw [show (cRul x).toArray = #[.int .i64 x.rect.c1, .int .i64 x.rect.r1, .int .i64 x.rect.c2, .int .i64 x.rect.r2, .int .u64 x.rights.rd, .int .u64 x.rights.wr, .int .u64 x.rights.ow] from rfl] at hC
            have HCC := Lib.hid hC
            have hL2 : rk.1.length ≤ 1000000 := Nat.le_trans hL hrk
            have hjk : j = m - (k + 1) := by omega
            have HJ := Lib.hid hjk
            clear hC hL hq hS hj hjk
            go_wp2_with fail
            refine HCC.out.mono ?_
            rintro e W5 ⟨rfl, t5⟩
            have T5 := Lib.hid ((T4.out.trans t5).alloc (.cells #[.int .i64 x.rect.c1, .int .i64 x.rect.r1, .int .i64 x.rect.c2, .int .i64 x.rect.r2, .int .u64 x.rights.rd, .int .u64 x.rights.wr, .int .u64 x.rights.ow] 79))
            have O5 := Lib.hid ((HOW.out.chg t5.chg (fun q hq e => by have h1 := HOB.out q hq; have h2 : q = p := e; omega)).alloc (.cells #[.int .i64 x.rect.c1, .int .i64 x.rect.r1, .int .i64 x.rect.c2, .int .i64 x.rect.r2, .int .u64 x.rights.rd, .int .u64 x.rights.wr, .int .u64 x.rights.ow] 79))
            have K5 := Lib.hid (Blk.new W5 79 #[.int .i64 x.rect.c1, .int .i64 x.rect.r1, .int .i64 x.rect.c2, .int .i64 x.rect.r2, .int .u64 x.rights.rd, .int .u64 x.rights.wr, .int .u64 x.rights.ow])
            clear t5 HCC
            go_wp2_with (at_builtin; refine RowKit.Hid.out ?_)
            refine Lib.hid ?_
            refine wpList_more cRul rfl _ _ 23 rfl 79 ie _ 7 56 Tryz.underlying23 I0.out I1.out I2.out I3.out rfl (by omega) _ l rfl O5.out _ _ [x] rfl (Sls.one (x := x) K5.out rfl) cRul_len cRul_one (by simp; omega) (by omega) ?_
            intro v9 w9 o9 t9
            have O9 := Lib.hid o9
            have T9 := Lib.hid (T5.out.out t9 HOB.out hlt)
            have B9 := Lib.hid (show ∀ q, v9.ownBlock = some q → W.heap.size ≤ q from fun q hq => by
              rcases t9.own q hq with e | e
              · exact HOB.out q e
              · exact Nat.le_trans T5.out.chg.size e)
            clear o9 t9
            go_wp2
            exact ⟨⟨k + 1, l ++ [x], rk, by omega, by go_num, O9.out, B9.out, T9.out, by simp; omega, hL2, by rw [← HJ.out, ← HE.out, HMK.out]; simp, fun _ => hn2⟩, by simp [intOf]; omega⟩
        · have hld := hlt2
          have HF := Lib.hid (HMK.out.trans (by rw [show m - k = 0 by omega]; simp only [manyR, List.append_nil] : _ = (l, (sk, bk))))
          clear hk hlk hrk hl1 hl hm
          go_wp2
          go_ret
          exact ⟨_, rfl, by rw [HF.out]; exact HOW.out, HOB.out, by rw [HF.out]; exact T4.out⟩
    have hn1d : decide ((s1.length : Int) < n) = false := by simp [hn1]
    have HB := Lib.hid hB
    clear HLR hB
    go_wp2_with fail
    obtain rfl : b = false := by rw [← HB.out]; simp [hn0, hn1]
    obtain ⟨W2, hW2⟩ : ∃ W2, W1.setCell ⟨p, 1, none⟩ (.bool false) = W2 := ⟨_, rfl⟩
    rw [hW2] at T2 ⊢
    clear hW2 c0 c1 f1 T1 HB
    obtain ⟨m, hm⟩ : ∃ m, n.toNat = m := ⟨_, rfl⟩
    rw [hm] at HE
    go_loopw [5, 7] (fun ov i wr => ∃ (k : Nat) (l : List Rul) (rk : Rd), k ≤ m ∧ i = .int .i64 k ∧ Own cRul 79 7 wr ov l ∧ (∀ q, ov.ownBlock = some q → W.heap.size ≤ q) ∧ RdTo p W wr rk ∧ l.length = k ∧ rk.1.length ≤ 1000000 ∧ manyR rulR m (s1, false) = (l ++ (manyR rulR (m - k) rk).1, (manyR rulR (m - k) rk).2) ∧ (rk.2 = false → 0 ≤ n ∧ n ≤ 1000000)) (fun _ i _ => m - (intOf i).toNat)
    case atStart => exact ⟨0, [], (s1, false), by omega, rfl, Own.nil _ _ _ _, fun q hq => by simp [Value.ownBlock] at hq, T2.out, rfl, hl1, by simp, HNB.out⟩
    case round =>
      rename World => w0
      obtain ⟨k, l, ⟨sk, bk⟩, hk, rfl, how, hob, hto, hlk, hrk, hmk, hnb⟩ := hrel
      have HNK := Lib.hid hnb
      have HOW := Lib.hid how
      have HOB := Lib.hid hob
      have T4 := Lib.hid hto
      have HMK := Lib.hid (HE.out.trans hmk)
      have c1 : w0.cell? ⟨p, 1, none⟩ = some (.bool bk) := hto.blk.cell 1
      clear how hob hto hmk hnb
      by_cases hlt2 : (k : Int) < n
      · have hkm : k < m := by omega
        cases bk with
        | true =>
          have HF := Lib.hid (HMK.out.trans (by rw [manyR_stop rulR _ rfl, List.append_nil] : _ = (l, (sk, true))))
          clear hkm hk hlk hrk hl1 hl hm
          go_wp2
          go_ret
          exact ⟨_, rfl, by rw [HF.out]; exact HOW.out, HOB.out, by rw [HF.out]; exact T4.out⟩
        | false =>
          have hn2 := HNK.out rfl
          obtain ⟨j, hj⟩ : ∃ j, m - k = j + 1 := ⟨m - k - 1, by omega⟩
          have CW := Lib.hid (T4.out.keep HC.out hcp)
          have hC := rc_rul p c 95 (sk, false) w0 CW.out hcp T4.out.blk hrk
          have hL := rulR_len (sk, false)
          obtain ⟨q2, hq⟩ : ∃ q, rulR (sk, false) = q := ⟨_, rfl⟩
          have hS := manyR_step rulR j (r := (sk, false)) rfl hq
          rw [hj, hS] at HMK
          rw [hq] at hC hL
          obtain ⟨x, rk⟩ := q2
          rw [show (cRul x).toArray = #[.int .i64 x.rect.c1, .int .i64 x.rect.r1, .int .i64 x.rect.c2, .int .i64 x.rect.r2, .int .u64 x.rights.rd, .int .u64 x.rights.wr, .int .u64 x.rights.ow] from rfl] at hC
          have HCC := Lib.hid hC
          have hL2 : rk.1.length ≤ 1000000 := Nat.le_trans hL hrk
          have hjk : j = m - (k + 1) := by omega
          have HJ := Lib.hid hjk
          clear hC hL hq hS hj hjk
          go_wp2_with fail
          refine HCC.out.mono ?_
          rintro e W5 ⟨rfl, t5⟩
          have T5 := Lib.hid ((T4.out.trans t5).alloc (.cells #[.int .i64 x.rect.c1, .int .i64 x.rect.r1, .int .i64 x.rect.c2, .int .i64 x.rect.r2, .int .u64 x.rights.rd, .int .u64 x.rights.wr, .int .u64 x.rights.ow] 79))
          have O5 := Lib.hid ((HOW.out.chg t5.chg (fun q hq e => by have h1 := HOB.out q hq; have h2 : q = p := e; omega)).alloc (.cells #[.int .i64 x.rect.c1, .int .i64 x.rect.r1, .int .i64 x.rect.c2, .int .i64 x.rect.r2, .int .u64 x.rights.rd, .int .u64 x.rights.wr, .int .u64 x.rights.ow] 79))
          have K5 := Lib.hid (Blk.new W5 79 #[.int .i64 x.rect.c1, .int .i64 x.rect.r1, .int .i64 x.rect.c2, .int .i64 x.rect.r2, .int .u64 x.rights.rd, .int .u64 x.rights.wr, .int .u64 x.rights.ow])
          clear t5 HCC
          go_wp2_with (at_builtin; refine RowKit.Hid.out ?_)
          refine Lib.hid ?_
          refine wpList_more cRul rfl _ _ 23 rfl 79 ie _ 7 56 Tryz.underlying23 I0.out I1.out I2.out I3.out rfl (by omega) _ l rfl O5.out _ _ [x] rfl (Sls.one (x := x) K5.out rfl) cRul_len cRul_one (by simp; omega) (by omega) ?_
          intro v9 w9 o9 t9
          have O9 := Lib.hid o9
          have T9 := Lib.hid (T5.out.out t9 HOB.out hlt)
          have B9 := Lib.hid (show ∀ q, v9.ownBlock = some q → W.heap.size ≤ q from fun q hq => by
            rcases t9.own q hq with e | e
            · exact HOB.out q e
            · exact Nat.le_trans T5.out.chg.size e)
          clear o9 t9
          go_wp2
          exact ⟨⟨k + 1, l ++ [x], rk, by omega, by go_num, O9.out, B9.out, T9.out, by simp; omega, hL2, by rw [← HJ.out, ← HE.out, HMK.out]; simp, fun _ => hn2⟩, by simp [intOf]; omega⟩
      · have hld := hlt2
        have HF := Lib.hid (HMK.out.trans (by rw [show m - k = 0 by omega]; simp only [manyR, List.append_nil] : _ = (l, (sk, bk))))
        clear hk hlk hrk hl1 hl hm
        go_wp2
        go_ret
        exact ⟨_, rfl, by rw [HF.out]; exact HOW.out, HOB.out, by rw [HF.out]; exact T4.out⟩
theorem rl_grt (p c : Nat) (r : Rd) (W : World) (hc : Blk W c 95 #[.pointer (some ⟨p, 0, none⟩)]) (hcp : c ≠ p) (h : RdAt W p r) (hl : r.1.length ≤ 1000000) :
    Calls Tryz.prog 66 #[.pointer (some ⟨p, 0, none⟩), .func (.func 67) #[] #[.pointer (some ⟨c, 0, none⟩)]] W fun u W' => ∃ v', u = .returned v' ∧ Own cGrt 85 8 W' v' (listR grtR r).1 ∧ (∀ q, v'.ownBlock = some q → W.heap.size ≤ q) ∧ RdTo p W W' (listR grtR r).2 := by
  obtain ⟨ie, i0, i1, i2, i3⟩ := info_parts (show (Tryz.prog.info? 85).map (fun i => (i.zero, i.size, i.bytes)) = some (some (.agg #[.int .i64 0, .int .i64 0, .int .i64 0, .int .i64 0, .int .u8 0, .int .u64 0, .int .i64 0, .bool false]), 8, 64) by kernel_rfl)
  have I0 := Lib.hid i0
  have I1 := Lib.hid i1
  have I2 := Lib.hid i2
  have I3 := Lib.hid i3
  clear i0 i1 i2 i3
  have hlt := h.lt
  have HH := Lib.hid h
  have HC := Lib.hid hc
  clear h hc
  go_enter Tryz.func66, Tryz.ntmps66
  go_wp2_with fail
  have hC := rd_int p r W HH.out hl
  have hL := numR_len r
  obtain ⟨q1, hq⟩ : ∃ q, numR r = q := ⟨_, rfl⟩
  rw [hq] at hC hL
  have HQ := Lib.hid hq
  clear hq
  refine hC.mono ?_
  rintro e W1 ⟨rfl, t1⟩
  have T1 := Lib.hid t1
  have hl1 := Nat.le_trans hL hl
  clear t1 hC hL
  generalize hn : wrapI q1.1 = n
  have HN := Lib.hid hn
  clear hn
  obtain ⟨v1, s1, b1⟩ := q1
  have hl1 : s1.length ≤ 1000000 := hl1
  have c0 : W1.cell? ⟨p, 0, none⟩ = some (str s1) := T1.out.blk.cell 0
  have c1 : W1.cell? ⟨p, 1, none⟩ = some (.bool b1) := T1.out.blk.cell 1
  have f1 : W1.frozen? ⟨p, 1, none⟩ = false := T1.out.blk.frozen 1
  have HLR := Lib.hid (fun (b : Bool) (hb : (b1 || decide (n < 0) || decide ((s1.length : Int) < n)) = b) => listR_len grtR HQ.out HN.out (b := b) hb)
  clear HQ HN
  obtain ⟨b, hB⟩ : ∃ b, (b1 || decide (n < 0) || decide ((s1.length : Int) < n)) = b := ⟨_, rfl⟩
  have HE := Lib.hid (HLR.out b hB)
  have HNB := Lib.hid (show b = false → 0 ≤ n ∧ n ≤ 1000000 from fun h => by
    rw [h] at hB
    simp only [Bool.or_eq_false_iff, decide_eq_false_iff_not] at hB
    omega)
  have T2 := Lib.hid (show RdTo p W (W1.setCell ⟨p, 1, none⟩ (.bool b)) (s1, b) from ⟨Blk.set_ T1.out.blk 1 _, T1.out.chg.setCell (p := ⟨p, 1, none⟩) (.inl rfl) _⟩)
  cases b1 with
  | true =>
    have HB := Lib.hid hB
    clear HLR hB
    go_wp2_with fail
    obtain rfl : b = true := by simpa using HB.out.symm
    obtain ⟨W2, hW2⟩ : ∃ W2, W1.setCell ⟨p, 1, none⟩ (.bool true) = W2 := ⟨_, rfl⟩
    rw [hW2] at T2 ⊢
    clear hW2 c0 c1 f1 T1 HB
    obtain ⟨m, hm⟩ : ∃ m, n.toNat = m := ⟨_, rfl⟩
    rw [hm] at HE
    go_loopw [5, 7] (fun ov i wr => ∃ (k : Nat) (l : List Grt) (rk : Rd), k ≤ m ∧ i = .int .i64 k ∧ Own cGrt 85 8 wr ov l ∧ (∀ q, ov.ownBlock = some q → W.heap.size ≤ q) ∧ RdTo p W wr rk ∧ l.length = k ∧ rk.1.length ≤ 1000000 ∧ manyR grtR m (s1, true) = (l ++ (manyR grtR (m - k) rk).1, (manyR grtR (m - k) rk).2) ∧ (rk.2 = false → 0 ≤ n ∧ n ≤ 1000000)) (fun _ i _ => m - (intOf i).toNat)
    case atStart => exact ⟨0, [], (s1, true), by omega, rfl, Own.nil _ _ _ _, fun q hq => by simp [Value.ownBlock] at hq, T2.out, rfl, hl1, by simp, HNB.out⟩
    case round =>
      rename World => w0
      obtain ⟨k, l, ⟨sk, bk⟩, hk, rfl, how, hob, hto, hlk, hrk, hmk, hnb⟩ := hrel
      have HNK := Lib.hid hnb
      have HOW := Lib.hid how
      have HOB := Lib.hid hob
      have T4 := Lib.hid hto
      have HMK := Lib.hid (HE.out.trans hmk)
      have c1 : w0.cell? ⟨p, 1, none⟩ = some (.bool bk) := hto.blk.cell 1
      clear how hob hto hmk hnb
      by_cases hlt2 : (k : Int) < n
      · have hkm : k < m := by omega
        cases bk with
        | true =>
          have HF := Lib.hid (HMK.out.trans (by rw [manyR_stop grtR _ rfl, List.append_nil] : _ = (l, (sk, true))))
          clear hkm hk hlk hrk hl1 hl hm
          go_wp2
          go_ret
          exact ⟨_, rfl, by rw [HF.out]; exact HOW.out, HOB.out, by rw [HF.out]; exact T4.out⟩
        | false =>
          have hn2 := HNK.out rfl
          obtain ⟨j, hj⟩ : ∃ j, m - k = j + 1 := ⟨m - k - 1, by omega⟩
          have CW := Lib.hid (T4.out.keep HC.out hcp)
          have hC := rc_grt p c 95 (sk, false) w0 CW.out hcp T4.out.blk hrk
          have hL := grtR_len (sk, false)
          obtain ⟨q2, hq⟩ : ∃ q, grtR (sk, false) = q := ⟨_, rfl⟩
          have hS := manyR_step grtR j (r := (sk, false)) rfl hq
          rw [hj, hS] at HMK
          rw [hq] at hC hL
          obtain ⟨x, rk⟩ := q2
          rw [show (cGrt x).toArray = #[.int .i64 x.rect.c1, .int .i64 x.rect.r1, .int .i64 x.rect.c2, .int .i64 x.rect.r2, .int .u8 x.fns, .int .u64 x.to_, .int .i64 x.by_, .bool x.revoked] from rfl] at hC
          have HCC := Lib.hid hC
          have hL2 : rk.1.length ≤ 1000000 := Nat.le_trans hL hrk
          have hjk : j = m - (k + 1) := by omega
          have HJ := Lib.hid hjk
          clear hC hL hq hS hj hjk
          go_wp2_with fail
          refine HCC.out.mono ?_
          rintro e W5 ⟨rfl, t5⟩
          have T5 := Lib.hid ((T4.out.trans t5).alloc (.cells #[.int .i64 x.rect.c1, .int .i64 x.rect.r1, .int .i64 x.rect.c2, .int .i64 x.rect.r2, .int .u8 x.fns, .int .u64 x.to_, .int .i64 x.by_, .bool x.revoked] 85))
          have O5 := Lib.hid ((HOW.out.chg t5.chg (fun q hq e => by have h1 := HOB.out q hq; have h2 : q = p := e; omega)).alloc (.cells #[.int .i64 x.rect.c1, .int .i64 x.rect.r1, .int .i64 x.rect.c2, .int .i64 x.rect.r2, .int .u8 x.fns, .int .u64 x.to_, .int .i64 x.by_, .bool x.revoked] 85))
          have K5 := Lib.hid (Blk.new W5 85 #[.int .i64 x.rect.c1, .int .i64 x.rect.r1, .int .i64 x.rect.c2, .int .i64 x.rect.r2, .int .u8 x.fns, .int .u64 x.to_, .int .i64 x.by_, .bool x.revoked])
          clear t5 HCC
          go_wp2_with (at_builtin; refine RowKit.Hid.out ?_)
          refine Lib.hid ?_
          refine wpList_more cGrt rfl _ _ 24 rfl 85 ie _ 8 64 Tryz.underlying24 I0.out I1.out I2.out I3.out rfl (by omega) _ l rfl O5.out _ _ [x] rfl (Sls.one (x := x) K5.out rfl) cGrt_len cGrt_one (by simp; omega) (by omega) ?_
          intro v9 w9 o9 t9
          have O9 := Lib.hid o9
          have T9 := Lib.hid (T5.out.out t9 HOB.out hlt)
          have B9 := Lib.hid (show ∀ q, v9.ownBlock = some q → W.heap.size ≤ q from fun q hq => by
            rcases t9.own q hq with e | e
            · exact HOB.out q e
            · exact Nat.le_trans T5.out.chg.size e)
          clear o9 t9
          go_wp2
          exact ⟨⟨k + 1, l ++ [x], rk, by omega, by go_num, O9.out, B9.out, T9.out, by simp; omega, hL2, by rw [← HJ.out, ← HE.out, HMK.out]; simp, fun _ => hn2⟩, by simp [intOf]; omega⟩
      · have hld := hlt2
        have HF := Lib.hid (HMK.out.trans (by rw [show m - k = 0 by omega]; simp only [manyR, List.append_nil] : _ = (l, (sk, bk))))
        clear hk hlk hrk hl1 hl hm
        go_wp2
        go_ret
        exact ⟨_, rfl, by rw [HF.out]; exact HOW.out, HOB.out, by rw [HF.out]; exact T4.out⟩
  | false =>
    by_cases hn0 : n < 0
    · have hn0d : decide (n < 0) = true := by simp [hn0]
      have HB := Lib.hid hB
      clear HLR hB
      go_wp2_with fail
      obtain rfl : b = true := by rw [← HB.out]; simp [hn0]
      obtain ⟨W2, hW2⟩ : ∃ W2, W1.setCell ⟨p, 1, none⟩ (.bool true) = W2 := ⟨_, rfl⟩
      rw [hW2] at T2 ⊢
      clear hW2 c0 c1 f1 T1 HB
      obtain ⟨m, hm⟩ : ∃ m, n.toNat = m := ⟨_, rfl⟩
      rw [hm] at HE
      go_loopw [5, 7] (fun ov i wr => ∃ (k : Nat) (l : List Grt) (rk : Rd), k ≤ m ∧ i = .int .i64 k ∧ Own cGrt 85 8 wr ov l ∧ (∀ q, ov.ownBlock = some q → W.heap.size ≤ q) ∧ RdTo p W wr rk ∧ l.length = k ∧ rk.1.length ≤ 1000000 ∧ manyR grtR m (s1, true) = (l ++ (manyR grtR (m - k) rk).1, (manyR grtR (m - k) rk).2) ∧ (rk.2 = false → 0 ≤ n ∧ n ≤ 1000000)) (fun _ i _ => m - (intOf i).toNat)
      case atStart => exact ⟨0, [], (s1, true), by omega, rfl, Own.nil _ _ _ _, fun q hq => by simp [Value.ownBlock] at hq, T2.out, rfl, hl1, by simp, HNB.out⟩
      case round =>
        rename World => w0
        obtain ⟨k, l, ⟨sk, bk⟩, hk, rfl, how, hob, hto, hlk, hrk, hmk, hnb⟩ := hrel
        have HNK := Lib.hid hnb
        have HOW := Lib.hid how
        have HOB := Lib.hid hob
        have T4 := Lib.hid hto
        have HMK := Lib.hid (HE.out.trans hmk)
        have c1 : w0.cell? ⟨p, 1, none⟩ = some (.bool bk) := hto.blk.cell 1
        clear how hob hto hmk hnb
        by_cases hlt2 : (k : Int) < n
        · exfalso; omega
        · have hld := hlt2
          have HF := Lib.hid (HMK.out.trans (by rw [show m - k = 0 by omega]; simp only [manyR, List.append_nil] : _ = (l, (sk, bk))))
          clear hk hlk hrk hl1 hl hm
          go_wp2
          go_ret
          exact ⟨_, rfl, by rw [HF.out]; exact HOW.out, HOB.out, by rw [HF.out]; exact T4.out⟩
    have hn0d : decide (n < 0) = false := by simp [hn0]
    by_cases hn1 : (s1.length : Int) < n
    · have hn1d : decide ((s1.length : Int) < n) = true := by simp [hn1]
      have HB := Lib.hid hB
      clear HLR hB
      go_wp2_with fail
      obtain rfl : b = true := by rw [← HB.out]; simp [hn1]
      obtain ⟨W2, hW2⟩ : ∃ W2, W1.setCell ⟨p, 1, none⟩ (.bool true) = W2 := ⟨_, rfl⟩
      rw [hW2] at T2 ⊢
      clear hW2 c0 c1 f1 T1 HB
      obtain ⟨m, hm⟩ : ∃ m, n.toNat = m := ⟨_, rfl⟩
      rw [hm] at HE
      go_loopw [5, 7] (fun ov i wr => ∃ (k : Nat) (l : List Grt) (rk : Rd), k ≤ m ∧ i = .int .i64 k ∧ Own cGrt 85 8 wr ov l ∧ (∀ q, ov.ownBlock = some q → W.heap.size ≤ q) ∧ RdTo p W wr rk ∧ l.length = k ∧ rk.1.length ≤ 1000000 ∧ manyR grtR m (s1, true) = (l ++ (manyR grtR (m - k) rk).1, (manyR grtR (m - k) rk).2) ∧ (rk.2 = false → 0 ≤ n ∧ n ≤ 1000000)) (fun _ i _ => m - (intOf i).toNat)
      case atStart => exact ⟨0, [], (s1, true), by omega, rfl, Own.nil _ _ _ _, fun q hq => by simp [Value.ownBlock] at hq, T2.out, rfl, hl1, by simp, HNB.out⟩
      case round =>
        rename World => w0
        obtain ⟨k, l, ⟨sk, bk⟩, hk, rfl, how, hob, hto, hlk, hrk, hmk, hnb⟩ := hrel
        have HNK := Lib.hid hnb
        have HOW := Lib.hid how
        have HOB := Lib.hid hob
        have T4 := Lib.hid hto
        have HMK := Lib.hid (HE.out.trans hmk)
        have c1 : w0.cell? ⟨p, 1, none⟩ = some (.bool bk) := hto.blk.cell 1
        clear how hob hto hmk hnb
        by_cases hlt2 : (k : Int) < n
        · have hkm : k < m := by omega
          cases bk with
          | true =>
            have HF := Lib.hid (HMK.out.trans (by rw [manyR_stop grtR _ rfl, List.append_nil] : _ = (l, (sk, true))))
            clear hkm hk hlk hrk hl1 hl hm
            go_wp2
            go_ret
            exact ⟨_, rfl, by rw [HF.out]; exact HOW.out, HOB.out, by rw [HF.out]; exact T4.out⟩
          | false =>
            have hn2 := HNK.out rfl
            obtain ⟨j, hj⟩ : ∃ j, m - k = j + 1 := ⟨m - k - 1, by omega⟩
            have CW := Lib.hid (T4.out.keep HC.out hcp)
            have hC := rc_grt p c 95 (sk, false) w0 CW.out hcp T4.out.blk hrk
            have hL := grtR_len (sk, false)
            obtain ⟨q2, hq⟩ : ∃ q, grtR (sk, false) = q := ⟨_, rfl⟩
            have hS := manyR_step grtR j (r := (sk, false)) rfl hq
            rw [hj, hS] at HMK
            rw [hq] at hC hL
            obtain ⟨x, rk⟩ := q2
            rw [show (cGrt x).toArray = #[.int .i64 x.rect.c1, .int .i64 x.rect.r1, .int .i64 x.rect.c2, .int .i64 x.rect.r2, .int .u8 x.fns, .int .u64 x.to_, .int .i64 x.by_, .bool x.revoked] from rfl] at hC
            have HCC := Lib.hid hC
            have hL2 : rk.1.length ≤ 1000000 := Nat.le_trans hL hrk
            have hjk : j = m - (k + 1) := by omega
            have HJ := Lib.hid hjk
            clear hC hL hq hS hj hjk
            go_wp2_with fail
            refine HCC.out.mono ?_
            rintro e W5 ⟨rfl, t5⟩
            have T5 := Lib.hid ((T4.out.trans t5).alloc (.cells #[.int .i64 x.rect.c1, .int .i64 x.rect.r1, .int .i64 x.rect.c2, .int .i64 x.rect.r2, .int .u8 x.fns, .int .u64 x.to_, .int .i64 x.by_, .bool x.revoked] 85))
            have O5 := Lib.hid ((HOW.out.chg t5.chg (fun q hq e => by have h1 := HOB.out q hq; have h2 : q = p := e; omega)).alloc (.cells #[.int .i64 x.rect.c1, .int .i64 x.rect.r1, .int .i64 x.rect.c2, .int .i64 x.rect.r2, .int .u8 x.fns, .int .u64 x.to_, .int .i64 x.by_, .bool x.revoked] 85))
            have K5 := Lib.hid (Blk.new W5 85 #[.int .i64 x.rect.c1, .int .i64 x.rect.r1, .int .i64 x.rect.c2, .int .i64 x.rect.r2, .int .u8 x.fns, .int .u64 x.to_, .int .i64 x.by_, .bool x.revoked])
            clear t5 HCC
            go_wp2_with (at_builtin; refine RowKit.Hid.out ?_)
            refine Lib.hid ?_
            refine wpList_more cGrt rfl _ _ 24 rfl 85 ie _ 8 64 Tryz.underlying24 I0.out I1.out I2.out I3.out rfl (by omega) _ l rfl O5.out _ _ [x] rfl (Sls.one (x := x) K5.out rfl) cGrt_len cGrt_one (by simp; omega) (by omega) ?_
            intro v9 w9 o9 t9
            have O9 := Lib.hid o9
            have T9 := Lib.hid (T5.out.out t9 HOB.out hlt)
            have B9 := Lib.hid (show ∀ q, v9.ownBlock = some q → W.heap.size ≤ q from fun q hq => by
              rcases t9.own q hq with e | e
              · exact HOB.out q e
              · exact Nat.le_trans T5.out.chg.size e)
            clear o9 t9
            go_wp2
            exact ⟨⟨k + 1, l ++ [x], rk, by omega, by go_num, O9.out, B9.out, T9.out, by simp; omega, hL2, by rw [← HJ.out, ← HE.out, HMK.out]; simp, fun _ => hn2⟩, by simp [intOf]; omega⟩
        · have hld := hlt2
          have HF := Lib.hid (HMK.out.trans (by rw [show m - k = 0 by omega]; simp only [manyR, List.append_nil] : _ = (l, (sk, bk))))
          clear hk hlk hrk hl1 hl hm
          go_wp2
          go_ret
          exact ⟨_, rfl, by rw [HF.out]; exact HOW.out, HOB.out, by rw [HF.out]; exact T4.out⟩
    have hn1d : decide ((s1.length : Int) < n) = false := by simp [hn1]
    have HB := Lib.hid hB
    clear HLR hB
    go_wp2_with fail
    obtain rfl : b = false := by rw [← HB.out]; simp [hn0, hn1]
    obtain ⟨W2, hW2⟩ : ∃ W2, W1.setCell ⟨p, 1, none⟩ (.bool false) = W2 := ⟨_, rfl⟩
    rw [hW2] at T2 ⊢
    clear hW2 c0 c1 f1 T1 HB
    obtain ⟨m, hm⟩ : ∃ m, n.toNat = m := ⟨_, rfl⟩
    rw [hm] at HE
    go_loopw [5, 7] (fun ov i wr => ∃ (k : Nat) (l : List Grt) (rk : Rd), k ≤ m ∧ i = .int .i64 k ∧ Own cGrt 85 8 wr ov l ∧ (∀ q, ov.ownBlock = some q → W.heap.size ≤ q) ∧ RdTo p W wr rk ∧ l.length = k ∧ rk.1.length ≤ 1000000 ∧ manyR grtR m (s1, false) = (l ++ (manyR grtR (m - k) rk).1, (manyR grtR (m - k) rk).2) ∧ (rk.2 = false → 0 ≤ n ∧ n ≤ 1000000)) (fun _ i _ => m - (intOf i).toNat)
    case atStart => exact ⟨0, [], (s1, false), by omega, rfl, Own.nil _ _ _ _, fun q hq => by simp [Value.ownBlock] at hq, T2.out, rfl, hl1, by simp, HNB.out⟩
    case round =>
      rename World => w0
      obtain ⟨k, l, ⟨sk, bk⟩, hk, rfl, how, hob, hto, hlk, hrk, hmk, hnb⟩ := hrel
      have HNK := Lib.hid hnb
      have HOW := Lib.hid how
      have HOB := Lib.hid hob
      have T4 := Lib.hid hto
      have HMK := Lib.hid (HE.out.trans hmk)
      have c1 : w0.cell? ⟨p, 1, none⟩ = some (.bool bk) := hto.blk.cell 1
      clear how hob hto hmk hnb
      by_cases hlt2 : (k : Int) < n
      · have hkm : k < m := by omega
        cases bk with
        | true =>
          have HF := Lib.hid (HMK.out.trans (by rw [manyR_stop grtR _ rfl, List.append_nil] : _ = (l, (sk, true))))
          clear hkm hk hlk hrk hl1 hl hm
          go_wp2
          go_ret
          exact ⟨_, rfl, by rw [HF.out]; exact HOW.out, HOB.out, by rw [HF.out]; exact T4.out⟩
        | false =>
          have hn2 := HNK.out rfl
          obtain ⟨j, hj⟩ : ∃ j, m - k = j + 1 := ⟨m - k - 1, by omega⟩
          have CW := Lib.hid (T4.out.keep HC.out hcp)
          have hC := rc_grt p c 95 (sk, false) w0 CW.out hcp T4.out.blk hrk
          have hL := grtR_len (sk, false)
          obtain ⟨q2, hq⟩ : ∃ q, grtR (sk, false) = q := ⟨_, rfl⟩
          have hS := manyR_step grtR j (r := (sk, false)) rfl hq
          rw [hj, hS] at HMK
          rw [hq] at hC hL
          obtain ⟨x, rk⟩ := q2
          rw [show (cGrt x).toArray = #[.int .i64 x.rect.c1, .int .i64 x.rect.r1, .int .i64 x.rect.c2, .int .i64 x.rect.r2, .int .u8 x.fns, .int .u64 x.to_, .int .i64 x.by_, .bool x.revoked] from rfl] at hC
          have HCC := Lib.hid hC
          have hL2 : rk.1.length ≤ 1000000 := Nat.le_trans hL hrk
          have hjk : j = m - (k + 1) := by omega
          have HJ := Lib.hid hjk
          clear hC hL hq hS hj hjk
          go_wp2_with fail
          refine HCC.out.mono ?_
          rintro e W5 ⟨rfl, t5⟩
          have T5 := Lib.hid ((T4.out.trans t5).alloc (.cells #[.int .i64 x.rect.c1, .int .i64 x.rect.r1, .int .i64 x.rect.c2, .int .i64 x.rect.r2, .int .u8 x.fns, .int .u64 x.to_, .int .i64 x.by_, .bool x.revoked] 85))
          have O5 := Lib.hid ((HOW.out.chg t5.chg (fun q hq e => by have h1 := HOB.out q hq; have h2 : q = p := e; omega)).alloc (.cells #[.int .i64 x.rect.c1, .int .i64 x.rect.r1, .int .i64 x.rect.c2, .int .i64 x.rect.r2, .int .u8 x.fns, .int .u64 x.to_, .int .i64 x.by_, .bool x.revoked] 85))
          have K5 := Lib.hid (Blk.new W5 85 #[.int .i64 x.rect.c1, .int .i64 x.rect.r1, .int .i64 x.rect.c2, .int .i64 x.rect.r2, .int .u8 x.fns, .int .u64 x.to_, .int .i64 x.by_, .bool x.revoked])
          clear t5 HCC
          go_wp2_with (at_builtin; refine RowKit.Hid.out ?_)
          refine Lib.hid ?_
          refine wpList_more cGrt rfl _ _ 24 rfl 85 ie _ 8 64 Tryz.underlying24 I0.out I1.out I2.out I3.out rfl (by omega) _ l rfl O5.out _ _ [x] rfl (Sls.one (x := x) K5.out rfl) cGrt_len cGrt_one (by simp; omega) (by omega) ?_
          intro v9 w9 o9 t9
          have O9 := Lib.hid o9
          have T9 := Lib.hid (T5.out.out t9 HOB.out hlt)
          have B9 := Lib.hid (show ∀ q, v9.ownBlock = some q → W.heap.size ≤ q from fun q hq => by
            rcases t9.own q hq with e | e
            · exact HOB.out q e
            · exact Nat.le_trans T5.out.chg.size e)
          clear o9 t9
          go_wp2
          exact ⟨⟨k + 1, l ++ [x], rk, by omega, by go_num, O9.out, B9.out, T9.out, by simp; omega, hL2, by rw [← HJ.out, ← HE.out, HMK.out]; simp, fun _ => hn2⟩, by simp [intOf]; omega⟩
      · have hld := hlt2
        have HF := Lib.hid (HMK.out.trans (by rw [show m - k = 0 by omega]; simp only [manyR, List.append_nil] : _ = (l, (sk, bk))))
        clear hk hlk hrk hl1 hl hm
        go_wp2
        go_ret
        exact ⟨_, rfl, by rw [HF.out]; exact HOW.out, HOB.out, by rw [HF.out]; exact T4.out⟩
theorem rl_evt (p c : Nat) (r : Rd) (W : World) (hc : Blk W c 95 #[.pointer (some ⟨p, 0, none⟩)]) (hcp : c ≠ p) (h : RdAt W p r) (hl : r.1.length ≤ 1000000) :
    Calls Tryz.prog 70 #[.pointer (some ⟨p, 0, none⟩), .func (.func 71) #[] #[.pointer (some ⟨c, 0, none⟩)]] W fun u W' => ∃ v', u = .returned v' ∧ Own cEvt 110 9 W' v' (listR evtR r).1 ∧ (∀ q, v'.ownBlock = some q → W.heap.size ≤ q) ∧ RdTo p W W' (listR evtR r).2 := by
  obtain ⟨ie, i0, i1, i2, i3⟩ := info_parts (show (Tryz.prog.info? 110).map (fun i => (i.zero, i.size, i.bytes)) = some (some (.agg #[.int .i64 0, .int .i64 0, .int .u8 0, .int .i64 0, .int .i64 0, .int .i64 0, .int .i64 0, .bool false, .int .u64 0]), 9, 72) by kernel_rfl)
  have I0 := Lib.hid i0
  have I1 := Lib.hid i1
  have I2 := Lib.hid i2
  have I3 := Lib.hid i3
  clear i0 i1 i2 i3
  have hlt := h.lt
  have HH := Lib.hid h
  have HC := Lib.hid hc
  clear h hc
  go_enter Tryz.func70, Tryz.ntmps70
  go_wp2_with fail
  have hC := rd_int p r W HH.out hl
  have hL := numR_len r
  obtain ⟨q1, hq⟩ : ∃ q, numR r = q := ⟨_, rfl⟩
  rw [hq] at hC hL
  have HQ := Lib.hid hq
  clear hq
  refine hC.mono ?_
  rintro e W1 ⟨rfl, t1⟩
  have T1 := Lib.hid t1
  have hl1 := Nat.le_trans hL hl
  clear t1 hC hL
  generalize hn : wrapI q1.1 = n
  have HN := Lib.hid hn
  clear hn
  obtain ⟨v1, s1, b1⟩ := q1
  have hl1 : s1.length ≤ 1000000 := hl1
  have c0 : W1.cell? ⟨p, 0, none⟩ = some (str s1) := T1.out.blk.cell 0
  have c1 : W1.cell? ⟨p, 1, none⟩ = some (.bool b1) := T1.out.blk.cell 1
  have f1 : W1.frozen? ⟨p, 1, none⟩ = false := T1.out.blk.frozen 1
  have HLR := Lib.hid (fun (b : Bool) (hb : (b1 || decide (n < 0) || decide ((s1.length : Int) < n)) = b) => listR_len evtR HQ.out HN.out (b := b) hb)
  clear HQ HN
  obtain ⟨b, hB⟩ : ∃ b, (b1 || decide (n < 0) || decide ((s1.length : Int) < n)) = b := ⟨_, rfl⟩
  have HE := Lib.hid (HLR.out b hB)
  have HNB := Lib.hid (show b = false → 0 ≤ n ∧ n ≤ 1000000 from fun h => by
    rw [h] at hB
    simp only [Bool.or_eq_false_iff, decide_eq_false_iff_not] at hB
    omega)
  have T2 := Lib.hid (show RdTo p W (W1.setCell ⟨p, 1, none⟩ (.bool b)) (s1, b) from ⟨Blk.set_ T1.out.blk 1 _, T1.out.chg.setCell (p := ⟨p, 1, none⟩) (.inl rfl) _⟩)
  cases b1 with
  | true =>
    have HB := Lib.hid hB
    clear HLR hB
    go_wp2_with fail
    obtain rfl : b = true := by simpa using HB.out.symm
    obtain ⟨W2, hW2⟩ : ∃ W2, W1.setCell ⟨p, 1, none⟩ (.bool true) = W2 := ⟨_, rfl⟩
    rw [hW2] at T2 ⊢
    clear hW2 c0 c1 f1 T1 HB
    obtain ⟨m, hm⟩ : ∃ m, n.toNat = m := ⟨_, rfl⟩
    rw [hm] at HE
    go_loopw [5, 7] (fun ov i wr => ∃ (k : Nat) (l : List Evt) (rk : Rd), k ≤ m ∧ i = .int .i64 k ∧ Own cEvt 110 9 wr ov l ∧ (∀ q, ov.ownBlock = some q → W.heap.size ≤ q) ∧ RdTo p W wr rk ∧ l.length = k ∧ rk.1.length ≤ 1000000 ∧ manyR evtR m (s1, true) = (l ++ (manyR evtR (m - k) rk).1, (manyR evtR (m - k) rk).2) ∧ (rk.2 = false → 0 ≤ n ∧ n ≤ 1000000)) (fun _ i _ => m - (intOf i).toNat)
    case atStart => exact ⟨0, [], (s1, true), by omega, rfl, Own.nil _ _ _ _, fun q hq => by simp [Value.ownBlock] at hq, T2.out, rfl, hl1, by simp, HNB.out⟩
    case round =>
      rename World => w0
      obtain ⟨k, l, ⟨sk, bk⟩, hk, rfl, how, hob, hto, hlk, hrk, hmk, hnb⟩ := hrel
      have HNK := Lib.hid hnb
      have HOW := Lib.hid how
      have HOB := Lib.hid hob
      have T4 := Lib.hid hto
      have HMK := Lib.hid (HE.out.trans hmk)
      have c1 : w0.cell? ⟨p, 1, none⟩ = some (.bool bk) := hto.blk.cell 1
      clear how hob hto hmk hnb
      by_cases hlt2 : (k : Int) < n
      · have hkm : k < m := by omega
        cases bk with
        | true =>
          have HF := Lib.hid (HMK.out.trans (by rw [manyR_stop evtR _ rfl, List.append_nil] : _ = (l, (sk, true))))
          clear hkm hk hlk hrk hl1 hl hm
          go_wp2
          go_ret
          exact ⟨_, rfl, by rw [HF.out]; exact HOW.out, HOB.out, by rw [HF.out]; exact T4.out⟩
        | false =>
          have hn2 := HNK.out rfl
          obtain ⟨j, hj⟩ : ∃ j, m - k = j + 1 := ⟨m - k - 1, by omega⟩
          have CW := Lib.hid (T4.out.keep HC.out hcp)
          have hC := rc_evt p c 95 (sk, false) w0 CW.out hcp T4.out.blk hrk
          have hL := evtR_len (sk, false)
          obtain ⟨q2, hq⟩ : ∃ q, evtR (sk, false) = q := ⟨_, rfl⟩
          have hS := manyR_step evtR j (r := (sk, false)) rfl hq
          rw [hj, hS] at HMK
          rw [hq] at hC hL
          obtain ⟨x, rk⟩ := q2
          rw [show (cEvt x).toArray = #[.int .i64 x.step, .int .i64 x.user, .int .u8 x.kind, .int .i64 x.rect.c1, .int .i64 x.rect.r1, .int .i64 x.rect.c2, .int .i64 x.rect.r2, .bool x.done_, .int .u64 x.to_] from rfl] at hC
          have HCC := Lib.hid hC
          have hL2 : rk.1.length ≤ 1000000 := Nat.le_trans hL hrk
          have hjk : j = m - (k + 1) := by omega
          have HJ := Lib.hid hjk
          clear hC hL hq hS hj hjk
          go_wp2_with fail
          refine HCC.out.mono ?_
          rintro e W5 ⟨rfl, t5⟩
          have T5 := Lib.hid ((T4.out.trans t5).alloc (.cells #[.int .i64 x.step, .int .i64 x.user, .int .u8 x.kind, .int .i64 x.rect.c1, .int .i64 x.rect.r1, .int .i64 x.rect.c2, .int .i64 x.rect.r2, .bool x.done_, .int .u64 x.to_] 110))
          have O5 := Lib.hid ((HOW.out.chg t5.chg (fun q hq e => by have h1 := HOB.out q hq; have h2 : q = p := e; omega)).alloc (.cells #[.int .i64 x.step, .int .i64 x.user, .int .u8 x.kind, .int .i64 x.rect.c1, .int .i64 x.rect.r1, .int .i64 x.rect.c2, .int .i64 x.rect.r2, .bool x.done_, .int .u64 x.to_] 110))
          have K5 := Lib.hid (Blk.new W5 110 #[.int .i64 x.step, .int .i64 x.user, .int .u8 x.kind, .int .i64 x.rect.c1, .int .i64 x.rect.r1, .int .i64 x.rect.c2, .int .i64 x.rect.r2, .bool x.done_, .int .u64 x.to_])
          clear t5 HCC
          go_wp2_with (at_builtin; refine RowKit.Hid.out ?_)
          refine Lib.hid ?_
          refine wpList_more cEvt rfl _ _ 25 rfl 110 ie _ 9 72 Tryz.underlying25 I0.out I1.out I2.out I3.out rfl (by omega) _ l rfl O5.out _ _ [x] rfl (Sls.one (x := x) K5.out rfl) cEvt_len cEvt_one (by simp; omega) (by omega) ?_
          intro v9 w9 o9 t9
          have O9 := Lib.hid o9
          have T9 := Lib.hid (T5.out.out t9 HOB.out hlt)
          have B9 := Lib.hid (show ∀ q, v9.ownBlock = some q → W.heap.size ≤ q from fun q hq => by
            rcases t9.own q hq with e | e
            · exact HOB.out q e
            · exact Nat.le_trans T5.out.chg.size e)
          clear o9 t9
          go_wp2
          exact ⟨⟨k + 1, l ++ [x], rk, by omega, by go_num, O9.out, B9.out, T9.out, by simp; omega, hL2, by rw [← HJ.out, ← HE.out, HMK.out]; simp, fun _ => hn2⟩, by simp [intOf]; omega⟩
      · have hld := hlt2
        have HF := Lib.hid (HMK.out.trans (by rw [show m - k = 0 by omega]; simp only [manyR, List.append_nil] : _ = (l, (sk, bk))))
        clear hk hlk hrk hl1 hl hm
        go_wp2
        go_ret
        exact ⟨_, rfl, by rw [HF.out]; exact HOW.out, HOB.out, by rw [HF.out]; exact T4.out⟩
  | false =>
    by_cases hn0 : n < 0
    · have hn0d : decide (n < 0) = true := by simp [hn0]
      have HB := Lib.hid hB
      clear HLR hB
      go_wp2_with fail
      obtain rfl : b = true := by rw [← HB.out]; simp [hn0]
      obtain ⟨W2, hW2⟩ : ∃ W2, W1.setCell ⟨p, 1, none⟩ (.bool true) = W2 := ⟨_, rfl⟩
      rw [hW2] at T2 ⊢
      clear hW2 c0 c1 f1 T1 HB
      obtain ⟨m, hm⟩ : ∃ m, n.toNat = m := ⟨_, rfl⟩
      rw [hm] at HE
      go_loopw [5, 7] (fun ov i wr => ∃ (k : Nat) (l : List Evt) (rk : Rd), k ≤ m ∧ i = .int .i64 k ∧ Own cEvt 110 9 wr ov l ∧ (∀ q, ov.ownBlock = some q → W.heap.size ≤ q) ∧ RdTo p W wr rk ∧ l.length = k ∧ rk.1.length ≤ 1000000 ∧ manyR evtR m (s1, true) = (l ++ (manyR evtR (m - k) rk).1, (manyR evtR (m - k) rk).2) ∧ (rk.2 = false → 0 ≤ n ∧ n ≤ 1000000)) (fun _ i _ => m - (intOf i).toNat)
      case atStart => exact ⟨0, [], (s1, true), by omega, rfl, Own.nil _ _ _ _, fun q hq => by simp [Value.ownBlock] at hq, T2.out, rfl, hl1, by simp, HNB.out⟩
      case round =>
        rename World => w0
        obtain ⟨k, l, ⟨sk, bk⟩, hk, rfl, how, hob, hto, hlk, hrk, hmk, hnb⟩ := hrel
        have HNK := Lib.hid hnb
        have HOW := Lib.hid how
        have HOB := Lib.hid hob
        have T4 := Lib.hid hto
        have HMK := Lib.hid (HE.out.trans hmk)
        have c1 : w0.cell? ⟨p, 1, none⟩ = some (.bool bk) := hto.blk.cell 1
        clear how hob hto hmk hnb
        by_cases hlt2 : (k : Int) < n
        · exfalso; omega
        · have hld := hlt2
          have HF := Lib.hid (HMK.out.trans (by rw [show m - k = 0 by omega]; simp only [manyR, List.append_nil] : _ = (l, (sk, bk))))
          clear hk hlk hrk hl1 hl hm
          go_wp2
          go_ret
          exact ⟨_, rfl, by rw [HF.out]; exact HOW.out, HOB.out, by rw [HF.out]; exact T4.out⟩
    have hn0d : decide (n < 0) = false := by simp [hn0]
    by_cases hn1 : (s1.length : Int) < n
    · have hn1d : decide ((s1.length : Int) < n) = true := by simp [hn1]
      have HB := Lib.hid hB
      clear HLR hB
      go_wp2_with fail
      obtain rfl : b = true := by rw [← HB.out]; simp [hn1]
      obtain ⟨W2, hW2⟩ : ∃ W2, W1.setCell ⟨p, 1, none⟩ (.bool true) = W2 := ⟨_, rfl⟩
      rw [hW2] at T2 ⊢
      clear hW2 c0 c1 f1 T1 HB
      obtain ⟨m, hm⟩ : ∃ m, n.toNat = m := ⟨_, rfl⟩
      rw [hm] at HE
      go_loopw [5, 7] (fun ov i wr => ∃ (k : Nat) (l : List Evt) (rk : Rd), k ≤ m ∧ i = .int .i64 k ∧ Own cEvt 110 9 wr ov l ∧ (∀ q, ov.ownBlock = some q → W.heap.size ≤ q) ∧ RdTo p W wr rk ∧ l.length = k ∧ rk.1.length ≤ 1000000 ∧ manyR evtR m (s1, true) = (l ++ (manyR evtR (m - k) rk).1, (manyR evtR (m - k) rk).2) ∧ (rk.2 = false → 0 ≤ n ∧ n ≤ 1000000)) (fun _ i _ => m - (intOf i).toNat)
      case atStart => exact ⟨0, [], (s1, true), by omega, rfl, Own.nil _ _ _ _, fun q hq => by simp [Value.ownBlock] at hq, T2.out, rfl, hl1, by simp, HNB.out⟩
      case round =>
        rename World => w0
        obtain ⟨k, l, ⟨sk, bk⟩, hk, rfl, how, hob, hto, hlk, hrk, hmk, hnb⟩ := hrel
        have HNK := Lib.hid hnb
        have HOW := Lib.hid how
        have HOB := Lib.hid hob
        have T4 := Lib.hid hto
        have HMK := Lib.hid (HE.out.trans hmk)
        have c1 : w0.cell? ⟨p, 1, none⟩ = some (.bool bk) := hto.blk.cell 1
        clear how hob hto hmk hnb
        by_cases hlt2 : (k : Int) < n
        · have hkm : k < m := by omega
          cases bk with
          | true =>
            have HF := Lib.hid (HMK.out.trans (by rw [manyR_stop evtR _ rfl, List.append_nil] : _ = (l, (sk, true))))
            clear hkm hk hlk hrk hl1 hl hm
            go_wp2
            go_ret
            exact ⟨_, rfl, by rw [HF.out]; exact HOW.out, HOB.out, by rw [HF.out]; exact T4.out⟩
          | false =>
            have hn2 := HNK.out rfl
            obtain ⟨j, hj⟩ : ∃ j, m - k = j + 1 := ⟨m - k - 1, by omega⟩
            have CW := Lib.hid (T4.out.keep HC.out hcp)
            have hC := rc_evt p c 95 (sk, false) w0 CW.out hcp T4.out.blk hrk
            have hL := evtR_len (sk, false)
            obtain ⟨q2, hq⟩ : ∃ q, evtR (sk, false) = q := ⟨_, rfl⟩
            have hS := manyR_step evtR j (r := (sk, false)) rfl hq
            rw [hj, hS] at HMK
            rw [hq] at hC hL
            obtain ⟨x, rk⟩ := q2
            rw [show (cEvt x).toArray = #[.int .i64 x.step, .int .i64 x.user, .int .u8 x.kind, .int .i64 x.rect.c1, .int .i64 x.rect.r1, .int .i64 x.rect.c2, .int .i64 x.rect.r2, .bool x.done_, .int .u64 x.to_] from rfl] at hC
            have HCC := Lib.hid hC
            have hL2 : rk.1.length ≤ 1000000 := Nat.le_trans hL hrk
            have hjk : j = m - (k + 1) := by omega
            have HJ := Lib.hid hjk
            clear hC hL hq hS hj hjk
            go_wp2_with fail
            refine HCC.out.mono ?_
            rintro e W5 ⟨rfl, t5⟩
            have T5 := Lib.hid ((T4.out.trans t5).alloc (.cells #[.int .i64 x.step, .int .i64 x.user, .int .u8 x.kind, .int .i64 x.rect.c1, .int .i64 x.rect.r1, .int .i64 x.rect.c2, .int .i64 x.rect.r2, .bool x.done_, .int .u64 x.to_] 110))
            have O5 := Lib.hid ((HOW.out.chg t5.chg (fun q hq e => by have h1 := HOB.out q hq; have h2 : q = p := e; omega)).alloc (.cells #[.int .i64 x.step, .int .i64 x.user, .int .u8 x.kind, .int .i64 x.rect.c1, .int .i64 x.rect.r1, .int .i64 x.rect.c2, .int .i64 x.rect.r2, .bool x.done_, .int .u64 x.to_] 110))
            have K5 := Lib.hid (Blk.new W5 110 #[.int .i64 x.step, .int .i64 x.user, .int .u8 x.kind, .int .i64 x.rect.c1, .int .i64 x.rect.r1, .int .i64 x.rect.c2, .int .i64 x.rect.r2, .bool x.done_, .int .u64 x.to_])
            clear t5 HCC
            go_wp2_with (at_builtin; refine RowKit.Hid.out ?_)
            refine Lib.hid ?_
            refine wpList_more cEvt rfl _ _ 25 rfl 110 ie _ 9 72 Tryz.underlying25 I0.out I1.out I2.out I3.out rfl (by omega) _ l rfl O5.out _ _ [x] rfl (Sls.one (x := x) K5.out rfl) cEvt_len cEvt_one (by simp; omega) (by omega) ?_
            intro v9 w9 o9 t9
            have O9 := Lib.hid o9
            have T9 := Lib.hid (T5.out.out t9 HOB.out hlt)
            have B9 := Lib.hid (show ∀ q, v9.ownBlock = some q → W.heap.size ≤ q from fun q hq => by
              rcases t9.own q hq with e | e
              · exact HOB.out q e
              · exact Nat.le_trans T5.out.chg.size e)
            clear o9 t9
            go_wp2
            exact ⟨⟨k + 1, l ++ [x], rk, by omega, by go_num, O9.out, B9.out, T9.out, by simp; omega, hL2, by rw [← HJ.out, ← HE.out, HMK.out]; simp, fun _ => hn2⟩, by simp [intOf]; omega⟩
        · have hld := hlt2
          have HF := Lib.hid (HMK.out.trans (by rw [show m - k = 0 by omega]; simp only [manyR, List.append_nil] : _ = (l, (sk, bk))))
          clear hk hlk hrk hl1 hl hm
          go_wp2
          go_ret
          exact ⟨_, rfl, by rw [HF.out]; exact HOW.out, HOB.out, by rw [HF.out]; exact T4.out⟩
    have hn1d : decide ((s1.length : Int) < n) = false := by simp [hn1]
    have HB := Lib.hid hB
    clear HLR hB
    go_wp2_with fail
    obtain rfl : b = false := by rw [← HB.out]; simp [hn0, hn1]
    obtain ⟨W2, hW2⟩ : ∃ W2, W1.setCell ⟨p, 1, none⟩ (.bool false) = W2 := ⟨_, rfl⟩
    rw [hW2] at T2 ⊢
    clear hW2 c0 c1 f1 T1 HB
    obtain ⟨m, hm⟩ : ∃ m, n.toNat = m := ⟨_, rfl⟩
    rw [hm] at HE
    go_loopw [5, 7] (fun ov i wr => ∃ (k : Nat) (l : List Evt) (rk : Rd), k ≤ m ∧ i = .int .i64 k ∧ Own cEvt 110 9 wr ov l ∧ (∀ q, ov.ownBlock = some q → W.heap.size ≤ q) ∧ RdTo p W wr rk ∧ l.length = k ∧ rk.1.length ≤ 1000000 ∧ manyR evtR m (s1, false) = (l ++ (manyR evtR (m - k) rk).1, (manyR evtR (m - k) rk).2) ∧ (rk.2 = false → 0 ≤ n ∧ n ≤ 1000000)) (fun _ i _ => m - (intOf i).toNat)
    case atStart => exact ⟨0, [], (s1, false), by omega, rfl, Own.nil _ _ _ _, fun q hq => by simp [Value.ownBlock] at hq, T2.out, rfl, hl1, by simp, HNB.out⟩
    case round =>
      rename World => w0
      obtain ⟨k, l, ⟨sk, bk⟩, hk, rfl, how, hob, hto, hlk, hrk, hmk, hnb⟩ := hrel
      have HNK := Lib.hid hnb
      have HOW := Lib.hid how
      have HOB := Lib.hid hob
      have T4 := Lib.hid hto
      have HMK := Lib.hid (HE.out.trans hmk)
      have c1 : w0.cell? ⟨p, 1, none⟩ = some (.bool bk) := hto.blk.cell 1
      clear how hob hto hmk hnb
      by_cases hlt2 : (k : Int) < n
      · have hkm : k < m := by omega
        cases bk with
        | true =>
          have HF := Lib.hid (HMK.out.trans (by rw [manyR_stop evtR _ rfl, List.append_nil] : _ = (l, (sk, true))))
          clear hkm hk hlk hrk hl1 hl hm
          go_wp2
          go_ret
          exact ⟨_, rfl, by rw [HF.out]; exact HOW.out, HOB.out, by rw [HF.out]; exact T4.out⟩
        | false =>
          have hn2 := HNK.out rfl
          obtain ⟨j, hj⟩ : ∃ j, m - k = j + 1 := ⟨m - k - 1, by omega⟩
          have CW := Lib.hid (T4.out.keep HC.out hcp)
          have hC := rc_evt p c 95 (sk, false) w0 CW.out hcp T4.out.blk hrk
          have hL := evtR_len (sk, false)
          obtain ⟨q2, hq⟩ : ∃ q, evtR (sk, false) = q := ⟨_, rfl⟩
          have hS := manyR_step evtR j (r := (sk, false)) rfl hq
          rw [hj, hS] at HMK
          rw [hq] at hC hL
          obtain ⟨x, rk⟩ := q2
          rw [show (cEvt x).toArray = #[.int .i64 x.step, .int .i64 x.user, .int .u8 x.kind, .int .i64 x.rect.c1, .int .i64 x.rect.r1, .int .i64 x.rect.c2, .int .i64 x.rect.r2, .bool x.done_, .int .u64 x.to_] from rfl] at hC
          have HCC := Lib.hid hC
          have hL2 : rk.1.length ≤ 1000000 := Nat.le_trans hL hrk
          have hjk : j = m - (k + 1) := by omega
          have HJ := Lib.hid hjk
          clear hC hL hq hS hj hjk
          go_wp2_with fail
          refine HCC.out.mono ?_
          rintro e W5 ⟨rfl, t5⟩
          have T5 := Lib.hid ((T4.out.trans t5).alloc (.cells #[.int .i64 x.step, .int .i64 x.user, .int .u8 x.kind, .int .i64 x.rect.c1, .int .i64 x.rect.r1, .int .i64 x.rect.c2, .int .i64 x.rect.r2, .bool x.done_, .int .u64 x.to_] 110))
          have O5 := Lib.hid ((HOW.out.chg t5.chg (fun q hq e => by have h1 := HOB.out q hq; have h2 : q = p := e; omega)).alloc (.cells #[.int .i64 x.step, .int .i64 x.user, .int .u8 x.kind, .int .i64 x.rect.c1, .int .i64 x.rect.r1, .int .i64 x.rect.c2, .int .i64 x.rect.r2, .bool x.done_, .int .u64 x.to_] 110))
          have K5 := Lib.hid (Blk.new W5 110 #[.int .i64 x.step, .int .i64 x.user, .int .u8 x.kind, .int .i64 x.rect.c1, .int .i64 x.rect.r1, .int .i64 x.rect.c2, .int .i64 x.rect.r2, .bool x.done_, .int .u64 x.to_])
          clear t5 HCC
          go_wp2_with (at_builtin; refine RowKit.Hid.out ?_)
          refine Lib.hid ?_
          refine wpList_more cEvt rfl _ _ 25 rfl 110 ie _ 9 72 Tryz.underlying25 I0.out I1.out I2.out I3.out rfl (by omega) _ l rfl O5.out _ _ [x] rfl (Sls.one (x := x) K5.out rfl) cEvt_len cEvt_one (by simp; omega) (by omega) ?_
          intro v9 w9 o9 t9
          have O9 := Lib.hid o9
          have T9 := Lib.hid (T5.out.out t9 HOB.out hlt)
          have B9 := Lib.hid (show ∀ q, v9.ownBlock = some q → W.heap.size ≤ q from fun q hq => by
            rcases t9.own q hq with e | e
            · exact HOB.out q e
            · exact Nat.le_trans T5.out.chg.size e)
          clear o9 t9
          go_wp2
          exact ⟨⟨k + 1, l ++ [x], rk, by omega, by go_num, O9.out, B9.out, T9.out, by simp; omega, hL2, by rw [← HJ.out, ← HE.out, HMK.out]; simp, fun _ => hn2⟩, by simp [intOf]; omega⟩
      · have hld := hlt2
        have HF := Lib.hid (HMK.out.trans (by rw [show m - k = 0 by omega]; simp only [manyR, List.append_nil] : _ = (l, (sk, bk))))
        clear hk hlk hrk hl1 hl hm
        go_wp2
        go_ret
        exact ⟨_, rfl, by rw [HF.out]; exact HOW.out, HOB.out, by rw [HF.out]; exact T4.out⟩
theorem rl_rls (p c : Nat) (r : Rd) (W : World) (hc : Blk W c 95 #[.pointer (some ⟨p, 0, none⟩)]) (hcp : c ≠ p) (h : RdAt W p r) (hl : r.1.length ≤ 1000000) :
    Calls Tryz.prog 72 #[.pointer (some ⟨p, 0, none⟩), .func (.func 73) #[] #[.pointer (some ⟨c, 0, none⟩)]] W fun u W' => ∃ v', u = .returned v' ∧ Own cRls 116 11 W' v' (listR rlsR r).1 ∧ (∀ q, v'.ownBlock = some q → W.heap.size ≤ q) ∧ RdTo p W W' (listR rlsR r).2 := by
  obtain ⟨ie, i0, i1, i2, i3⟩ := info_parts (show (Tryz.prog.info? 116).map (fun i => (i.zero, i.size, i.bytes)) = some (some (.agg #[.int .i64 0, .int .i64 0, .int .i64 0, .int .i64 0, .int .u8 0, .int .i64 0, .int .i64 0, .int .i64 0, .int .i64 0, .int .i64 0, .int .u64 0]), 11, 88) by kernel_rfl)
  have I0 := Lib.hid i0
  have I1 := Lib.hid i1
  have I2 := Lib.hid i2
  have I3 := Lib.hid i3
  clear i0 i1 i2 i3
  have hlt := h.lt
  have HH := Lib.hid h
  have HC := Lib.hid hc
  clear h hc
  go_enter Tryz.func72, Tryz.ntmps72
  go_wp2_with fail
  have hC := rd_int p r W HH.out hl
  have hL := numR_len r
  obtain ⟨q1, hq⟩ : ∃ q, numR r = q := ⟨_, rfl⟩
  rw [hq] at hC hL
  have HQ := Lib.hid hq
  clear hq
  refine hC.mono ?_
  rintro e W1 ⟨rfl, t1⟩
  have T1 := Lib.hid t1
  have hl1 := Nat.le_trans hL hl
  clear t1 hC hL
  generalize hn : wrapI q1.1 = n
  have HN := Lib.hid hn
  clear hn
  obtain ⟨v1, s1, b1⟩ := q1
  have hl1 : s1.length ≤ 1000000 := hl1
  have c0 : W1.cell? ⟨p, 0, none⟩ = some (str s1) := T1.out.blk.cell 0
  have c1 : W1.cell? ⟨p, 1, none⟩ = some (.bool b1) := T1.out.blk.cell 1
  have f1 : W1.frozen? ⟨p, 1, none⟩ = false := T1.out.blk.frozen 1
  have HLR := Lib.hid (fun (b : Bool) (hb : (b1 || decide (n < 0) || decide ((s1.length : Int) < n)) = b) => listR_len rlsR HQ.out HN.out (b := b) hb)
  clear HQ HN
  obtain ⟨b, hB⟩ : ∃ b, (b1 || decide (n < 0) || decide ((s1.length : Int) < n)) = b := ⟨_, rfl⟩
  have HE := Lib.hid (HLR.out b hB)
  have HNB := Lib.hid (show b = false → 0 ≤ n ∧ n ≤ 1000000 from fun h => by
    rw [h] at hB
    simp only [Bool.or_eq_false_iff, decide_eq_false_iff_not] at hB
    omega)
  have T2 := Lib.hid (show RdTo p W (W1.setCell ⟨p, 1, none⟩ (.bool b)) (s1, b) from ⟨Blk.set_ T1.out.blk 1 _, T1.out.chg.setCell (p := ⟨p, 1, none⟩) (.inl rfl) _⟩)
  cases b1 with
  | true =>
    have HB := Lib.hid hB
    clear HLR hB
    go_wp2_with fail
    obtain rfl : b = true := by simpa using HB.out.symm
    obtain ⟨W2, hW2⟩ : ∃ W2, W1.setCell ⟨p, 1, none⟩ (.bool true) = W2 := ⟨_, rfl⟩
    rw [hW2] at T2 ⊢
    clear hW2 c0 c1 f1 T1 HB
    obtain ⟨m, hm⟩ : ∃ m, n.toNat = m := ⟨_, rfl⟩
    rw [hm] at HE
    go_loopw [5, 7] (fun ov i wr => ∃ (k : Nat) (l : List Rls) (rk : Rd), k ≤ m ∧ i = .int .i64 k ∧ Own cRls 116 11 wr ov l ∧ (∀ q, ov.ownBlock = some q → W.heap.size ≤ q) ∧ RdTo p W wr rk ∧ l.length = k ∧ rk.1.length ≤ 1000000 ∧ manyR rlsR m (s1, true) = (l ++ (manyR rlsR (m - k) rk).1, (manyR rlsR (m - k) rk).2) ∧ (rk.2 = false → 0 ≤ n ∧ n ≤ 1000000)) (fun _ i _ => m - (intOf i).toNat)
    case atStart => exact ⟨0, [], (s1, true), by omega, rfl, Own.nil _ _ _ _, fun q hq => by simp [Value.ownBlock] at hq, T2.out, rfl, hl1, by simp, HNB.out⟩
    case round =>
      rename World => w0
      obtain ⟨k, l, ⟨sk, bk⟩, hk, rfl, how, hob, hto, hlk, hrk, hmk, hnb⟩ := hrel
      have HNK := Lib.hid hnb
      have HOW := Lib.hid how
      have HOB := Lib.hid hob
      have T4 := Lib.hid hto
      have HMK := Lib.hid (HE.out.trans hmk)
      have c1 : w0.cell? ⟨p, 1, none⟩ = some (.bool bk) := hto.blk.cell 1
      clear how hob hto hmk hnb
      by_cases hlt2 : (k : Int) < n
      · have hkm : k < m := by omega
        cases bk with
        | true =>
          have HF := Lib.hid (HMK.out.trans (by rw [manyR_stop rlsR _ rfl, List.append_nil] : _ = (l, (sk, true))))
          clear hkm hk hlk hrk hl1 hl hm
          go_wp2
          go_ret
          exact ⟨_, rfl, by rw [HF.out]; exact HOW.out, HOB.out, by rw [HF.out]; exact T4.out⟩
        | false =>
          have hn2 := HNK.out rfl
          obtain ⟨j, hj⟩ : ∃ j, m - k = j + 1 := ⟨m - k - 1, by omega⟩
          have CW := Lib.hid (T4.out.keep HC.out hcp)
          have hC := rc_rls p c 95 (sk, false) w0 CW.out hcp T4.out.blk hrk
          have hL := rlsR_len (sk, false)
          obtain ⟨q2, hq⟩ : ∃ q, rlsR (sk, false) = q := ⟨_, rfl⟩
          have hS := manyR_step rlsR j (r := (sk, false)) rfl hq
          rw [hj, hS] at HMK
          rw [hq] at hC hL
          obtain ⟨x, rk⟩ := q2
          rw [show (cRls x).toArray = #[.int .i64 x.step, .int .i64 x.at_.col, .int .i64 x.at_.row, .int .i64 x.node, .int .u8 x.fn, .int .i64 x.rect.c1, .int .i64 x.rect.r1, .int .i64 x.rect.c2, .int .i64 x.rect.r2, .int .i64 x.grant, .int .u64 x.to_] from rfl] at hC
          have HCC := Lib.hid hC
          have hL2 : rk.1.length ≤ 1000000 := Nat.le_trans hL hrk
          have hjk : j = m - (k + 1) := by omega
          have HJ := Lib.hid hjk
          clear hC hL hq hS hj hjk
          go_wp2_with fail
          refine HCC.out.mono ?_
          rintro e W5 ⟨rfl, t5⟩
          have T5 := Lib.hid ((T4.out.trans t5).alloc (.cells #[.int .i64 x.step, .int .i64 x.at_.col, .int .i64 x.at_.row, .int .i64 x.node, .int .u8 x.fn, .int .i64 x.rect.c1, .int .i64 x.rect.r1, .int .i64 x.rect.c2, .int .i64 x.rect.r2, .int .i64 x.grant, .int .u64 x.to_] 116))
          have O5 := Lib.hid ((HOW.out.chg t5.chg (fun q hq e => by have h1 := HOB.out q hq; have h2 : q = p := e; omega)).alloc (.cells #[.int .i64 x.step, .int .i64 x.at_.col, .int .i64 x.at_.row, .int .i64 x.node, .int .u8 x.fn, .int .i64 x.rect.c1, .int .i64 x.rect.r1, .int .i64 x.rect.c2, .int .i64 x.rect.r2, .int .i64 x.grant, .int .u64 x.to_] 116))
          have K5 := Lib.hid (Blk.new W5 116 #[.int .i64 x.step, .int .i64 x.at_.col, .int .i64 x.at_.row, .int .i64 x.node, .int .u8 x.fn, .int .i64 x.rect.c1, .int .i64 x.rect.r1, .int .i64 x.rect.c2, .int .i64 x.rect.r2, .int .i64 x.grant, .int .u64 x.to_])
          clear t5 HCC
          go_wp2_with (at_builtin; refine RowKit.Hid.out ?_)
          refine Lib.hid ?_
          refine wpList_more cRls rfl _ _ 26 rfl 116 ie _ 11 88 Tryz.underlying26 I0.out I1.out I2.out I3.out rfl (by omega) _ l rfl O5.out _ _ [x] rfl (Sls.one (x := x) K5.out rfl) cRls_len cRls_one (by simp; omega) (by omega) ?_
          intro v9 w9 o9 t9
          have O9 := Lib.hid o9
          have T9 := Lib.hid (T5.out.out t9 HOB.out hlt)
          have B9 := Lib.hid (show ∀ q, v9.ownBlock = some q → W.heap.size ≤ q from fun q hq => by
            rcases t9.own q hq with e | e
            · exact HOB.out q e
            · exact Nat.le_trans T5.out.chg.size e)
          clear o9 t9
          go_wp2
          exact ⟨⟨k + 1, l ++ [x], rk, by omega, by go_num, O9.out, B9.out, T9.out, by simp; omega, hL2, by rw [← HJ.out, ← HE.out, HMK.out]; simp, fun _ => hn2⟩, by simp [intOf]; omega⟩
      · have hld := hlt2
        have HF := Lib.hid (HMK.out.trans (by rw [show m - k = 0 by omega]; simp only [manyR, List.append_nil] : _ = (l, (sk, bk))))
        clear hk hlk hrk hl1 hl hm
        go_wp2
        go_ret
        exact ⟨_, rfl, by rw [HF.out]; exact HOW.out, HOB.out, by rw [HF.out]; exact T4.out⟩
  | false =>
    by_cases hn0 : n < 0
    · have hn0d : decide (n < 0) = true := by simp [hn0]
      have HB := Lib.hid hB
      clear HLR hB
      go_wp2_with fail
      obtain rfl : b = true := by rw [← HB.out]; simp [hn0]
      obtain ⟨W2, hW2⟩ : ∃ W2, W1.setCell ⟨p, 1, none⟩ (.bool true) = W2 := ⟨_, rfl⟩
      rw [hW2] at T2 ⊢
      clear hW2 c0 c1 f1 T1 HB
      obtain ⟨m, hm⟩ : ∃ m, n.toNat = m := ⟨_, rfl⟩
      rw [hm] at HE
      go_loopw [5, 7] (fun ov i wr => ∃ (k : Nat) (l : List Rls) (rk : Rd), k ≤ m ∧ i = .int .i64 k ∧ Own cRls 116 11 wr ov l ∧ (∀ q, ov.ownBlock = some q → W.heap.size ≤ q) ∧ RdTo p W wr rk ∧ l.length = k ∧ rk.1.length ≤ 1000000 ∧ manyR rlsR m (s1, true) = (l ++ (manyR rlsR (m - k) rk).1, (manyR rlsR (m - k) rk).2) ∧ (rk.2 = false → 0 ≤ n ∧ n ≤ 1000000)) (fun _ i _ => m - (intOf i).toNat)
      case atStart => exact ⟨0, [], (s1, true), by omega, rfl, Own.nil _ _ _ _, fun q hq => by simp [Value.ownBlock] at hq, T2.out, rfl, hl1, by simp, HNB.out⟩
      case round =>
        rename World => w0
        obtain ⟨k, l, ⟨sk, bk⟩, hk, rfl, how, hob, hto, hlk, hrk, hmk, hnb⟩ := hrel
        have HNK := Lib.hid hnb
        have HOW := Lib.hid how
        have HOB := Lib.hid hob
        have T4 := Lib.hid hto
        have HMK := Lib.hid (HE.out.trans hmk)
        have c1 : w0.cell? ⟨p, 1, none⟩ = some (.bool bk) := hto.blk.cell 1
        clear how hob hto hmk hnb
        by_cases hlt2 : (k : Int) < n
        · exfalso; omega
        · have hld := hlt2
          have HF := Lib.hid (HMK.out.trans (by rw [show m - k = 0 by omega]; simp only [manyR, List.append_nil] : _ = (l, (sk, bk))))
          clear hk hlk hrk hl1 hl hm
          go_wp2
          go_ret
          exact ⟨_, rfl, by rw [HF.out]; exact HOW.out, HOB.out, by rw [HF.out]; exact T4.out⟩
    have hn0d : decide (n < 0) = false := by simp [hn0]
    by_cases hn1 : (s1.length : Int) < n
    · have hn1d : decide ((s1.length : Int) < n) = true := by simp [hn1]
      have HB := Lib.hid hB
      clear HLR hB
      go_wp2_with fail
      obtain rfl : b = true := by rw [← HB.out]; simp [hn1]
      obtain ⟨W2, hW2⟩ : ∃ W2, W1.setCell ⟨p, 1, none⟩ (.bool true) = W2 := ⟨_, rfl⟩
      rw [hW2] at T2 ⊢
      clear hW2 c0 c1 f1 T1 HB
      obtain ⟨m, hm⟩ : ∃ m, n.toNat = m := ⟨_, rfl⟩
      rw [hm] at HE
      go_loopw [5, 7] (fun ov i wr => ∃ (k : Nat) (l : List Rls) (rk : Rd), k ≤ m ∧ i = .int .i64 k ∧ Own cRls 116 11 wr ov l ∧ (∀ q, ov.ownBlock = some q → W.heap.size ≤ q) ∧ RdTo p W wr rk ∧ l.length = k ∧ rk.1.length ≤ 1000000 ∧ manyR rlsR m (s1, true) = (l ++ (manyR rlsR (m - k) rk).1, (manyR rlsR (m - k) rk).2) ∧ (rk.2 = false → 0 ≤ n ∧ n ≤ 1000000)) (fun _ i _ => m - (intOf i).toNat)
      case atStart => exact ⟨0, [], (s1, true), by omega, rfl, Own.nil _ _ _ _, fun q hq => by simp [Value.ownBlock] at hq, T2.out, rfl, hl1, by simp, HNB.out⟩
      case round =>
        rename World => w0
        obtain ⟨k, l, ⟨sk, bk⟩, hk, rfl, how, hob, hto, hlk, hrk, hmk, hnb⟩ := hrel
        have HNK := Lib.hid hnb
        have HOW := Lib.hid how
        have HOB := Lib.hid hob
        have T4 := Lib.hid hto
        have HMK := Lib.hid (HE.out.trans hmk)
        have c1 : w0.cell? ⟨p, 1, none⟩ = some (.bool bk) := hto.blk.cell 1
        clear how hob hto hmk hnb
        by_cases hlt2 : (k : Int) < n
        · have hkm : k < m := by omega
          cases bk with
          | true =>
            have HF := Lib.hid (HMK.out.trans (by rw [manyR_stop rlsR _ rfl, List.append_nil] : _ = (l, (sk, true))))
            clear hkm hk hlk hrk hl1 hl hm
            go_wp2
            go_ret
            exact ⟨_, rfl, by rw [HF.out]; exact HOW.out, HOB.out, by rw [HF.out]; exact T4.out⟩
          | false =>
            have hn2 := HNK.out rfl
            obtain ⟨j, hj⟩ : ∃ j, m - k = j + 1 := ⟨m - k - 1, by omega⟩
            have CW := Lib.hid (T4.out.keep HC.out hcp)
            have hC := rc_rls p c 95 (sk, false) w0 CW.out hcp T4.out.blk hrk
            have hL := rlsR_len (sk, false)
            obtain ⟨q2, hq⟩ : ∃ q, rlsR (sk, false) = q := ⟨_, rfl⟩
            have hS := manyR_step rlsR j (r := (sk, false)) rfl hq
            rw [hj, hS] at HMK
            rw [hq] at hC hL
            obtain ⟨x, rk⟩ := q2
            rw [show (cRls x).toArray = #[.int .i64 x.step, .int .i64 x.at_.col, .int .i64 x.at_.row, .int .i64 x.node, .int .u8 x.fn, .int .i64 x.rect.c1, .int .i64 x.rect.r1, .int .i64 x.rect.c2, .int .i64 x.rect.r2, .int .i64 x.grant, .int .u64 x.to_] from rfl] at hC
            have HCC := Lib.hid hC
            have hL2 : rk.1.length ≤ 1000000 := Nat.le_trans hL hrk
            have hjk : j = m - (k + 1) := by omega
            have HJ := Lib.hid hjk
            clear hC hL hq hS hj hjk
            go_wp2_with fail
            refine HCC.out.mono ?_
            rintro e W5 ⟨rfl, t5⟩
            have T5 := Lib.hid ((T4.out.trans t5).alloc (.cells #[.int .i64 x.step, .int .i64 x.at_.col, .int .i64 x.at_.row, .int .i64 x.node, .int .u8 x.fn, .int .i64 x.rect.c1, .int .i64 x.rect.r1, .int .i64 x.rect.c2, .int .i64 x.rect.r2, .int .i64 x.grant, .int .u64 x.to_] 116))
            have O5 := Lib.hid ((HOW.out.chg t5.chg (fun q hq e => by have h1 := HOB.out q hq; have h2 : q = p := e; omega)).alloc (.cells #[.int .i64 x.step, .int .i64 x.at_.col, .int .i64 x.at_.row, .int .i64 x.node, .int .u8 x.fn, .int .i64 x.rect.c1, .int .i64 x.rect.r1, .int .i64 x.rect.c2, .int .i64 x.rect.r2, .int .i64 x.grant, .int .u64 x.to_] 116))
            have K5 := Lib.hid (Blk.new W5 116 #[.int .i64 x.step, .int .i64 x.at_.col, .int .i64 x.at_.row, .int .i64 x.node, .int .u8 x.fn, .int .i64 x.rect.c1, .int .i64 x.rect.r1, .int .i64 x.rect.c2, .int .i64 x.rect.r2, .int .i64 x.grant, .int .u64 x.to_])
            clear t5 HCC
            go_wp2_with (at_builtin; refine RowKit.Hid.out ?_)
            refine Lib.hid ?_
            refine wpList_more cRls rfl _ _ 26 rfl 116 ie _ 11 88 Tryz.underlying26 I0.out I1.out I2.out I3.out rfl (by omega) _ l rfl O5.out _ _ [x] rfl (Sls.one (x := x) K5.out rfl) cRls_len cRls_one (by simp; omega) (by omega) ?_
            intro v9 w9 o9 t9
            have O9 := Lib.hid o9
            have T9 := Lib.hid (T5.out.out t9 HOB.out hlt)
            have B9 := Lib.hid (show ∀ q, v9.ownBlock = some q → W.heap.size ≤ q from fun q hq => by
              rcases t9.own q hq with e | e
              · exact HOB.out q e
              · exact Nat.le_trans T5.out.chg.size e)
            clear o9 t9
            go_wp2
            exact ⟨⟨k + 1, l ++ [x], rk, by omega, by go_num, O9.out, B9.out, T9.out, by simp; omega, hL2, by rw [← HJ.out, ← HE.out, HMK.out]; simp, fun _ => hn2⟩, by simp [intOf]; omega⟩
        · have hld := hlt2
          have HF := Lib.hid (HMK.out.trans (by rw [show m - k = 0 by omega]; simp only [manyR, List.append_nil] : _ = (l, (sk, bk))))
          clear hk hlk hrk hl1 hl hm
          go_wp2
          go_ret
          exact ⟨_, rfl, by rw [HF.out]; exact HOW.out, HOB.out, by rw [HF.out]; exact T4.out⟩
    have hn1d : decide ((s1.length : Int) < n) = false := by simp [hn1]
    have HB := Lib.hid hB
    clear HLR hB
    go_wp2_with fail
    obtain rfl : b = false := by rw [← HB.out]; simp [hn0, hn1]
    obtain ⟨W2, hW2⟩ : ∃ W2, W1.setCell ⟨p, 1, none⟩ (.bool false) = W2 := ⟨_, rfl⟩
    rw [hW2] at T2 ⊢
    clear hW2 c0 c1 f1 T1 HB
    obtain ⟨m, hm⟩ : ∃ m, n.toNat = m := ⟨_, rfl⟩
    rw [hm] at HE
    go_loopw [5, 7] (fun ov i wr => ∃ (k : Nat) (l : List Rls) (rk : Rd), k ≤ m ∧ i = .int .i64 k ∧ Own cRls 116 11 wr ov l ∧ (∀ q, ov.ownBlock = some q → W.heap.size ≤ q) ∧ RdTo p W wr rk ∧ l.length = k ∧ rk.1.length ≤ 1000000 ∧ manyR rlsR m (s1, false) = (l ++ (manyR rlsR (m - k) rk).1, (manyR rlsR (m - k) rk).2) ∧ (rk.2 = false → 0 ≤ n ∧ n ≤ 1000000)) (fun _ i _ => m - (intOf i).toNat)
    case atStart => exact ⟨0, [], (s1, false), by omega, rfl, Own.nil _ _ _ _, fun q hq => by simp [Value.ownBlock] at hq, T2.out, rfl, hl1, by simp, HNB.out⟩
    case round =>
      rename World => w0
      obtain ⟨k, l, ⟨sk, bk⟩, hk, rfl, how, hob, hto, hlk, hrk, hmk, hnb⟩ := hrel
      have HNK := Lib.hid hnb
      have HOW := Lib.hid how
      have HOB := Lib.hid hob
      have T4 := Lib.hid hto
      have HMK := Lib.hid (HE.out.trans hmk)
      have c1 : w0.cell? ⟨p, 1, none⟩ = some (.bool bk) := hto.blk.cell 1
      clear how hob hto hmk hnb
      by_cases hlt2 : (k : Int) < n
      · have hkm : k < m := by omega
        cases bk with
        | true =>
          have HF := Lib.hid (HMK.out.trans (by rw [manyR_stop rlsR _ rfl, List.append_nil] : _ = (l, (sk, true))))
          clear hkm hk hlk hrk hl1 hl hm
          go_wp2
          go_ret
          exact ⟨_, rfl, by rw [HF.out]; exact HOW.out, HOB.out, by rw [HF.out]; exact T4.out⟩
        | false =>
          have hn2 := HNK.out rfl
          obtain ⟨j, hj⟩ : ∃ j, m - k = j + 1 := ⟨m - k - 1, by omega⟩
          have CW := Lib.hid (T4.out.keep HC.out hcp)
          have hC := rc_rls p c 95 (sk, false) w0 CW.out hcp T4.out.blk hrk
          have hL := rlsR_len (sk, false)
          obtain ⟨q2, hq⟩ : ∃ q, rlsR (sk, false) = q := ⟨_, rfl⟩
          have hS := manyR_step rlsR j (r := (sk, false)) rfl hq
          rw [hj, hS] at HMK
          rw [hq] at hC hL
          obtain ⟨x, rk⟩ := q2
          rw [show (cRls x).toArray = #[.int .i64 x.step, .int .i64 x.at_.col, .int .i64 x.at_.row, .int .i64 x.node, .int .u8 x.fn, .int .i64 x.rect.c1, .int .i64 x.rect.r1, .int .i64 x.rect.c2, .int .i64 x.rect.r2, .int .i64 x.grant, .int .u64 x.to_] from rfl] at hC
          have HCC := Lib.hid hC
          have hL2 : rk.1.length ≤ 1000000 := Nat.le_trans hL hrk
          have hjk : j = m - (k + 1) := by omega
          have HJ := Lib.hid hjk
          clear hC hL hq hS hj hjk
          go_wp2_with fail
          refine HCC.out.mono ?_
          rintro e W5 ⟨rfl, t5⟩
          have T5 := Lib.hid ((T4.out.trans t5).alloc (.cells #[.int .i64 x.step, .int .i64 x.at_.col, .int .i64 x.at_.row, .int .i64 x.node, .int .u8 x.fn, .int .i64 x.rect.c1, .int .i64 x.rect.r1, .int .i64 x.rect.c2, .int .i64 x.rect.r2, .int .i64 x.grant, .int .u64 x.to_] 116))
          have O5 := Lib.hid ((HOW.out.chg t5.chg (fun q hq e => by have h1 := HOB.out q hq; have h2 : q = p := e; omega)).alloc (.cells #[.int .i64 x.step, .int .i64 x.at_.col, .int .i64 x.at_.row, .int .i64 x.node, .int .u8 x.fn, .int .i64 x.rect.c1, .int .i64 x.rect.r1, .int .i64 x.rect.c2, .int .i64 x.rect.r2, .int .i64 x.grant, .int .u64 x.to_] 116))
          have K5 := Lib.hid (Blk.new W5 116 #[.int .i64 x.step, .int .i64 x.at_.col, .int .i64 x.at_.row, .int .i64 x.node, .int .u8 x.fn, .int .i64 x.rect.c1, .int .i64 x.rect.r1, .int .i64 x.rect.c2, .int .i64 x.rect.r2, .int .i64 x.grant, .int .u64 x.to_])
          clear t5 HCC
          go_wp2_with (at_builtin; refine RowKit.Hid.out ?_)
          refine Lib.hid ?_
          refine wpList_more cRls rfl _ _ 26 rfl 116 ie _ 11 88 Tryz.underlying26 I0.out I1.out I2.out I3.out rfl (by omega) _ l rfl O5.out _ _ [x] rfl (Sls.one (x := x) K5.out rfl) cRls_len cRls_one (by simp; omega) (by omega) ?_
          intro v9 w9 o9 t9
          have O9 := Lib.hid o9
          have T9 := Lib.hid (T5.out.out t9 HOB.out hlt)
          have B9 := Lib.hid (show ∀ q, v9.ownBlock = some q → W.heap.size ≤ q from fun q hq => by
            rcases t9.own q hq with e | e
            · exact HOB.out q e
            · exact Nat.le_trans T5.out.chg.size e)
          clear o9 t9
          go_wp2
          exact ⟨⟨k + 1, l ++ [x], rk, by omega, by go_num, O9.out, B9.out, T9.out, by simp; omega, hL2, by rw [← HJ.out, ← HE.out, HMK.out]; simp, fun _ => hn2⟩, by simp [intOf]; omega⟩
      · have hld := hlt2
        have HF := Lib.hid (HMK.out.trans (by rw [show m - k = 0 by omega]; simp only [manyR, List.append_nil] : _ = (l, (sk, bk))))
        clear hk hlk hrk hl1 hl hm
        go_wp2
        go_ret
        exact ⟨_, rfl, by rw [HF.out]; exact HOW.out, HOB.out, by rw [HF.out]; exact T4.out⟩
theorem rl_opr (p : Nat) (r : Rd) (W : World) (h : RdAt W p r) (hl : r.1.length ≤ 1000000) :
    Calls Tryz.prog 74 #[.pointer (some ⟨p, 0, none⟩), .func (.func 75) #[.pointer (some ⟨p, 0, none⟩)] #[]] W fun u W' => ∃ v', u = .returned v' ∧ Own cOpr 48 13 W' v' (listR oprR r).1 ∧ (∀ q, v'.ownBlock = some q → W.heap.size ≤ q) ∧ RdTo p W W' (listR oprR r).2 := by
  obtain ⟨ie, i0, i1, i2, i3⟩ := info_parts (show (Tryz.prog.info? 48).map (fun i => (i.zero, i.size, i.bytes)) = some (some (.agg #[.int .u8 0, .int .i64 0, .int .i64 0, .int .i64 0, .int .i64 0, .int .i64 0, .string ⟨#[]⟩, .int .u64 0, .int .u64 0, .int .u64 0, .int .u8 0, .int .u64 0, .int .i64 0]), 13, 112) by kernel_rfl)
  have I0 := Lib.hid i0
  have I1 := Lib.hid i1
  have I2 := Lib.hid i2
  have I3 := Lib.hid i3
  clear i0 i1 i2 i3
  have hlt := h.lt
  have HH := Lib.hid h
  clear h
  go_enter Tryz.func74, Tryz.ntmps74
  go_wp2_with fail
  have hC := rd_int p r W HH.out hl
  have hL := numR_len r
  obtain ⟨q1, hq⟩ : ∃ q, numR r = q := ⟨_, rfl⟩
  rw [hq] at hC hL
  have HQ := Lib.hid hq
  clear hq
  refine hC.mono ?_
  rintro e W1 ⟨rfl, t1⟩
  have T1 := Lib.hid t1
  have hl1 := Nat.le_trans hL hl
  clear t1 hC hL
  generalize hn : wrapI q1.1 = n
  have HN := Lib.hid hn
  clear hn
  obtain ⟨v1, s1, b1⟩ := q1
  have hl1 : s1.length ≤ 1000000 := hl1
  have c0 : W1.cell? ⟨p, 0, none⟩ = some (str s1) := T1.out.blk.cell 0
  have c1 : W1.cell? ⟨p, 1, none⟩ = some (.bool b1) := T1.out.blk.cell 1
  have f1 : W1.frozen? ⟨p, 1, none⟩ = false := T1.out.blk.frozen 1
  have HLR := Lib.hid (fun (b : Bool) (hb : (b1 || decide (n < 0) || decide ((s1.length : Int) < n)) = b) => listR_len oprR HQ.out HN.out (b := b) hb)
  clear HQ HN
  obtain ⟨b, hB⟩ : ∃ b, (b1 || decide (n < 0) || decide ((s1.length : Int) < n)) = b := ⟨_, rfl⟩
  have HE := Lib.hid (HLR.out b hB)
  have HNB := Lib.hid (show b = false → 0 ≤ n ∧ n ≤ 1000000 from fun h => by
    rw [h] at hB
    simp only [Bool.or_eq_false_iff, decide_eq_false_iff_not] at hB
    omega)
  have T2 := Lib.hid (show RdTo p W (W1.setCell ⟨p, 1, none⟩ (.bool b)) (s1, b) from ⟨Blk.set_ T1.out.blk 1 _, T1.out.chg.setCell (p := ⟨p, 1, none⟩) (.inl rfl) _⟩)
  cases b1 with
  | true =>
    have HB := Lib.hid hB
    clear HLR hB
    go_wp2_with fail
    obtain rfl : b = true := by simpa using HB.out.symm
    obtain ⟨W2, hW2⟩ : ∃ W2, W1.setCell ⟨p, 1, none⟩ (.bool true) = W2 := ⟨_, rfl⟩
    rw [hW2] at T2 ⊢
    clear hW2 c0 c1 f1 T1 HB
    obtain ⟨m, hm⟩ : ∃ m, n.toNat = m := ⟨_, rfl⟩
    rw [hm] at HE
    go_loopw [5, 7] (fun ov i wr => ∃ (k : Nat) (l : List Opr) (rk : Rd), k ≤ m ∧ i = .int .i64 k ∧ Own cOpr 48 13 wr ov l ∧ (∀ q, ov.ownBlock = some q → W.heap.size ≤ q) ∧ RdTo p W wr rk ∧ l.length = k ∧ rk.1.length ≤ 1000000 ∧ manyR oprR m (s1, true) = (l ++ (manyR oprR (m - k) rk).1, (manyR oprR (m - k) rk).2) ∧ (rk.2 = false → 0 ≤ n ∧ n ≤ 1000000)) (fun _ i _ => m - (intOf i).toNat)
    case atStart => exact ⟨0, [], (s1, true), by omega, rfl, Own.nil _ _ _ _, fun q hq => by simp [Value.ownBlock] at hq, T2.out, rfl, hl1, by simp, HNB.out⟩
    case round =>
      rename World => w0
      obtain ⟨k, l, ⟨sk, bk⟩, hk, rfl, how, hob, hto, hlk, hrk, hmk, hnb⟩ := hrel
      have HNK := Lib.hid hnb
      have HOW := Lib.hid how
      have HOB := Lib.hid hob
      have T4 := Lib.hid hto
      have HMK := Lib.hid (HE.out.trans hmk)
      have c1 : w0.cell? ⟨p, 1, none⟩ = some (.bool bk) := hto.blk.cell 1
      clear how hob hto hmk hnb
      by_cases hlt2 : (k : Int) < n
      · have hkm : k < m := by omega
        cases bk with
        | true =>
          have HF := Lib.hid (HMK.out.trans (by rw [manyR_stop oprR _ rfl, List.append_nil] : _ = (l, (sk, true))))
          clear hkm hk hlk hrk hl1 hl hm
          go_wp2
          go_ret
          exact ⟨_, rfl, by rw [HF.out]; exact HOW.out, HOB.out, by rw [HF.out]; exact T4.out⟩
        | false =>
          have hn2 := HNK.out rfl
          obtain ⟨j, hj⟩ : ∃ j, m - k = j + 1 := ⟨m - k - 1, by omega⟩
          have hC := rd_operation p (sk, false) w0 T4.out.blk hrk
          have hL := oprR_len (sk, false)
          obtain ⟨q2, hq⟩ : ∃ q, oprR (sk, false) = q := ⟨_, rfl⟩
          have hS := manyR_step oprR j (r := (sk, false)) rfl hq
          rw [hj, hS] at HMK
          rw [hq] at hC hL
          obtain ⟨x, rk⟩ := q2
          rw [show (cOpr x).toArray = #[.int .u8 x.kind, .int .i64 x.user, .int .i64 x.rect.c1, .int .i64 x.rect.r1, .int .i64 x.rect.c2, .int .i64 x.rect.r2, str x.input, .int .u64 x.rights.rd, .int .u64 x.rights.wr, .int .u64 x.rights.ow, .int .u8 x.fns, .int .u64 x.to_, .int .i64 x.index] from rfl] at hC
          have HCC := Lib.hid hC
          have hL2 : rk.1.length ≤ 1000000 := Nat.le_trans hL hrk
          have hjk : j = m - (k + 1) := by omega
          have HJ := Lib.hid hjk
          clear hC hL hq hS hj hjk
          go_wp2_with fail
          refine HCC.out.mono ?_
          rintro e W5 ⟨rfl, t5⟩
          have T5 := Lib.hid ((T4.out.trans t5).alloc (.cells #[.int .u8 x.kind, .int .i64 x.user, .int .i64 x.rect.c1, .int .i64 x.rect.r1, .int .i64 x.rect.c2, .int .i64 x.rect.r2, str x.input, .int .u64 x.rights.rd, .int .u64 x.rights.wr, .int .u64 x.rights.ow, .int .u8 x.fns, .int .u64 x.to_, .int .i64 x.index] 48))
          have O5 := Lib.hid ((HOW.out.chg t5.chg (fun q hq e => by have h1 := HOB.out q hq; have h2 : q = p := e; omega)).alloc (.cells #[.int .u8 x.kind, .int .i64 x.user, .int .i64 x.rect.c1, .int .i64 x.rect.r1, .int .i64 x.rect.c2, .int .i64 x.rect.r2, str x.input, .int .u64 x.rights.rd, .int .u64 x.rights.wr, .int .u64 x.rights.ow, .int .u8 x.fns, .int .u64 x.to_, .int .i64 x.index] 48))
          have K5 := Lib.hid (Blk.new W5 48 #[.int .u8 x.kind, .int .i64 x.user, .int .i64 x.rect.c1, .int .i64 x.rect.r1, .int .i64 x.rect.c2, .int .i64 x.rect.r2, str x.input, .int .u64 x.rights.rd, .int .u64 x.rights.wr, .int .u64 x.rights.ow, .int .u8 x.fns, .int .u64 x.to_, .int .i64 x.index])
          clear t5 HCC
          go_wp2_with (at_builtin; refine RowKit.Hid.out ?_)
          refine Lib.hid ?_
          refine wpList_more cOpr rfl _ _ 29 rfl 48 ie _ 13 112 Tryz.underlying29 I0.out I1.out I2.out I3.out rfl (by omega) _ l rfl O5.out _ _ [x] rfl (Sls.one (x := x) K5.out rfl) cOpr_len cOpr_one (by simp; omega) (by omega) ?_
          intro v9 w9 o9 t9
          have O9 := Lib.hid o9
          have T9 := Lib.hid (T5.out.out t9 HOB.out hlt)
          have B9 := Lib.hid (show ∀ q, v9.ownBlock = some q → W.heap.size ≤ q from fun q hq => by
            rcases t9.own q hq with e | e
            · exact HOB.out q e
            · exact Nat.le_trans T5.out.chg.size e)
          clear o9 t9
          go_wp2
          exact ⟨⟨k + 1, l ++ [x], rk, by omega, by go_num, O9.out, B9.out, T9.out, by simp; omega, hL2, by rw [← HJ.out, ← HE.out, HMK.out]; simp, fun _ => hn2⟩, by simp [intOf]; omega⟩
      · have hld := hlt2
        have HF := Lib.hid (HMK.out.trans (by rw [show m - k = 0 by omega]; simp only [manyR, List.append_nil] : _ = (l, (sk, bk))))
        clear hk hlk hrk hl1 hl hm
        go_wp2
        go_ret
        exact ⟨_, rfl, by rw [HF.out]; exact HOW.out, HOB.out, by rw [HF.out]; exact T4.out⟩
  | false =>
    by_cases hn0 : n < 0
    · have hn0d : decide (n < 0) = true := by simp [hn0]
      have HB := Lib.hid hB
      clear HLR hB
      go_wp2_with fail
      obtain rfl : b = true := by rw [← HB.out]; simp [hn0]
      obtain ⟨W2, hW2⟩ : ∃ W2, W1.setCell ⟨p, 1, none⟩ (.bool true) = W2 := ⟨_, rfl⟩
      rw [hW2] at T2 ⊢
      clear hW2 c0 c1 f1 T1 HB
      obtain ⟨m, hm⟩ : ∃ m, n.toNat = m := ⟨_, rfl⟩
      rw [hm] at HE
      go_loopw [5, 7] (fun ov i wr => ∃ (k : Nat) (l : List Opr) (rk : Rd), k ≤ m ∧ i = .int .i64 k ∧ Own cOpr 48 13 wr ov l ∧ (∀ q, ov.ownBlock = some q → W.heap.size ≤ q) ∧ RdTo p W wr rk ∧ l.length = k ∧ rk.1.length ≤ 1000000 ∧ manyR oprR m (s1, true) = (l ++ (manyR oprR (m - k) rk).1, (manyR oprR (m - k) rk).2) ∧ (rk.2 = false → 0 ≤ n ∧ n ≤ 1000000)) (fun _ i _ => m - (intOf i).toNat)
      case atStart => exact ⟨0, [], (s1, true), by omega, rfl, Own.nil _ _ _ _, fun q hq => by simp [Value.ownBlock] at hq, T2.out, rfl, hl1, by simp, HNB.out⟩
      case round =>
        rename World => w0
        obtain ⟨k, l, ⟨sk, bk⟩, hk, rfl, how, hob, hto, hlk, hrk, hmk, hnb⟩ := hrel
        have HNK := Lib.hid hnb
        have HOW := Lib.hid how
        have HOB := Lib.hid hob
        have T4 := Lib.hid hto
        have HMK := Lib.hid (HE.out.trans hmk)
        have c1 : w0.cell? ⟨p, 1, none⟩ = some (.bool bk) := hto.blk.cell 1
        clear how hob hto hmk hnb
        by_cases hlt2 : (k : Int) < n
        · exfalso; omega
        · have hld := hlt2
          have HF := Lib.hid (HMK.out.trans (by rw [show m - k = 0 by omega]; simp only [manyR, List.append_nil] : _ = (l, (sk, bk))))
          clear hk hlk hrk hl1 hl hm
          go_wp2
          go_ret
          exact ⟨_, rfl, by rw [HF.out]; exact HOW.out, HOB.out, by rw [HF.out]; exact T4.out⟩
    have hn0d : decide (n < 0) = false := by simp [hn0]
    by_cases hn1 : (s1.length : Int) < n
    · have hn1d : decide ((s1.length : Int) < n) = true := by simp [hn1]
      have HB := Lib.hid hB
      clear HLR hB
      go_wp2_with fail
      obtain rfl : b = true := by rw [← HB.out]; simp [hn1]
      obtain ⟨W2, hW2⟩ : ∃ W2, W1.setCell ⟨p, 1, none⟩ (.bool true) = W2 := ⟨_, rfl⟩
      rw [hW2] at T2 ⊢
      clear hW2 c0 c1 f1 T1 HB
      obtain ⟨m, hm⟩ : ∃ m, n.toNat = m := ⟨_, rfl⟩
      rw [hm] at HE
      go_loopw [5, 7] (fun ov i wr => ∃ (k : Nat) (l : List Opr) (rk : Rd), k ≤ m ∧ i = .int .i64 k ∧ Own cOpr 48 13 wr ov l ∧ (∀ q, ov.ownBlock = some q → W.heap.size ≤ q) ∧ RdTo p W wr rk ∧ l.length = k ∧ rk.1.length ≤ 1000000 ∧ manyR oprR m (s1, true) = (l ++ (manyR oprR (m - k) rk).1, (manyR oprR (m - k) rk).2) ∧ (rk.2 = false → 0 ≤ n ∧ n ≤ 1000000)) (fun _ i _ => m - (intOf i).toNat)
      case atStart => exact ⟨0, [], (s1, true), by omega, rfl, Own.nil _ _ _ _, fun q hq => by simp [Value.ownBlock] at hq, T2.out, rfl, hl1, by simp, HNB.out⟩
      case round =>
        rename World => w0
        obtain ⟨k, l, ⟨sk, bk⟩, hk, rfl, how, hob, hto, hlk, hrk, hmk, hnb⟩ := hrel
        have HNK := Lib.hid hnb
        have HOW := Lib.hid how
        have HOB := Lib.hid hob
        have T4 := Lib.hid hto
        have HMK := Lib.hid (HE.out.trans hmk)
        have c1 : w0.cell? ⟨p, 1, none⟩ = some (.bool bk) := hto.blk.cell 1
        clear how hob hto hmk hnb
        by_cases hlt2 : (k : Int) < n
        · have hkm : k < m := by omega
          cases bk with
          | true =>
            have HF := Lib.hid (HMK.out.trans (by rw [manyR_stop oprR _ rfl, List.append_nil] : _ = (l, (sk, true))))
            clear hkm hk hlk hrk hl1 hl hm
            go_wp2
            go_ret
            exact ⟨_, rfl, by rw [HF.out]; exact HOW.out, HOB.out, by rw [HF.out]; exact T4.out⟩
          | false =>
            have hn2 := HNK.out rfl
            obtain ⟨j, hj⟩ : ∃ j, m - k = j + 1 := ⟨m - k - 1, by omega⟩
            have hC := rd_operation p (sk, false) w0 T4.out.blk hrk
            have hL := oprR_len (sk, false)
            obtain ⟨q2, hq⟩ : ∃ q, oprR (sk, false) = q := ⟨_, rfl⟩
            have hS := manyR_step oprR j (r := (sk, false)) rfl hq
            rw [hj, hS] at HMK
            rw [hq] at hC hL
            obtain ⟨x, rk⟩ := q2
            rw [show (cOpr x).toArray = #[.int .u8 x.kind, .int .i64 x.user, .int .i64 x.rect.c1, .int .i64 x.rect.r1, .int .i64 x.rect.c2, .int .i64 x.rect.r2, str x.input, .int .u64 x.rights.rd, .int .u64 x.rights.wr, .int .u64 x.rights.ow, .int .u8 x.fns, .int .u64 x.to_, .int .i64 x.index] from rfl] at hC
            have HCC := Lib.hid hC
            have hL2 : rk.1.length ≤ 1000000 := Nat.le_trans hL hrk
            have hjk : j = m - (k + 1) := by omega
            have HJ := Lib.hid hjk
            clear hC hL hq hS hj hjk
            go_wp2_with fail
            refine HCC.out.mono ?_
            rintro e W5 ⟨rfl, t5⟩
            have T5 := Lib.hid ((T4.out.trans t5).alloc (.cells #[.int .u8 x.kind, .int .i64 x.user, .int .i64 x.rect.c1, .int .i64 x.rect.r1, .int .i64 x.rect.c2, .int .i64 x.rect.r2, str x.input, .int .u64 x.rights.rd, .int .u64 x.rights.wr, .int .u64 x.rights.ow, .int .u8 x.fns, .int .u64 x.to_, .int .i64 x.index] 48))
            have O5 := Lib.hid ((HOW.out.chg t5.chg (fun q hq e => by have h1 := HOB.out q hq; have h2 : q = p := e; omega)).alloc (.cells #[.int .u8 x.kind, .int .i64 x.user, .int .i64 x.rect.c1, .int .i64 x.rect.r1, .int .i64 x.rect.c2, .int .i64 x.rect.r2, str x.input, .int .u64 x.rights.rd, .int .u64 x.rights.wr, .int .u64 x.rights.ow, .int .u8 x.fns, .int .u64 x.to_, .int .i64 x.index] 48))
            have K5 := Lib.hid (Blk.new W5 48 #[.int .u8 x.kind, .int .i64 x.user, .int .i64 x.rect.c1, .int .i64 x.rect.r1, .int .i64 x.rect.c2, .int .i64 x.rect.r2, str x.input, .int .u64 x.rights.rd, .int .u64 x.rights.wr, .int .u64 x.rights.ow, .int .u8 x.fns, .int .u64 x.to_, .int .i64 x.index])
            clear t5 HCC
            go_wp2_with (at_builtin; refine RowKit.Hid.out ?_)
            refine Lib.hid ?_
            refine wpList_more cOpr rfl _ _ 29 rfl 48 ie _ 13 112 Tryz.underlying29 I0.out I1.out I2.out I3.out rfl (by omega) _ l rfl O5.out _ _ [x] rfl (Sls.one (x := x) K5.out rfl) cOpr_len cOpr_one (by simp; omega) (by omega) ?_
            intro v9 w9 o9 t9
            have O9 := Lib.hid o9
            have T9 := Lib.hid (T5.out.out t9 HOB.out hlt)
            have B9 := Lib.hid (show ∀ q, v9.ownBlock = some q → W.heap.size ≤ q from fun q hq => by
              rcases t9.own q hq with e | e
              · exact HOB.out q e
              · exact Nat.le_trans T5.out.chg.size e)
            clear o9 t9
            go_wp2
            exact ⟨⟨k + 1, l ++ [x], rk, by omega, by go_num, O9.out, B9.out, T9.out, by simp; omega, hL2, by rw [← HJ.out, ← HE.out, HMK.out]; simp, fun _ => hn2⟩, by simp [intOf]; omega⟩
        · have hld := hlt2
          have HF := Lib.hid (HMK.out.trans (by rw [show m - k = 0 by omega]; simp only [manyR, List.append_nil] : _ = (l, (sk, bk))))
          clear hk hlk hrk hl1 hl hm
          go_wp2
          go_ret
          exact ⟨_, rfl, by rw [HF.out]; exact HOW.out, HOB.out, by rw [HF.out]; exact T4.out⟩
    have hn1d : decide ((s1.length : Int) < n) = false := by simp [hn1]
    have HB := Lib.hid hB
    clear HLR hB
    go_wp2_with fail
    obtain rfl : b = false := by rw [← HB.out]; simp [hn0, hn1]
    obtain ⟨W2, hW2⟩ : ∃ W2, W1.setCell ⟨p, 1, none⟩ (.bool false) = W2 := ⟨_, rfl⟩
    rw [hW2] at T2 ⊢
    clear hW2 c0 c1 f1 T1 HB
    obtain ⟨m, hm⟩ : ∃ m, n.toNat = m := ⟨_, rfl⟩
    rw [hm] at HE
    go_loopw [5, 7] (fun ov i wr => ∃ (k : Nat) (l : List Opr) (rk : Rd), k ≤ m ∧ i = .int .i64 k ∧ Own cOpr 48 13 wr ov l ∧ (∀ q, ov.ownBlock = some q → W.heap.size ≤ q) ∧ RdTo p W wr rk ∧ l.length = k ∧ rk.1.length ≤ 1000000 ∧ manyR oprR m (s1, false) = (l ++ (manyR oprR (m - k) rk).1, (manyR oprR (m - k) rk).2) ∧ (rk.2 = false → 0 ≤ n ∧ n ≤ 1000000)) (fun _ i _ => m - (intOf i).toNat)
    case atStart => exact ⟨0, [], (s1, false), by omega, rfl, Own.nil _ _ _ _, fun q hq => by simp [Value.ownBlock] at hq, T2.out, rfl, hl1, by simp, HNB.out⟩
    case round =>
      rename World => w0
      obtain ⟨k, l, ⟨sk, bk⟩, hk, rfl, how, hob, hto, hlk, hrk, hmk, hnb⟩ := hrel
      have HNK := Lib.hid hnb
      have HOW := Lib.hid how
      have HOB := Lib.hid hob
      have T4 := Lib.hid hto
      have HMK := Lib.hid (HE.out.trans hmk)
      have c1 : w0.cell? ⟨p, 1, none⟩ = some (.bool bk) := hto.blk.cell 1
      clear how hob hto hmk hnb
      by_cases hlt2 : (k : Int) < n
      · have hkm : k < m := by omega
        cases bk with
        | true =>
          have HF := Lib.hid (HMK.out.trans (by rw [manyR_stop oprR _ rfl, List.append_nil] : _ = (l, (sk, true))))
          clear hkm hk hlk hrk hl1 hl hm
          go_wp2
          go_ret
          exact ⟨_, rfl, by rw [HF.out]; exact HOW.out, HOB.out, by rw [HF.out]; exact T4.out⟩
        | false =>
          have hn2 := HNK.out rfl
          obtain ⟨j, hj⟩ : ∃ j, m - k = j + 1 := ⟨m - k - 1, by omega⟩
          have hC := rd_operation p (sk, false) w0 T4.out.blk hrk
          have hL := oprR_len (sk, false)
          obtain ⟨q2, hq⟩ : ∃ q, oprR (sk, false) = q := ⟨_, rfl⟩
          have hS := manyR_step oprR j (r := (sk, false)) rfl hq
          rw [hj, hS] at HMK
          rw [hq] at hC hL
          obtain ⟨x, rk⟩ := q2
          rw [show (cOpr x).toArray = #[.int .u8 x.kind, .int .i64 x.user, .int .i64 x.rect.c1, .int .i64 x.rect.r1, .int .i64 x.rect.c2, .int .i64 x.rect.r2, str x.input, .int .u64 x.rights.rd, .int .u64 x.rights.wr, .int .u64 x.rights.ow, .int .u8 x.fns, .int .u64 x.to_, .int .i64 x.index] from rfl] at hC
          have HCC := Lib.hid hC
          have hL2 : rk.1.length ≤ 1000000 := Nat.le_trans hL hrk
          have hjk : j = m - (k + 1) := by omega
          have HJ := Lib.hid hjk
          clear hC hL hq hS hj hjk
          go_wp2_with fail
          refine HCC.out.mono ?_
          rintro e W5 ⟨rfl, t5⟩
          have T5 := Lib.hid ((T4.out.trans t5).alloc (.cells #[.int .u8 x.kind, .int .i64 x.user, .int .i64 x.rect.c1, .int .i64 x.rect.r1, .int .i64 x.rect.c2, .int .i64 x.rect.r2, str x.input, .int .u64 x.rights.rd, .int .u64 x.rights.wr, .int .u64 x.rights.ow, .int .u8 x.fns, .int .u64 x.to_, .int .i64 x.index] 48))
          have O5 := Lib.hid ((HOW.out.chg t5.chg (fun q hq e => by have h1 := HOB.out q hq; have h2 : q = p := e; omega)).alloc (.cells #[.int .u8 x.kind, .int .i64 x.user, .int .i64 x.rect.c1, .int .i64 x.rect.r1, .int .i64 x.rect.c2, .int .i64 x.rect.r2, str x.input, .int .u64 x.rights.rd, .int .u64 x.rights.wr, .int .u64 x.rights.ow, .int .u8 x.fns, .int .u64 x.to_, .int .i64 x.index] 48))
          have K5 := Lib.hid (Blk.new W5 48 #[.int .u8 x.kind, .int .i64 x.user, .int .i64 x.rect.c1, .int .i64 x.rect.r1, .int .i64 x.rect.c2, .int .i64 x.rect.r2, str x.input, .int .u64 x.rights.rd, .int .u64 x.rights.wr, .int .u64 x.rights.ow, .int .u8 x.fns, .int .u64 x.to_, .int .i64 x.index])
          clear t5 HCC
          go_wp2_with (at_builtin; refine RowKit.Hid.out ?_)
          refine Lib.hid ?_
          refine wpList_more cOpr rfl _ _ 29 rfl 48 ie _ 13 112 Tryz.underlying29 I0.out I1.out I2.out I3.out rfl (by omega) _ l rfl O5.out _ _ [x] rfl (Sls.one (x := x) K5.out rfl) cOpr_len cOpr_one (by simp; omega) (by omega) ?_
          intro v9 w9 o9 t9
          have O9 := Lib.hid o9
          have T9 := Lib.hid (T5.out.out t9 HOB.out hlt)
          have B9 := Lib.hid (show ∀ q, v9.ownBlock = some q → W.heap.size ≤ q from fun q hq => by
            rcases t9.own q hq with e | e
            · exact HOB.out q e
            · exact Nat.le_trans T5.out.chg.size e)
          clear o9 t9
          go_wp2
          exact ⟨⟨k + 1, l ++ [x], rk, by omega, by go_num, O9.out, B9.out, T9.out, by simp; omega, hL2, by rw [← HJ.out, ← HE.out, HMK.out]; simp, fun _ => hn2⟩, by simp [intOf]; omega⟩
      · have hld := hlt2
        have HF := Lib.hid (HMK.out.trans (by rw [show m - k = 0 by omega]; simp only [manyR, List.append_nil] : _ = (l, (sk, bk))))
        clear hk hlk hrk hl1 hl hm
        go_wp2
        go_ret
        exact ⟨_, rfl, by rw [HF.out]; exact HOW.out, HOB.out, by rw [HF.out]; exact T4.out⟩
end Go.Proofs.YtamcgggmfghljaaGreatDoor
