/- Layer 7 (program): how many bytes a test accepts: the iterator, length (printed by tools/g -/
import Derived.Deep.RegionHeld3
import Derived.Test.YtamcgggmfghljaaGreatDoorC10
set_option maxRecDepth 100000
set_option maxHeartbeats 8000000
namespace Go.Proofs.YtamcgggmfghljaaGreatDoor
open Go.RowKit Go.Shelf
attribute [local go_sem] Oper.semAt_some
/-- The blocks B, B + 1, B + 2 lie as they lay. -/
def Keep3 (B : Nat) (W W' : World) : Prop := ∀ k, B ≤ k → k < B + 3 → W'.heap[k]? = W.heap[k]?
theorem Keep3.trans {B : Nat} {A C D : World} (h : Keep3 B A C) (k : Keep3 B C D) : Keep3 B A D := fun i h1 h2 => (k i h1 h2).trans (h i h1 h2)
theorem Keep3.putObj {B : Nat} {w : World} (hB : B + 3 ≤ w.heap.size) (W : World) (l : Nat) (o o' : Obj) (hl : w.heap.size ≤ l) (_ : W.heap[l]? = some o) (_ : o.isCells = false) (_ : o.isWalk = false) : Keep3 B W (W.putObj l o') := fun k _ h2 => World.putObj_heap_other (by omega)
theorem Blk.keep3 {B : Nat} {W W' : World} {g : Nat} {t : TypeId} {cs : Array Value} (h : Blk W g t cs) (k : Keep3 B W W') (h1 : B ≤ g) (h2 : g < B + 3) : Blk W' g t cs := (k g h1 h2).trans h
theorem grown_drewN (W : World) (n : Nat) : W.grownBy (W.drewN n) none := ⟨rfl, rfl, rfl, Nat.le_refl _, fun _ _ _ => rfl⟩
theorem Blk.eqv' {w : World} {g : Nat} {t : TypeId} {cs cs' : Array Value} (h : Blk w g t cs) (e : cs = cs') : Blk w g t cs' := e ▸ h
theorem Blk.own {W W' : World} {g : Nat} {t : TypeId} {cs : Array Value} {row : Option Nat} (h : Blk W g t cs) (hg : W.grownBy W' row) (hr : ∀ r, row = some r → ∃ o : Obj, W.heap[r]? = some o ∧ o.isCells = false) : Blk W' g t cs :=
  (grownBy_keeps_cells hg hr h rfl).trans h
theorem take_at (s : ByteArray) (i j : Nat) (hi : i ≤ j) (h : j < s.size) : (s.data.toList.drop i).take (j + 1 - i) = (s.data.toList.drop i).take (j - i) ++ [s[j]] := by
  have hk : j - i < (s.data.toList.drop i).length := by simp; omega
  rw [show j + 1 - i = j - i + 1 by omega, List.take_succ_eq_append_getElem hk]
  simp only [List.getElem_drop, show i + (j - i) = j by omega]
  rfl
theorem drop_at (s : ByteArray) (i j : Nat) (hi : i ≤ j) (h : j < s.size) : (s.data.toList.drop i)[j - i]? = some s[j] := by
  rw [List.getElem?_drop, show i + (j - i) = j by omega]
  exact at_get s j h
theorem tw_take {p : UInt8 → Bool} : ∀ (l : Bytes) (k : Nat), k ≤ l.length → (l.take k).all p = true → (∀ c, l[k]? = some c → p c = false) → l.takeWhile p = l.take k
  | l, 0, _, _, h => by
    cases l with
    | nil => rfl
    | cons c l => rw [List.takeWhile_cons_of_neg (by rw [h c rfl]; simp)]; rfl
  | [], k + 1, hk, _, _ => by simp at hk
  | c :: l, k + 1, hk, ha, h => by
    simp only [List.take_succ_cons, List.all_cons, Bool.and_eq_true] at ha
    rw [List.takeWhile_cons_of_pos ha.1, List.take_succ_cons, tw_take l k (by simpa using hk) ha.2 (fun c hc => h c (by simpa using hc))]
theorem iter_dig (s : ByteArray) (i B : Nat) (w : World) (hs : s.size ≤ 1000000) (hi : i ≤ s.size) (h0 : Blk w B 9 #[.string s]) (h1 : Blk w (B + 1) 3 #[.int .i64 i]) (h2 : Blk w (B + 1 + 1) 219 #[.func (.func 274) #[] #[]]) :
    SeqStopsK Fence.wide 6 Tryz.prog 320 #[.pointer (some ⟨B + 1, 0, none⟩), .pointer (some ⟨B, 0, none⟩), .pointer (some ⟨B + 1 + 1, 0, none⟩)] (fun c : UInt8 => #[.int .u8 c.toNat]) (Keep3 B) (fun xs => xs = (s.data.toList.drop i).takeWhile digB) (fun _ => True) (s.size + 1) w := by
  intro l J Jx W hW hJ hJx hY hJ0
  have b0 := h0.below_ hW
  have b1 := h1.below_ hW
  have b2 := h2.below_ hW
  have hlt : B + 3 ≤ W.heap.size := by have := b2.lt; omega
  have B0 := Lib.hid b0
  have B2 := Lib.hid b2
  have c1 : W.cell? ⟨B + 1, 0, none⟩ = some (.int .i64 i) := b1.cell 0
  clear b0 b1 b2 h0 h1 h2
  refine callsIn_of_wp Tryz.func320 rfl trivial ?_ rfl
  simp only [Tryz.ntmps320, List.size_toArray, List.length_cons, List.length_nil, Nat.reduceAdd, Nat.reduceSub, Array.replicate_succ, Array.replicate_zero, List.push_toArray, List.append_toArray, List.nil_append, List.cons_append]
  gi_wp2
  clear c1
  gi_loopw [5] (fun v wr => ∃ j : Nat, i ≤ j ∧ j ≤ s.size ∧ v = .int .i64 j ∧ J ((s.data.toList.drop i).take (j - i)) wr ∧ ((s.data.toList.drop i).take (j - i)).all digB = true ∧ Blk wr B 9 #[.string s] ∧ Blk wr (B + 1 + 1) 219 #[.func (.func 274) #[] #[]]) (fun v _ => s.size - (intOf v).toNat)
  case atStart => exact ⟨i, Nat.le_refl _, hi, rfl, by simpa using hJ0, by simp, B0.out, B2.out⟩
  case round =>
    obtain ⟨j, hij, hk, rfl, hjk, hall, b0, b2⟩ := hrel
    have HJK := Lib.hid hjk
    have HALL := Lib.hid hall
    have B0' := Lib.hid b0
    have B2' := Lib.hid b2
    clear hjk hall b0 b2
    have k0 : wr.cell? ⟨B, 0, none⟩ = some (.string s) := B0'.out.cell 0
    have k2 : wr.cell? ⟨B + 1 + 1, 0, none⟩ = some (.func (.func 274) #[] #[]) := B2'.out.cell 0
    have hi0 : (0 : Int) ≤ (j : Int) := Int.natCast_nonneg _
    by_cases hlt : j < s.size
    · have hi1 : (j : Int) < (s.size : Int) := by omega
      have hi2 : decide ((j : Int) < (s.size : Int)) = true := by simpa using hi1
      gi_wp2
      refine wpIn_wide.2 ?_
      go_quiet ((go_at_call 274; exact Calls.quiet_of_same ((lex_digit s[j] _).mono fun e w' h => ⟨h.1, h.2.symm⟩)))
      have hj2 := hJ _ _ (wr.drewN nq) none HJK.out (grown_drewN wr nq) (fun r e => by cases e)
      have HG := Lib.hid (drop_at s i j hij hlt)
      by_cases hp : digB s[j] = true
      · obtain ⟨fn, tmps, assign, body, hy, hR⟩ := hY _ s[j] _ hj2 (by simp; omega)
        have HT := Lib.hid (take_at s i j hij hlt)
        have HA2 := Lib.hid (show ((s.data.toList.drop i).take (j + 1 - i)).all digB = true by rw [HT.out, List.all_append, HALL.out]; simp [hp])
        have k0' : (wr.drewN nq).cell? ⟨B, 0, none⟩ = some (.string s) := k0
        have HJ2 := Lib.hid hj2
        clear hj2
        rw [hp]
        gi_wp2
        refine hR.mono ?_
        rintro e W3 (⟨rfl, hJ3, hk3⟩ | ⟨rfl, hJx3⟩)
        · have HJ3 := Lib.hid hJ3
          have HB0 := Lib.hid (Blk.keep3 (W := wr.drewN nq) B0'.out hk3 (Nat.le_refl _) (by omega))
          have HB2 := Lib.hid (Blk.keep3 (W := wr.drewN nq) B2'.out hk3 (by omega) (by omega))
          clear hJ3 hk3
          gi_wp2
          exact ⟨⟨j + 1, by omega, by omega, by go_num, by rw [HT.out]; exact HJ3.out, HA2.out, HB0.out, HB2.out⟩, by simp [intOf]; omega⟩
        · gi_wp2
          first | go_end0 | refine bodyPost_ret (results_none rfl _ _ _) rfl ?_
          exact ⟨⟨_, rfl⟩, .inr ⟨_, trivial, hJx3⟩⟩
      · have hp' : digB s[j] = false := by simpa using hp
        have HE := Lib.hid (show (s.data.toList.drop i).takeWhile digB = (s.data.toList.drop i).take (j - i) from tw_take _ _ (by simp; omega) HALL.out (fun c hc => by rw [HG.out] at hc; cases hc; exact hp'))
        have HJ2 := Lib.hid hj2
        clear hj2
        rw [hp']
        gi_wp2
        go_end0
        exact ⟨⟨_, rfl⟩, .inl ⟨_, HE.out.symm, HJ2.out⟩⟩
    · have hi1 : ¬ (j : Int) < (s.size : Int) := by omega
      have hi2 : decide ((j : Int) < (s.size : Int)) = false := by simpa using hi1
      gi_wp2
      refine wpIn_wide.2 ?_
      go_quiet (fail)
      have HJ2 := Lib.hid (hJ _ _ (wr.drewN nq) none HJK.out (grown_drewN wr nq) (fun r e => by cases e))
      have HE := Lib.hid (show (s.data.toList.drop i).takeWhile digB = (s.data.toList.drop i).take (j - i) from tw_take _ _ (by simp; omega) HALL.out (fun c hc => by rw [List.getElem?_eq_none (by simp; omega)] at hc; cases hc))
      gi_wp2
      go_end0
      exact ⟨⟨_, rfl⟩, .inl ⟨_, HE.out.symm, HJ2.out⟩⟩
theorem length_dig (s : ByteArray) (i : Nat) (w : World) (hs : s.size ≤ 1000000) (hi : i ≤ s.size) :
    Calls Tryz.prog 273 #[.string s, .int .i64 i, .func (.func 274) #[] #[]] w fun u w' => u = .returned (.int .i64 (lenB digB s.data.toList i)) ∧ Below w.heap.size w w' := by
  refine (callsIn_wide (n := 7)).1 ?_
  refine callsIn_of_wp_marks Tryz.func273 rfl trivial ?_ rfl
  simp only [Tryz.ntmps273, List.size_toArray, List.length_cons, List.length_nil, Nat.reduceAdd, Nat.reduceSub, Array.replicate_succ, Array.replicate_zero, List.push_toArray, List.append_toArray, List.nil_append, List.cons_append]
  gi_wp2
  refine ⟨trivial, ?_⟩
  refine (callsIn_wide.2 (lex_piece s i _ _ rfl)).mono ?_
  rintro e w' ⟨rfl, rfl⟩
  gi_wp2
  have k0 : Blk ((((w.alloc (.cells #[.int .i64 0] 3)).alloc (.cells #[.string s] 9)).alloc (.cells #[.int .i64 i] 3)).alloc (.cells #[.func (.func 274) #[] #[]] 219)) w.heap.size 3 #[.int .i64 0] := (((Blk.new w _ _).alloc _).alloc _).alloc _
  have kA : Blk ((((w.alloc (.cells #[.int .i64 0] 3)).alloc (.cells #[.string s] 9)).alloc (.cells #[.int .i64 i] 3)).alloc (.cells #[.func (.func 274) #[] #[]] 219)) (w.heap.size + 1) 9 #[.string s] := by
    have := Blk.new (w.alloc (.cells #[.int .i64 0] 3)) 9 #[.string s]
    rw [World.size_alloc] at this
    exact (this.alloc _).alloc _
  have kB : Blk ((((w.alloc (.cells #[.int .i64 0] 3)).alloc (.cells #[.string s] 9)).alloc (.cells #[.int .i64 i] 3)).alloc (.cells #[.func (.func 274) #[] #[]] 219)) (w.heap.size + 1 + 1) 3 #[.int .i64 i] := by
    have := Blk.new ((w.alloc (.cells #[.int .i64 0] 3)).alloc (.cells #[.string s] 9)) 3 #[.int .i64 i]
    simp only [World.size_alloc] at this
    exact this.alloc _
  have kC : Blk ((((w.alloc (.cells #[.int .i64 0] 3)).alloc (.cells #[.string s] 9)).alloc (.cells #[.int .i64 i] 3)).alloc (.cells #[.func (.func 274) #[] #[]] 219)) (w.heap.size + 1 + 1 + 1) 219 #[.func (.func 274) #[] #[]] := by
    have := Blk.new (((w.alloc (.cells #[.int .i64 0] 3)).alloc (.cells #[.string s] 9)).alloc (.cells #[.int .i64 i] 3)) 219 #[.func (.func 274) #[] #[]]
    simp only [World.size_alloc] at this
    exact this
  have hB0 : Below w.heap.size w ((((w.alloc (.cells #[.int .i64 0] 3)).alloc (.cells #[.string s] 9)).alloc (.cells #[.int .i64 i] 3)).alloc (.cells #[.func (.func 274) #[] #[]] 219)) := (((((Below.refl _ w).alloc (Nat.le_refl _) _).alloc (by simp) _).alloc (by simp; omega) _).alloc (by simp; omega) _)
  refine wpIn_rangeFunc_ownF rfl (by omega) (gf := 320) (lb := #[.pointer (some ⟨w.heap.size + 1 + 1, 0, none⟩), .pointer (some ⟨w.heap.size + 1, 0, none⟩), .pointer (some ⟨w.heap.size + 1 + 1 + 1, 0, none⟩)]) rfl trivial (enters_of Tryz.func320 (by kernel_rfl) rfl)
    (iter_dig s i (w.heap.size + 1) _ hs hi kA kB kC) Keep3.trans (Keep3.putObj (by simp)) (Below.refl _ _) (fun _ => rfl)
    (fun (pre : List UInt8) W => Blk W w.heap.size 3 #[.int .i64 (pre.length : Int)] ∧ Below w.heap.size w W)
    (fun _ _ _ => False)
    (OwnFrom.and (@Own.from (List UInt8) (fun pre W => Blk W w.heap.size 3 #[.int .i64 (pre.length : Int)]) (fun st A B row h hg hr => Blk.own h hg hr) _) (ownFrom_below (Nat.le_refl _) (by simp; omega)))
    (fun _ _ _ _ _ h _ _ => h)
    ⟨k0, hB0⟩
    (fun (c : UInt8) => { tmps := #[.string s, .int .i64 i, .func (.func 274) #[] #[], undef, undef, undef, .int .i64 0, .pointer (some ⟨w.heap.size, 0, none⟩), .string s, .int .i64 i, .func (.func 274) #[] #[], .func (.func 320) #[] #[.pointer (some ⟨w.heap.size + 1 + 1, 0, none⟩), .pointer (some ⟨w.heap.size + 1, 0, none⟩), .pointer (some ⟨w.heap.size + 1 + 1 + 1, 0, none⟩)], .int .u8 c.toNat, undef, undef, undef], defers := [] }) ?assign ?body ?done ?stop
  case assign =>
    intro l x W K hK
    gi_wp2
    have e : ∀ (A : Array Value), Array.foldl (fun t (x : Tmp × Value) => t.setIfInBounds x.1 x.2) A ((#[12] : Array Tmp).zip #[.int .u8 x.toNat]) = A.setIfInBounds 12 (.int .u8 x.toNat) := fun A => by simp [Array.zip, Array.zipWith, Array.zipWithMAux]
    first | (rw [e]; exact hK) | exact hK
  case body =>
    rintro l pre x W ⟨hb, hB⟩ hlen
    have hc : W.cell? ⟨w.heap.size, 0, none⟩ = some (.int .i64 (pre.length : Int)) := hb.cell 0
    have hf := hb.frozen
    have hpl : (pre.length : Int) ≤ 1000001 := by omega
    have HB := Lib.hid hb
    have HBW := Lib.hid hB
    clear hb hB
    gi_wp2
    exact ⟨KeepsOthers.setCell _ _ _, fun k h1 _ => Below.heap_setCell _ _ _ _ (by simp; omega), (HB.out.set_ 0 (.int .i64 ((pre.length : Int) + 1))).eqv' (by simp), HBW.out.setCell (by simp) _⟩
  case done =>
    rintro D ys W hD rfl ⟨hb, hB⟩ hK
    have hc : W.cell? ⟨w.heap.size, 0, none⟩ = some (.int .i64 (((s.data.toList.drop i).takeWhile digB).length : Int)) := hb.cell 0
    have HBW := Lib.hid hB
    clear hb hB
    gi_wp2
    refine ⟨by simp, .inl ⟨_, _, rfl, run_takeDeferred hK, ?_⟩⟩
    exact ⟨_, results_tmp rfl _ _ _, rfl, HBW.out.trans (belowK_b (w := w) (Nat.le_refl _) W D _ _ (by simp at hD; omega) hK rfl rfl)⟩
  case stop =>
    rintro D c pre W _ _ h _
    exact h.elim
theorem iter_aln (s : ByteArray) (i B : Nat) (w : World) (hs : s.size ≤ 1000000) (hi : i ≤ s.size) (h0 : Blk w B 9 #[.string s]) (h1 : Blk w (B + 1) 3 #[.int .i64 i]) (h2 : Blk w (B + 1 + 1) 219 #[.func (.func 303) #[] #[]]) :
    SeqStopsK Fence.wide 6 Tryz.prog 320 #[.pointer (some ⟨B + 1, 0, none⟩), .pointer (some ⟨B, 0, none⟩), .pointer (some ⟨B + 1 + 1, 0, none⟩)] (fun c : UInt8 => #[.int .u8 c.toNat]) (Keep3 B) (fun xs => xs = (s.data.toList.drop i).takeWhile alnB) (fun _ => True) (s.size + 1) w := by
  intro l J Jx W hW hJ hJx hY hJ0
  have b0 := h0.below_ hW
  have b1 := h1.below_ hW
  have b2 := h2.below_ hW
  have hlt : B + 3 ≤ W.heap.size := by have := b2.lt; omega
  have B0 := Lib.hid b0
  have B2 := Lib.hid b2
  have c1 : W.cell? ⟨B + 1, 0, none⟩ = some (.int .i64 i) := b1.cell 0
  clear b0 b1 b2 h0 h1 h2
  refine callsIn_of_wp Tryz.func320 rfl trivial ?_ rfl
  simp only [Tryz.ntmps320, List.size_toArray, List.length_cons, List.length_nil, Nat.reduceAdd, Nat.reduceSub, Array.replicate_succ, Array.replicate_zero, List.push_toArray, List.append_toArray, List.nil_append, List.cons_append]
  gi_wp2
  clear c1
  gi_loopw [5] (fun v wr => ∃ j : Nat, i ≤ j ∧ j ≤ s.size ∧ v = .int .i64 j ∧ J ((s.data.toList.drop i).take (j - i)) wr ∧ ((s.data.toList.drop i).take (j - i)).all alnB = true ∧ Blk wr B 9 #[.string s] ∧ Blk wr (B + 1 + 1) 219 #[.func (.func 303) #[] #[]]) (fun v _ => s.size - (intOf v).toNat)
  case atStart => exact ⟨i, Nat.le_refl _, hi, rfl, by simpa using hJ0, by simp, B0.out, B2.out⟩
  case round =>
    obtain ⟨j, hij, hk, rfl, hjk, hall, b0, b2⟩ := hrel
    have HJK := Lib.hid hjk
    have HALL := Lib.hid hall
    have B0' := Lib.hid b0
    have B2' := Lib.hid b2
    clear hjk hall b0 b2
    have k0 : wr.cell? ⟨B, 0, none⟩ = some (.string s) := B0'.out.cell 0
    have k2 : wr.cell? ⟨B + 1 + 1, 0, none⟩ = some (.func (.func 303) #[] #[]) := B2'.out.cell 0
    have hi0 : (0 : Int) ≤ (j : Int) := Int.natCast_nonneg _
    by_cases hlt : j < s.size
    · have hi1 : (j : Int) < (s.size : Int) := by omega
      have hi2 : decide ((j : Int) < (s.size : Int)) = true := by simpa using hi1
      gi_wp2
      refine wpIn_wide.2 ?_
      go_quiet ((go_at_call 303; exact Calls.quiet_of_same ((lex_plain1 s[j] _).mono fun e w' h => ⟨h.1, h.2.symm⟩)))
      have hj2 := hJ _ _ (wr.drewN nq) none HJK.out (grown_drewN wr nq) (fun r e => by cases e)
      have HG := Lib.hid (drop_at s i j hij hlt)
      by_cases hp : alnB s[j] = true
      · obtain ⟨fn, tmps, assign, body, hy, hR⟩ := hY _ s[j] _ hj2 (by simp; omega)
        have HT := Lib.hid (take_at s i j hij hlt)
        have HA2 := Lib.hid (show ((s.data.toList.drop i).take (j + 1 - i)).all alnB = true by rw [HT.out, List.all_append, HALL.out]; simp [hp])
        have k0' : (wr.drewN nq).cell? ⟨B, 0, none⟩ = some (.string s) := k0
        have HJ2 := Lib.hid hj2
        clear hj2
        rw [hp]
        gi_wp2
        refine hR.mono ?_
        rintro e W3 (⟨rfl, hJ3, hk3⟩ | ⟨rfl, hJx3⟩)
        · have HJ3 := Lib.hid hJ3
          have HB0 := Lib.hid (Blk.keep3 (W := wr.drewN nq) B0'.out hk3 (Nat.le_refl _) (by omega))
          have HB2 := Lib.hid (Blk.keep3 (W := wr.drewN nq) B2'.out hk3 (by omega) (by omega))
          clear hJ3 hk3
          gi_wp2
          exact ⟨⟨j + 1, by omega, by omega, by go_num, by rw [HT.out]; exact HJ3.out, HA2.out, HB0.out, HB2.out⟩, by simp [intOf]; omega⟩
        · gi_wp2
          first | go_end0 | refine bodyPost_ret (results_none rfl _ _ _) rfl ?_
          exact ⟨⟨_, rfl⟩, .inr ⟨_, trivial, hJx3⟩⟩
      · have hp' : alnB s[j] = false := by simpa using hp
        have HE := Lib.hid (show (s.data.toList.drop i).takeWhile alnB = (s.data.toList.drop i).take (j - i) from tw_take _ _ (by simp; omega) HALL.out (fun c hc => by rw [HG.out] at hc; cases hc; exact hp'))
        have HJ2 := Lib.hid hj2
        clear hj2
        rw [hp']
        gi_wp2
        go_end0
        exact ⟨⟨_, rfl⟩, .inl ⟨_, HE.out.symm, HJ2.out⟩⟩
    · have hi1 : ¬ (j : Int) < (s.size : Int) := by omega
      have hi2 : decide ((j : Int) < (s.size : Int)) = false := by simpa using hi1
      gi_wp2
      refine wpIn_wide.2 ?_
      go_quiet (fail)
      have HJ2 := Lib.hid (hJ _ _ (wr.drewN nq) none HJK.out (grown_drewN wr nq) (fun r e => by cases e))
      have HE := Lib.hid (show (s.data.toList.drop i).takeWhile alnB = (s.data.toList.drop i).take (j - i) from tw_take _ _ (by simp; omega) HALL.out (fun c hc => by rw [List.getElem?_eq_none (by simp; omega)] at hc; cases hc))
      gi_wp2
      go_end0
      exact ⟨⟨_, rfl⟩, .inl ⟨_, HE.out.symm, HJ2.out⟩⟩
theorem length_aln (s : ByteArray) (i : Nat) (w : World) (hs : s.size ≤ 1000000) (hi : i ≤ s.size) :
    Calls Tryz.prog 273 #[.string s, .int .i64 i, .func (.func 303) #[] #[]] w fun u w' => u = .returned (.int .i64 (lenB alnB s.data.toList i)) ∧ Below w.heap.size w w' := by
  refine (callsIn_wide (n := 7)).1 ?_
  refine callsIn_of_wp_marks Tryz.func273 rfl trivial ?_ rfl
  simp only [Tryz.ntmps273, List.size_toArray, List.length_cons, List.length_nil, Nat.reduceAdd, Nat.reduceSub, Array.replicate_succ, Array.replicate_zero, List.push_toArray, List.append_toArray, List.nil_append, List.cons_append]
  gi_wp2
  refine ⟨trivial, ?_⟩
  refine (callsIn_wide.2 (lex_piece s i _ _ rfl)).mono ?_
  rintro e w' ⟨rfl, rfl⟩
  gi_wp2
  have k0 : Blk ((((w.alloc (.cells #[.int .i64 0] 3)).alloc (.cells #[.string s] 9)).alloc (.cells #[.int .i64 i] 3)).alloc (.cells #[.func (.func 303) #[] #[]] 219)) w.heap.size 3 #[.int .i64 0] := (((Blk.new w _ _).alloc _).alloc _).alloc _
  have kA : Blk ((((w.alloc (.cells #[.int .i64 0] 3)).alloc (.cells #[.string s] 9)).alloc (.cells #[.int .i64 i] 3)).alloc (.cells #[.func (.func 303) #[] #[]] 219)) (w.heap.size + 1) 9 #[.string s] := by
    have := Blk.new (w.alloc (.cells #[.int .i64 0] 3)) 9 #[.string s]
    rw [World.size_alloc] at this
    exact (this.alloc _).alloc _
  have kB : Blk ((((w.alloc (.cells #[.int .i64 0] 3)).alloc (.cells #[.string s] 9)).alloc (.cells #[.int .i64 i] 3)).alloc (.cells #[.func (.func 303) #[] #[]] 219)) (w.heap.size + 1 + 1) 3 #[.int .i64 i] := by
    have := Blk.new ((w.alloc (.cells #[.int .i64 0] 3)).alloc (.cells #[.string s] 9)) 3 #[.int .i64 i]
    simp only [World.size_alloc] at this
    exact this.alloc _
  have kC : Blk ((((w.alloc (.cells #[.int .i64 0] 3)).alloc (.cells #[.string s] 9)).alloc (.cells #[.int .i64 i] 3)).alloc (.cells #[.func (.func 303) #[] #[]] 219)) (w.heap.size + 1 + 1 + 1) 219 #[.func (.func 303) #[] #[]] := by
    have := Blk.new (((w.alloc (.cells #[.int .i64 0] 3)).alloc (.cells #[.string s] 9)).alloc (.cells #[.int .i64 i] 3)) 219 #[.func (.func 303) #[] #[]]
    simp only [World.size_alloc] at this
    exact this
  have hB0 : Below w.heap.size w ((((w.alloc (.cells #[.int .i64 0] 3)).alloc (.cells #[.string s] 9)).alloc (.cells #[.int .i64 i] 3)).alloc (.cells #[.func (.func 303) #[] #[]] 219)) := (((((Below.refl _ w).alloc (Nat.le_refl _) _).alloc (by simp) _).alloc (by simp; omega) _).alloc (by simp; omega) _)
  refine wpIn_rangeFunc_ownF rfl (by omega) (gf := 320) (lb := #[.pointer (some ⟨w.heap.size + 1 + 1, 0, none⟩), .pointer (some ⟨w.heap.size + 1, 0, none⟩), .pointer (some ⟨w.heap.size + 1 + 1 + 1, 0, none⟩)]) rfl trivial (enters_of Tryz.func320 (by kernel_rfl) rfl)
    (iter_aln s i (w.heap.size + 1) _ hs hi kA kB kC) Keep3.trans (Keep3.putObj (by simp)) (Below.refl _ _) (fun _ => rfl)
    (fun (pre : List UInt8) W => Blk W w.heap.size 3 #[.int .i64 (pre.length : Int)] ∧ Below w.heap.size w W)
    (fun _ _ _ => False)
    (OwnFrom.and (@Own.from (List UInt8) (fun pre W => Blk W w.heap.size 3 #[.int .i64 (pre.length : Int)]) (fun st A B row h hg hr => Blk.own h hg hr) _) (ownFrom_below (Nat.le_refl _) (by simp; omega)))
    (fun _ _ _ _ _ h _ _ => h)
    ⟨k0, hB0⟩
    (fun (c : UInt8) => { tmps := #[.string s, .int .i64 i, .func (.func 303) #[] #[], undef, undef, undef, .int .i64 0, .pointer (some ⟨w.heap.size, 0, none⟩), .string s, .int .i64 i, .func (.func 303) #[] #[], .func (.func 320) #[] #[.pointer (some ⟨w.heap.size + 1 + 1, 0, none⟩), .pointer (some ⟨w.heap.size + 1, 0, none⟩), .pointer (some ⟨w.heap.size + 1 + 1 + 1, 0, none⟩)], .int .u8 c.toNat, undef, undef, undef], defers := [] }) ?assign ?body ?done ?stop
  case assign =>
    intro l x W K hK
    gi_wp2
    have e : ∀ (A : Array Value), Array.foldl (fun t (x : Tmp × Value) => t.setIfInBounds x.1 x.2) A ((#[12] : Array Tmp).zip #[.int .u8 x.toNat]) = A.setIfInBounds 12 (.int .u8 x.toNat) := fun A => by simp [Array.zip, Array.zipWith, Array.zipWithMAux]
    first | (rw [e]; exact hK) | exact hK
  case body =>
    rintro l pre x W ⟨hb, hB⟩ hlen
    have hc : W.cell? ⟨w.heap.size, 0, none⟩ = some (.int .i64 (pre.length : Int)) := hb.cell 0
    have hf := hb.frozen
    have hpl : (pre.length : Int) ≤ 1000001 := by omega
    have HB := Lib.hid hb
    have HBW := Lib.hid hB
    clear hb hB
    gi_wp2
    exact ⟨KeepsOthers.setCell _ _ _, fun k h1 _ => Below.heap_setCell _ _ _ _ (by simp; omega), (HB.out.set_ 0 (.int .i64 ((pre.length : Int) + 1))).eqv' (by simp), HBW.out.setCell (by simp) _⟩
  case done =>
    rintro D ys W hD rfl ⟨hb, hB⟩ hK
    have hc : W.cell? ⟨w.heap.size, 0, none⟩ = some (.int .i64 (((s.data.toList.drop i).takeWhile alnB).length : Int)) := hb.cell 0
    have HBW := Lib.hid hB
    clear hb hB
    gi_wp2
    refine ⟨by simp, .inl ⟨_, _, rfl, run_takeDeferred hK, ?_⟩⟩
    exact ⟨_, results_tmp rfl _ _ _, rfl, HBW.out.trans (belowK_b (w := w) (Nat.le_refl _) W D _ _ (by simp at hD; omega) hK rfl rfl)⟩
  case stop =>
    rintro D c pre W _ _ h _
    exact h.elim
end Go.Proofs.YtamcgggmfghljaaGreatDoor
