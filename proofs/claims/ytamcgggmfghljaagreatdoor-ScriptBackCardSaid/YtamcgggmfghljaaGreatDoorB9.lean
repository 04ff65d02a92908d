/- Layer 41 (program): the reader takes a place, corners, sets, a text (printed by tools/gen_ · Lists that grow: slices of structs in memory of the call's own. · Builtins by their run's equation; lists of k cells: take, drop, splice. No program in sigh · Go's slices.Delete of one entry. · Regions that draw, load, call, and store into what they loaded: one step. And what Read ha -/
import Derived.Lib.AppendZerosOnto
import Derived.Laws.CopyOwn
import Derived.Deep.RegionHeld3
import Derived.Deep.MidRow
import Derived.Test.YtamcgggmfghljaaGreatDoorB8
set_option maxRecDepth 100000
set_option maxHeartbeats 8000000
namespace Go.Proofs.YtamcgggmfghljaaGreatDoor
open Go.RowKit
theorem bytesR_len (n : Int) (r : Rd) : (bytesR n r).2.1.length ≤ r.1.length := by
  unfold bytesR
  split
  · simp
  · simp only [List.length_drop]; omega
theorem numR_len (r : Rd) : (numR r).2.1.length ≤ r.1.length := by
  obtain ⟨l, b⟩ := r
  cases l with
  | nil => simp [numR]
  | cons c t =>
    rw [numR_cons]
    have := bytesR_len c.toNat (t, b || decide (8 < c.toNat))
    simp only [List.length_cons] at this ⊢
    omega
theorem RdTo.drew {p : Nat} {W W' : World} {r : Rd} (h : RdTo p W W' r) : RdTo p W W'.drew r := ⟨h.blk, h.chg.drew⟩
theorem RdTo.set {p g : Nat} {W W' : World} {r : Rd} (h : RdTo p W W' r) (hg : W.heap.size ≤ g) (hp : p ≠ g) (i : Nat) (u : Value) : RdTo p W (W'.setCell ⟨g, i, none⟩ u) r :=
  ⟨Blk.far h.blk (by exact hp) u, h.chg.setCell (p := ⟨g, i, none⟩) (.inr hg) u⟩
theorem RdTo.alloc {p : Nat} {W W' : World} {r : Rd} (h : RdTo p W W' r) (o : Obj) : RdTo p W (W'.alloc o) r := ⟨Blk.alloc h.blk o, h.chg.alloc o⟩
theorem RdTo.refl {p : Nat} {W : World} {r : Rd} (h : RdAt W p r) : RdTo p W W r := ⟨h, Chg.refl _ _⟩
theorem RdTo.keep {p g : Nat} {W W' : World} {r : Rd} {t : TypeId} {cs : Array Value} (h : RdTo p W W' r) (hb : Blk W g t cs) (hg : g ≠ p) : Blk W' g t cs := hb.chg h.chg hg
theorem rd_place (p : Nat) (r : Rd) (W : World) (h : RdAt W p r) (hl : r.1.length ≤ 1000000) :
    Calls Tryz.prog 60 #[.pointer (some ⟨p, 0, none⟩)] W fun u W' => u = .returned (.agg #[.int .i64 (placeR r).1.col, .int .i64 (placeR r).1.row]) ∧ RdTo p W W' (placeR r).2 := by
  have hlt := h.lt
  have hne : W.heap.size ≠ p := by omega
  have K0 := Lib.hid (Blk.new W 56 #[.int .i64 0, .int .i64 0])
  have T0 := Lib.hid ((RdTo.refl h).alloc (.cells #[.int .i64 0, .int .i64 0] 56))
  have hr0 : r.1.length ≤ 1000000 := hl
  obtain ⟨W0, hW0⟩ : ∃ W0, W.alloc (.cells #[.int .i64 0, .int .i64 0] 56) = W0 := ⟨_, rfl⟩
  rw [hW0] at K0 T0
  clear h hl
  go_enter Tryz.func60, Tryz.ntmps60
  go_wp2_with fail
  refine (rd_int p r W0 T0.out.blk (by first | exact hr0 | exact hr0.out)).mono ?_
  rintro e W1 ⟨rfl, t1⟩
  have K1 := Lib.hid (t1.keep K0.out hne)
  have T1 := Lib.hid (T0.out.trans t1)
  have hr1 := Lib.hid (Nat.le_trans (numR_len r) (by first | exact hr0 | exact hr0.out))
  clear t1
  go_wp2_with fail
  refine (rd_int p (numR r).2 W1 T1.out.blk (by first | exact hr0 | exact hr1.out)).mono ?_
  rintro e W2 ⟨rfl, t2⟩
  have K2 := Lib.hid (t2.keep K1.out hne)
  have T2 := Lib.hid (T1.out.trans t2)
  have hr2 := Lib.hid (Nat.le_trans (numR_len (numR r).2) (by first | exact hr0 | exact hr1.out))
  clear t2
  have hlt2 : W.heap.size < W2.heap.size := K2.out.lt
  have c0 : W2.cell? ⟨W.heap.size, 0, none⟩ = some (.int .i64 0) := K2.out.cell 0
  have f0 : W2.frozen? ⟨W.heap.size, 0, none⟩ = false := K2.out.frozen 0
  have c1 : W2.cell? ⟨W.heap.size, 1, none⟩ = some (.int .i64 0) := K2.out.cell 1
  have f1 : W2.frozen? ⟨W.heap.size, 1, none⟩ = false := K2.out.frozen 1
  go_wp2
  have KF := Lib.hid ((K2.out.set_ 0 (.int .i64 (wrapI (numR r).1))).set_ 1 (.int .i64 (wrapI (numR (numR r).2).1)))
  have TF := Lib.hid ((T2.out.set (Nat.le_refl _) hne.symm 0 (.int .i64 (wrapI (numR r).1))).set (Nat.le_refl _) hne.symm 1 (.int .i64 (wrapI (numR (numR r).2).1)))
  have d0 := KF.out.cell 0
  have d1 := KF.out.cell 1
  refine bodyPost_ret (v := .agg #[.int .i64 (wrapI (numR r).1), .int .i64 (wrapI (numR (numR r).2).1)]) (by simp (maxDischargeDepth := 9) [results, Tryz.results60, go_sem, d0, d1]) rfl ?_
  exact ⟨rfl, TF.out⟩
theorem rd_corners (p : Nat) (r : Rd) (W : World) (h : RdAt W p r) (hl : r.1.length ≤ 1000000) :
    Calls Tryz.prog 64 #[.pointer (some ⟨p, 0, none⟩)] W fun u W' => u = .returned (.agg #[.int .i64 (cornR r).1.c1, .int .i64 (cornR r).1.r1, .int .i64 (cornR r).1.c2, .int .i64 (cornR r).1.r2]) ∧ RdTo p W W' (cornR r).2 := by
  have hlt := h.lt
  have hne : W.heap.size ≠ p := by omega
  have K0 := Lib.hid (Blk.new W 43 #[.int .i64 0, .int .i64 0, .int .i64 0, .int .i64 0])
  have T0 := Lib.hid ((RdTo.refl h).alloc (.cells #[.int .i64 0, .int .i64 0, .int .i64 0, .int .i64 0] 43))
  have hr0 : r.1.length ≤ 1000000 := hl
  obtain ⟨W0, hW0⟩ : ∃ W0, W.alloc (.cells #[.int .i64 0, .int .i64 0, .int .i64 0, .int .i64 0] 43) = W0 := ⟨_, rfl⟩
  rw [hW0] at K0 T0
  clear h hl
  go_enter Tryz.func64, Tryz.ntmps64
  go_wp2_with fail
  refine (rd_int p r W0 T0.out.blk (by first | exact hr0 | exact hr0.out)).mono ?_
  rintro e W1 ⟨rfl, t1⟩
  have K1 := Lib.hid (t1.keep K0.out hne)
  have T1 := Lib.hid (T0.out.trans t1)
  have hr1 := Lib.hid (Nat.le_trans (numR_len r) (by first | exact hr0 | exact hr0.out))
  clear t1
  go_wp2_with fail
  refine (rd_int p (numR r).2 W1 T1.out.blk (by first | exact hr0 | exact hr1.out)).mono ?_
  rintro e W2 ⟨rfl, t2⟩
  have K2 := Lib.hid (t2.keep K1.out hne)
  have T2 := Lib.hid (T1.out.trans t2)
  have hr2 := Lib.hid (Nat.le_trans (numR_len (numR r).2) (by first | exact hr0 | exact hr1.out))
  clear t2
  go_wp2_with fail
  refine (rd_int p (numR (numR r).2).2 W2 T2.out.blk (by first | exact hr0 | exact hr2.out)).mono ?_
  rintro e W3 ⟨rfl, t3⟩
  have K3 := Lib.hid (t3.keep K2.out hne)
  have T3 := Lib.hid (T2.out.trans t3)
  have hr3 := Lib.hid (Nat.le_trans (numR_len (numR (numR r).2).2) (by first | exact hr0 | exact hr2.out))
  clear t3
  go_wp2_with fail
  refine (rd_int p (numR (numR (numR r).2).2).2 W3 T3.out.blk (by first | exact hr0 | exact hr3.out)).mono ?_
  rintro e W4 ⟨rfl, t4⟩
  have K4 := Lib.hid (t4.keep K3.out hne)
  have T4 := Lib.hid (T3.out.trans t4)
  have hr4 := Lib.hid (Nat.le_trans (numR_len (numR (numR (numR r).2).2).2) (by first | exact hr0 | exact hr3.out))
  clear t4
  have hlt2 : W.heap.size < W4.heap.size := K4.out.lt
  have c0 : W4.cell? ⟨W.heap.size, 0, none⟩ = some (.int .i64 0) := K4.out.cell 0
  have f0 : W4.frozen? ⟨W.heap.size, 0, none⟩ = false := K4.out.frozen 0
  have c1 : W4.cell? ⟨W.heap.size, 1, none⟩ = some (.int .i64 0) := K4.out.cell 1
  have f1 : W4.frozen? ⟨W.heap.size, 1, none⟩ = false := K4.out.frozen 1
  have c2 : W4.cell? ⟨W.heap.size, 2, none⟩ = some (.int .i64 0) := K4.out.cell 2
  have f2 : W4.frozen? ⟨W.heap.size, 2, none⟩ = false := K4.out.frozen 2
  have c3 : W4.cell? ⟨W.heap.size, 3, none⟩ = some (.int .i64 0) := K4.out.cell 3
  have f3 : W4.frozen? ⟨W.heap.size, 3, none⟩ = false := K4.out.frozen 3
  go_wp2
  have KF := Lib.hid ((((K4.out.set_ 0 (.int .i64 (wrapI (numR r).1))).set_ 1 (.int .i64 (wrapI (numR (numR r).2).1))).set_ 2 (.int .i64 (wrapI (numR (numR (numR r).2).2).1))).set_ 3 (.int .i64 (wrapI (numR (numR (numR (numR r).2).2).2).1)))
  have TF := Lib.hid ((((T4.out.set (Nat.le_refl _) hne.symm 0 (.int .i64 (wrapI (numR r).1))).set (Nat.le_refl _) hne.symm 1 (.int .i64 (wrapI (numR (numR r).2).1))).set (Nat.le_refl _) hne.symm 2 (.int .i64 (wrapI (numR (numR (numR r).2).2).1))).set (Nat.le_refl _) hne.symm 3 (.int .i64 (wrapI (numR (numR (numR (numR r).2).2).2).1)))
  have d0 := KF.out.cell 0
  have d1 := KF.out.cell 1
  have d2 := KF.out.cell 2
  have d3 := KF.out.cell 3
  refine bodyPost_ret (v := .agg #[.int .i64 (wrapI (numR r).1), .int .i64 (wrapI (numR (numR r).2).1), .int .i64 (wrapI (numR (numR (numR r).2).2).1), .int .i64 (wrapI (numR (numR (numR (numR r).2).2).2).1)]) (by simp (maxDischargeDepth := 9) [results, Tryz.results64, go_sem, d0, d1, d2, d3]) rfl ?_
  exact ⟨rfl, TF.out⟩
theorem rd_sets (p : Nat) (r : Rd) (W : World) (h : RdAt W p r) (hl : r.1.length ≤ 1000000) :
    Calls Tryz.prog 65 #[.pointer (some ⟨p, 0, none⟩)] W fun u W' => u = .returned (.agg #[.int .u64 (setsR r).1.rd, .int .u64 (setsR r).1.wr, .int .u64 (setsR r).1.ow]) ∧ RdTo p W W' (setsR r).2 := by
  have hlt := h.lt
  have hne : W.heap.size ≠ p := by omega
  have K0 := Lib.hid (Blk.new W 46 #[.int .u64 0, .int .u64 0, .int .u64 0])
  have T0 := Lib.hid ((RdTo.refl h).alloc (.cells #[.int .u64 0, .int .u64 0, .int .u64 0] 46))
  have hr0 : r.1.length ≤ 1000000 := hl
  obtain ⟨W0, hW0⟩ : ∃ W0, W.alloc (.cells #[.int .u64 0, .int .u64 0, .int .u64 0] 46) = W0 := ⟨_, rfl⟩
  rw [hW0] at K0 T0
  clear h hl
  go_enter Tryz.func65, Tryz.ntmps65
  go_wp2_with fail
  refine (rd_u64 p r W0 T0.out.blk (by first | exact hr0 | exact hr0.out)).mono ?_
  rintro e W1 ⟨rfl, t1⟩
  have K1 := Lib.hid (t1.keep K0.out hne)
  have T1 := Lib.hid (T0.out.trans t1)
  have hr1 := Lib.hid (Nat.le_trans (numR_len r) (by first | exact hr0 | exact hr0.out))
  clear t1
  go_wp2_with fail
  refine (rd_u64 p (numR r).2 W1 T1.out.blk (by first | exact hr0 | exact hr1.out)).mono ?_
  rintro e W2 ⟨rfl, t2⟩
  have K2 := Lib.hid (t2.keep K1.out hne)
  have T2 := Lib.hid (T1.out.trans t2)
  have hr2 := Lib.hid (Nat.le_trans (numR_len (numR r).2) (by first | exact hr0 | exact hr1.out))
  clear t2
  go_wp2_with fail
  refine (rd_u64 p (numR (numR r).2).2 W2 T2.out.blk (by first | exact hr0 | exact hr2.out)).mono ?_
  rintro e W3 ⟨rfl, t3⟩
  have K3 := Lib.hid (t3.keep K2.out hne)
  have T3 := Lib.hid (T2.out.trans t3)
  have hr3 := Lib.hid (Nat.le_trans (numR_len (numR (numR r).2).2) (by first | exact hr0 | exact hr2.out))
  clear t3
  have hlt2 : W.heap.size < W3.heap.size := K3.out.lt
  have c0 : W3.cell? ⟨W.heap.size, 0, none⟩ = some (.int .u64 0) := K3.out.cell 0
  have f0 : W3.frozen? ⟨W.heap.size, 0, none⟩ = false := K3.out.frozen 0
  have c1 : W3.cell? ⟨W.heap.size, 1, none⟩ = some (.int .u64 0) := K3.out.cell 1
  have f1 : W3.frozen? ⟨W.heap.size, 1, none⟩ = false := K3.out.frozen 1
  have c2 : W3.cell? ⟨W.heap.size, 2, none⟩ = some (.int .u64 0) := K3.out.cell 2
  have f2 : W3.frozen? ⟨W.heap.size, 2, none⟩ = false := K3.out.frozen 2
  go_wp2
  have KF := Lib.hid (((K3.out.set_ 0 (.int .u64 ((numR r).1 : Nat))).set_ 1 (.int .u64 ((numR (numR r).2).1 : Nat))).set_ 2 (.int .u64 ((numR (numR (numR r).2).2).1 : Nat)))
  have TF := Lib.hid (((T3.out.set (Nat.le_refl _) hne.symm 0 (.int .u64 ((numR r).1 : Nat))).set (Nat.le_refl _) hne.symm 1 (.int .u64 ((numR (numR r).2).1 : Nat))).set (Nat.le_refl _) hne.symm 2 (.int .u64 ((numR (numR (numR r).2).2).1 : Nat)))
  have d0 := KF.out.cell 0
  have d1 := KF.out.cell 1
  have d2 := KF.out.cell 2
  refine bodyPost_ret (v := .agg #[.int .u64 ((numR r).1 : Nat), .int .u64 ((numR (numR r).2).1 : Nat), .int .u64 ((numR (numR (numR r).2).2).1 : Nat)]) (by simp (maxDischargeDepth := 9) [results, Tryz.results65, go_sem, d0, d1, d2]) rfl ?_
  exact ⟨rfl, TF.out⟩
theorem rd_text (p : Nat) (r : Rd) (W : World) (h : RdAt W p r) (hl : r.1.length ≤ 1000000) :
    Calls Tryz.prog 61 #[.pointer (some ⟨p, 0, none⟩)] W fun u W' => u = .returned (str (textR r).1) ∧ RdTo p W W' (textR r).2 := by
  have HH := Lib.hid h
  clear h
  go_enter Tryz.func61, Tryz.ntmps61
  go_wp2_with fail
  refine (rd_int p r W HH.out hl).mono ?_
  rintro e W1 ⟨rfl, t1⟩
  have T1 := Lib.hid t1
  clear t1
  go_wp2_with fail
  refine (rd_bytes p _ _ W1 T1.out.blk).mono ?_
  rintro e W2 ⟨rfl, t2⟩
  have T2 := Lib.hid (T1.out.trans t2)
  clear t2
  go_wp2
  go_ret
  exact ⟨rfl, T2.out⟩
/-- The slice v is the call's own and reads as a list of elements of k cells each. -/
def Own {α : Type} (c : α → List Value) (e : TypeId) (k : Nat) (w : World) (v : Value) (l : List α) : Prop := w.ownsRow 0 e k v l.length (l.flatMap c)
section
variable {α : Type} {c : α → List Value} {e : TypeId} {k : Nat} {w w' : World} {v : Value} {l : List α}
theorem Own.nil (c : α → List Value) (e : TypeId) (k : Nat) (w : World) : Own c e k w (.slice none 0 0) [] := World.ownsRow_nil w 0 _ _
theorem Own.lt (h : Own c e k w v l) (q : Nat) (hq : v.ownBlock = some q) : q < w.heap.size := (World.ownsRow.lt h q hq).2
theorem Own.alloc (h : Own c e k w v l) (o : Obj) : Own c e k (w.alloc o) v l := World.ownsRow.alloc h o
theorem Own.drew (h : Own c e k w v l) : Own c e k w.drew v l := h
theorem Own.drewN (h : Own c e k w v l) (n : Nat) : Own c e k (w.drewN n) v l := h
theorem Own.chg {S : Nat → Prop} (h : Own c e k w v l) (hb : Chg S w w') (hv : ∀ q, v.ownBlock = some q → ¬ S q) : Own c e k w' v l := by
  rcases hq : v.ownBlock with _ | q
  · rcases h.2 with ⟨rfl, he⟩ | ⟨g, cap, cur, rfl, _⟩
    · exact ⟨h.1, .inl ⟨rfl, he⟩⟩
    · simp [Value.ownBlock] at hq
  · obtain ⟨h1, h2⟩ := h
    refine ⟨h1, ?_⟩
    rcases h2 with ⟨rfl, he⟩ | ⟨g, cap, cur, rfl, hb0, hg, hr⟩
    · exact .inl ⟨rfl, he⟩
    · have e1 : g = q := by simpa [Value.ownBlock] using hq
      have hlt : g < w.heap.size := (World.ownsRow.lt (v := .slice (some ⟨g, 0, none⟩) l.length cap) ⟨h1, .inr ⟨g, cap, cur, rfl, hb0, hg, hr⟩⟩ g rfl).2
      exact .inr ⟨g, cap, cur, rfl, hb0, (hb.block g hlt (hv g (by simp [Value.ownBlock]))).trans hg, hr⟩
theorem Own.below (h : Own c e k w v l) (hb : Below w.heap.size w w') : Own c e k w' v l := h.chg (S := fun _ => False) ⟨hb.os, hb.tape, hb.output, hb.size, fun q hq _ => hb.block q hq⟩ (fun _ _ h => h)
theorem Own.outTo {u u' : Value} (h : Own c e k w v l) (hb : OutTo w u w' u') (hv : ∀ q, v.ownBlock = some q → u.ownBlock ≠ some q) : Own c e k w' v l := h.chg hb.chg hv
theorem Own.sls (h : Own c e k w v l) (hm : l.length ≤ maxLen) : Sls c w w.heap.size v l := Sls.of_own h hm
end
section
variable {P : Program} {α : Type}
/-- A list more. -/
theorem run_more (w : World) (c : α → List Value) (t ty e : TypeId) (i : TypeInfo) (z : Value) (size bytes : Nat) (ht : P.underlying t = some (.slice e)) (hi : P.info? e = some i) (hz : i.zero = some z)
    (hsize : i.size = size) (hby : i.bytes = bytes) (hzs : z.cells.size = size) (hsz : 0 < size) (v : Value) (l : List α) (hown : Own c e size w v l) (B : Nat) (v2 : Value) (l2 : List α) (hl : Sls c w B v2 l2)
    (hk : ∀ x, (c x).length = size) (h1 : ∀ x, ∀ u ∈ c x, u.oneCell' = true) (hn : l.length + l2.length ≤ 1000000) (hb : bytes ≤ 1000000) :
    ∃ v' w', (Builtin.append_ #[t, t] ty #[v, v2]).run P w = .ok v' w' ∧ Own c e size w' v' (l ++ l2) ∧ OutTo w v w' v' := by
  obtain ⟨A, cap, rfl, hc, hm, hr⟩ := hl
  rcases A with _ | ad
  · have h0 : l2.length = 0 := by
      rcases Nat.eq_zero_or_pos l2.length with h0 | h0
      · exact h0
      · obtain ⟨b, o, h, _⟩ := hr h0
        cases h
    have hn : l2 = [] := List.eq_nil_of_length_eq_zero h0
    subst hn
    rw [List.append_nil]
    refine ⟨v, w, ?_, hown, OutTo.refl _ _⟩
    rcases hown.2 with ⟨rfl, he⟩ | ⟨g, cp, cur, rfl, hb0, hg, hnc, hcm, hcs, htake⟩
    · simp [Builtin.append_, run_underlying ht, sizeOf, typeInfo, hi, Builtin.lenOf, Builtin.firstCells]
    · simp [Builtin.append_, run_underlying ht, sizeOf, typeInfo, hi, Builtin.lenOf, Builtin.firstCells, hnc, storeCells]
  · have hcells : ∀ j u, (l2.flatMap c)[j]? = some u → w.cell? (ad.add j) = some u := by
      intro j u hu
      rcases Nat.eq_zero_or_pos l2.length with h0 | h0
      · have hn : l2 = [] := List.eq_nil_of_length_eq_zero h0
        subst hn
        simp at hu
      · obtain ⟨b, o, h, _, hg⟩ := hr h0
        injection h with h
        subst h
        rw [Addr.add_mid]
        exact hg j u hu
    have hmul : (l.length + l2.length) * bytes ≤ 1000000 * 1000000 := Nat.mul_le_mul hn hb
    obtain ⟨v', w', hrun, h2, h3, h4, h5⟩ := run_append_own_at (P := P) w 0 t ty e i z size bytes ht hi hz hsize hby hzs hsz v l.length (l.flatMap c) hown ad l2.length cap (l2.flatMap c) (flatMap_length c size hk l2) hcells
      (by intro u hu; obtain ⟨x, _, hx⟩ := List.mem_flatMap.1 hu; exact h1 x u hx) (by unfold maxLen; omega) (by omega) (Nat.zero_le _)
    refine ⟨v', w', hrun, ?_, ⟨⟨h3.os, h3.tape, h3.output, h3.size, fun k hk hs => h3.block k hk (fun e => hs e.symm)⟩, fun k hk => ?_⟩⟩
    · show w'.ownsRow 0 e size v' (l ++ l2).length ((l ++ l2).flatMap c)
      rw [List.length_append, List.flatMap_append]
      exact h2
    · rcases h5 with h5 | h5
      · exact .inl (h5 ▸ hk)
      · rw [h5] at hk
        exact .inr (by simp at hk; omega)
theorem wpList_more {w : World} (c : α → List Value) {ops : Array Oper} {rest : List Oper} {o : Oper} {a : Act} {Q : Exit → Act → World → Prop} (hgd : o.guard = none) (s x : Operand) (t : TypeId)
    (ho : o.op = .call { callee := .builtin .append, args := #[s, x], argTypes := #[t, t] })
    (e : TypeId) (i : TypeInfo) (z : Value) (size bytes : Nat) (ht : P.underlying t = some (.slice e)) (hi : P.info? e = some i) (hz : i.zero = some z)
    (hsize : i.size = size) (hby : i.bytes = bytes) (hzs : z.cells.size = size) (hsz : 0 < size) (v : Value) (l : List α) (hs : a.eval s = v) (hown : Own c e size w v l) (B : Nat) (v2 : Value) (l2 : List α) (hx : a.eval x = v2) (hl : Sls c w B v2 l2)
    (hk : ∀ x, (c x).length = size) (h1 : ∀ x, ∀ u ∈ c x, u.oneCell' = true) (hn : l.length + l2.length ≤ 1000000) (hb : bytes ≤ 1000000)
    (h : ∀ v' w', Own c e size w' v' (l ++ l2) → OutTo w v w' v' → wpList P ops Q rest (a.put o.dst v') w') : wpList P ops Q (o :: rest) a w := by
  obtain ⟨v', w', hrun, h2, h3⟩ := run_more (P := P) w c t o.type e i z size bytes ht hi hz hsize hby hzs hsz v l hown B v2 l2 hl hk h1 hn hb
  refine wpList_plain hgd fun K hK => ?_
  unfold Oper.wp execOp
  simp only [ho, resolve, invoke, builtin, Sem.run_bind, Sem.run_pure, Result.andThen_ok, List.map_toArray, List.map_cons, List.map_nil, hs, hx, hrun]
  exact hK _ _ (h v' w' h2 h3)
end
section
variable {P : Program} {ops : Array Oper} {o : Oper} {a : Act} {w : World} {K : Act → World → Prop} {Q : Exit → Act → World → Prop} {E : Prop}
variable {rest : List Oper}
theorem wpList_append_eq (hgd : o.guard = none) (s x : Operand) (t t2 : TypeId) (ho : o.op = .call { callee := .builtin .append, args := #[s, x], argTypes := #[t, t2] })
    (sv xv v : Value) (w' : World) (hs : a.eval s = sv) (hx : a.eval x = xv) (hrun : (Builtin.append_ #[t, t2] o.type #[sv, xv]).run P w = .ok v w') (h : wpList P ops Q rest (a.put o.dst v) w') : wpList P ops Q (o :: rest) a w := by
  refine wpList_plain hgd fun K hK => ?_
  unfold Oper.wp execOp
  simp only [ho, resolve, invoke, builtin, Sem.run_bind, Sem.run_pure, Result.andThen_ok, List.map_toArray, List.map_cons, List.map_nil, hs, hx, hrun]
  exact hK _ _ h
end
section
variable {α : Type} {c : α → List Value} {k : Nat} (hk : ∀ x, (c x).length = k)
include hk
theorem flat_take : ∀ (l : List α) (j : Nat), (l.flatMap c).take (j * k) = (l.take j).flatMap c
  | [], j => by simp
  | x :: l, 0 => by simp
  | x :: l, j + 1 => by
    rw [List.flatMap_cons, List.take_succ_cons, List.flatMap_cons, ← flat_take l j, List.take_append, hk, List.take_of_length_le (by rw [hk, Nat.add_mul]; omega)]
    congr 2
    rw [Nat.add_mul]
    omega
theorem flat_drop : ∀ (l : List α) (j : Nat), (l.flatMap c).drop (j * k) = (l.drop j).flatMap c
  | [], j => by simp
  | x :: l, 0 => by simp
  | x :: l, j + 1 => by
    rw [List.flatMap_cons, List.drop_succ_cons, ← flat_drop l j, List.drop_append, hk, List.drop_of_length_le (by rw [hk, Nat.add_mul]; omega)]
    rw [List.nil_append]
    congr 1
    rw [Nat.add_mul]
    omega
end
section
variable {α : Type} {c : α → List Value} {k : Nat} (hk : ∀ x, (c x).length = k)
include hk
end
/-- The row of a list of the call's own, written out. -/
theorem Own.row {α : Type} {c : α → List Value} {e : TypeId} {k : Nat} (_hk : ∀ x, (c x).length = k) {w : World} {v : Value} {l : List α} (h : Own c e k w v l) (hl : 0 < l.length) :
    ∃ g cap cur, v = .slice (some ⟨g, 0, none⟩) l.length cap ∧ w.heap[g]? = some (.cells cur e (0, 0)) ∧ l.length ≤ cap ∧ cap ≤ maxLen ∧ cur.size = cap * k ∧ cur.toList.take (l.length * k) = l.flatMap c := by
  obtain ⟨h1, h2⟩ := h
  rcases h2 with ⟨he, e2⟩ | ⟨g, cap, cur, rfl, hb0, hg, hnc, hcm, hcs, htake⟩
  · omega
  · exact ⟨g, cap, cur, rfl, hg, hnc, hcm, hcs, htake⟩
theorem NoPanic.put {Q : Exit → Act → World → Prop} {c : _} {a : Act} {d : Option Tmp} {v : Value} {w : World} (h : NoPanic Q (.panic c) (a.put d v) w) : NoPanic Q (.panic c) a w := (h : False).elim
theorem wpAnyU_step {P : Program} {md : Region.Mode} {ops : Array Oper} {Q : Exit → Act → World → Prop} {S : World → Prop} {s : Nat} (i : Nat) {o : Oper} {fuel : Nat} {listed : Array Bool} {a : Act} {w : World} (hr : Region.ready md ops listed = [i]) (ho : ops[i]? = some o) (hg : o.guard = none)
    (h : ∀ K' : Act → World → Prop, Shut (∀ a' w', ((listed.setIfInBounds i true).getD s true = false → S w') → wpAnyU P md ops Q S s fuel (listed.setIfInBounds i true) a' w' → K' a' w') → o.wp P a w K' Q) : wpAnyU P md ops Q S s (fuel + 1) listed a w :=
  wpAnyU_one i hr ho hg (h _ (fun _ _ h1 h2 => ⟨h1, h2⟩))
section
variable {P : Program} {o : Oper} {a : Act} {w : World} {K : Act → World → Prop} {Q : Exit → Act → World → Prop}
theorem wp_append_eq (s x : Operand) (t t2 : TypeId) (ho : o.op = .call { callee := .builtin .append, args := #[s, x], argTypes := #[t, t2] })
    (sv xv v : Value) (w' : World) (hs : a.eval s = sv) (hx : a.eval x = xv) (hrun : (Builtin.append_ #[t, t2] o.type #[sv, xv]).run P w = .ok v w') (h : K (a.put o.dst v) w') : Oper.wp P o a w K Q := by
  unfold Oper.wp
  simp [execOp, ho, resolve, invoke, builtin, hs, hx, hrun, Result.andThen]
  exact h
end
/-- The four lists that Read makes: each of the call's own, in blocks from B on, no two in one. -/
structure L4 (B : Nat) (W : World) (e r g o : Value) (le : List Ent) (lr : List Rul) (lg : List Grt) (lo : List Opr) : Prop where
  oe : Own cEnt 58 3 W e le
  oru : Own cRul 79 7 W r lr
  og : Own cGrt 85 8 W g lg
  oo : Own cOpr 48 13 W o lo
  be : ∀ q, e.ownBlock = some q → B ≤ q
  br : ∀ q, r.ownBlock = some q → B ≤ q
  bg : ∀ q, g.ownBlock = some q → B ≤ q
  bo : ∀ q, o.ownBlock = some q → B ≤ q
  er : ∀ q, e.ownBlock = some q → r.ownBlock ≠ some q
  eg : ∀ q, e.ownBlock = some q → g.ownBlock ≠ some q
  eo : ∀ q, e.ownBlock = some q → o.ownBlock ≠ some q
  rg : ∀ q, r.ownBlock = some q → g.ownBlock ≠ some q
  ro : ∀ q, r.ownBlock = some q → o.ownBlock ≠ some q
  go' : ∀ q, g.ownBlock = some q → o.ownBlock ≠ some q
section
variable {B : Nat} {W W' : World} {e r g o : Value} {le : List Ent} {lr : List Rul} {lg : List Grt} {lo : List Opr}
theorem L4.chg {S : Nat → Prop} (h : L4 B W e r g o le lr lg lo) (hb : Chg S W W') (hS : ∀ k, S k → e.ownBlock ≠ some k ∧ r.ownBlock ≠ some k ∧ g.ownBlock ≠ some k ∧ o.ownBlock ≠ some k) : L4 B W' e r g o le lr lg lo :=
  { h with
    oe := h.oe.chg hb fun q hq hs => (hS q hs).1 hq
    oru := h.oru.chg hb fun q hq hs => (hS q hs).2.1 hq
    og := h.og.chg hb fun q hq hs => (hS q hs).2.2.1 hq
    oo := h.oo.chg hb fun q hq hs => (hS q hs).2.2.2 hq }
theorem L4.below (h : L4 B W e r g o le lr lg lo) (hb : Below W.heap.size W W') : L4 B W' e r g o le lr lg lo := h.chg (S := fun _ => False) ⟨hb.os, hb.tape, hb.output, hb.size, fun q hq _ => hb.block q hq⟩ (fun _ h => h.elim)
theorem L4.set (h : L4 B W e r g o le lr lg lo) {p : Addr} (hp : e.ownBlock ≠ some p.block ∧ r.ownBlock ≠ some p.block ∧ g.ownBlock ≠ some p.block ∧ o.ownBlock ≠ some p.block) (u : Value) : L4 B (W.setCell p u) e r g o le lr lg lo :=
  h.chg (S := fun k => k = p.block) ((Chg.refl (fun k => k = p.block) W).setCell (p := p) (.inl rfl) u) (fun k hk => by subst hk; exact hp)
end
end Go.Proofs.YtamcgggmfghljaaGreatDoor
