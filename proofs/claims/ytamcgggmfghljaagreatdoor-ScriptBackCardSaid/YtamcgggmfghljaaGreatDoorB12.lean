/- Layer 41 (program): the reader's operation, walked (printed by tools/gen_rdq.py). · Go's strconv.Itoa below ten. · Layer 41: spot, crowd, crowds, field (program). -/
import Derived.Deep.Cut
import Derived.Laws.CopyOwn
import Derived.Test.YtamcgggmfghljaaGreatDoorB11
set_option maxRecDepth 100000
set_option maxHeartbeats 8000000
namespace Go.Proofs.YtamcgggmfghljaaGreatDoor
open Go.RowKit
theorem OpTo.rd {p g : Nat} {W W1 W2 : World} {r1 r2 : Rd} {x : Opr} (h : RdTo p W W1 r1) (k : OpTo p g W1 W2 r2 x) (hg : W.heap.size ≤ g) : RdTo p W W2 r2 :=
  ⟨k.blk, ⟨k.chg.os.trans h.chg.os, k.chg.tape.trans h.chg.tape, k.chg.output.trans h.chg.output, Nat.le_trans h.chg.size k.chg.size, fun i hi hs =>
    (k.chg.block i (Nat.lt_of_lt_of_le hi h.chg.size) (by rintro (e | e); exact hs e; omega)).trans (h.chg.block i hi hs)⟩⟩
theorem OpTo.trans {p g : Nat} {W W1 W2 : World} {r1 r2 : Rd} {x1 x2 : Opr} (h : OpTo p g W W1 r1 x1) (k : OpTo p g W1 W2 r2 x2) : OpTo p g W W2 r2 x2 := ⟨k.blk, k.op, h.chg.trans k.chg⟩
theorem OpTo.keep {p g q : Nat} {W W' : World} {r : Rd} {x : Opr} {t : TypeId} {cs : Array Value} (h : OpTo p g W W' r x) (hb : Blk W q t cs) (h1 : q ≠ p) (h2 : q ≠ g) : Blk W' q t cs := hb.chg h.chg (by rintro (e | e); exact h1 e; exact h2 e)
theorem rd_operation (p : Nat) (r : Rd) (W : World) (h : RdAt W p r) (hl : r.1.length ≤ 1000000) :
    Calls Tryz.prog 75 #[.pointer (some ⟨p, 0, none⟩)] W fun u W' => u = .returned (.agg (cOpr (oprR r).1).toArray) ∧ RdTo p W W' (oprR r).2 := by
  have hlt := h.lt
  have hcp : W.heap.size ≠ p := by omega
  have hdp : W.heap.size + 1 ≠ p := by omega
  have T0 := Lib.hid (((RdTo.refl h).alloc (.cells #[.pointer (some ⟨p, 0, none⟩)] 95)).alloc (.cells #[.int .u8 0, .int .i64 0, .int .i64 0, .int .i64 0, .int .i64 0, .int .i64 0, str [], .int .u64 0, .int .u64 0, .int .u64 0, .int .u8 0, .int .u64 0, .int .i64 0] 48))
  have C0 := Lib.hid ((Blk.new W 95 #[.pointer (some ⟨p, 0, none⟩)]).alloc (.cells #[.int .u8 0, .int .i64 0, .int .i64 0, .int .i64 0, .int .i64 0, .int .i64 0, str [], .int .u64 0, .int .u64 0, .int .u64 0, .int .u8 0, .int .u64 0, .int .i64 0] 48))
  have D0 := Lib.hid (show Blk ((W.alloc (.cells #[.pointer (some ⟨p, 0, none⟩)] 95)).alloc (.cells #[.int .u8 0, .int .i64 0, .int .i64 0, .int .i64 0, .int .i64 0, .int .i64 0, str [], .int .u64 0, .int .u64 0, .int .u64 0, .int .u8 0, .int .u64 0, .int .i64 0] 48)) (W.heap.size + 1) 48 #[.int .u8 0, .int .i64 0, .int .i64 0, .int .i64 0, .int .i64 0, .int .i64 0, str [], .int .u64 0, .int .u64 0, .int .u64 0, .int .u8 0, .int .u64 0, .int .i64 0] from by
    have := Blk.new (W.alloc (.cells #[.pointer (some ⟨p, 0, none⟩)] 95)) 48 #[.int .u8 0, .int .i64 0, .int .i64 0, .int .i64 0, .int .i64 0, .int .i64 0, str [], .int .u64 0, .int .u64 0, .int .u64 0, .int .u8 0, .int .u64 0, .int .i64 0]
    simpa using this)
  have HE0 := Lib.hid (oprR_st r)
  clear h
  go_enter Tryz.func75, Tryz.ntmps75
  go_wp2_with fail
  have hC := rd_u8 p r _ T0.out.blk hl
  have hL := numR_len r
  obtain ⟨q1, hq⟩ : ∃ q, numR r = q := ⟨_, rfl⟩
  rw [hq] at hC hL
  have HQ1 := Lib.hid hq
  clear hq
  refine hC.mono ?_
  rintro e W1 ⟨rfl, t1⟩
  have C1 := Lib.hid (t1.keep C0.out hcp)
  have D1 := Lib.hid (t1.keep D0.out hdp)
  have T1 := Lib.hid (T0.out.trans t1)
  have hr1 := Lib.hid (Nat.le_trans hL hl)
  clear t1 hC hL
  generalize hx : ((q1.1 % 256 : Nat) : Int) = kd
  have HE1 := Lib.hid (HE0.out.trans (by rw [u8R_q HQ1.out hx] : _ = stO kd (numR q1.2).1 (numR q1.2).2 7))
  clear hx
  have hlt1 : W.heap.size + 1 < W1.heap.size := D1.out.lt
  have G1 := Lib.hid (show Blk (W1.alloc (.cells #[.int .u8 kd, .int .i64 0, .int .i64 0, .int .i64 0, .int .i64 0, .int .i64 0, .string ⟨#[]⟩, .int .u64 0, .int .u64 0, .int .u64 0, .int .u8 0, .int .u64 0, .int .i64 0] 48)) W1.heap.size 48 (cOpr (stO kd (numR q1.2).1 (numR q1.2).2 0).1).toArray from Blk.new W1 48 _)
  go_upto_region 2 with (fail)
  have T2 := Lib.hid (T1.out.alloc (.cells #[.int .u8 kd, .int .i64 0, .int .i64 0, .int .i64 0, .int .i64 0, .int .i64 0, .string ⟨#[]⟩, .int .u64 0, .int .u64 0, .int .u64 0, .int .u8 0, .int .u64 0, .int .i64 0] 48))
  have C2 := Lib.hid (C1.out.alloc (.cells #[.int .u8 kd, .int .i64 0, .int .i64 0, .int .i64 0, .int .i64 0, .int .i64 0, .string ⟨#[]⟩, .int .u64 0, .int .u64 0, .int .u64 0, .int .u8 0, .int .u64 0, .int .i64 0] 48))
  have D2 := Lib.hid (D1.out.alloc (.cells #[.int .u8 kd, .int .i64 0, .int .i64 0, .int .i64 0, .int .i64 0, .int .i64 0, .string ⟨#[]⟩, .int .u64 0, .int .u64 0, .int .u64 0, .int .u8 0, .int .u64 0, .int .i64 0] 48))
  obtain ⟨W2, hW2⟩ : ∃ W2, W1.alloc (.cells #[.int .u8 kd, .int .i64 0, .int .i64 0, .int .i64 0, .int .i64 0, .int .i64 0, .string ⟨#[]⟩, .int .u64 0, .int .u64 0, .int .u64 0, .int .u8 0, .int .u64 0, .int .i64 0] 48) = W2 := ⟨_, rfl⟩
  rw [hW2] at G1 T2 C2 D2 ⊢
  obtain ⟨g, hg⟩ : ∃ g, W1.heap.size = g := ⟨_, rfl⟩
  rw [hg] at G1 hlt1 ⊢
  have hgp : g ≠ p := by omega
  have hgc : W.heap.size ≠ g := by omega
  clear hW2 hg T1 C1 D1 T0 C0 D0 HE0
  have c0 : W2.cell? ⟨W.heap.size, 0, none⟩ = some (.pointer (some ⟨p, 0, none⟩)) := C2.out.cell 0
  go_wp2_with fail
  have hC := rd_int p q1.2 W2 T2.out.blk hr1.out
  have hL := numR_len q1.2
  obtain ⟨q2, hq⟩ : ∃ q, numR q1.2 = q := ⟨_, rfl⟩
  rw [hq] at hC hL
  have HE2 := Lib.hid (HE1.out.trans (by rw [hq] : _ = stO kd q2.1 q2.2 7))
  have HG0 := Lib.hid (show Blk W2 g 48 (cOpr (stO kd q2.1 q2.2 0).1).toArray from G1.out)
  clear hq G1 HE1
  refine hC.mono ?_
  rintro e W3 ⟨rfl, t1⟩
  have C3 := Lib.hid (t1.keep C2.out hcp)
  have D3 := Lib.hid (t1.keep D2.out hdp)
  have G3 := Lib.hid (t1.keep HG0.out hgp)
  have T3 := Lib.hid (T2.out.trans t1)
  have hr3 := Lib.hid (Nat.le_trans hL hr1.out)
  clear t1 hC hL T2 C2 D2 HG0 c0
  have HB0 := Lib.hid (bit_0 q2.1)
  have HB1 := Lib.hid (bit_1 q2.1)
  have HB2 := Lib.hid (bit_2 q2.1)
  have HB3 := Lib.hid (bit_3 q2.1)
  have HB4 := Lib.hid (bit_4 q2.1)
  have HB5 := Lib.hid (bit_5 q2.1)
  have HB6 := Lib.hid (bit_6 q2.1)
  generalize hM : wrapI q2.1 = M
  rw [hM] at HB0 HB1 HB2 HB3 HB4 HB5 HB6
  clear hM
  have hf3 : g < W3.heap.size := G3.out.lt
  have hfp : p < W3.heap.size := Nat.lt_of_lt_of_le hlt T3.out.chg.size
  have G4 := Lib.hid (G3.out.alloc (.cells #[.func (.func 146) #[] #[.pointer (some ⟨W.heap.size, 0, none⟩), .pointer (some ⟨g, 0, none⟩)], .func (.func 147) #[] #[.pointer (some ⟨W.heap.size, 0, none⟩), .pointer (some ⟨g, 0, none⟩)], .func (.func 148) #[] #[.pointer (some ⟨W.heap.size, 0, none⟩), .pointer (some ⟨g, 0, none⟩)], .func (.func 149) #[] #[.pointer (some ⟨W.heap.size, 0, none⟩), .pointer (some ⟨g, 0, none⟩)], .func (.func 150) #[] #[.pointer (some ⟨W.heap.size, 0, none⟩), .pointer (some ⟨g, 0, none⟩)], .func (.func 151) #[] #[.pointer (some ⟨W.heap.size, 0, none⟩), .pointer (some ⟨g, 0, none⟩)], .func (.func 152) #[] #[.pointer (some ⟨W.heap.size, 0, none⟩), .pointer (some ⟨g, 0, none⟩)]] 1))
  have T4 := Lib.hid (T3.out.alloc (.cells #[.func (.func 146) #[] #[.pointer (some ⟨W.heap.size, 0, none⟩), .pointer (some ⟨g, 0, none⟩)], .func (.func 147) #[] #[.pointer (some ⟨W.heap.size, 0, none⟩), .pointer (some ⟨g, 0, none⟩)], .func (.func 148) #[] #[.pointer (some ⟨W.heap.size, 0, none⟩), .pointer (some ⟨g, 0, none⟩)], .func (.func 149) #[] #[.pointer (some ⟨W.heap.size, 0, none⟩), .pointer (some ⟨g, 0, none⟩)], .func (.func 150) #[] #[.pointer (some ⟨W.heap.size, 0, none⟩), .pointer (some ⟨g, 0, none⟩)], .func (.func 151) #[] #[.pointer (some ⟨W.heap.size, 0, none⟩), .pointer (some ⟨g, 0, none⟩)], .func (.func 152) #[] #[.pointer (some ⟨W.heap.size, 0, none⟩), .pointer (some ⟨g, 0, none⟩)]] 1))
  have C4 := Lib.hid (C3.out.alloc (.cells #[.func (.func 146) #[] #[.pointer (some ⟨W.heap.size, 0, none⟩), .pointer (some ⟨g, 0, none⟩)], .func (.func 147) #[] #[.pointer (some ⟨W.heap.size, 0, none⟩), .pointer (some ⟨g, 0, none⟩)], .func (.func 148) #[] #[.pointer (some ⟨W.heap.size, 0, none⟩), .pointer (some ⟨g, 0, none⟩)], .func (.func 149) #[] #[.pointer (some ⟨W.heap.size, 0, none⟩), .pointer (some ⟨g, 0, none⟩)], .func (.func 150) #[] #[.pointer (some ⟨W.heap.size, 0, none⟩), .pointer (some ⟨g, 0, none⟩)], .func (.func 151) #[] #[.pointer (some ⟨W.heap.size, 0, none⟩), .pointer (some ⟨g, 0, none⟩)], .func (.func 152) #[] #[.pointer (some ⟨W.heap.size, 0, none⟩), .pointer (some ⟨g, 0, none⟩)]] 1))
  have D4 := Lib.hid (D3.out.alloc (.cells #[.func (.func 146) #[] #[.pointer (some ⟨W.heap.size, 0, none⟩), .pointer (some ⟨g, 0, none⟩)], .func (.func 147) #[] #[.pointer (some ⟨W.heap.size, 0, none⟩), .pointer (some ⟨g, 0, none⟩)], .func (.func 148) #[] #[.pointer (some ⟨W.heap.size, 0, none⟩), .pointer (some ⟨g, 0, none⟩)], .func (.func 149) #[] #[.pointer (some ⟨W.heap.size, 0, none⟩), .pointer (some ⟨g, 0, none⟩)], .func (.func 150) #[] #[.pointer (some ⟨W.heap.size, 0, none⟩), .pointer (some ⟨g, 0, none⟩)], .func (.func 151) #[] #[.pointer (some ⟨W.heap.size, 0, none⟩), .pointer (some ⟨g, 0, none⟩)], .func (.func 152) #[] #[.pointer (some ⟨W.heap.size, 0, none⟩), .pointer (some ⟨g, 0, none⟩)]] 1))
  have F4 := Lib.hid (Blk.new W3 1 #[.func (.func 146) #[] #[.pointer (some ⟨W.heap.size, 0, none⟩), .pointer (some ⟨g, 0, none⟩)], .func (.func 147) #[] #[.pointer (some ⟨W.heap.size, 0, none⟩), .pointer (some ⟨g, 0, none⟩)], .func (.func 148) #[] #[.pointer (some ⟨W.heap.size, 0, none⟩), .pointer (some ⟨g, 0, none⟩)], .func (.func 149) #[] #[.pointer (some ⟨W.heap.size, 0, none⟩), .pointer (some ⟨g, 0, none⟩)], .func (.func 150) #[] #[.pointer (some ⟨W.heap.size, 0, none⟩), .pointer (some ⟨g, 0, none⟩)], .func (.func 151) #[] #[.pointer (some ⟨W.heap.size, 0, none⟩), .pointer (some ⟨g, 0, none⟩)], .func (.func 152) #[] #[.pointer (some ⟨W.heap.size, 0, none⟩), .pointer (some ⟨g, 0, none⟩)]])
  go_wp2_with fail
  obtain ⟨W4, hW4⟩ : ∃ W4, W3.alloc (.cells #[.func (.func 146) #[] #[.pointer (some ⟨W.heap.size, 0, none⟩), .pointer (some ⟨g, 0, none⟩)], .func (.func 147) #[] #[.pointer (some ⟨W.heap.size, 0, none⟩), .pointer (some ⟨g, 0, none⟩)], .func (.func 148) #[] #[.pointer (some ⟨W.heap.size, 0, none⟩), .pointer (some ⟨g, 0, none⟩)], .func (.func 149) #[] #[.pointer (some ⟨W.heap.size, 0, none⟩), .pointer (some ⟨g, 0, none⟩)], .func (.func 150) #[] #[.pointer (some ⟨W.heap.size, 0, none⟩), .pointer (some ⟨g, 0, none⟩)], .func (.func 151) #[] #[.pointer (some ⟨W.heap.size, 0, none⟩), .pointer (some ⟨g, 0, none⟩)], .func (.func 152) #[] #[.pointer (some ⟨W.heap.size, 0, none⟩), .pointer (some ⟨g, 0, none⟩)]] 1) = W4 := ⟨_, rfl⟩
  rw [hW4] at G4 T4 C4 D4 F4 ⊢
  obtain ⟨f, hf⟩ : ∃ f, W3.heap.size = f := ⟨_, rfl⟩
  rw [hf] at F4 hf3 hfp ⊢
  clear hW4 hf G3 T3 C3 D3
  have hfp' : f ≠ p := by omega
  have hfg : f ≠ g := by omega
  have hdg : W.heap.size + 1 ≠ g := by omega
  go_loopw [21] (fun i wr => ∃ k : Nat, k ≤ 7 ∧ i = .int .i64 k ∧ OpTo p g W4 wr (stO kd q2.1 q2.2 k).2 (stO kd q2.1 q2.2 k).1) (fun i _ => 7 - (intOf i).toNat)
  case atStart => exact ⟨0, by omega, rfl, T4.out.blk, G4.out, Chg.refl _ _⟩
  case round =>
    rename World => w0
    obtain ⟨k, hk, rfl, ho⟩ := hrel
    have hL := stO_len kd q2.1 q2.2 k
    obtain ⟨st, hst⟩ : ∃ s, stO kd q2.1 q2.2 k = s := ⟨_, rfl⟩
    rw [hst] at ho hL
    obtain ⟨x, rk⟩ := st
    have HST := Lib.hid hst
    have HO := Lib.hid (show OpTo p g W4 w0 rk x from ho)
    have hrk := Lib.hid (show rk.1.length ≤ 1000000 from Nat.le_trans hL hr3.out)
    have CW := Lib.hid (HO.out.keep C4.out hcp hgc)
    have DW := Lib.hid (HO.out.keep D4.out hdp hdg)
    have FW := Lib.hid (HO.out.keep F4.out hfp' hfg)
    clear hst ho hL
    have h8 : k = 7 ∨ k = 0 ∨ k = 1 ∨ k = 2 ∨ k = 3 ∨ k = 4 ∨ k = 5 ∨ k = 6 := by omega
    rcases h8 with rfl | rfl | rfl | rfl | rfl | rfl | rfl | rfl
    · rw [show (((7 : Nat) : Int)) = 7 from rfl]
      have HE := Lib.hid (HE2.out.trans HST.out)
      have TF := Lib.hid (OpTo.rd T4.out HO.out (by omega))
      have e0 : w0.cell? ⟨g, 0, none⟩ = some (.int .u8 x.kind) := HO.out.op.cell 0
      have y0 : w0.cell? ⟨W.heap.size + 1, 0, none⟩ = some (.int .u8 0) := DW.out.cell 0
      have f0 : w0.frozen? ⟨W.heap.size + 1, 0, none⟩ = false := DW.out.frozen 0
      have e1 : w0.cell? ⟨g, 1, none⟩ = some (.int .i64 x.user) := HO.out.op.cell 1
      have y1 : w0.cell? ⟨W.heap.size + 1, 1, none⟩ = some (.int .i64 0) := DW.out.cell 1
      have f1 : w0.frozen? ⟨W.heap.size + 1, 1, none⟩ = false := DW.out.frozen 1
      have e2 : w0.cell? ⟨g, 2, none⟩ = some (.int .i64 x.rect.c1) := HO.out.op.cell 2
      have y2 : w0.cell? ⟨W.heap.size + 1, 2, none⟩ = some (.int .i64 0) := DW.out.cell 2
      have f2 : w0.frozen? ⟨W.heap.size + 1, 2, none⟩ = false := DW.out.frozen 2
      have e3 : w0.cell? ⟨g, 3, none⟩ = some (.int .i64 x.rect.r1) := HO.out.op.cell 3
      have y3 : w0.cell? ⟨W.heap.size + 1, 3, none⟩ = some (.int .i64 0) := DW.out.cell 3
      have f3 : w0.frozen? ⟨W.heap.size + 1, 3, none⟩ = false := DW.out.frozen 3
      have e4 : w0.cell? ⟨g, 4, none⟩ = some (.int .i64 x.rect.c2) := HO.out.op.cell 4
      have y4 : w0.cell? ⟨W.heap.size + 1, 4, none⟩ = some (.int .i64 0) := DW.out.cell 4
      have f4 : w0.frozen? ⟨W.heap.size + 1, 4, none⟩ = false := DW.out.frozen 4
      have e5 : w0.cell? ⟨g, 5, none⟩ = some (.int .i64 x.rect.r2) := HO.out.op.cell 5
      have y5 : w0.cell? ⟨W.heap.size + 1, 5, none⟩ = some (.int .i64 0) := DW.out.cell 5
      have f5 : w0.frozen? ⟨W.heap.size + 1, 5, none⟩ = false := DW.out.frozen 5
      have e6 : w0.cell? ⟨g, 6, none⟩ = some (str x.input) := HO.out.op.cell 6
      have y6 : w0.cell? ⟨W.heap.size + 1, 6, none⟩ = some (str []) := DW.out.cell 6
      have f6 : w0.frozen? ⟨W.heap.size + 1, 6, none⟩ = false := DW.out.frozen 6
      have e7 : w0.cell? ⟨g, 7, none⟩ = some (.int .u64 x.rights.rd) := HO.out.op.cell 7
      have y7 : w0.cell? ⟨W.heap.size + 1, 7, none⟩ = some (.int .u64 0) := DW.out.cell 7
      have f7 : w0.frozen? ⟨W.heap.size + 1, 7, none⟩ = false := DW.out.frozen 7
      have e8 : w0.cell? ⟨g, 8, none⟩ = some (.int .u64 x.rights.wr) := HO.out.op.cell 8
      have y8 : w0.cell? ⟨W.heap.size + 1, 8, none⟩ = some (.int .u64 0) := DW.out.cell 8
      have f8 : w0.frozen? ⟨W.heap.size + 1, 8, none⟩ = false := DW.out.frozen 8
      have e9 : w0.cell? ⟨g, 9, none⟩ = some (.int .u64 x.rights.ow) := HO.out.op.cell 9
      have y9 : w0.cell? ⟨W.heap.size + 1, 9, none⟩ = some (.int .u64 0) := DW.out.cell 9
      have f9 : w0.frozen? ⟨W.heap.size + 1, 9, none⟩ = false := DW.out.frozen 9
      have e10 : w0.cell? ⟨g, 10, none⟩ = some (.int .u8 x.fns) := HO.out.op.cell 10
      have y10 : w0.cell? ⟨W.heap.size + 1, 10, none⟩ = some (.int .u8 0) := DW.out.cell 10
      have f10 : w0.frozen? ⟨W.heap.size + 1, 10, none⟩ = false := DW.out.frozen 10
      have e11 : w0.cell? ⟨g, 11, none⟩ = some (.int .u64 x.to_) := HO.out.op.cell 11
      have y11 : w0.cell? ⟨W.heap.size + 1, 11, none⟩ = some (.int .u64 0) := DW.out.cell 11
      have f11 : w0.frozen? ⟨W.heap.size + 1, 11, none⟩ = false := DW.out.frozen 11
      have e12 : w0.cell? ⟨g, 12, none⟩ = some (.int .i64 x.index) := HO.out.op.cell 12
      have y12 : w0.cell? ⟨W.heap.size + 1, 12, none⟩ = some (.int .i64 0) := DW.out.cell 12
      have f12 : w0.frozen? ⟨W.heap.size + 1, 12, none⟩ = false := DW.out.frozen 12
      go_wp2
      have KF := Lib.hid (((((((((((((DW.out.set_ 0 (.int .u8 x.kind)).set_ 1 (.int .i64 x.user)).set_ 2 (.int .i64 x.rect.c1)).set_ 3 (.int .i64 x.rect.r1)).set_ 4 (.int .i64 x.rect.c2)).set_ 5 (.int .i64 x.rect.r2)).set_ 6 (str x.input)).set_ 7 (.int .u64 x.rights.rd)).set_ 8 (.int .u64 x.rights.wr)).set_ 9 (.int .u64 x.rights.ow)).set_ 10 (.int .u8 x.fns)).set_ 11 (.int .u64 x.to_)).set_ 12 (.int .i64 x.index))
      have RF := Lib.hid (((((((((((((TF.out.set (Nat.le_succ _) hdp.symm 0 (.int .u8 x.kind)).set (Nat.le_succ _) hdp.symm 1 (.int .i64 x.user)).set (Nat.le_succ _) hdp.symm 2 (.int .i64 x.rect.c1)).set (Nat.le_succ _) hdp.symm 3 (.int .i64 x.rect.r1)).set (Nat.le_succ _) hdp.symm 4 (.int .i64 x.rect.c2)).set (Nat.le_succ _) hdp.symm 5 (.int .i64 x.rect.r2)).set (Nat.le_succ _) hdp.symm 6 (str x.input)).set (Nat.le_succ _) hdp.symm 7 (.int .u64 x.rights.rd)).set (Nat.le_succ _) hdp.symm 8 (.int .u64 x.rights.wr)).set (Nat.le_succ _) hdp.symm 9 (.int .u64 x.rights.ow)).set (Nat.le_succ _) hdp.symm 10 (.int .u8 x.fns)).set (Nat.le_succ _) hdp.symm 11 (.int .u64 x.to_)).set (Nat.le_succ _) hdp.symm 12 (.int .i64 x.index))
      have d0 := KF.out.cell 0
      have d1 := KF.out.cell 1
      have d2 := KF.out.cell 2
      have d3 := KF.out.cell 3
      have d4 := KF.out.cell 4
      have d5 := KF.out.cell 5
      have d6 := KF.out.cell 6
      have d7 := KF.out.cell 7
      have d8 := KF.out.cell 8
      have d9 := KF.out.cell 9
      have d10 := KF.out.cell 10
      have d11 := KF.out.cell 11
      have d12 := KF.out.cell 12
      refine bodyPost_ret (v := .agg #[.int .u8 x.kind, .int .i64 x.user, .int .i64 x.rect.c1, .int .i64 x.rect.r1, .int .i64 x.rect.c2, .int .i64 x.rect.r2, str x.input, .int .u64 x.rights.rd, .int .u64 x.rights.wr, .int .u64 x.rights.ow, .int .u8 x.fns, .int .u64 x.to_, .int .i64 x.index]) (by simp (maxDischargeDepth := 9) [results, Tryz.results75, go_sem, d0, d1, d2, d3, d4, d5, d6, d7, d8, d9, d10, d11, d12]) rfl ?_
      rw [HE.out]
      exact ⟨rfl, RF.out⟩
    · rw [show (((0 : Nat) : Int)) = 0 from rfl]
      have e1 : w0.cell? ⟨f, 0, none⟩ = some (.func (.func 146) #[] #[.pointer (some ⟨W.heap.size, 0, none⟩), .pointer (some ⟨g, 0, none⟩)]) := FW.out.cell 0
      have HS := Lib.hid (show stO kd q2.1 q2.2 1 = nxO q2.1 0 (x, rk) from by
        show nxO q2.1 0 (stO kd q2.1 q2.2 0) = _
        rw [HST.out])
      have hb := HB0.out
      rcases hbq : bitR q2.1 0 with _ | _
      · rw [hbq] at hb
        simp only [Bool.false_eq_true, if_false] at hb
        have HN := Lib.hid (HS.out.trans (nx_false0 hbq))
        clear hbq HS
        go_wp2
        exact ⟨⟨1, by omega, rfl, by rw [HN.out]; exact HO.out⟩, by simp [intOf]⟩
      · rw [hbq] at hb
        simp only [if_true] at hb
        have HN := Lib.hid (HS.out.trans (nx_true0 hbq))
        clear hbq HS
        have hC := po_1 p W.heap.size g 95 rk x w0 CW.out hgp HO.out.op HO.out.blk hrk.out
        obtain ⟨qv, hqv⟩ : ∃ q, intR rk = q := ⟨_, rfl⟩
        rw [hqv] at hC HN
        have HC := Lib.hid hC
        clear hC hqv
        go_wp2_with fail
        refine HC.out.mono ?_
        rintro e W5 ⟨rfl, o5⟩
        have O5 := Lib.hid (HO.out.trans o5)
        clear o5 hb
        go_wp2
        exact ⟨⟨1, by omega, rfl, by rw [HN.out]; dsimp only; exact O5.out⟩, by simp [intOf]⟩
    · rw [show (((1 : Nat) : Int)) = 1 from rfl]
      have e1 : w0.cell? ⟨f, 1, none⟩ = some (.func (.func 147) #[] #[.pointer (some ⟨W.heap.size, 0, none⟩), .pointer (some ⟨g, 0, none⟩)]) := FW.out.cell 1
      have HS := Lib.hid (show stO kd q2.1 q2.2 2 = nxO q2.1 1 (x, rk) from by
        show nxO q2.1 1 (stO kd q2.1 q2.2 1) = _
        rw [HST.out])
      have hb := HB1.out
      rcases hbq : bitR q2.1 1 with _ | _
      · rw [hbq] at hb
        simp only [Bool.false_eq_true, if_false] at hb
        have HN := Lib.hid (HS.out.trans (nx_false1 hbq))
        clear hbq HS
        go_wp2
        exact ⟨⟨2, by omega, rfl, by rw [HN.out]; exact HO.out⟩, by simp [intOf]⟩
      · rw [hbq] at hb
        simp only [if_true] at hb
        have HN := Lib.hid (HS.out.trans (nx_true1 hbq))
        clear hbq HS
        have hC := po_2 p W.heap.size g 95 rk x w0 CW.out hgp HO.out.op HO.out.blk hrk.out
        obtain ⟨qv, hqv⟩ : ∃ q, cornR rk = q := ⟨_, rfl⟩
        rw [hqv] at hC HN
        have HC := Lib.hid hC
        clear hC hqv
        go_wp2_with fail
        refine HC.out.mono ?_
        rintro e W5 ⟨rfl, o5⟩
        have O5 := Lib.hid (HO.out.trans o5)
        clear o5 hb
        go_wp2
        exact ⟨⟨2, by omega, rfl, by rw [HN.out]; dsimp only; exact O5.out⟩, by simp [intOf]⟩
    · rw [show (((2 : Nat) : Int)) = 2 from rfl]
      have e1 : w0.cell? ⟨f, 2, none⟩ = some (.func (.func 148) #[] #[.pointer (some ⟨W.heap.size, 0, none⟩), .pointer (some ⟨g, 0, none⟩)]) := FW.out.cell 2
      have HS := Lib.hid (show stO kd q2.1 q2.2 3 = nxO q2.1 2 (x, rk) from by
        show nxO q2.1 2 (stO kd q2.1 q2.2 2) = _
        rw [HST.out])
      have hb := HB2.out
      rcases hbq : bitR q2.1 2 with _ | _
      · rw [hbq] at hb
        simp only [Bool.false_eq_true, if_false] at hb
        have HN := Lib.hid (HS.out.trans (nx_false2 hbq))
        clear hbq HS
        go_wp2
        exact ⟨⟨3, by omega, rfl, by rw [HN.out]; exact HO.out⟩, by simp [intOf]⟩
      · rw [hbq] at hb
        simp only [if_true] at hb
        have HN := Lib.hid (HS.out.trans (nx_true2 hbq))
        clear hbq HS
        have hC := po_3 p W.heap.size g 95 rk x w0 CW.out hgp HO.out.op HO.out.blk hrk.out
        obtain ⟨qv, hqv⟩ : ∃ q, textR rk = q := ⟨_, rfl⟩
        rw [hqv] at hC HN
        have HC := Lib.hid hC
        clear hC hqv
        go_wp2_with fail
        refine HC.out.mono ?_
        rintro e W5 ⟨rfl, o5⟩
        have O5 := Lib.hid (HO.out.trans o5)
        clear o5 hb
        go_wp2
        exact ⟨⟨3, by omega, rfl, by rw [HN.out]; dsimp only; exact O5.out⟩, by simp [intOf]⟩
    · rw [show (((3 : Nat) : Int)) = 3 from rfl]
      have e1 : w0.cell? ⟨f, 3, none⟩ = some (.func (.func 149) #[] #[.pointer (some ⟨W.heap.size, 0, none⟩), .pointer (some ⟨g, 0, none⟩)]) := FW.out.cell 3
      have HS := Lib.hid (show stO kd q2.1 q2.2 4 = nxO q2.1 3 (x, rk) from by
        show nxO q2.1 3 (stO kd q2.1 q2.2 3) = _
        rw [HST.out])
      have hb := HB3.out
      rcases hbq : bitR q2.1 3 with _ | _
      · rw [hbq] at hb
        simp only [Bool.false_eq_true, if_false] at hb
        have HN := Lib.hid (HS.out.trans (nx_false3 hbq))
        clear hbq HS
        go_wp2
        exact ⟨⟨4, by omega, rfl, by rw [HN.out]; exact HO.out⟩, by simp [intOf]⟩
      · rw [hbq] at hb
        simp only [if_true] at hb
        have HN := Lib.hid (HS.out.trans (nx_true3 hbq))
        clear hbq HS
        have hC := po_4 p W.heap.size g 95 rk x w0 CW.out hgp HO.out.op HO.out.blk hrk.out
        obtain ⟨qv, hqv⟩ : ∃ q, setsR rk = q := ⟨_, rfl⟩
        rw [hqv] at hC HN
        have HC := Lib.hid hC
        clear hC hqv
        go_wp2_with fail
        refine HC.out.mono ?_
        rintro e W5 ⟨rfl, o5⟩
        have O5 := Lib.hid (HO.out.trans o5)
        clear o5 hb
        go_wp2
        exact ⟨⟨4, by omega, rfl, by rw [HN.out]; dsimp only; exact O5.out⟩, by simp [intOf]⟩
    · rw [show (((4 : Nat) : Int)) = 4 from rfl]
      have e1 : w0.cell? ⟨f, 4, none⟩ = some (.func (.func 150) #[] #[.pointer (some ⟨W.heap.size, 0, none⟩), .pointer (some ⟨g, 0, none⟩)]) := FW.out.cell 4
      have HS := Lib.hid (show stO kd q2.1 q2.2 5 = nxO q2.1 4 (x, rk) from by
        show nxO q2.1 4 (stO kd q2.1 q2.2 4) = _
        rw [HST.out])
      have hb := HB4.out
      rcases hbq : bitR q2.1 4 with _ | _
      · rw [hbq] at hb
        simp only [Bool.false_eq_true, if_false] at hb
        have HN := Lib.hid (HS.out.trans (nx_false4 hbq))
        clear hbq HS
        go_wp2
        exact ⟨⟨5, by omega, rfl, by rw [HN.out]; exact HO.out⟩, by simp [intOf]⟩
      · rw [hbq] at hb
        simp only [if_true] at hb
        have HN := Lib.hid (HS.out.trans (nx_true4 hbq))
        clear hbq HS
        have hC := po_5 p W.heap.size g 95 rk x w0 CW.out hgp HO.out.op HO.out.blk hrk.out
        obtain ⟨qv, hqv⟩ : ∃ q, u8R rk = q := ⟨_, rfl⟩
        rw [hqv] at hC HN
        have HC := Lib.hid hC
        clear hC hqv
        go_wp2_with fail
        refine HC.out.mono ?_
        rintro e W5 ⟨rfl, o5⟩
        have O5 := Lib.hid (HO.out.trans o5)
        clear o5 hb
        go_wp2
        exact ⟨⟨5, by omega, rfl, by rw [HN.out]; dsimp only; exact O5.out⟩, by simp [intOf]⟩
    · rw [show (((5 : Nat) : Int)) = 5 from rfl]
      have e1 : w0.cell? ⟨f, 5, none⟩ = some (.func (.func 151) #[] #[.pointer (some ⟨W.heap.size, 0, none⟩), .pointer (some ⟨g, 0, none⟩)]) := FW.out.cell 5
      have HS := Lib.hid (show stO kd q2.1 q2.2 6 = nxO q2.1 5 (x, rk) from by
        show nxO q2.1 5 (stO kd q2.1 q2.2 5) = _
        rw [HST.out])
      have hb := HB5.out
      rcases hbq : bitR q2.1 5 with _ | _
      · rw [hbq] at hb
        simp only [Bool.false_eq_true, if_false] at hb
        have HN := Lib.hid (HS.out.trans (nx_false5 hbq))
        clear hbq HS
        go_wp2
        exact ⟨⟨6, by omega, rfl, by rw [HN.out]; exact HO.out⟩, by simp [intOf]⟩
      · rw [hbq] at hb
        simp only [if_true] at hb
        have HN := Lib.hid (HS.out.trans (nx_true5 hbq))
        clear hbq HS
        have hC := po_6 p W.heap.size g 95 rk x w0 CW.out hgp HO.out.op HO.out.blk hrk.out
        obtain ⟨qv, hqv⟩ : ∃ q, u64R rk = q := ⟨_, rfl⟩
        rw [hqv] at hC HN
        have HC := Lib.hid hC
        clear hC hqv
        go_wp2_with fail
        refine HC.out.mono ?_
        rintro e W5 ⟨rfl, o5⟩
        have O5 := Lib.hid (HO.out.trans o5)
        clear o5 hb
        go_wp2
        exact ⟨⟨6, by omega, rfl, by rw [HN.out]; dsimp only; exact O5.out⟩, by simp [intOf]⟩
    · rw [show (((6 : Nat) : Int)) = 6 from rfl]
      have e1 : w0.cell? ⟨f, 6, none⟩ = some (.func (.func 152) #[] #[.pointer (some ⟨W.heap.size, 0, none⟩), .pointer (some ⟨g, 0, none⟩)]) := FW.out.cell 6
      have HS := Lib.hid (show stO kd q2.1 q2.2 7 = nxO q2.1 6 (x, rk) from by
        show nxO q2.1 6 (stO kd q2.1 q2.2 6) = _
        rw [HST.out])
      have hb := HB6.out
      rcases hbq : bitR q2.1 6 with _ | _
      · rw [hbq] at hb
        simp only [Bool.false_eq_true, if_false] at hb
        have HN := Lib.hid (HS.out.trans (nx_false6 hbq))
        clear hbq HS
        go_wp2
        exact ⟨⟨7, by omega, rfl, by rw [HN.out]; exact HO.out⟩, by simp [intOf]⟩
      · rw [hbq] at hb
        simp only [if_true] at hb
        have HN := Lib.hid (HS.out.trans (nx_true6 hbq))
        clear hbq HS
        have hC := po_7 p W.heap.size g 95 rk x w0 CW.out hgp HO.out.op HO.out.blk hrk.out
        obtain ⟨qv, hqv⟩ : ∃ q, intR rk = q := ⟨_, rfl⟩
        rw [hqv] at hC HN
        have HC := Lib.hid hC
        clear hC hqv
        go_wp2_with fail
        refine HC.out.mono ?_
        rintro e W5 ⟨rfl, o5⟩
        have O5 := Lib.hid (HO.out.trans o5)
        clear o5 hb
        go_wp2
        exact ⟨⟨7, by omega, rfl, by rw [HN.out]; dsimp only; exact O5.out⟩, by simp [intOf]⟩
theorem dig_at (n : Nat) (h : n < 10) : (⟨#[48, 49, 50, 51, 52, 53, 54, 55, 56, 57, 97, 98, 99, 100, 101, 102, 103, 104, 105, 106, 107, 108, 109, 110, 111, 112, 113, 114, 115, 116, 117, 118, 119, 120, 121, 122]⟩ : ByteArray).extract n (n + 1) = ⟨[dig n].toArray⟩ := by
  have e : n = 0 ∨ n = 1 ∨ n = 2 ∨ n = 3 ∨ n = 4 ∨ n = 5 ∨ n = 6 ∨ n = 7 ∨ n = 8 ∨ n = 9 := by omega
  rcases e with rfl | rfl | rfl | rfl | rfl | rfl | rfl | rfl | rfl | rfl <;> rfl
theorem small_any (n : Nat) (h : n < 10) (w : World) :
    Calls Tryz.prog 233 #[.int .i64 n] w fun u w' => u = .returned (str [dig n]) ∧ w = w' := by
  have H := Lib.hid (dig_at n h)
  go_enter Tryz.func233, Tryz.ntmps233
  go_wp2
  go_ret
  exact ⟨by rw [H.out]; rfl, rfl⟩
theorem itoa_small (n : Nat) (h : n < 10) (w : World) :
    Calls Tryz.prog 129 #[.int .i64 n] w fun u w' => u = .returned (str [dig n]) ∧ w = w' := by
  go_enter Tryz.func129, Tryz.ntmps129
  go_wp2_with (first | (go_at_call 233; refine (small_any n h _).mono ?_; rintro e w1 ⟨rfl, rfl⟩) | go_in)
  go_ret
  exact ⟨rfl, rfl⟩
theorem spot_any (g : Nat) (s : Bytes) (w : World) (k0 : Blk w g 74 #[str s]) :
    Calls Tryz.prog 38 #[.pointer (some ⟨g, 0, none⟩)] w fun e w' => e = .returned (.agg #[.int .i64 (spot s).1.col, .int .i64 (spot s).1.row]) ∧ Blk w' g 74 #[str (spot s).2] ∧ Chg (fun k => k = g) w w' := by
  have hg := k0.lt
  have b1 := take_bd 3 (by decide) s
  have b2 := take_bd 4 (by decide) (take 3 s).2
  have K0 := Lib.hid k0
  clear k0
  go_enter Tryz.func38, Tryz.ntmps38
  go_wp2_with fail
  refine (take_any g s 3 _ (by decide) (by have k0 := K0.out; exact (by repeat' (first | with_reducible exact k0 | with_reducible refine Blk.drew ?_ | with_reducible refine Blk.alloc ?_ _ | with_reducible refine Blk.far ?_ ?_ _ | (simp; done) | (simp; omega) | omega | exact k0)))).mono ?_
  rintro e w1 ⟨rfl, k1, hd1⟩
  have hz1 := hd1.size
  try simp at hz1
  have hD1 : Chg (fun k => k = g) w w1 := Chg.trans (by repeat' (first | with_reducible exact Chg.refl _ _ | with_reducible assumption | with_reducible refine Chg.alloc ?_ _ | with_reducible refine Chg.drew ?_ | with_reducible refine Chg.setCell ?_ (.inr ?_) _ | (simp; done) | (simp; omega) | omega)) (hd1.mono (fun k hk hs => hs))
  have hc1_0 : ∀ o, w1.cell? ⟨w.heap.size, o, none⟩ = _ := fun o => hd1.cell (p := ⟨w.heap.size, o, none⟩) (by first | (simp; done) | (simp; omega) | omega) (by first | omega | (simp; omega))
  have hl1_0 : w.heap.size < w1.heap.size := by omega
  have hm1_0 : w.heap.size ≤ w1.heap.size := by omega
  have hn1_0 : w.heap.size ≤ w1.heap.size + 1 := by omega
  have ho1_0 : w.heap.size ≤ w1.heap.size + 1 + 1 := by omega
  have hf1_0 : ∀ o, w1.frozen? ⟨w.heap.size, o, none⟩ = _ := fun o => hd1.frozen (p := ⟨w.heap.size, o, none⟩) (by first | (simp; done) | (simp; omega) | omega) (by first | omega | (simp; omega))
  go_wp2_with fail
  refine (take_any g _ 4 _ (by decide) (by repeat' (first | with_reducible exact k1 | with_reducible refine Blk.drew ?_ | with_reducible refine Blk.alloc ?_ _ | with_reducible refine Blk.far ?_ ?_ _ | (simp; done) | (simp; omega) | omega | exact k1))).mono ?_
  rintro e w2 ⟨rfl, k2, hd2⟩
  have hz2 := hd2.size
  try simp at hz2
  have hD2 : Chg (fun k => k = g) w w2 := Chg.trans (by repeat' (first | with_reducible exact Chg.refl _ _ | with_reducible assumption | with_reducible refine Chg.alloc ?_ _ | with_reducible refine Chg.drew ?_ | with_reducible refine Chg.setCell ?_ (.inr ?_) _ | (simp; done) | (simp; omega) | omega)) (hd2.mono (fun k hk hs => hs))
  have hc2_0 : ∀ o, w2.cell? ⟨w.heap.size, o, none⟩ = _ := fun o => hd2.cell (p := ⟨w.heap.size, o, none⟩) (by first | (simp; done) | (simp; omega) | omega) (by first | omega | (simp; omega))
  have hl2_0 : w.heap.size < w2.heap.size := by omega
  have hm2_0 : w.heap.size ≤ w2.heap.size := by omega
  have hn2_0 : w.heap.size ≤ w2.heap.size + 1 := by omega
  have ho2_0 : w.heap.size ≤ w2.heap.size + 1 + 1 := by omega
  have hf2_0 : ∀ o, w2.frozen? ⟨w.heap.size, o, none⟩ = _ := fun o => hd2.frozen (p := ⟨w.heap.size, o, none⟩) (by first | (simp; done) | (simp; omega) | omega) (by first | omega | (simp; omega))
  go_wp2
  refine bodyPost_ret (v := .agg #[.int .i64 (1 + (take 3 s).1), .int .i64 (1 + (take 4 (take 3 s).2).1)]) (by simp (maxDischargeDepth := 9) [results, Tryz.results38, go_sem, hc1_0, hc2_0]) rfl ?_
  exact ⟨rfl, (by repeat' (first | with_reducible exact k2 | with_reducible refine Blk.drew ?_ | with_reducible refine Blk.alloc ?_ _ | with_reducible refine Blk.far ?_ ?_ _ | (simp; done) | (simp; omega) | omega | exact k2)), (by repeat' (first | with_reducible exact Chg.refl _ _ | with_reducible assumption | with_reducible refine Chg.alloc ?_ _ | with_reducible refine Chg.drew ?_ | with_reducible refine Chg.setCell ?_ (.inr ?_) _ | (simp; done) | (simp; omega) | omega))⟩
theorem pow_users (u : Nat) (hu : u ≤ 4) : (0 : Int) < 2 ^ u ∧ (2 : Int) ^ u ≤ 16 := by
  have h : u = 0 ∨ u = 1 ∨ u = 2 ∨ u = 3 ∨ u = 4 := by omega
  rcases h with rfl | rfl | rfl | rfl | rfl <;> simp
theorem crowd_any (g : Nat) (s : Bytes) (u : Nat) (w : World) (hu : (u : Int) ≤ 4) (k0 : Blk w g 74 #[str s]) :
    Calls Tryz.prog 41 #[.pointer (some ⟨g, 0, none⟩), .int .i64 u] w fun e w' => e = .returned (.int .u64 (crowd u s).1) ∧ Blk w' g 74 #[str (crowd u s).2] ∧ Chg (fun k => k = g) w w' := by
  have hp := pow_users u (by omega)
  have hb := take_bd (2 ^ u) hp.1 s
  have HT := Lib.hid (take_any g s (2 ^ u) w hp.1 k0)
  clear k0
  go_enter Tryz.func41, Tryz.ntmps41
  go_wp2_with fail
  refine HT.out.mono ?_
  rintro e w1 ⟨rfl, k1, hd1⟩
  go_wp2
  go_ret
  exact ⟨rfl, k1, hd1⟩
theorem crowds_any (g : Nat) (s : Bytes) (u : Nat) (w : World) (hu : (u : Int) ≤ 4) (k0 : Blk w g 74 #[str s]) :
    Calls Tryz.prog 36 #[.pointer (some ⟨g, 0, none⟩), .int .i64 u] w fun e w' =>
      e = .returned (.agg #[.int .u64 (crowds u s).1.rd, .int .u64 (crowds u s).1.wr, .int .u64 (crowds u s).1.ow]) ∧ Blk w' g 74 #[str (crowds u s).2] ∧ Chg (fun k => k = g) w w' := by
  have hg := k0.lt
  have K0 := Lib.hid k0
  clear k0
  go_enter Tryz.func36, Tryz.ntmps36
  go_wp2_with fail
  refine (crowd_any g s u _ hu (by have k0 := K0.out; exact (by repeat' (first | with_reducible exact k0 | with_reducible refine Blk.drew ?_ | with_reducible refine Blk.alloc ?_ _ | with_reducible refine Blk.far ?_ ?_ _ | (simp; done) | (simp; omega) | omega | exact k0)))).mono ?_
  rintro e w1 ⟨rfl, k1, hd1⟩
  have hz1 := hd1.size
  try simp at hz1
  have hD1 : Chg (fun k => k = g) w w1 := Chg.trans (by repeat' (first | with_reducible exact Chg.refl _ _ | with_reducible assumption | with_reducible refine Chg.alloc ?_ _ | with_reducible refine Chg.drew ?_ | with_reducible refine Chg.setCell ?_ (.inr ?_) _ | (simp; done) | (simp; omega) | omega)) (hd1.mono (fun k hk hs => hs))
  have hc1_0 : ∀ o, w1.cell? ⟨w.heap.size, o, none⟩ = _ := fun o => hd1.cell (p := ⟨w.heap.size, o, none⟩) (by first | (simp; done) | (simp; omega) | omega) (by first | omega | (simp; omega))
  have hl1_0 : w.heap.size < w1.heap.size := by omega
  have hm1_0 : w.heap.size ≤ w1.heap.size := by omega
  have hn1_0 : w.heap.size ≤ w1.heap.size + 1 := by omega
  have ho1_0 : w.heap.size ≤ w1.heap.size + 1 + 1 := by omega
  have hf1_0 : ∀ o, w1.frozen? ⟨w.heap.size, o, none⟩ = _ := fun o => hd1.frozen (p := ⟨w.heap.size, o, none⟩) (by first | (simp; done) | (simp; omega) | omega) (by first | omega | (simp; omega))
  go_wp2_with fail
  refine (crowd_any g _ u _ hu (by repeat' (first | with_reducible exact k1 | with_reducible refine Blk.drew ?_ | with_reducible refine Blk.alloc ?_ _ | with_reducible refine Blk.far ?_ ?_ _ | (simp; done) | (simp; omega) | omega | exact k1))).mono ?_
  rintro e w2 ⟨rfl, k2, hd2⟩
  have hz2 := hd2.size
  try simp at hz2
  have hD2 : Chg (fun k => k = g) w w2 := Chg.trans (by repeat' (first | with_reducible exact Chg.refl _ _ | with_reducible assumption | with_reducible refine Chg.alloc ?_ _ | with_reducible refine Chg.drew ?_ | with_reducible refine Chg.setCell ?_ (.inr ?_) _ | (simp; done) | (simp; omega) | omega)) (hd2.mono (fun k hk hs => hs))
  have hc2_0 : ∀ o, w2.cell? ⟨w.heap.size, o, none⟩ = _ := fun o => hd2.cell (p := ⟨w.heap.size, o, none⟩) (by first | (simp; done) | (simp; omega) | omega) (by first | omega | (simp; omega))
  have hl2_0 : w.heap.size < w2.heap.size := by omega
  have hm2_0 : w.heap.size ≤ w2.heap.size := by omega
  have hn2_0 : w.heap.size ≤ w2.heap.size + 1 := by omega
  have ho2_0 : w.heap.size ≤ w2.heap.size + 1 + 1 := by omega
  have hf2_0 : ∀ o, w2.frozen? ⟨w.heap.size, o, none⟩ = _ := fun o => hd2.frozen (p := ⟨w.heap.size, o, none⟩) (by first | (simp; done) | (simp; omega) | omega) (by first | omega | (simp; omega))
  go_wp2_with fail
  refine (crowd_any g _ u _ hu (by repeat' (first | with_reducible exact k2 | with_reducible refine Blk.drew ?_ | with_reducible refine Blk.alloc ?_ _ | with_reducible refine Blk.far ?_ ?_ _ | (simp; done) | (simp; omega) | omega | exact k2))).mono ?_
  rintro e w3 ⟨rfl, k3, hd3⟩
  have hz3 := hd3.size
  try simp at hz3
  have hD3 : Chg (fun k => k = g) w w3 := Chg.trans (by repeat' (first | with_reducible exact Chg.refl _ _ | with_reducible assumption | with_reducible refine Chg.alloc ?_ _ | with_reducible refine Chg.drew ?_ | with_reducible refine Chg.setCell ?_ (.inr ?_) _ | (simp; done) | (simp; omega) | omega)) (hd3.mono (fun k hk hs => hs))
  have hc3_0 : ∀ o, w3.cell? ⟨w.heap.size, o, none⟩ = _ := fun o => hd3.cell (p := ⟨w.heap.size, o, none⟩) (by first | (simp; done) | (simp; omega) | omega) (by first | omega | (simp; omega))
  have hl3_0 : w.heap.size < w3.heap.size := by omega
  have hm3_0 : w.heap.size ≤ w3.heap.size := by omega
  have hn3_0 : w.heap.size ≤ w3.heap.size + 1 := by omega
  have ho3_0 : w.heap.size ≤ w3.heap.size + 1 + 1 := by omega
  have hf3_0 : ∀ o, w3.frozen? ⟨w.heap.size, o, none⟩ = _ := fun o => hd3.frozen (p := ⟨w.heap.size, o, none⟩) (by first | (simp; done) | (simp; omega) | omega) (by first | omega | (simp; omega))
  go_wp2
  refine bodyPost_ret (v := .agg #[.int .u64 (crowd u s).1, .int .u64 (crowd u (crowd u s).2).1, .int .u64 (crowd u (crowd u (crowd u s).2).2).1]) (by simp (maxDischargeDepth := 9) [results, Tryz.results36, go_sem, hc1_0, hc2_0, hc3_0]) rfl ?_
  exact ⟨rfl, (by repeat' (first | with_reducible exact k3 | with_reducible refine Blk.drew ?_ | with_reducible refine Blk.alloc ?_ _ | with_reducible refine Blk.far ?_ ?_ _ | (simp; done) | (simp; omega) | omega | exact k3)), (by repeat' (first | with_reducible exact Chg.refl _ _ | with_reducible assumption | with_reducible refine Chg.alloc ?_ _ | with_reducible refine Chg.drew ?_ | with_reducible refine Chg.setCell ?_ (.inr ?_) _ | (simp; done) | (simp; omega) | omega))⟩
end Go.Proofs.YtamcgggmfghljaaGreatDoor
