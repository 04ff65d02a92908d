/- Layer 41 (program): Decode of any bytes (printed by tools/gen_dec.py). -/
import Derived.Deep.Cut
import Derived.BigQuiet
import Derived.Deep.QuietTactic
import Derived.Laws.IdiomStrings
import Derived.Laws.CopyOwn
import Derived.Test.YtamcgggmfghljaaGreatDoorB36
set_option maxRecDepth 100000
set_option maxHeartbeats 8000000
namespace Go.Proofs.YtamcgggmfghljaaGreatDoor
open Go.RowKit
theorem own_slice {α : Type} {c : α → List Value} {e : TypeId} {k : Nat} {w : World} {v : Value} {l : List α} (h : Own c e k w v l) : ∃ A cap, v = .slice A l.length cap ∧ l.length ≤ maxLen := by
  rcases h.2 with ⟨rfl, he⟩ | ⟨g, cap, cur, rfl, _, _, h1, h2, _⟩
  · exact ⟨none, 0, by rw [he], by omega⟩
  · exact ⟨_, cap, rfl, Nat.le_trans h1 h2⟩
theorem Own.set {α : Type} {c : α → List Value} {e : TypeId} {k : Nat} {w : World} {v : Value} {l : List α} (h : Own c e k w v l) {g : Nat} (hg : v.ownBlock ≠ some g) (i : Nat) (u : Value) : Own c e k (w.setCell ⟨g, i, none⟩ u) v l :=
  h.chg (S := fun k => k = g) ((Chg.refl (fun k => k = g) w).setCell (p := ⟨g, i, none⟩) (.inl rfl) u) (fun q hq e => by subst e; exact hg hq)
theorem Own.sets {α : Type} {c : α → List Value} {e : TypeId} {k : Nat} {w : World} {v : Value} {l : List α} (h : Own c e k w v l) {g : Nat} (hg : v.ownBlock ≠ some g) (u0 u1 u2 u3 u4 u5 u6 u7 : Value) :
    Own c e k ((((((((w.setCell ⟨g, 0, none⟩ u0).setCell ⟨g, 1, none⟩ u1).setCell ⟨g, 2, none⟩ u2).setCell ⟨g, 3, none⟩ u3).setCell ⟨g, 4, none⟩ u4).setCell ⟨g, 5, none⟩ u5).setCell ⟨g, 6, none⟩ u6).setCell ⟨g, 7, none⟩ u7) v l :=
  (((((((h.set hg 0 u0).set hg 1 u1).set hg 2 u2).set hg 3 u3).set hg 4 u4).set hg 5 u5).set hg 6 u6).set hg 7 u7
theorem noS_rd (w : World) (B : Nat) : RdScp w B noS (.slice none 0 0) (.slice none 0 0) (.slice none 0 0) (.slice none 0 0) (.slice none 0 0) (.slice none 0 0) := by
  have h : ∀ {α : Type} (c : α → List Value), Sls c w B (.slice none 0 0) ([] : List α) := fun c => ⟨none, 0, rfl, Nat.le_refl _, by simp [maxLen], fun h => by simp at h⟩
  exact ⟨⟨h _, h _, h _, h _, h _⟩, h _⟩
theorem decode_any (s : Bytes) (w : World) (hw : Words w) (hsl : s.length ≤ maxLen) :
    Calls Tryz.prog 23 #[str s] w fun u w' => ∃ e r g l x o, u = .returned (.tuple #[vScp (decR s).1 e r g l x o, .int .i64 (decR s).2]) ∧ RdScp w' w'.heap.size (decR s).1 e r g l x o ∧ Below w.heap.size w w' := by
  unfold maxLen at hsl
  by_cases hlen : 65536 < s.length
  · have HE := Lib.hid (decR_long hlen)
    rw [HE.out]
    have hli : (65536 : Int) < (s.length : Int) := by omega
    go_enter Tryz.func23, Tryz.ntmps23
    go_wp2
    refine bodyPost_ret (v := .tuple #[.agg #[.int .i64 0, .slice none 0 0, .slice none 0 0, .slice none 0 0, .slice none 0 0, .slice none 0 0, .int .i64 0, .slice none 0 0], .int .i64 5]) (by simp (maxDischargeDepth := 9) [results, Tryz.results23, go_sem]) rfl ?_
    exact ⟨_, _, _, _, _, _, rfl, noS_rd _ _, by go_grown⟩
  have hli : ¬ (65536 : Int) < (s.length : Int) := by omega
  have hs6 : s.length ≤ 65536 := by omega
  have HW := Lib.hid hw
  clear hw hlen
  go_enter Tryz.func23, Tryz.ntmps23
  go_wp2_with fail
  have hd0 := Lib.hid (show Blk ((((w.alloc (.cells #[.int .i64 0, .slice none 0 0, .slice none 0 0, .slice none 0 0, .slice none 0 0, .slice none 0 0, .int .i64 0, .slice none 0 0] 31)).alloc (.cells #[str s, .bool false] 97)).alloc (.cells #[.pointer (some ⟨w.heap.size + 1, 0, none⟩)] 95)).alloc (.cells #[.int .i64 0, .slice none 0 0, .slice none 0 0, .slice none 0 0, .slice none 0 0, .slice none 0 0, .int .i64 0, .slice none 0 0] 31)) w.heap.size 31 #[.int .i64 0, .slice none 0 0, .slice none 0 0, .slice none 0 0, .slice none 0 0, .slice none 0 0, .int .i64 0, .slice none 0 0] from (((Blk.new w 31 #[.int .i64 0, .slice none 0 0, .slice none 0 0, .slice none 0 0, .slice none 0 0, .slice none 0 0, .int .i64 0, .slice none 0 0]).alloc _).alloc _).alloc _)
  have hp0 := Lib.hid (show RdAt ((((w.alloc (.cells #[.int .i64 0, .slice none 0 0, .slice none 0 0, .slice none 0 0, .slice none 0 0, .slice none 0 0, .int .i64 0, .slice none 0 0] 31)).alloc (.cells #[str s, .bool false] 97)).alloc (.cells #[.pointer (some ⟨w.heap.size + 1, 0, none⟩)] 95)).alloc (.cells #[.int .i64 0, .slice none 0 0, .slice none 0 0, .slice none 0 0, .slice none 0 0, .slice none 0 0, .int .i64 0, .slice none 0 0] 31)) (w.heap.size + 1) (s, false) from by
    have := (((Blk.new (w.alloc (.cells #[.int .i64 0, .slice none 0 0, .slice none 0 0, .slice none 0 0, .slice none 0 0, .slice none 0 0, .int .i64 0, .slice none 0 0] 31)) 97 #[str s, .bool false]).alloc (.cells #[.pointer (some ⟨w.heap.size + 1, 0, none⟩)] 95)).alloc (.cells #[.int .i64 0, .slice none 0 0, .slice none 0 0, .slice none 0 0, .slice none 0 0, .slice none 0 0, .int .i64 0, .slice none 0 0] 31))
    simpa [RdAt] using this)
  have hc0 := Lib.hid (show Blk ((((w.alloc (.cells #[.int .i64 0, .slice none 0 0, .slice none 0 0, .slice none 0 0, .slice none 0 0, .slice none 0 0, .int .i64 0, .slice none 0 0] 31)).alloc (.cells #[str s, .bool false] 97)).alloc (.cells #[.pointer (some ⟨w.heap.size + 1, 0, none⟩)] 95)).alloc (.cells #[.int .i64 0, .slice none 0 0, .slice none 0 0, .slice none 0 0, .slice none 0 0, .slice none 0 0, .int .i64 0, .slice none 0 0] 31)) (w.heap.size + 1 + 1) 95 #[.pointer (some ⟨w.heap.size + 1, 0, none⟩)] from by
    have := ((Blk.new ((w.alloc (.cells #[.int .i64 0, .slice none 0 0, .slice none 0 0, .slice none 0 0, .slice none 0 0, .slice none 0 0, .int .i64 0, .slice none 0 0] 31)).alloc (.cells #[str s, .bool false] 97)) 95 #[.pointer (some ⟨w.heap.size + 1, 0, none⟩)]).alloc (.cells #[.int .i64 0, .slice none 0 0, .slice none 0 0, .slice none 0 0, .slice none 0 0, .slice none 0 0, .int .i64 0, .slice none 0 0] 31))
    simpa using this)
  have hx0 := Lib.hid (show Blk ((((w.alloc (.cells #[.int .i64 0, .slice none 0 0, .slice none 0 0, .slice none 0 0, .slice none 0 0, .slice none 0 0, .int .i64 0, .slice none 0 0] 31)).alloc (.cells #[str s, .bool false] 97)).alloc (.cells #[.pointer (some ⟨w.heap.size + 1, 0, none⟩)] 95)).alloc (.cells #[.int .i64 0, .slice none 0 0, .slice none 0 0, .slice none 0 0, .slice none 0 0, .slice none 0 0, .int .i64 0, .slice none 0 0] 31)) (w.heap.size + 1 + 1 + 1) 31 #[.int .i64 0, .slice none 0 0, .slice none 0 0, .slice none 0 0, .slice none 0 0, .slice none 0 0, .int .i64 0, .slice none 0 0] from by
    have := Blk.new (((w.alloc (.cells #[.int .i64 0, .slice none 0 0, .slice none 0 0, .slice none 0 0, .slice none 0 0, .slice none 0 0, .int .i64 0, .slice none 0 0] 31)).alloc (.cells #[str s, .bool false] 97)).alloc (.cells #[.pointer (some ⟨w.heap.size + 1, 0, none⟩)] 95)) 31 #[.int .i64 0, .slice none 0 0, .slice none 0 0, .slice none 0 0, .slice none 0 0, .slice none 0 0, .int .i64 0, .slice none 0 0]
    simpa using this)
  have hb0 := Lib.hid (show Below w.heap.size w ((((w.alloc (.cells #[.int .i64 0, .slice none 0 0, .slice none 0 0, .slice none 0 0, .slice none 0 0, .slice none 0 0, .int .i64 0, .slice none 0 0] 31)).alloc (.cells #[str s, .bool false] 97)).alloc (.cells #[.pointer (some ⟨w.heap.size + 1, 0, none⟩)] 95)).alloc (.cells #[.int .i64 0, .slice none 0 0, .slice none 0 0, .slice none 0 0, .slice none 0 0, .slice none 0 0, .int .i64 0, .slice none 0 0] 31)) from by go_grown)
  obtain ⟨V0, hV⟩ : ∃ V, ((((w.alloc (.cells #[.int .i64 0, .slice none 0 0, .slice none 0 0, .slice none 0 0, .slice none 0 0, .slice none 0 0, .int .i64 0, .slice none 0 0] 31)).alloc (.cells #[str s, .bool false] 97)).alloc (.cells #[.pointer (some ⟨w.heap.size + 1, 0, none⟩)] 95)).alloc (.cells #[.int .i64 0, .slice none 0 0, .slice none 0 0, .slice none 0 0, .slice none 0 0, .slice none 0 0, .int .i64 0, .slice none 0 0] 31)) = V := ⟨_, rfl⟩
  rw [hV] at hd0 hp0 hc0 hx0 hb0 ⊢
  obtain ⟨p, hp⟩ : ∃ p, w.heap.size + 1 = p := ⟨_, rfl⟩
  rw [hp] at hp0 hc0 hx0 ⊢
  obtain ⟨c, hc⟩ : ∃ c, p + 1 = c := ⟨_, rfl⟩
  rw [hc] at hc0 hx0 ⊢
  obtain ⟨x, hx⟩ : ∃ x, c + 1 = x := ⟨_, rfl⟩
  rw [hx] at hx0 ⊢
  have D0 := Lib.hid hd0.out
  have R0 := Lib.hid hp0.out
  have C0 := Lib.hid hc0.out
  have X0 := Lib.hid hx0.out
  have HB0 := Lib.hid hb0.out
  have hdp : w.heap.size < p := by omega
  have hpc : p < c := by omega
  have hcx : c < x := by omega
  have hdpn : w.heap.size ≠ p := by omega
  have hcpn : c ≠ p := by omega
  have hxpn : x ≠ p := by omega
  have hdxn : w.heap.size ≠ x := by omega
  have hcxn : c ≠ x := by omega
  have hpxn : p ≠ x := by omega
  have hL0 := Lib.hid hs6
  clear hV hp hc hx hd0 hp0 hc0 hx0 hb0
  have hC := rd_int p (s, false) V0 R0.out (show s.length ≤ 1000000 by omega)
  have hL := numR_len (s, false)
  obtain ⟨q0, hq⟩ : ∃ q, numR (s, false) = q := ⟨_, rfl⟩
  rw [hq] at hC hL
  have HQ0 := Lib.hid hq
  clear hq
  refine hC.mono ?_
  rintro e U0 ⟨rfl, t0⟩
  generalize hz : wrapI q0.1 = z0
  have HX0 := Lib.hid (intR_q HQ0.out hz)
  clear hz hC
  have hL1 := Lib.hid (Nat.le_trans hL hL0.out)
  clear hL
  have xc : U0.cell? ⟨x, 0, none⟩ = some (.int .i64 0) := (t0.keep X0.out hxpn).cell 0
  have xf : U0.frozen? ⟨x, 0, none⟩ = false := (t0.keep X0.out hxpn).frozen 0
  have D1 := Lib.hid ((t0.keep D0.out hdpn).far (p := ⟨x, 0, none⟩) hdxn (.int .i64 z0))
  have C1 := Lib.hid ((t0.keep C0.out hcpn).far (p := ⟨x, 0, none⟩) hcxn (.int .i64 z0))
  have R1 := Lib.hid (show RdAt _ p q0.2 from Blk.far t0.blk (p := ⟨x, 0, none⟩) hpxn (.int .i64 z0))
  have X1 := Lib.hid ((t0.keep X0.out hxpn).set_ 0 (.int .i64 z0))
  have HB1 := Lib.hid ((HB0.out.trans (t0.chg.to_below HB0.out.size (fun k hk e => by have h2 : k = p := e; omega))).setCell (p := ⟨x, 0, none⟩) (by show w.heap.size ≤ x; omega) (.int .i64 z0))
  have cN : (U0.setCell ⟨x, 0, none⟩ (.int .i64 z0)).cell? ⟨c, 0, none⟩ = some (.pointer (some ⟨p, 0, none⟩)) := C1.out.cell 0
  clear t0 D0 C0 R0 X0 HB0
  go_wp2_with fail
  obtain ⟨V1, hV⟩ : ∃ V, U0.setCell ⟨x, 0, none⟩ (.int .i64 z0) = V := ⟨_, rfl⟩
  rw [hV] at D1 C1 R1 X1 HB1 ⊢
  clear hV xc xf cN
  have hC := rl_ent p c q0.2 V1 C1.out hcpn R1.out (by have := hL1.out; omega)
  have hL := listR_le entR entR_len q0.2
  obtain ⟨q1, hq⟩ : ∃ q, listR entR q0.2 = q := ⟨_, rfl⟩
  rw [hq] at hC hL
  have HX1 := Lib.hid hq
  clear hq
  refine hC.mono ?_
  rintro e U1 ⟨v1, rfl, o1, b1, t1⟩
  obtain ⟨A1, cap1, rfl, hm1⟩ := own_slice o1
  clear hC
  have hxl := X1.out.lt
  have BQ1 := Lib.hid (show ∀ q, (Value.slice A1 q1.1.length cap1).ownBlock = some q → x < q from fun q hq => by have := b1 q hq; omega)
  have HM1 := Lib.hid hm1
  clear b1 hm1 hxl
  have hL2 := Lib.hid (Nat.le_trans hL hL1.out)
  clear hL
  have xc : U1.cell? ⟨x, 1, none⟩ = some (.slice none 0 0) := (t1.keep X1.out hxpn).cell 1
  have xf : U1.frozen? ⟨x, 1, none⟩ = false := (t1.keep X1.out hxpn).frozen 1
  have D2 := Lib.hid ((t1.keep D1.out hdpn).far (p := ⟨x, 1, none⟩) hdxn (.slice A1 q1.1.length cap1))
  have C2 := Lib.hid ((t1.keep C1.out hcpn).far (p := ⟨x, 1, none⟩) hcxn (.slice A1 q1.1.length cap1))
  have R2 := Lib.hid (show RdAt _ p q1.2 from Blk.far t1.blk (p := ⟨x, 1, none⟩) hpxn (.slice A1 q1.1.length cap1))
  have X2 := Lib.hid ((t1.keep X1.out hxpn).set_ 1 (.slice A1 q1.1.length cap1))
  have HB2 := Lib.hid ((HB1.out.trans (t1.chg.to_below HB1.out.size (fun k hk e => by have h2 : k = p := e; omega))).setCell (p := ⟨x, 1, none⟩) (by show w.heap.size ≤ x; omega) (.slice A1 q1.1.length cap1))
  have O1_2 := Lib.hid (o1.set (g := x) (fun e => by have := BQ1.out x e; omega) 1 (.slice A1 q1.1.length cap1))
  clear o1
  have cN : (U1.setCell ⟨x, 1, none⟩ (.slice A1 q1.1.length cap1)).cell? ⟨c, 0, none⟩ = some (.pointer (some ⟨p, 0, none⟩)) := C2.out.cell 0
  clear t1 D1 C1 R1 X1 HB1
  go_wp2_with fail
  obtain ⟨V2, hV⟩ : ∃ V, U1.setCell ⟨x, 1, none⟩ (.slice A1 q1.1.length cap1) = V := ⟨_, rfl⟩
  rw [hV] at D2 C2 R2 X2 HB2 O1_2 ⊢
  clear hV xc xf cN
  have hC := rl_rul p c q1.2 V2 C2.out hcpn R2.out (by have := hL2.out; omega)
  have hL := listR_le rulR rulR_len q1.2
  obtain ⟨q2, hq⟩ : ∃ q, listR rulR q1.2 = q := ⟨_, rfl⟩
  rw [hq] at hC hL
  have HX2 := Lib.hid hq
  clear hq
  refine hC.mono ?_
  rintro e U2 ⟨v2, rfl, o2, b2, t2⟩
  obtain ⟨A2, cap2, rfl, hm2⟩ := own_slice o2
  clear hC
  have hxl := X2.out.lt
  have BQ2 := Lib.hid (show ∀ q, (Value.slice A2 q2.1.length cap2).ownBlock = some q → x < q from fun q hq => by have := b2 q hq; omega)
  have HM2 := Lib.hid hm2
  clear b2 hm2 hxl
  have hL3 := Lib.hid (Nat.le_trans hL hL2.out)
  clear hL
  have xc : U2.cell? ⟨x, 2, none⟩ = some (.slice none 0 0) := (t2.keep X2.out hxpn).cell 2
  have xf : U2.frozen? ⟨x, 2, none⟩ = false := (t2.keep X2.out hxpn).frozen 2
  have D3 := Lib.hid ((t2.keep D2.out hdpn).far (p := ⟨x, 2, none⟩) hdxn (.slice A2 q2.1.length cap2))
  have C3 := Lib.hid ((t2.keep C2.out hcpn).far (p := ⟨x, 2, none⟩) hcxn (.slice A2 q2.1.length cap2))
  have R3 := Lib.hid (show RdAt _ p q2.2 from Blk.far t2.blk (p := ⟨x, 2, none⟩) hpxn (.slice A2 q2.1.length cap2))
  have X3 := Lib.hid ((t2.keep X2.out hxpn).set_ 2 (.slice A2 q2.1.length cap2))
  have HB3 := Lib.hid ((HB2.out.trans (t2.chg.to_below HB2.out.size (fun k hk e => by have h2 : k = p := e; omega))).setCell (p := ⟨x, 2, none⟩) (by show w.heap.size ≤ x; omega) (.slice A2 q2.1.length cap2))
  have O1_3 := Lib.hid ((O1_2.out.chg t2.chg (fun q hq e => by have h1 := BQ1.out q hq; have h2 : q = p := e; omega)).set (g := x) (fun e => by have := BQ1.out x e; omega) 2 (.slice A2 q2.1.length cap2))
  have O2_3 := Lib.hid (o2.set (g := x) (fun e => by have := BQ2.out x e; omega) 2 (.slice A2 q2.1.length cap2))
  clear o2
  have cN : (U2.setCell ⟨x, 2, none⟩ (.slice A2 q2.1.length cap2)).cell? ⟨c, 0, none⟩ = some (.pointer (some ⟨p, 0, none⟩)) := C3.out.cell 0
  clear t2 D2 C2 R2 X2 HB2 O1_2
  go_wp2_with fail
  obtain ⟨V3, hV⟩ : ∃ V, U2.setCell ⟨x, 2, none⟩ (.slice A2 q2.1.length cap2) = V := ⟨_, rfl⟩
  rw [hV] at D3 C3 R3 X3 HB3 O1_3 O2_3 ⊢
  clear hV xc xf cN
  have hC := rl_grt p c q2.2 V3 C3.out hcpn R3.out (by have := hL3.out; omega)
  have hL := listR_le grtR grtR_len q2.2
  obtain ⟨q3, hq⟩ : ∃ q, listR grtR q2.2 = q := ⟨_, rfl⟩
  rw [hq] at hC hL
  have HX3 := Lib.hid hq
  clear hq
  refine hC.mono ?_
  rintro e U3 ⟨v3, rfl, o3, b3, t3⟩
  obtain ⟨A3, cap3, rfl, hm3⟩ := own_slice o3
  clear hC
  have hxl := X3.out.lt
  have BQ3 := Lib.hid (show ∀ q, (Value.slice A3 q3.1.length cap3).ownBlock = some q → x < q from fun q hq => by have := b3 q hq; omega)
  have HM3 := Lib.hid hm3
  clear b3 hm3 hxl
  have hL4 := Lib.hid (Nat.le_trans hL hL3.out)
  clear hL
  have xc : U3.cell? ⟨x, 3, none⟩ = some (.slice none 0 0) := (t3.keep X3.out hxpn).cell 3
  have xf : U3.frozen? ⟨x, 3, none⟩ = false := (t3.keep X3.out hxpn).frozen 3
  have D4 := Lib.hid ((t3.keep D3.out hdpn).far (p := ⟨x, 3, none⟩) hdxn (.slice A3 q3.1.length cap3))
  have C4 := Lib.hid ((t3.keep C3.out hcpn).far (p := ⟨x, 3, none⟩) hcxn (.slice A3 q3.1.length cap3))
  have R4 := Lib.hid (show RdAt _ p q3.2 from Blk.far t3.blk (p := ⟨x, 3, none⟩) hpxn (.slice A3 q3.1.length cap3))
  have X4 := Lib.hid ((t3.keep X3.out hxpn).set_ 3 (.slice A3 q3.1.length cap3))
  have HB4 := Lib.hid ((HB3.out.trans (t3.chg.to_below HB3.out.size (fun k hk e => by have h2 : k = p := e; omega))).setCell (p := ⟨x, 3, none⟩) (by show w.heap.size ≤ x; omega) (.slice A3 q3.1.length cap3))
  have O1_4 := Lib.hid ((O1_3.out.chg t3.chg (fun q hq e => by have h1 := BQ1.out q hq; have h2 : q = p := e; omega)).set (g := x) (fun e => by have := BQ1.out x e; omega) 3 (.slice A3 q3.1.length cap3))
  have O2_4 := Lib.hid ((O2_3.out.chg t3.chg (fun q hq e => by have h1 := BQ2.out q hq; have h2 : q = p := e; omega)).set (g := x) (fun e => by have := BQ2.out x e; omega) 3 (.slice A3 q3.1.length cap3))
  have O3_4 := Lib.hid (o3.set (g := x) (fun e => by have := BQ3.out x e; omega) 3 (.slice A3 q3.1.length cap3))
  clear o3
  have cN : (U3.setCell ⟨x, 3, none⟩ (.slice A3 q3.1.length cap3)).cell? ⟨c, 0, none⟩ = some (.pointer (some ⟨p, 0, none⟩)) := C4.out.cell 0
  clear t3 D3 C3 R3 X3 HB3 O1_3 O2_3
  go_wp2_with fail
  obtain ⟨V4, hV⟩ : ∃ V, U3.setCell ⟨x, 3, none⟩ (.slice A3 q3.1.length cap3) = V := ⟨_, rfl⟩
  rw [hV] at D4 C4 R4 X4 HB4 O1_4 O2_4 O3_4 ⊢
  clear hV xc xf cN
  have hC := rl_evt p c q3.2 V4 C4.out hcpn R4.out (by have := hL4.out; omega)
  have hL := listR_le evtR evtR_len q3.2
  obtain ⟨q4, hq⟩ : ∃ q, listR evtR q3.2 = q := ⟨_, rfl⟩
  rw [hq] at hC hL
  have HX4 := Lib.hid hq
  clear hq
  refine hC.mono ?_
  rintro e U4 ⟨v4, rfl, o4, b4, t4⟩
  obtain ⟨A4, cap4, rfl, hm4⟩ := own_slice o4
  clear hC
  have hxl := X4.out.lt
  have BQ4 := Lib.hid (show ∀ q, (Value.slice A4 q4.1.length cap4).ownBlock = some q → x < q from fun q hq => by have := b4 q hq; omega)
  have HM4 := Lib.hid hm4
  clear b4 hm4 hxl
  have hL5 := Lib.hid (Nat.le_trans hL hL4.out)
  clear hL
  have xc : U4.cell? ⟨x, 4, none⟩ = some (.slice none 0 0) := (t4.keep X4.out hxpn).cell 4
  have xf : U4.frozen? ⟨x, 4, none⟩ = false := (t4.keep X4.out hxpn).frozen 4
  have D5 := Lib.hid ((t4.keep D4.out hdpn).far (p := ⟨x, 4, none⟩) hdxn (.slice A4 q4.1.length cap4))
  have C5 := Lib.hid ((t4.keep C4.out hcpn).far (p := ⟨x, 4, none⟩) hcxn (.slice A4 q4.1.length cap4))
  have R5 := Lib.hid (show RdAt _ p q4.2 from Blk.far t4.blk (p := ⟨x, 4, none⟩) hpxn (.slice A4 q4.1.length cap4))
  have X5 := Lib.hid ((t4.keep X4.out hxpn).set_ 4 (.slice A4 q4.1.length cap4))
  have HB5 := Lib.hid ((HB4.out.trans (t4.chg.to_below HB4.out.size (fun k hk e => by have h2 : k = p := e; omega))).setCell (p := ⟨x, 4, none⟩) (by show w.heap.size ≤ x; omega) (.slice A4 q4.1.length cap4))
  have O1_5 := Lib.hid ((O1_4.out.chg t4.chg (fun q hq e => by have h1 := BQ1.out q hq; have h2 : q = p := e; omega)).set (g := x) (fun e => by have := BQ1.out x e; omega) 4 (.slice A4 q4.1.length cap4))
  have O2_5 := Lib.hid ((O2_4.out.chg t4.chg (fun q hq e => by have h1 := BQ2.out q hq; have h2 : q = p := e; omega)).set (g := x) (fun e => by have := BQ2.out x e; omega) 4 (.slice A4 q4.1.length cap4))
  have O3_5 := Lib.hid ((O3_4.out.chg t4.chg (fun q hq e => by have h1 := BQ3.out q hq; have h2 : q = p := e; omega)).set (g := x) (fun e => by have := BQ3.out x e; omega) 4 (.slice A4 q4.1.length cap4))
  have O4_5 := Lib.hid (o4.set (g := x) (fun e => by have := BQ4.out x e; omega) 4 (.slice A4 q4.1.length cap4))
  clear o4
  have cN : (U4.setCell ⟨x, 4, none⟩ (.slice A4 q4.1.length cap4)).cell? ⟨c, 0, none⟩ = some (.pointer (some ⟨p, 0, none⟩)) := C5.out.cell 0
  clear t4 D4 C4 R4 X4 HB4 O1_4 O2_4 O3_4
  go_wp2_with fail
  obtain ⟨V5, hV⟩ : ∃ V, U4.setCell ⟨x, 4, none⟩ (.slice A4 q4.1.length cap4) = V := ⟨_, rfl⟩
  rw [hV] at D5 C5 R5 X5 HB5 O1_5 O2_5 O3_5 O4_5 ⊢
  clear hV xc xf cN
  have hC := rl_rls p c q4.2 V5 C5.out hcpn R5.out (by have := hL5.out; omega)
  have hL := listR_le rlsR rlsR_len q4.2
  obtain ⟨q5, hq⟩ : ∃ q, listR rlsR q4.2 = q := ⟨_, rfl⟩
  rw [hq] at hC hL
  have HX5 := Lib.hid hq
  clear hq
  refine hC.mono ?_
  rintro e U5 ⟨v5, rfl, o5, b5, t5⟩
  obtain ⟨A5, cap5, rfl, hm5⟩ := own_slice o5
  clear hC
  have hxl := X5.out.lt
  have BQ5 := Lib.hid (show ∀ q, (Value.slice A5 q5.1.length cap5).ownBlock = some q → x < q from fun q hq => by have := b5 q hq; omega)
  have HM5 := Lib.hid hm5
  clear b5 hm5 hxl
  have hL6 := Lib.hid (Nat.le_trans hL hL5.out)
  clear hL
  have xc : U5.cell? ⟨x, 5, none⟩ = some (.slice none 0 0) := (t5.keep X5.out hxpn).cell 5
  have xf : U5.frozen? ⟨x, 5, none⟩ = false := (t5.keep X5.out hxpn).frozen 5
  have D6 := Lib.hid ((t5.keep D5.out hdpn).far (p := ⟨x, 5, none⟩) hdxn (.slice A5 q5.1.length cap5))
  have C6 := Lib.hid ((t5.keep C5.out hcpn).far (p := ⟨x, 5, none⟩) hcxn (.slice A5 q5.1.length cap5))
  have R6 := Lib.hid (show RdAt _ p q5.2 from Blk.far t5.blk (p := ⟨x, 5, none⟩) hpxn (.slice A5 q5.1.length cap5))
  have X6 := Lib.hid ((t5.keep X5.out hxpn).set_ 5 (.slice A5 q5.1.length cap5))
  have HB6 := Lib.hid ((HB5.out.trans (t5.chg.to_below HB5.out.size (fun k hk e => by have h2 : k = p := e; omega))).setCell (p := ⟨x, 5, none⟩) (by show w.heap.size ≤ x; omega) (.slice A5 q5.1.length cap5))
  have O1_6 := Lib.hid ((O1_5.out.chg t5.chg (fun q hq e => by have h1 := BQ1.out q hq; have h2 : q = p := e; omega)).set (g := x) (fun e => by have := BQ1.out x e; omega) 5 (.slice A5 q5.1.length cap5))
  have O2_6 := Lib.hid ((O2_5.out.chg t5.chg (fun q hq e => by have h1 := BQ2.out q hq; have h2 : q = p := e; omega)).set (g := x) (fun e => by have := BQ2.out x e; omega) 5 (.slice A5 q5.1.length cap5))
  have O3_6 := Lib.hid ((O3_5.out.chg t5.chg (fun q hq e => by have h1 := BQ3.out q hq; have h2 : q = p := e; omega)).set (g := x) (fun e => by have := BQ3.out x e; omega) 5 (.slice A5 q5.1.length cap5))
  have O4_6 := Lib.hid ((O4_5.out.chg t5.chg (fun q hq e => by have h1 := BQ4.out q hq; have h2 : q = p := e; omega)).set (g := x) (fun e => by have := BQ4.out x e; omega) 5 (.slice A5 q5.1.length cap5))
  have O5_6 := Lib.hid (o5.set (g := x) (fun e => by have := BQ5.out x e; omega) 5 (.slice A5 q5.1.length cap5))
  clear o5
  have cN : (U5.setCell ⟨x, 5, none⟩ (.slice A5 q5.1.length cap5)).cell? ⟨c, 0, none⟩ = some (.pointer (some ⟨p, 0, none⟩)) := C6.out.cell 0
  clear t5 D5 C5 R5 X5 HB5 O1_5 O2_5 O3_5 O4_5
  go_wp2_with fail
  obtain ⟨V6, hV⟩ : ∃ V, U5.setCell ⟨x, 5, none⟩ (.slice A5 q5.1.length cap5) = V := ⟨_, rfl⟩
  rw [hV] at D6 C6 R6 X6 HB6 O1_6 O2_6 O3_6 O4_6 O5_6 ⊢
  clear hV xc xf cN
  have hC := rd_int p q5.2 V6 R6.out (by have := hL6.out; omega)
  have hL := numR_len q5.2
  obtain ⟨q6, hq⟩ : ∃ q, numR q5.2 = q := ⟨_, rfl⟩
  rw [hq] at hC hL
  have HQ6 := Lib.hid hq
  clear hq
  refine hC.mono ?_
  rintro e U6 ⟨rfl, t6⟩
  generalize hz : wrapI q6.1 = z6
  have HX6 := Lib.hid (intR_q HQ6.out hz)
  clear hz hC
  have hL7 := Lib.hid (Nat.le_trans hL hL6.out)
  clear hL
  have xc : U6.cell? ⟨x, 6, none⟩ = some (.int .i64 0) := (t6.keep X6.out hxpn).cell 6
  have xf : U6.frozen? ⟨x, 6, none⟩ = false := (t6.keep X6.out hxpn).frozen 6
  have D7 := Lib.hid ((t6.keep D6.out hdpn).far (p := ⟨x, 6, none⟩) hdxn (.int .i64 z6))
  have C7 := Lib.hid ((t6.keep C6.out hcpn).far (p := ⟨x, 6, none⟩) hcxn (.int .i64 z6))
  have R7 := Lib.hid (show RdAt _ p q6.2 from Blk.far t6.blk (p := ⟨x, 6, none⟩) hpxn (.int .i64 z6))
  have X7 := Lib.hid ((t6.keep X6.out hxpn).set_ 6 (.int .i64 z6))
  have HB7 := Lib.hid ((HB6.out.trans (t6.chg.to_below HB6.out.size (fun k hk e => by have h2 : k = p := e; omega))).setCell (p := ⟨x, 6, none⟩) (by show w.heap.size ≤ x; omega) (.int .i64 z6))
  have O1_7 := Lib.hid ((O1_6.out.chg t6.chg (fun q hq e => by have h1 := BQ1.out q hq; have h2 : q = p := e; omega)).set (g := x) (fun e => by have := BQ1.out x e; omega) 6 (.int .i64 z6))
  have O2_7 := Lib.hid ((O2_6.out.chg t6.chg (fun q hq e => by have h1 := BQ2.out q hq; have h2 : q = p := e; omega)).set (g := x) (fun e => by have := BQ2.out x e; omega) 6 (.int .i64 z6))
  have O3_7 := Lib.hid ((O3_6.out.chg t6.chg (fun q hq e => by have h1 := BQ3.out q hq; have h2 : q = p := e; omega)).set (g := x) (fun e => by have := BQ3.out x e; omega) 6 (.int .i64 z6))
  have O4_7 := Lib.hid ((O4_6.out.chg t6.chg (fun q hq e => by have h1 := BQ4.out q hq; have h2 : q = p := e; omega)).set (g := x) (fun e => by have := BQ4.out x e; omega) 6 (.int .i64 z6))
  have O5_7 := Lib.hid ((O5_6.out.chg t6.chg (fun q hq e => by have h1 := BQ5.out q hq; have h2 : q = p := e; omega)).set (g := x) (fun e => by have := BQ5.out x e; omega) 6 (.int .i64 z6))
  have cN : (U6.setCell ⟨x, 6, none⟩ (.int .i64 z6)).cell? ⟨c, 0, none⟩ = some (.pointer (some ⟨p, 0, none⟩)) := C7.out.cell 0
  clear t6 D6 C6 R6 X6 HB6 O1_6 O2_6 O3_6 O4_6 O5_6
  go_wp2_with fail
  obtain ⟨V7, hV⟩ : ∃ V, U6.setCell ⟨x, 6, none⟩ (.int .i64 z6) = V := ⟨_, rfl⟩
  rw [hV] at D7 C7 R7 X7 HB7 O1_7 O2_7 O3_7 O4_7 O5_7 ⊢
  clear hV xc xf cN
  have hC := rl_opr p q6.2 V7 R7.out (by have := hL7.out; omega)
  have hL := listR_le oprR oprR_len q6.2
  obtain ⟨q7, hq⟩ : ∃ q, listR oprR q6.2 = q := ⟨_, rfl⟩
  rw [hq] at hC hL
  have HX7 := Lib.hid hq
  clear hq
  refine hC.mono ?_
  rintro e U7 ⟨v7, rfl, o7, b7, t7⟩
  obtain ⟨A7, cap7, rfl, hm7⟩ := own_slice o7
  clear hC
  have hxl := X7.out.lt
  have BQ7 := Lib.hid (show ∀ q, (Value.slice A7 q7.1.length cap7).ownBlock = some q → x < q from fun q hq => by have := b7 q hq; omega)
  have HM7 := Lib.hid hm7
  clear b7 hm7 hxl
  have hL8 := Lib.hid (Nat.le_trans hL hL7.out)
  clear hL
  have xc : U7.cell? ⟨x, 7, none⟩ = some (.slice none 0 0) := (t7.keep X7.out hxpn).cell 7
  have xf : U7.frozen? ⟨x, 7, none⟩ = false := (t7.keep X7.out hxpn).frozen 7
  have D8 := Lib.hid ((t7.keep D7.out hdpn).far (p := ⟨x, 7, none⟩) hdxn (.slice A7 q7.1.length cap7))
  have C8 := Lib.hid ((t7.keep C7.out hcpn).far (p := ⟨x, 7, none⟩) hcxn (.slice A7 q7.1.length cap7))
  have R8 := Lib.hid (show RdAt _ p q7.2 from Blk.far t7.blk (p := ⟨x, 7, none⟩) hpxn (.slice A7 q7.1.length cap7))
  have X8 := Lib.hid ((t7.keep X7.out hxpn).set_ 7 (.slice A7 q7.1.length cap7))
  have HB8 := Lib.hid ((HB7.out.trans (t7.chg.to_below HB7.out.size (fun k hk e => by have h2 : k = p := e; omega))).setCell (p := ⟨x, 7, none⟩) (by show w.heap.size ≤ x; omega) (.slice A7 q7.1.length cap7))
  have O1_8 := Lib.hid ((O1_7.out.chg t7.chg (fun q hq e => by have h1 := BQ1.out q hq; have h2 : q = p := e; omega)).set (g := x) (fun e => by have := BQ1.out x e; omega) 7 (.slice A7 q7.1.length cap7))
  have O2_8 := Lib.hid ((O2_7.out.chg t7.chg (fun q hq e => by have h1 := BQ2.out q hq; have h2 : q = p := e; omega)).set (g := x) (fun e => by have := BQ2.out x e; omega) 7 (.slice A7 q7.1.length cap7))
  have O3_8 := Lib.hid ((O3_7.out.chg t7.chg (fun q hq e => by have h1 := BQ3.out q hq; have h2 : q = p := e; omega)).set (g := x) (fun e => by have := BQ3.out x e; omega) 7 (.slice A7 q7.1.length cap7))
  have O4_8 := Lib.hid ((O4_7.out.chg t7.chg (fun q hq e => by have h1 := BQ4.out q hq; have h2 : q = p := e; omega)).set (g := x) (fun e => by have := BQ4.out x e; omega) 7 (.slice A7 q7.1.length cap7))
  have O5_8 := Lib.hid ((O5_7.out.chg t7.chg (fun q hq e => by have h1 := BQ5.out q hq; have h2 : q = p := e; omega)).set (g := x) (fun e => by have := BQ5.out x e; omega) 7 (.slice A7 q7.1.length cap7))
  have O7_8 := Lib.hid (o7.set (g := x) (fun e => by have := BQ7.out x e; omega) 7 (.slice A7 q7.1.length cap7))
  clear o7
  have cN : (U7.setCell ⟨x, 7, none⟩ (.slice A7 q7.1.length cap7)).cell? ⟨c, 0, none⟩ = some (.pointer (some ⟨p, 0, none⟩)) := C8.out.cell 0
  clear t7 D7 C7 R7 X7 HB7 O1_7 O2_7 O3_7 O4_7 O5_7
  go_upto_region 14 with (fail)
  obtain ⟨V8, hV⟩ : ∃ V, U7.setCell ⟨x, 7, none⟩ (.slice A7 q7.1.length cap7) = V := ⟨_, rfl⟩
  rw [hV] at D8 C8 R8 X8 HB8 O1_8 O2_8 O3_8 O4_8 O5_8 O7_8 ⊢
  clear hV xc xf cN
  have HS : RowKit.Hid (scpR (s, false) = ((⟨⟨z0, q1.1, q2.1, q3.1, q4.1, q5.1, z6⟩, q7.1⟩ : Scp), q7.2)) := Lib.hid (scpR_of HX0.out HX1.out HX2.out HX3.out HX4.out HX5.out HX6.out HX7.out)
  have HF := Lib.hid (fit_of hs6 HS.out)
  have RD8 := Lib.hid (show RdScp V8 V8.heap.size (⟨⟨z0, q1.1, q2.1, q3.1, q4.1, q5.1, z6⟩, q7.1⟩ : Scp) (.slice A1 q1.1.length cap1) (.slice A2 q2.1.length cap2) (.slice A3 q3.1.length cap3) (.slice A4 q4.1.length cap4) (.slice A5 q5.1.length cap5) (.slice A7 q7.1.length cap7) from
    ⟨⟨O1_8.out.sls HM1.out, O2_8.out.sls HM2.out, O3_8.out.sls HM3.out, O4_8.out.sls HM4.out, O5_8.out.sls HM5.out⟩, O7_8.out.sls HM7.out⟩)
  have XL := Lib.hid (show Blk V8 x 31 #[.int .i64 z0, .slice A1 q1.1.length cap1, .slice A2 q2.1.length cap2, .slice A3 q3.1.length cap3, .slice A4 q4.1.length cap4, .slice A5 q5.1.length cap5, .int .i64 z6, .slice A7 q7.1.length cap7] from X8.out)
  have hRB := Blk.cell R8.out 1
  clear X8 HX0 HX1 HX2 HX3 HX4 HX5 HX6 HX7 HQ0 HQ6 hL0 hL1 hL2 hL3 hL4 hL5 hL6 hL7 hL8
  have y0 : V8.cell? ⟨c, 0, none⟩ = some (.pointer (some ⟨p, 0, none⟩)) := C8.out.cell 0
  rcases hbd : q7.2.2 with _ | _
  rotate_left
  · have HE := Lib.hid (decR_bad (by omega) HS.out (Or.inl hbd))
    have y1 : V8.cell? ⟨p, 1, none⟩ = some (.bool true) := by rw [← hbd]; exact hRB
    clear hRB hbd
    have g0 : V8.cell? ⟨w.heap.size, 0, none⟩ = some (.int .i64 0) := D8.out.cell 0
    have h0 : V8.frozen? ⟨w.heap.size, 0, none⟩ = false := D8.out.frozen 0
    have g1 : V8.cell? ⟨w.heap.size, 1, none⟩ = some (.slice none 0 0) := D8.out.cell 1
    have h1 : V8.frozen? ⟨w.heap.size, 1, none⟩ = false := D8.out.frozen 1
    have g2 : V8.cell? ⟨w.heap.size, 2, none⟩ = some (.slice none 0 0) := D8.out.cell 2
    have h2 : V8.frozen? ⟨w.heap.size, 2, none⟩ = false := D8.out.frozen 2
    have g3 : V8.cell? ⟨w.heap.size, 3, none⟩ = some (.slice none 0 0) := D8.out.cell 3
    have h3 : V8.frozen? ⟨w.heap.size, 3, none⟩ = false := D8.out.frozen 3
    have g4 : V8.cell? ⟨w.heap.size, 4, none⟩ = some (.slice none 0 0) := D8.out.cell 4
    have h4 : V8.frozen? ⟨w.heap.size, 4, none⟩ = false := D8.out.frozen 4
    have g5 : V8.cell? ⟨w.heap.size, 5, none⟩ = some (.slice none 0 0) := D8.out.cell 5
    have h5 : V8.frozen? ⟨w.heap.size, 5, none⟩ = false := D8.out.frozen 5
    have g6 : V8.cell? ⟨w.heap.size, 6, none⟩ = some (.int .i64 0) := D8.out.cell 6
    have h6 : V8.frozen? ⟨w.heap.size, 6, none⟩ = false := D8.out.frozen 6
    have g7 : V8.cell? ⟨w.heap.size, 7, none⟩ = some (.slice none 0 0) := D8.out.cell 7
    have h7 : V8.frozen? ⟨w.heap.size, 7, none⟩ = false := D8.out.frozen 7
    go_wp2
    have KF := Lib.hid (Blk.set_ (Blk.set_ (Blk.set_ (Blk.set_ (Blk.set_ (Blk.set_ (Blk.set_ (Blk.set_ D8.out 0 (.int .i64 0)) 1 (.slice none 0 0)) 2 (.slice none 0 0)) 3 (.slice none 0 0)) 4 (.slice none 0 0)) 5 (.slice none 0 0)) 6 (.int .i64 0)) 7 (.slice none 0 0))
    have BF := Lib.hid (Below.setCell (Below.setCell (Below.setCell (Below.setCell (Below.setCell (Below.setCell (Below.setCell (Below.setCell HB8.out (p := ⟨w.heap.size, 0, none⟩) (Nat.le_refl _) (.int .i64 0)) (p := ⟨w.heap.size, 1, none⟩) (Nat.le_refl _) (.slice none 0 0)) (p := ⟨w.heap.size, 2, none⟩) (Nat.le_refl _) (.slice none 0 0)) (p := ⟨w.heap.size, 3, none⟩) (Nat.le_refl _) (.slice none 0 0)) (p := ⟨w.heap.size, 4, none⟩) (Nat.le_refl _) (.slice none 0 0)) (p := ⟨w.heap.size, 5, none⟩) (Nat.le_refl _) (.slice none 0 0)) (p := ⟨w.heap.size, 6, none⟩) (Nat.le_refl _) (.int .i64 0)) (p := ⟨w.heap.size, 7, none⟩) (Nat.le_refl _) (.slice none 0 0))
    have d0 := KF.out.cell 0
    have d1 := KF.out.cell 1
    have d2 := KF.out.cell 2
    have d3 := KF.out.cell 3
    have d4 := KF.out.cell 4
    have d5 := KF.out.cell 5
    have d6 := KF.out.cell 6
    have d7 := KF.out.cell 7
    refine bodyPost_ret (v := .tuple #[.agg #[.int .i64 0, .slice none 0 0, .slice none 0 0, .slice none 0 0, .slice none 0 0, .slice none 0 0, .int .i64 0, .slice none 0 0], .int .i64 4]) (by simp (maxDischargeDepth := 9) [results, Tryz.results23, go_sem, d0, d1, d2, d3, d4, d5, d6, d7]) rfl ?_
    rw [HE.out]
    exact ⟨_, _, _, _, _, _, rfl, noS_rd _ _, BF.out⟩
  have y1 : V8.cell? ⟨p, 1, none⟩ = some (.bool false) := by rw [← hbd]; exact hRB
  have HBD := Lib.hid hbd
  clear hRB hbd
  have x0 : V8.cell? ⟨x, 0, none⟩ = some (.int .i64 z0) := XL.out.cell 0
  have x1 : V8.cell? ⟨x, 1, none⟩ = some (.slice A1 q1.1.length cap1) := XL.out.cell 1
  have x2 : V8.cell? ⟨x, 2, none⟩ = some (.slice A2 q2.1.length cap2) := XL.out.cell 2
  have x3 : V8.cell? ⟨x, 3, none⟩ = some (.slice A3 q3.1.length cap3) := XL.out.cell 3
  have x4 : V8.cell? ⟨x, 4, none⟩ = some (.slice A4 q4.1.length cap4) := XL.out.cell 4
  have x5 : V8.cell? ⟨x, 5, none⟩ = some (.slice A5 q5.1.length cap5) := XL.out.cell 5
  have x6 : V8.cell? ⟨x, 6, none⟩ = some (.int .i64 z6) := XL.out.cell 6
  have x7 : V8.cell? ⟨x, 7, none⟩ = some (.slice A7 q7.1.length cap7) := XL.out.cell 7
  go_wp2_with fail
  refine (script_check_any (⟨⟨z0, q1.1, q2.1, q3.1, q4.1, q5.1, z6⟩, q7.1⟩ : Scp) _ _ _ _ _ _ V8.heap.size V8 (Nat.le_refl _) RD8.out (HW.out.below HB8.out) HF.out.ents (fun x hx => by have k := (HF.out.ok.book.log x hx).to_; exact ⟨k.1, by have := k.2; omega⟩)).mono ?_
  rintro e V9 ⟨rfl, hb9⟩
  have D9 := Lib.hid (D8.out.below_ hb9)
  have XL9 := Lib.hid (XL.out.below_ hb9)
  have RD9 := Lib.hid (RD8.out.below hb9)
  have HB9 := Lib.hid (Below.next HB8.out hb9 HB8.out.size)
  have HZ9 := Lib.hid hb9.size
  have OO1 := Lib.hid (O1_8.out.below hb9)
  have OO2 := Lib.hid (O2_8.out.below hb9)
  have OO3 := Lib.hid (O3_8.out.below hb9)
  have OO4 := Lib.hid (O4_8.out.below hb9)
  have OO5 := Lib.hid (O5_8.out.below hb9)
  have OO7 := Lib.hid (O7_8.out.below hb9)
  clear O1_8 O2_8 O3_8 O4_8 O5_8 O7_8
  clear hb9 x0 x1 x2 x3 x4 x5 x6 x7 y0 y1
  by_cases hE : scpE (⟨⟨z0, q1.1, q2.1, q3.1, q4.1, q5.1, z6⟩, q7.1⟩ : Scp) = 0
  rotate_left
  · have HE := Lib.hid (decR_bad (by omega) HS.out (Or.inr (Or.inl hE)))
    obtain ⟨E, hEE⟩ : ∃ E, scpE (⟨⟨z0, q1.1, q2.1, q3.1, q4.1, q5.1, z6⟩, q7.1⟩ : Scp) = E := ⟨_, rfl⟩
    rw [hEE] at hE ⊢
    clear hEE
    have e0 : (E == 0) = false := by simpa using hE
    have e1 : (E != 0) = true := by simpa using hE
    have g0 : V9.cell? ⟨w.heap.size, 0, none⟩ = some (.int .i64 0) := D9.out.cell 0
    have h0 : V9.frozen? ⟨w.heap.size, 0, none⟩ = false := D9.out.frozen 0
    have g1 : V9.cell? ⟨w.heap.size, 1, none⟩ = some (.slice none 0 0) := D9.out.cell 1
    have h1 : V9.frozen? ⟨w.heap.size, 1, none⟩ = false := D9.out.frozen 1
    have g2 : V9.cell? ⟨w.heap.size, 2, none⟩ = some (.slice none 0 0) := D9.out.cell 2
    have h2 : V9.frozen? ⟨w.heap.size, 2, none⟩ = false := D9.out.frozen 2
    have g3 : V9.cell? ⟨w.heap.size, 3, none⟩ = some (.slice none 0 0) := D9.out.cell 3
    have h3 : V9.frozen? ⟨w.heap.size, 3, none⟩ = false := D9.out.frozen 3
    have g4 : V9.cell? ⟨w.heap.size, 4, none⟩ = some (.slice none 0 0) := D9.out.cell 4
    have h4 : V9.frozen? ⟨w.heap.size, 4, none⟩ = false := D9.out.frozen 4
    have g5 : V9.cell? ⟨w.heap.size, 5, none⟩ = some (.slice none 0 0) := D9.out.cell 5
    have h5 : V9.frozen? ⟨w.heap.size, 5, none⟩ = false := D9.out.frozen 5
    have g6 : V9.cell? ⟨w.heap.size, 6, none⟩ = some (.int .i64 0) := D9.out.cell 6
    have h6 : V9.frozen? ⟨w.heap.size, 6, none⟩ = false := D9.out.frozen 6
    have g7 : V9.cell? ⟨w.heap.size, 7, none⟩ = some (.slice none 0 0) := D9.out.cell 7
    have h7 : V9.frozen? ⟨w.heap.size, 7, none⟩ = false := D9.out.frozen 7
    go_wp2
    have KF := Lib.hid (Blk.set_ (Blk.set_ (Blk.set_ (Blk.set_ (Blk.set_ (Blk.set_ (Blk.set_ (Blk.set_ D9.out 0 (.int .i64 0)) 1 (.slice none 0 0)) 2 (.slice none 0 0)) 3 (.slice none 0 0)) 4 (.slice none 0 0)) 5 (.slice none 0 0)) 6 (.int .i64 0)) 7 (.slice none 0 0))
    have BF := Lib.hid (Below.setCell (Below.setCell (Below.setCell (Below.setCell (Below.setCell (Below.setCell (Below.setCell (Below.setCell HB9.out (p := ⟨w.heap.size, 0, none⟩) (Nat.le_refl _) (.int .i64 0)) (p := ⟨w.heap.size, 1, none⟩) (Nat.le_refl _) (.slice none 0 0)) (p := ⟨w.heap.size, 2, none⟩) (Nat.le_refl _) (.slice none 0 0)) (p := ⟨w.heap.size, 3, none⟩) (Nat.le_refl _) (.slice none 0 0)) (p := ⟨w.heap.size, 4, none⟩) (Nat.le_refl _) (.slice none 0 0)) (p := ⟨w.heap.size, 5, none⟩) (Nat.le_refl _) (.slice none 0 0)) (p := ⟨w.heap.size, 6, none⟩) (Nat.le_refl _) (.int .i64 0)) (p := ⟨w.heap.size, 7, none⟩) (Nat.le_refl _) (.slice none 0 0))
    have d0 := KF.out.cell 0
    have d1 := KF.out.cell 1
    have d2 := KF.out.cell 2
    have d3 := KF.out.cell 3
    have d4 := KF.out.cell 4
    have d5 := KF.out.cell 5
    have d6 := KF.out.cell 6
    have d7 := KF.out.cell 7
    refine bodyPost_ret (v := .tuple #[.agg #[.int .i64 0, .slice none 0 0, .slice none 0 0, .slice none 0 0, .slice none 0 0, .slice none 0 0, .int .i64 0, .slice none 0 0], .int .i64 4]) (by simp (maxDischargeDepth := 9) [results, Tryz.results23, go_sem, d0, d1, d2, d3, d4, d5, d6, d7]) rfl ?_
    rw [HE.out]
    exact ⟨_, _, _, _, _, _, rfl, noS_rd _ _, BF.out⟩
  have HE0 := Lib.hid hE
  rw [hE]
  clear hE
  have x0 : V9.cell? ⟨x, 0, none⟩ = some (.int .i64 z0) := XL9.out.cell 0
  have x1 : V9.cell? ⟨x, 1, none⟩ = some (.slice A1 q1.1.length cap1) := XL9.out.cell 1
  have x2 : V9.cell? ⟨x, 2, none⟩ = some (.slice A2 q2.1.length cap2) := XL9.out.cell 2
  have x3 : V9.cell? ⟨x, 3, none⟩ = some (.slice A3 q3.1.length cap3) := XL9.out.cell 3
  have x4 : V9.cell? ⟨x, 4, none⟩ = some (.slice A4 q4.1.length cap4) := XL9.out.cell 4
  have x5 : V9.cell? ⟨x, 5, none⟩ = some (.slice A5 q5.1.length cap5) := XL9.out.cell 5
  have x6 : V9.cell? ⟨x, 6, none⟩ = some (.int .i64 z6) := XL9.out.cell 6
  have x7 : V9.cell? ⟨x, 7, none⟩ = some (.slice A7 q7.1.length cap7) := XL9.out.cell 7
  go_wp2_with fail
  refine (written_any (⟨⟨z0, q1.1, q2.1, q3.1, q4.1, q5.1, z6⟩, q7.1⟩ : Scp) _ _ _ _ _ _ V8.heap.size V9 HZ9.out RD9.out HF.out.writes HF.out.size).mono ?_
  rintro e V10 ⟨v, rfl, ho, ht⟩
  have hb10 := ht.old (Nat.le_refl _) (by simp [Value.ownBlock])
  have D10 := Lib.hid (D9.out.below_ hb10)
  have XL10 := Lib.hid (XL9.out.below_ hb10)
  have RD10 := Lib.hid ((RD9.out.below (hb10.mono HZ9.out)))
  have HB10 := Lib.hid (Below.next HB9.out hb10 HB9.out.size)
  have HZ10 := Lib.hid (Nat.le_trans HZ9.out hb10.size)
  have OP1 := Lib.hid (OO1.out.below hb10)
  have OP2 := Lib.hid (OO2.out.below hb10)
  have OP3 := Lib.hid (OO3.out.below hb10)
  have OP4 := Lib.hid (OO4.out.below hb10)
  have OP5 := Lib.hid (OO5.out.below hb10)
  have OP7 := Lib.hid (OO7.out.below hb10)
  clear OO1 OO2 OO3 OO4 OO5 OO7
  have hpos := scpB_pos (⟨⟨z0, q1.1, q2.1, q3.1, q4.1, q5.1, z6⟩, q7.1⟩ : Scp)
  obtain ⟨gb, cap, rfl, hcv⟩ := out_str ho hpos
  clear ho ht hpos hb10 x0 x1 x2 x3 x4 x5 x6 x7
  obtain ⟨Q, hQ⟩ : ∃ Q, scpB (⟨⟨z0, q1.1, q2.1, q3.1, q4.1, q5.1, z6⟩, q7.1⟩ : Scp) = Q := ⟨_, rfl⟩
  rw [hQ] at hcv ⊢
  have HQQ := Lib.hid hQ
  clear hQ
  by_cases hqs : Q = s
  · have HE := Lib.hid (decR_good (by omega) HS.out HBD.out HE0.out (HQQ.out.trans hqs))
    have hqb : (Q == s) = true := by simpa using hqs
    have HQS := Lib.hid hqs
    clear hqs
    have x0 : V10.cell? ⟨x, 0, none⟩ = some (.int .i64 z0) := XL10.out.cell 0
    have x1 : V10.cell? ⟨x, 1, none⟩ = some (.slice A1 q1.1.length cap1) := XL10.out.cell 1
    have x2 : V10.cell? ⟨x, 2, none⟩ = some (.slice A2 q2.1.length cap2) := XL10.out.cell 2
    have x3 : V10.cell? ⟨x, 3, none⟩ = some (.slice A3 q3.1.length cap3) := XL10.out.cell 3
    have x4 : V10.cell? ⟨x, 4, none⟩ = some (.slice A4 q4.1.length cap4) := XL10.out.cell 4
    have x5 : V10.cell? ⟨x, 5, none⟩ = some (.slice A5 q5.1.length cap5) := XL10.out.cell 5
    have x6 : V10.cell? ⟨x, 6, none⟩ = some (.int .i64 z6) := XL10.out.cell 6
    have x7 : V10.cell? ⟨x, 7, none⟩ = some (.slice A7 q7.1.length cap7) := XL10.out.cell 7
    have g0 : V10.cell? ⟨w.heap.size, 0, none⟩ = some (.int .i64 0) := D10.out.cell 0
    have h0 : V10.frozen? ⟨w.heap.size, 0, none⟩ = false := D10.out.frozen 0
    have g1 : V10.cell? ⟨w.heap.size, 1, none⟩ = some (.slice none 0 0) := D10.out.cell 1
    have h1 : V10.frozen? ⟨w.heap.size, 1, none⟩ = false := D10.out.frozen 1
    have g2 : V10.cell? ⟨w.heap.size, 2, none⟩ = some (.slice none 0 0) := D10.out.cell 2
    have h2 : V10.frozen? ⟨w.heap.size, 2, none⟩ = false := D10.out.frozen 2
    have g3 : V10.cell? ⟨w.heap.size, 3, none⟩ = some (.slice none 0 0) := D10.out.cell 3
    have h3 : V10.frozen? ⟨w.heap.size, 3, none⟩ = false := D10.out.frozen 3
    have g4 : V10.cell? ⟨w.heap.size, 4, none⟩ = some (.slice none 0 0) := D10.out.cell 4
    have h4 : V10.frozen? ⟨w.heap.size, 4, none⟩ = false := D10.out.frozen 4
    have g5 : V10.cell? ⟨w.heap.size, 5, none⟩ = some (.slice none 0 0) := D10.out.cell 5
    have h5 : V10.frozen? ⟨w.heap.size, 5, none⟩ = false := D10.out.frozen 5
    have g6 : V10.cell? ⟨w.heap.size, 6, none⟩ = some (.int .i64 0) := D10.out.cell 6
    have h6 : V10.frozen? ⟨w.heap.size, 6, none⟩ = false := D10.out.frozen 6
    have g7 : V10.cell? ⟨w.heap.size, 7, none⟩ = some (.slice none 0 0) := D10.out.cell 7
    have h7 : V10.frozen? ⟨w.heap.size, 7, none⟩ = false := D10.out.frozen 7
    go_wp2
    have KF := Lib.hid (Blk.set_ (Blk.set_ (Blk.set_ (Blk.set_ (Blk.set_ (Blk.set_ (Blk.set_ (Blk.set_ D10.out 0 (.int .i64 z0)) 1 (.slice A1 q1.1.length cap1)) 2 (.slice A2 q2.1.length cap2)) 3 (.slice A3 q3.1.length cap3)) 4 (.slice A4 q4.1.length cap4)) 5 (.slice A5 q5.1.length cap5)) 6 (.int .i64 z6)) 7 (.slice A7 q7.1.length cap7))
    have BF := Lib.hid (Below.setCell (Below.setCell (Below.setCell (Below.setCell (Below.setCell (Below.setCell (Below.setCell (Below.setCell HB10.out (p := ⟨w.heap.size, 0, none⟩) (Nat.le_refl _) (.int .i64 z0)) (p := ⟨w.heap.size, 1, none⟩) (Nat.le_refl _) (.slice A1 q1.1.length cap1)) (p := ⟨w.heap.size, 2, none⟩) (Nat.le_refl _) (.slice A2 q2.1.length cap2)) (p := ⟨w.heap.size, 3, none⟩) (Nat.le_refl _) (.slice A3 q3.1.length cap3)) (p := ⟨w.heap.size, 4, none⟩) (Nat.le_refl _) (.slice A4 q4.1.length cap4)) (p := ⟨w.heap.size, 5, none⟩) (Nat.le_refl _) (.slice A5 q5.1.length cap5)) (p := ⟨w.heap.size, 6, none⟩) (Nat.le_refl _) (.int .i64 z6)) (p := ⟨w.heap.size, 7, none⟩) (Nat.le_refl _) (.slice A7 q7.1.length cap7))
    have RDF := Lib.hid (show RdScp _ _ (⟨⟨z0, q1.1, q2.1, q3.1, q4.1, q5.1, z6⟩, q7.1⟩ : Scp) _ _ _ _ _ _ from ⟨⟨(OP1.out.sets (g := w.heap.size) (fun e => by have := BQ1.out _ e; omega) (.int .i64 z0) (.slice A1 q1.1.length cap1) (.slice A2 q2.1.length cap2) (.slice A3 q3.1.length cap3) (.slice A4 q4.1.length cap4) (.slice A5 q5.1.length cap5) (.int .i64 z6) (.slice A7 q7.1.length cap7)).sls HM1.out, (OP2.out.sets (g := w.heap.size) (fun e => by have := BQ2.out _ e; omega) (.int .i64 z0) (.slice A1 q1.1.length cap1) (.slice A2 q2.1.length cap2) (.slice A3 q3.1.length cap3) (.slice A4 q4.1.length cap4) (.slice A5 q5.1.length cap5) (.int .i64 z6) (.slice A7 q7.1.length cap7)).sls HM2.out, (OP3.out.sets (g := w.heap.size) (fun e => by have := BQ3.out _ e; omega) (.int .i64 z0) (.slice A1 q1.1.length cap1) (.slice A2 q2.1.length cap2) (.slice A3 q3.1.length cap3) (.slice A4 q4.1.length cap4) (.slice A5 q5.1.length cap5) (.int .i64 z6) (.slice A7 q7.1.length cap7)).sls HM3.out, (OP4.out.sets (g := w.heap.size) (fun e => by have := BQ4.out _ e; omega) (.int .i64 z0) (.slice A1 q1.1.length cap1) (.slice A2 q2.1.length cap2) (.slice A3 q3.1.length cap3) (.slice A4 q4.1.length cap4) (.slice A5 q5.1.length cap5) (.int .i64 z6) (.slice A7 q7.1.length cap7)).sls HM4.out, (OP5.out.sets (g := w.heap.size) (fun e => by have := BQ5.out _ e; omega) (.int .i64 z0) (.slice A1 q1.1.length cap1) (.slice A2 q2.1.length cap2) (.slice A3 q3.1.length cap3) (.slice A4 q4.1.length cap4) (.slice A5 q5.1.length cap5) (.int .i64 z6) (.slice A7 q7.1.length cap7)).sls HM5.out⟩, (OP7.out.sets (g := w.heap.size) (fun e => by have := BQ7.out _ e; omega) (.int .i64 z0) (.slice A1 q1.1.length cap1) (.slice A2 q2.1.length cap2) (.slice A3 q3.1.length cap3) (.slice A4 q4.1.length cap4) (.slice A5 q5.1.length cap5) (.int .i64 z6) (.slice A7 q7.1.length cap7)).sls HM7.out⟩)
    have d0 := KF.out.cell 0
    have d1 := KF.out.cell 1
    have d2 := KF.out.cell 2
    have d3 := KF.out.cell 3
    have d4 := KF.out.cell 4
    have d5 := KF.out.cell 5
    have d6 := KF.out.cell 6
    have d7 := KF.out.cell 7
    refine bodyPost_ret (v := .tuple #[.agg #[.int .i64 z0, .slice A1 q1.1.length cap1, .slice A2 q2.1.length cap2, .slice A3 q3.1.length cap3, .slice A4 q4.1.length cap4, .slice A5 q5.1.length cap5, .int .i64 z6, .slice A7 q7.1.length cap7], .int .i64 0]) (by simp (maxDischargeDepth := 9) [results, Tryz.results23, go_sem, d0, d1, d2, d3, d4, d5, d6, d7]) rfl ?_
    rw [HE.out]
    exact ⟨_, _, _, _, _, _, rfl, RDF.out, BF.out⟩
  · have HE := Lib.hid (decR_bad (by omega) HS.out (Or.inr (Or.inr (fun k => hqs (HQQ.out.symm.trans k)))))
    have hqb : (Q == s) = false := by simpa using hqs
    have HQS := Lib.hid hqs
    clear hqs
    have g0 : V10.cell? ⟨w.heap.size, 0, none⟩ = some (.int .i64 0) := D10.out.cell 0
    have h0 : V10.frozen? ⟨w.heap.size, 0, none⟩ = false := D10.out.frozen 0
    have g1 : V10.cell? ⟨w.heap.size, 1, none⟩ = some (.slice none 0 0) := D10.out.cell 1
    have h1 : V10.frozen? ⟨w.heap.size, 1, none⟩ = false := D10.out.frozen 1
    have g2 : V10.cell? ⟨w.heap.size, 2, none⟩ = some (.slice none 0 0) := D10.out.cell 2
    have h2 : V10.frozen? ⟨w.heap.size, 2, none⟩ = false := D10.out.frozen 2
    have g3 : V10.cell? ⟨w.heap.size, 3, none⟩ = some (.slice none 0 0) := D10.out.cell 3
    have h3 : V10.frozen? ⟨w.heap.size, 3, none⟩ = false := D10.out.frozen 3
    have g4 : V10.cell? ⟨w.heap.size, 4, none⟩ = some (.slice none 0 0) := D10.out.cell 4
    have h4 : V10.frozen? ⟨w.heap.size, 4, none⟩ = false := D10.out.frozen 4
    have g5 : V10.cell? ⟨w.heap.size, 5, none⟩ = some (.slice none 0 0) := D10.out.cell 5
    have h5 : V10.frozen? ⟨w.heap.size, 5, none⟩ = false := D10.out.frozen 5
    have g6 : V10.cell? ⟨w.heap.size, 6, none⟩ = some (.int .i64 0) := D10.out.cell 6
    have h6 : V10.frozen? ⟨w.heap.size, 6, none⟩ = false := D10.out.frozen 6
    have g7 : V10.cell? ⟨w.heap.size, 7, none⟩ = some (.slice none 0 0) := D10.out.cell 7
    have h7 : V10.frozen? ⟨w.heap.size, 7, none⟩ = false := D10.out.frozen 7
    go_wp2
    have KF := Lib.hid (Blk.set_ (Blk.set_ (Blk.set_ (Blk.set_ (Blk.set_ (Blk.set_ (Blk.set_ (Blk.set_ D10.out 0 (.int .i64 0)) 1 (.slice none 0 0)) 2 (.slice none 0 0)) 3 (.slice none 0 0)) 4 (.slice none 0 0)) 5 (.slice none 0 0)) 6 (.int .i64 0)) 7 (.slice none 0 0))
    have BF := Lib.hid (Below.setCell (Below.setCell (Below.setCell (Below.setCell (Below.setCell (Below.setCell (Below.setCell (Below.setCell HB10.out (p := ⟨w.heap.size, 0, none⟩) (Nat.le_refl _) (.int .i64 0)) (p := ⟨w.heap.size, 1, none⟩) (Nat.le_refl _) (.slice none 0 0)) (p := ⟨w.heap.size, 2, none⟩) (Nat.le_refl _) (.slice none 0 0)) (p := ⟨w.heap.size, 3, none⟩) (Nat.le_refl _) (.slice none 0 0)) (p := ⟨w.heap.size, 4, none⟩) (Nat.le_refl _) (.slice none 0 0)) (p := ⟨w.heap.size, 5, none⟩) (Nat.le_refl _) (.slice none 0 0)) (p := ⟨w.heap.size, 6, none⟩) (Nat.le_refl _) (.int .i64 0)) (p := ⟨w.heap.size, 7, none⟩) (Nat.le_refl _) (.slice none 0 0))
    have d0 := KF.out.cell 0
    have d1 := KF.out.cell 1
    have d2 := KF.out.cell 2
    have d3 := KF.out.cell 3
    have d4 := KF.out.cell 4
    have d5 := KF.out.cell 5
    have d6 := KF.out.cell 6
    have d7 := KF.out.cell 7
    refine bodyPost_ret (v := .tuple #[.agg #[.int .i64 0, .slice none 0 0, .slice none 0 0, .slice none 0 0, .slice none 0 0, .slice none 0 0, .int .i64 0, .slice none 0 0], .int .i64 4]) (by simp (maxDischargeDepth := 9) [results, Tryz.results23, go_sem, d0, d1, d2, d3, d4, d5, d6, d7]) rfl ?_
    rw [HE.out]
    exact ⟨_, _, _, _, _, _, rfl, noS_rd _ _, BF.out⟩
end Go.Proofs.YtamcgggmfghljaaGreatDoor
