/- Copies of books. -/
import Derived.Test.YtamcgggmfghljaaGreatDoorR6
namespace Go.Proofs.YtamcgggmfghljaaGreatDoor
open Go.RowKit

noncomputable def bookOps : Array Oper := ((Tryz.f25.body.bind (opsOf 1)).getD #[])

/-- A book that is short enough to be copied. -/
structure Short (b : Bok) : Prop where
  n1 : b.entries.length ≤ 8192
  n2 : b.rules.length ≤ 8192
  n3 : b.grants.length ≤ 8192
  n4 : b.log.length ≤ 8192
  n5 : b.releases.length ≤ 8192

section
variable {Q : Exit → Act → World → Prop} {b : Bok} {e r g l x t0 t2 : Value} {B gb : Nat} {W : World}

set_option maxRecDepth 100000 in
set_option maxHeartbeats 2000000 in
theorem cb_5_5 (_hQ : ∀ c a d v w, Q (.panic c) (Act.put a d v) w → Q (.panic c) a w) (_hB : B ≤ gb) (_hg : gb < W.heap.size) (_hb : RdBok W B b e r g l x) (_hn : Short b) (hF : ∀ w' v1 v2 v3 v4 v5, Chg (fun k => k = gb) W w' → Blk w' gb 28 #[.int .i64 b.users, v1, v2, v3, v4, v5, .int .i64 b.step] → SlsN cEnt W.heap.size w' v1 b.entries → SlsN cRul W.heap.size w' v2 b.rules → SlsN cGrt W.heap.size w' v3 b.grants → SlsN cEvt W.heap.size w' v4 b.log → SlsN cRls W.heap.size w' v5 b.releases → Q .normal ⟨#[t0, .pointer (some ⟨gb, 0, none⟩), t2, .pointer (some ⟨gb, 1, none⟩), e, v1, .pointer (some ⟨gb, 2, none⟩), r, v2, .pointer (some ⟨gb, 3, none⟩), g, v3, .pointer (some ⟨gb, 4, none⟩), l, v4, .pointer (some ⟨gb, 5, none⟩), x, v5, .pointer (some ⟨gb, 1, none⟩), .pointer (some ⟨gb, 2, none⟩), .pointer (some ⟨gb, 3, none⟩), .pointer (some ⟨gb, 4, none⟩), .pointer (some ⟨gb, 5, none⟩), undef], []⟩ w')
    (w' : World) (v1 v2 v3 v4 v5 : Value) (hD : Chg (fun k => k = gb) W w') (hK : Blk w' gb 28 #[.int .i64 b.users, v1, v2, v3, v4, v5, .int .i64 b.step]) (h1 : SlsN cEnt W.heap.size w' v1 b.entries) (h2 : SlsN cRul W.heap.size w' v2 b.rules) (h3 : SlsN cGrt W.heap.size w' v3 b.grants) (h4 : SlsN cEvt W.heap.size w' v4 b.log) (h5 : SlsN cRls W.heap.size w' v5 b.releases) :
    wpAnyU Tryz.prog .any bookOps Q (fun u => u.cell? ⟨gb, 1, none⟩ = some e ∧ u.cell? ⟨gb, 2, none⟩ = some r ∧ u.cell? ⟨gb, 3, none⟩ = some g ∧ u.cell? ⟨gb, 4, none⟩ = some l ∧ u.cell? ⟨gb, 5, none⟩ = some x) 16 0 #[true, true, true, true, true, true, true, true, true, true, true, true, true, true, true, true, true, true, true, true, true, true, true, true, true] ⟨#[t0, .pointer (some ⟨gb, 0, none⟩), t2, .pointer (some ⟨gb, 1, none⟩), e, v1, .pointer (some ⟨gb, 2, none⟩), r, v2, .pointer (some ⟨gb, 3, none⟩), g, v3, .pointer (some ⟨gb, 4, none⟩), l, v4, .pointer (some ⟨gb, 5, none⟩), x, v5, .pointer (some ⟨gb, 1, none⟩), .pointer (some ⟨gb, 2, none⟩), .pointer (some ⟨gb, 3, none⟩), .pointer (some ⟨gb, 4, none⟩), .pointer (some ⟨gb, 5, none⟩), undef], []⟩ w' := by
  exact wpAnyU_done (by kernel_rfl) (hF w' v1 v2 v3 v4 v5 hD hK h1 h2 h3 h4 h5)

set_option maxRecDepth 100000 in
set_option maxHeartbeats 2000000 in
theorem cb_5_4 (hQ : ∀ c a d v w, Q (.panic c) (Act.put a d v) w → Q (.panic c) a w) (hB : B ≤ gb) (hg : gb < W.heap.size) (hb : RdBok W B b e r g l x) (hn : Short b) (hF : ∀ w' v1 v2 v3 v4 v5, Chg (fun k => k = gb) W w' → Blk w' gb 28 #[.int .i64 b.users, v1, v2, v3, v4, v5, .int .i64 b.step] → SlsN cEnt W.heap.size w' v1 b.entries → SlsN cRul W.heap.size w' v2 b.rules → SlsN cGrt W.heap.size w' v3 b.grants → SlsN cEvt W.heap.size w' v4 b.log → SlsN cRls W.heap.size w' v5 b.releases → Q .normal ⟨#[t0, .pointer (some ⟨gb, 0, none⟩), t2, .pointer (some ⟨gb, 1, none⟩), e, v1, .pointer (some ⟨gb, 2, none⟩), r, v2, .pointer (some ⟨gb, 3, none⟩), g, v3, .pointer (some ⟨gb, 4, none⟩), l, v4, .pointer (some ⟨gb, 5, none⟩), x, v5, .pointer (some ⟨gb, 1, none⟩), .pointer (some ⟨gb, 2, none⟩), .pointer (some ⟨gb, 3, none⟩), .pointer (some ⟨gb, 4, none⟩), .pointer (some ⟨gb, 5, none⟩), undef], []⟩ w')
    (w' : World) (v1 v2 v3 v4 v5 : Value) (hD : Chg (fun k => k = gb) W w') (hK : Blk w' gb 28 #[.int .i64 b.users, v1, v2, v3, v4, x, .int .i64 b.step]) (h1 : SlsN cEnt W.heap.size w' v1 b.entries) (h2 : SlsN cRul W.heap.size w' v2 b.rules) (h3 : SlsN cGrt W.heap.size w' v3 b.grants) (h4 : SlsN cEvt W.heap.size w' v4 b.log) (h5 : SlsN cRls W.heap.size w' v5 b.releases) :
    wpAnyU Tryz.prog .any bookOps Q (fun u => u.cell? ⟨gb, 1, none⟩ = some e ∧ u.cell? ⟨gb, 2, none⟩ = some r ∧ u.cell? ⟨gb, 3, none⟩ = some g ∧ u.cell? ⟨gb, 4, none⟩ = some l ∧ u.cell? ⟨gb, 5, none⟩ = some x) 16 1 #[true, true, true, true, true, true, true, true, true, true, true, true, true, true, true, true, true, true, true, true, true, true, true, true, false] ⟨#[t0, .pointer (some ⟨gb, 0, none⟩), t2, .pointer (some ⟨gb, 1, none⟩), e, v1, .pointer (some ⟨gb, 2, none⟩), r, v2, .pointer (some ⟨gb, 3, none⟩), g, v3, .pointer (some ⟨gb, 4, none⟩), l, v4, .pointer (some ⟨gb, 5, none⟩), x, v5, .pointer (some ⟨gb, 1, none⟩), .pointer (some ⟨gb, 2, none⟩), .pointer (some ⟨gb, 3, none⟩), .pointer (some ⟨gb, 4, none⟩), .pointer (some ⟨gb, 5, none⟩), undef], []⟩ w' := by
  refine wpAnyU_one 24 (o := ⟨none, .store 26 (.tmp 22) (.tmp 17), 0, _, _, none⟩) (by kernel_rfl) rfl rfl ?_
  · have hc : w'.cell? ⟨gb, 5, none⟩ = some x := hK.cell 5
    have hf := hK.frozen 5
    have hK1 := hK.set_ 5 v5
    have hD1 := hD.setCell (p := ⟨gb, 5, none⟩) (.inl rfl) v5
    have f1 := h1.set (p := ⟨gb, 5, none⟩) hg v5
    have f2 := h2.set (p := ⟨gb, 5, none⟩) hg v5
    have f3 := h3.set (p := ⟨gb, 5, none⟩) hg v5
    have f4 := h4.set (p := ⟨gb, 5, none⟩) hg v5
    have f5 := h5.set (p := ⟨gb, 5, none⟩) hg v5
    have H := cb_5_5 hQ hB hg hb hn hF _ v1 v2 v3 v4 v5 hD1 hK1 f1 f2 f3 f4 f5
    have H' := Lib.hid H
    clear H
    obtain ⟨A, cap, rfl, _⟩ := id h5.1
    go_simp
    first | exact H'.out | exact ⟨fun h => absurd h (by decide), H'.out⟩

set_option maxRecDepth 100000 in
set_option maxHeartbeats 2000000 in
theorem cb_5_3 (hQ : ∀ c a d v w, Q (.panic c) (Act.put a d v) w → Q (.panic c) a w) (hB : B ≤ gb) (hg : gb < W.heap.size) (hb : RdBok W B b e r g l x) (hn : Short b) (hF : ∀ w' v1 v2 v3 v4 v5, Chg (fun k => k = gb) W w' → Blk w' gb 28 #[.int .i64 b.users, v1, v2, v3, v4, v5, .int .i64 b.step] → SlsN cEnt W.heap.size w' v1 b.entries → SlsN cRul W.heap.size w' v2 b.rules → SlsN cGrt W.heap.size w' v3 b.grants → SlsN cEvt W.heap.size w' v4 b.log → SlsN cRls W.heap.size w' v5 b.releases → Q .normal ⟨#[t0, .pointer (some ⟨gb, 0, none⟩), t2, .pointer (some ⟨gb, 1, none⟩), e, v1, .pointer (some ⟨gb, 2, none⟩), r, v2, .pointer (some ⟨gb, 3, none⟩), g, v3, .pointer (some ⟨gb, 4, none⟩), l, v4, .pointer (some ⟨gb, 5, none⟩), x, v5, .pointer (some ⟨gb, 1, none⟩), .pointer (some ⟨gb, 2, none⟩), .pointer (some ⟨gb, 3, none⟩), .pointer (some ⟨gb, 4, none⟩), .pointer (some ⟨gb, 5, none⟩), undef], []⟩ w')
    (w' : World) (v1 v2 v3 v4 v5 : Value) (hD : Chg (fun k => k = gb) W w') (hK : Blk w' gb 28 #[.int .i64 b.users, v1, v2, v3, l, x, .int .i64 b.step]) (h1 : SlsN cEnt W.heap.size w' v1 b.entries) (h2 : SlsN cRul W.heap.size w' v2 b.rules) (h3 : SlsN cGrt W.heap.size w' v3 b.grants) (h4 : SlsN cEvt W.heap.size w' v4 b.log) (h5 : SlsN cRls W.heap.size w' v5 b.releases) :
    wpAnyU Tryz.prog .any bookOps Q (fun u => u.cell? ⟨gb, 1, none⟩ = some e ∧ u.cell? ⟨gb, 2, none⟩ = some r ∧ u.cell? ⟨gb, 3, none⟩ = some g ∧ u.cell? ⟨gb, 4, none⟩ = some l ∧ u.cell? ⟨gb, 5, none⟩ = some x) 16 3 #[true, true, true, true, true, true, true, true, true, true, true, true, true, true, true, true, true, true, true, true, true, true, false, false, false] ⟨#[t0, .pointer (some ⟨gb, 0, none⟩), t2, .pointer (some ⟨gb, 1, none⟩), e, v1, .pointer (some ⟨gb, 2, none⟩), r, v2, .pointer (some ⟨gb, 3, none⟩), g, v3, .pointer (some ⟨gb, 4, none⟩), l, v4, .pointer (some ⟨gb, 5, none⟩), x, v5, .pointer (some ⟨gb, 1, none⟩), .pointer (some ⟨gb, 2, none⟩), .pointer (some ⟨gb, 3, none⟩), .pointer (some ⟨gb, 4, none⟩), undef, undef], []⟩ w' := by
  refine wpAnyU_one 22 (o := ⟨none, .store 25 (.tmp 21) (.tmp 14), 0, _, _, none⟩) (by kernel_rfl) rfl rfl ?_
  · have hc : w'.cell? ⟨gb, 4, none⟩ = some l := hK.cell 4
    have hf := hK.frozen 4
    have hK1 := hK.set_ 4 v4
    have hD1 := hD.setCell (p := ⟨gb, 4, none⟩) (.inl rfl) v4
    have f1 := h1.set (p := ⟨gb, 4, none⟩) hg v4
    have f2 := h2.set (p := ⟨gb, 4, none⟩) hg v4
    have f3 := h3.set (p := ⟨gb, 4, none⟩) hg v4
    have f4 := h4.set (p := ⟨gb, 4, none⟩) hg v4
    have f5 := h5.set (p := ⟨gb, 4, none⟩) hg v4
    have H := cb_5_4 hQ hB hg hb hn hF _ v1 v2 v3 v4 v5 hD1 hK1 f1 f2 f3 f4 f5
    have H' := Lib.hid H
    clear H
    obtain ⟨A, cap, rfl, _⟩ := id h4.1
    go_simp
    refine wpAnyU_take0 23 (oi := ⟨some 22, .fieldAddr 28 (.tmp 1) 5, 0, _, _, none⟩) rfl (by kernel_rfl) (by kernel_rfl) (by kernel_rfl) (by decide) (fun _ _ _ h => hQ _ _ _ _ _ h) (Or.inl ⟨rfl, fun _ _ => rfl⟩) (fun h => absurd h (by decide)) ?_
    first | exact H'.out | exact ⟨fun h => absurd h (by decide), H'.out⟩

set_option maxRecDepth 100000 in
set_option maxHeartbeats 2000000 in
theorem cb_5_2 (hQ : ∀ c a d v w, Q (.panic c) (Act.put a d v) w → Q (.panic c) a w) (hB : B ≤ gb) (hg : gb < W.heap.size) (hb : RdBok W B b e r g l x) (hn : Short b) (hF : ∀ w' v1 v2 v3 v4 v5, Chg (fun k => k = gb) W w' → Blk w' gb 28 #[.int .i64 b.users, v1, v2, v3, v4, v5, .int .i64 b.step] → SlsN cEnt W.heap.size w' v1 b.entries → SlsN cRul W.heap.size w' v2 b.rules → SlsN cGrt W.heap.size w' v3 b.grants → SlsN cEvt W.heap.size w' v4 b.log → SlsN cRls W.heap.size w' v5 b.releases → Q .normal ⟨#[t0, .pointer (some ⟨gb, 0, none⟩), t2, .pointer (some ⟨gb, 1, none⟩), e, v1, .pointer (some ⟨gb, 2, none⟩), r, v2, .pointer (some ⟨gb, 3, none⟩), g, v3, .pointer (some ⟨gb, 4, none⟩), l, v4, .pointer (some ⟨gb, 5, none⟩), x, v5, .pointer (some ⟨gb, 1, none⟩), .pointer (some ⟨gb, 2, none⟩), .pointer (some ⟨gb, 3, none⟩), .pointer (some ⟨gb, 4, none⟩), .pointer (some ⟨gb, 5, none⟩), undef], []⟩ w')
    (w' : World) (v1 v2 v3 v4 v5 : Value) (hD : Chg (fun k => k = gb) W w') (hK : Blk w' gb 28 #[.int .i64 b.users, v1, v2, g, l, x, .int .i64 b.step]) (h1 : SlsN cEnt W.heap.size w' v1 b.entries) (h2 : SlsN cRul W.heap.size w' v2 b.rules) (h3 : SlsN cGrt W.heap.size w' v3 b.grants) (h4 : SlsN cEvt W.heap.size w' v4 b.log) (h5 : SlsN cRls W.heap.size w' v5 b.releases) :
    wpAnyU Tryz.prog .any bookOps Q (fun u => u.cell? ⟨gb, 1, none⟩ = some e ∧ u.cell? ⟨gb, 2, none⟩ = some r ∧ u.cell? ⟨gb, 3, none⟩ = some g ∧ u.cell? ⟨gb, 4, none⟩ = some l ∧ u.cell? ⟨gb, 5, none⟩ = some x) 16 5 #[true, true, true, true, true, true, true, true, true, true, true, true, true, true, true, true, true, true, true, true, false, false, false, false, false] ⟨#[t0, .pointer (some ⟨gb, 0, none⟩), t2, .pointer (some ⟨gb, 1, none⟩), e, v1, .pointer (some ⟨gb, 2, none⟩), r, v2, .pointer (some ⟨gb, 3, none⟩), g, v3, .pointer (some ⟨gb, 4, none⟩), l, v4, .pointer (some ⟨gb, 5, none⟩), x, v5, .pointer (some ⟨gb, 1, none⟩), .pointer (some ⟨gb, 2, none⟩), .pointer (some ⟨gb, 3, none⟩), undef, undef, undef], []⟩ w' := by
  refine wpAnyU_one 20 (o := ⟨none, .store 24 (.tmp 20) (.tmp 11), 0, _, _, none⟩) (by kernel_rfl) rfl rfl ?_
  · have hc : w'.cell? ⟨gb, 3, none⟩ = some g := hK.cell 3
    have hf := hK.frozen 3
    have hK1 := hK.set_ 3 v3
    have hD1 := hD.setCell (p := ⟨gb, 3, none⟩) (.inl rfl) v3
    have f1 := h1.set (p := ⟨gb, 3, none⟩) hg v3
    have f2 := h2.set (p := ⟨gb, 3, none⟩) hg v3
    have f3 := h3.set (p := ⟨gb, 3, none⟩) hg v3
    have f4 := h4.set (p := ⟨gb, 3, none⟩) hg v3
    have f5 := h5.set (p := ⟨gb, 3, none⟩) hg v3
    have H := cb_5_3 hQ hB hg hb hn hF _ v1 v2 v3 v4 v5 hD1 hK1 f1 f2 f3 f4 f5
    have H' := Lib.hid H
    clear H
    obtain ⟨A, cap, rfl, _⟩ := id h3.1
    go_simp
    refine wpAnyU_take0 21 (oi := ⟨some 21, .fieldAddr 28 (.tmp 1) 4, 0, _, _, none⟩) rfl (by kernel_rfl) (by kernel_rfl) (by kernel_rfl) (by decide) (fun _ _ _ h => hQ _ _ _ _ _ h) (Or.inl ⟨rfl, fun _ _ => rfl⟩) (fun h => absurd h (by decide)) ?_
    first | exact H'.out | exact ⟨fun h => absurd h (by decide), H'.out⟩

set_option maxRecDepth 100000 in
set_option maxHeartbeats 2000000 in
theorem cb_5_1 (hQ : ∀ c a d v w, Q (.panic c) (Act.put a d v) w → Q (.panic c) a w) (hB : B ≤ gb) (hg : gb < W.heap.size) (hb : RdBok W B b e r g l x) (hn : Short b) (hF : ∀ w' v1 v2 v3 v4 v5, Chg (fun k => k = gb) W w' → Blk w' gb 28 #[.int .i64 b.users, v1, v2, v3, v4, v5, .int .i64 b.step] → SlsN cEnt W.heap.size w' v1 b.entries → SlsN cRul W.heap.size w' v2 b.rules → SlsN cGrt W.heap.size w' v3 b.grants → SlsN cEvt W.heap.size w' v4 b.log → SlsN cRls W.heap.size w' v5 b.releases → Q .normal ⟨#[t0, .pointer (some ⟨gb, 0, none⟩), t2, .pointer (some ⟨gb, 1, none⟩), e, v1, .pointer (some ⟨gb, 2, none⟩), r, v2, .pointer (some ⟨gb, 3, none⟩), g, v3, .pointer (some ⟨gb, 4, none⟩), l, v4, .pointer (some ⟨gb, 5, none⟩), x, v5, .pointer (some ⟨gb, 1, none⟩), .pointer (some ⟨gb, 2, none⟩), .pointer (some ⟨gb, 3, none⟩), .pointer (some ⟨gb, 4, none⟩), .pointer (some ⟨gb, 5, none⟩), undef], []⟩ w')
    (w' : World) (v1 v2 v3 v4 v5 : Value) (hD : Chg (fun k => k = gb) W w') (hK : Blk w' gb 28 #[.int .i64 b.users, v1, r, g, l, x, .int .i64 b.step]) (h1 : SlsN cEnt W.heap.size w' v1 b.entries) (h2 : SlsN cRul W.heap.size w' v2 b.rules) (h3 : SlsN cGrt W.heap.size w' v3 b.grants) (h4 : SlsN cEvt W.heap.size w' v4 b.log) (h5 : SlsN cRls W.heap.size w' v5 b.releases) :
    wpAnyU Tryz.prog .any bookOps Q (fun u => u.cell? ⟨gb, 1, none⟩ = some e ∧ u.cell? ⟨gb, 2, none⟩ = some r ∧ u.cell? ⟨gb, 3, none⟩ = some g ∧ u.cell? ⟨gb, 4, none⟩ = some l ∧ u.cell? ⟨gb, 5, none⟩ = some x) 16 7 #[true, true, true, true, true, true, true, true, true, true, true, true, true, true, true, true, true, true, false, false, false, false, false, false, false] ⟨#[t0, .pointer (some ⟨gb, 0, none⟩), t2, .pointer (some ⟨gb, 1, none⟩), e, v1, .pointer (some ⟨gb, 2, none⟩), r, v2, .pointer (some ⟨gb, 3, none⟩), g, v3, .pointer (some ⟨gb, 4, none⟩), l, v4, .pointer (some ⟨gb, 5, none⟩), x, v5, .pointer (some ⟨gb, 1, none⟩), .pointer (some ⟨gb, 2, none⟩), undef, undef, undef, undef], []⟩ w' := by
  refine wpAnyU_one 18 (o := ⟨none, .store 23 (.tmp 19) (.tmp 8), 0, _, _, none⟩) (by kernel_rfl) rfl rfl ?_
  · have hc : w'.cell? ⟨gb, 2, none⟩ = some r := hK.cell 2
    have hf := hK.frozen 2
    have hK1 := hK.set_ 2 v2
    have hD1 := hD.setCell (p := ⟨gb, 2, none⟩) (.inl rfl) v2
    have f1 := h1.set (p := ⟨gb, 2, none⟩) hg v2
    have f2 := h2.set (p := ⟨gb, 2, none⟩) hg v2
    have f3 := h3.set (p := ⟨gb, 2, none⟩) hg v2
    have f4 := h4.set (p := ⟨gb, 2, none⟩) hg v2
    have f5 := h5.set (p := ⟨gb, 2, none⟩) hg v2
    have H := cb_5_2 hQ hB hg hb hn hF _ v1 v2 v3 v4 v5 hD1 hK1 f1 f2 f3 f4 f5
    have H' := Lib.hid H
    clear H
    obtain ⟨A, cap, rfl, _⟩ := id h2.1
    go_simp
    refine wpAnyU_take0 19 (oi := ⟨some 20, .fieldAddr 28 (.tmp 1) 3, 0, _, _, none⟩) rfl (by kernel_rfl) (by kernel_rfl) (by kernel_rfl) (by decide) (fun _ _ _ h => hQ _ _ _ _ _ h) (Or.inl ⟨rfl, fun _ _ => rfl⟩) (fun h => absurd h (by decide)) ?_
    first | exact H'.out | exact ⟨fun h => absurd h (by decide), H'.out⟩

set_option maxRecDepth 100000 in
set_option maxHeartbeats 2000000 in
theorem cb_5_0 (hQ : ∀ c a d v w, Q (.panic c) (Act.put a d v) w → Q (.panic c) a w) (hB : B ≤ gb) (hg : gb < W.heap.size) (hb : RdBok W B b e r g l x) (hn : Short b) (hF : ∀ w' v1 v2 v3 v4 v5, Chg (fun k => k = gb) W w' → Blk w' gb 28 #[.int .i64 b.users, v1, v2, v3, v4, v5, .int .i64 b.step] → SlsN cEnt W.heap.size w' v1 b.entries → SlsN cRul W.heap.size w' v2 b.rules → SlsN cGrt W.heap.size w' v3 b.grants → SlsN cEvt W.heap.size w' v4 b.log → SlsN cRls W.heap.size w' v5 b.releases → Q .normal ⟨#[t0, .pointer (some ⟨gb, 0, none⟩), t2, .pointer (some ⟨gb, 1, none⟩), e, v1, .pointer (some ⟨gb, 2, none⟩), r, v2, .pointer (some ⟨gb, 3, none⟩), g, v3, .pointer (some ⟨gb, 4, none⟩), l, v4, .pointer (some ⟨gb, 5, none⟩), x, v5, .pointer (some ⟨gb, 1, none⟩), .pointer (some ⟨gb, 2, none⟩), .pointer (some ⟨gb, 3, none⟩), .pointer (some ⟨gb, 4, none⟩), .pointer (some ⟨gb, 5, none⟩), undef], []⟩ w')
    (w' : World) (v1 v2 v3 v4 v5 : Value) (hD : Chg (fun k => k = gb) W w') (hK : Blk w' gb 28 #[.int .i64 b.users, e, r, g, l, x, .int .i64 b.step]) (h1 : SlsN cEnt W.heap.size w' v1 b.entries) (h2 : SlsN cRul W.heap.size w' v2 b.rules) (h3 : SlsN cGrt W.heap.size w' v3 b.grants) (h4 : SlsN cEvt W.heap.size w' v4 b.log) (h5 : SlsN cRls W.heap.size w' v5 b.releases) :
    wpAnyU Tryz.prog .any bookOps Q (fun u => u.cell? ⟨gb, 1, none⟩ = some e ∧ u.cell? ⟨gb, 2, none⟩ = some r ∧ u.cell? ⟨gb, 3, none⟩ = some g ∧ u.cell? ⟨gb, 4, none⟩ = some l ∧ u.cell? ⟨gb, 5, none⟩ = some x) 16 9 #[true, true, true, true, true, true, true, true, true, true, true, true, true, true, true, true, false, false, false, false, false, false, false, false, false] ⟨#[t0, .pointer (some ⟨gb, 0, none⟩), t2, .pointer (some ⟨gb, 1, none⟩), e, v1, .pointer (some ⟨gb, 2, none⟩), r, v2, .pointer (some ⟨gb, 3, none⟩), g, v3, .pointer (some ⟨gb, 4, none⟩), l, v4, .pointer (some ⟨gb, 5, none⟩), x, v5, .pointer (some ⟨gb, 1, none⟩), undef, undef, undef, undef, undef], []⟩ w' := by
  refine wpAnyU_one 16 (o := ⟨none, .store 22 (.tmp 18) (.tmp 5), 0, _, _, none⟩) (by kernel_rfl) rfl rfl ?_
  · have hc : w'.cell? ⟨gb, 1, none⟩ = some e := hK.cell 1
    have hf := hK.frozen 1
    have hK1 := hK.set_ 1 v1
    have hD1 := hD.setCell (p := ⟨gb, 1, none⟩) (.inl rfl) v1
    have f1 := h1.set (p := ⟨gb, 1, none⟩) hg v1
    have f2 := h2.set (p := ⟨gb, 1, none⟩) hg v1
    have f3 := h3.set (p := ⟨gb, 1, none⟩) hg v1
    have f4 := h4.set (p := ⟨gb, 1, none⟩) hg v1
    have f5 := h5.set (p := ⟨gb, 1, none⟩) hg v1
    have H := cb_5_1 hQ hB hg hb hn hF _ v1 v2 v3 v4 v5 hD1 hK1 f1 f2 f3 f4 f5
    have H' := Lib.hid H
    clear H
    obtain ⟨A, cap, rfl, _⟩ := id h1.1
    go_simp
    refine wpAnyU_take0 17 (oi := ⟨some 19, .fieldAddr 28 (.tmp 1) 2, 0, _, _, none⟩) rfl (by kernel_rfl) (by kernel_rfl) (by kernel_rfl) (by decide) (fun _ _ _ h => hQ _ _ _ _ _ h) (Or.inl ⟨rfl, fun _ _ => rfl⟩) (fun h => absurd h (by decide)) ?_
    first | exact H'.out | exact ⟨fun h => absurd h (by decide), H'.out⟩

set_option maxRecDepth 100000 in
set_option maxHeartbeats 2000000 in
theorem cb_4_0 (hQ : ∀ c a d v w, Q (.panic c) (Act.put a d v) w → Q (.panic c) a w) (hB : B ≤ gb) (hg : gb < W.heap.size) (hb : RdBok W B b e r g l x) (hn : Short b) (hF : ∀ w' v1 v2 v3 v4 v5, Chg (fun k => k = gb) W w' → Blk w' gb 28 #[.int .i64 b.users, v1, v2, v3, v4, v5, .int .i64 b.step] → SlsN cEnt W.heap.size w' v1 b.entries → SlsN cRul W.heap.size w' v2 b.rules → SlsN cGrt W.heap.size w' v3 b.grants → SlsN cEvt W.heap.size w' v4 b.log → SlsN cRls W.heap.size w' v5 b.releases → Q .normal ⟨#[t0, .pointer (some ⟨gb, 0, none⟩), t2, .pointer (some ⟨gb, 1, none⟩), e, v1, .pointer (some ⟨gb, 2, none⟩), r, v2, .pointer (some ⟨gb, 3, none⟩), g, v3, .pointer (some ⟨gb, 4, none⟩), l, v4, .pointer (some ⟨gb, 5, none⟩), x, v5, .pointer (some ⟨gb, 1, none⟩), .pointer (some ⟨gb, 2, none⟩), .pointer (some ⟨gb, 3, none⟩), .pointer (some ⟨gb, 4, none⟩), .pointer (some ⟨gb, 5, none⟩), undef], []⟩ w')
    (w' : World) (v1 v2 v3 v4 : Value) (hD : Chg (fun k => k = gb) W w') (hK : Blk w' gb 28 #[.int .i64 b.users, e, r, g, l, x, .int .i64 b.step]) (h1 : SlsN cEnt W.heap.size w' v1 b.entries) (h2 : SlsN cRul W.heap.size w' v2 b.rules) (h3 : SlsN cGrt W.heap.size w' v3 b.grants) (h4 : SlsN cEvt W.heap.size w' v4 b.log) :
    wpAnyU Tryz.prog .any bookOps Q (fun u => u.cell? ⟨gb, 1, none⟩ = some e ∧ u.cell? ⟨gb, 2, none⟩ = some r ∧ u.cell? ⟨gb, 3, none⟩ = some g ∧ u.cell? ⟨gb, 4, none⟩ = some l ∧ u.cell? ⟨gb, 5, none⟩ = some x) 16 10 #[true, true, true, true, true, true, true, true, true, true, true, true, true, true, false, true, false, false, false, false, false, false, false, false, false] ⟨#[t0, .pointer (some ⟨gb, 0, none⟩), t2, .pointer (some ⟨gb, 1, none⟩), e, v1, .pointer (some ⟨gb, 2, none⟩), r, v2, .pointer (some ⟨gb, 3, none⟩), g, v3, .pointer (some ⟨gb, 4, none⟩), l, v4, .pointer (some ⟨gb, 5, none⟩), x, undef, .pointer (some ⟨gb, 1, none⟩), undef, undef, undef, undef, undef], []⟩ w' := by
  refine wpAnyU_one 14 (o := ⟨some 17, .call { callee := .value (.func 83), args := #[.tmp 16], argTypes := #[26] }, 26, _, _, none⟩) (by kernel_rfl) rfl rfl ?_
  · go_simp
    go_at_call 83
    refine (copy_rls _ _ B _ (hb.rlss.chg hD (by omega) (by intro k hk; omega)) hn.n5).mono ?_
    rintro u w1 ⟨v5, rfl, h5, hb1⟩
    have hD1 : Chg (fun k => k = gb) W w1 := hD.below hb1
    have hK1 := hK.below_ hb1
    have hS : (fun u => u.cell? ⟨gb, 1, none⟩ = some e ∧ u.cell? ⟨gb, 2, none⟩ = some r ∧ u.cell? ⟨gb, 3, none⟩ = some g ∧ u.cell? ⟨gb, 4, none⟩ = some l ∧ u.cell? ⟨gb, 5, none⟩ = some x) w1 := ⟨hK1.cell 1, hK1.cell 2, hK1.cell 3, hK1.cell 4, hK1.cell 5⟩
    refine ⟨hS, ?_⟩
    exact cb_5_0 hQ hB hg hb hn hF w1 v1 v2 v3 v4 v5 hD1 hK1 (h1.below hb1) (h2.below hb1) (h3.below hb1) (h4.below hb1) (h5.older hD.size)

set_option maxRecDepth 100000 in
set_option maxHeartbeats 2000000 in
theorem cb_3_0 (hQ : ∀ c a d v w, Q (.panic c) (Act.put a d v) w → Q (.panic c) a w) (hB : B ≤ gb) (hg : gb < W.heap.size) (hb : RdBok W B b e r g l x) (hn : Short b) (hF : ∀ w' v1 v2 v3 v4 v5, Chg (fun k => k = gb) W w' → Blk w' gb 28 #[.int .i64 b.users, v1, v2, v3, v4, v5, .int .i64 b.step] → SlsN cEnt W.heap.size w' v1 b.entries → SlsN cRul W.heap.size w' v2 b.rules → SlsN cGrt W.heap.size w' v3 b.grants → SlsN cEvt W.heap.size w' v4 b.log → SlsN cRls W.heap.size w' v5 b.releases → Q .normal ⟨#[t0, .pointer (some ⟨gb, 0, none⟩), t2, .pointer (some ⟨gb, 1, none⟩), e, v1, .pointer (some ⟨gb, 2, none⟩), r, v2, .pointer (some ⟨gb, 3, none⟩), g, v3, .pointer (some ⟨gb, 4, none⟩), l, v4, .pointer (some ⟨gb, 5, none⟩), x, v5, .pointer (some ⟨gb, 1, none⟩), .pointer (some ⟨gb, 2, none⟩), .pointer (some ⟨gb, 3, none⟩), .pointer (some ⟨gb, 4, none⟩), .pointer (some ⟨gb, 5, none⟩), undef], []⟩ w')
    (w' : World) (v1 v2 v3 : Value) (hD : Chg (fun k => k = gb) W w') (hK : Blk w' gb 28 #[.int .i64 b.users, e, r, g, l, x, .int .i64 b.step]) (h1 : SlsN cEnt W.heap.size w' v1 b.entries) (h2 : SlsN cRul W.heap.size w' v2 b.rules) (h3 : SlsN cGrt W.heap.size w' v3 b.grants) :
    wpAnyU Tryz.prog .any bookOps Q (fun u => u.cell? ⟨gb, 1, none⟩ = some e ∧ u.cell? ⟨gb, 2, none⟩ = some r ∧ u.cell? ⟨gb, 3, none⟩ = some g ∧ u.cell? ⟨gb, 4, none⟩ = some l ∧ u.cell? ⟨gb, 5, none⟩ = some x) 16 11 #[true, true, true, true, true, true, true, true, true, true, true, false, true, true, false, true, false, false, false, false, false, false, false, false, false] ⟨#[t0, .pointer (some ⟨gb, 0, none⟩), t2, .pointer (some ⟨gb, 1, none⟩), e, v1, .pointer (some ⟨gb, 2, none⟩), r, v2, .pointer (some ⟨gb, 3, none⟩), g, v3, .pointer (some ⟨gb, 4, none⟩), l, undef, .pointer (some ⟨gb, 5, none⟩), x, undef, .pointer (some ⟨gb, 1, none⟩), undef, undef, undef, undef, undef], []⟩ w' := by
  refine wpAnyU_one 11 (o := ⟨some 14, .call { callee := .value (.func 82), args := #[.tmp 13], argTypes := #[25] }, 25, _, _, none⟩) (by kernel_rfl) rfl rfl ?_
  · go_simp
    go_at_call 82
    refine (copy_evt _ _ B _ (hb.evts.chg hD (by omega) (by intro k hk; omega)) hn.n4).mono ?_
    rintro u w1 ⟨v4, rfl, h4, hb1⟩
    have hD1 : Chg (fun k => k = gb) W w1 := hD.below hb1
    have hK1 := hK.below_ hb1
    have hS : (fun u => u.cell? ⟨gb, 1, none⟩ = some e ∧ u.cell? ⟨gb, 2, none⟩ = some r ∧ u.cell? ⟨gb, 3, none⟩ = some g ∧ u.cell? ⟨gb, 4, none⟩ = some l ∧ u.cell? ⟨gb, 5, none⟩ = some x) w1 := ⟨hK1.cell 1, hK1.cell 2, hK1.cell 3, hK1.cell 4, hK1.cell 5⟩
    refine ⟨hS, ?_⟩
    exact cb_4_0 hQ hB hg hb hn hF w1 v1 v2 v3 v4 hD1 hK1 (h1.below hb1) (h2.below hb1) (h3.below hb1) (h4.older hD.size)

set_option maxRecDepth 100000 in
set_option maxHeartbeats 2000000 in
theorem cb_2_0 (hQ : ∀ c a d v w, Q (.panic c) (Act.put a d v) w → Q (.panic c) a w) (hB : B ≤ gb) (hg : gb < W.heap.size) (hb : RdBok W B b e r g l x) (hn : Short b) (hF : ∀ w' v1 v2 v3 v4 v5, Chg (fun k => k = gb) W w' → Blk w' gb 28 #[.int .i64 b.users, v1, v2, v3, v4, v5, .int .i64 b.step] → SlsN cEnt W.heap.size w' v1 b.entries → SlsN cRul W.heap.size w' v2 b.rules → SlsN cGrt W.heap.size w' v3 b.grants → SlsN cEvt W.heap.size w' v4 b.log → SlsN cRls W.heap.size w' v5 b.releases → Q .normal ⟨#[t0, .pointer (some ⟨gb, 0, none⟩), t2, .pointer (some ⟨gb, 1, none⟩), e, v1, .pointer (some ⟨gb, 2, none⟩), r, v2, .pointer (some ⟨gb, 3, none⟩), g, v3, .pointer (some ⟨gb, 4, none⟩), l, v4, .pointer (some ⟨gb, 5, none⟩), x, v5, .pointer (some ⟨gb, 1, none⟩), .pointer (some ⟨gb, 2, none⟩), .pointer (some ⟨gb, 3, none⟩), .pointer (some ⟨gb, 4, none⟩), .pointer (some ⟨gb, 5, none⟩), undef], []⟩ w')
    (w' : World) (v1 v2 : Value) (hD : Chg (fun k => k = gb) W w') (hK : Blk w' gb 28 #[.int .i64 b.users, e, r, g, l, x, .int .i64 b.step]) (h1 : SlsN cEnt W.heap.size w' v1 b.entries) (h2 : SlsN cRul W.heap.size w' v2 b.rules) :
    wpAnyU Tryz.prog .any bookOps Q (fun u => u.cell? ⟨gb, 1, none⟩ = some e ∧ u.cell? ⟨gb, 2, none⟩ = some r ∧ u.cell? ⟨gb, 3, none⟩ = some g ∧ u.cell? ⟨gb, 4, none⟩ = some l ∧ u.cell? ⟨gb, 5, none⟩ = some x) 16 12 #[true, true, true, true, true, true, true, true, false, true, true, false, true, true, false, true, false, false, false, false, false, false, false, false, false] ⟨#[t0, .pointer (some ⟨gb, 0, none⟩), t2, .pointer (some ⟨gb, 1, none⟩), e, v1, .pointer (some ⟨gb, 2, none⟩), r, v2, .pointer (some ⟨gb, 3, none⟩), g, undef, .pointer (some ⟨gb, 4, none⟩), l, undef, .pointer (some ⟨gb, 5, none⟩), x, undef, .pointer (some ⟨gb, 1, none⟩), undef, undef, undef, undef, undef], []⟩ w' := by
  refine wpAnyU_one 8 (o := ⟨some 11, .call { callee := .value (.func 81), args := #[.tmp 10], argTypes := #[24] }, 24, _, _, none⟩) (by kernel_rfl) rfl rfl ?_
  · go_simp
    go_at_call 81
    refine (copy_grt _ _ B _ (hb.grts.chg hD (by omega) (by intro k hk; omega)) hn.n3).mono ?_
    rintro u w1 ⟨v3, rfl, h3, hb1⟩
    have hD1 : Chg (fun k => k = gb) W w1 := hD.below hb1
    have hK1 := hK.below_ hb1
    have hS : (fun u => u.cell? ⟨gb, 1, none⟩ = some e ∧ u.cell? ⟨gb, 2, none⟩ = some r ∧ u.cell? ⟨gb, 3, none⟩ = some g ∧ u.cell? ⟨gb, 4, none⟩ = some l ∧ u.cell? ⟨gb, 5, none⟩ = some x) w1 := ⟨hK1.cell 1, hK1.cell 2, hK1.cell 3, hK1.cell 4, hK1.cell 5⟩
    refine ⟨hS, ?_⟩
    exact cb_3_0 hQ hB hg hb hn hF w1 v1 v2 v3 hD1 hK1 (h1.below hb1) (h2.below hb1) (h3.older hD.size)

set_option maxRecDepth 100000 in
set_option maxHeartbeats 2000000 in
theorem cb_1_0 (hQ : ∀ c a d v w, Q (.panic c) (Act.put a d v) w → Q (.panic c) a w) (hB : B ≤ gb) (hg : gb < W.heap.size) (hb : RdBok W B b e r g l x) (hn : Short b) (hF : ∀ w' v1 v2 v3 v4 v5, Chg (fun k => k = gb) W w' → Blk w' gb 28 #[.int .i64 b.users, v1, v2, v3, v4, v5, .int .i64 b.step] → SlsN cEnt W.heap.size w' v1 b.entries → SlsN cRul W.heap.size w' v2 b.rules → SlsN cGrt W.heap.size w' v3 b.grants → SlsN cEvt W.heap.size w' v4 b.log → SlsN cRls W.heap.size w' v5 b.releases → Q .normal ⟨#[t0, .pointer (some ⟨gb, 0, none⟩), t2, .pointer (some ⟨gb, 1, none⟩), e, v1, .pointer (some ⟨gb, 2, none⟩), r, v2, .pointer (some ⟨gb, 3, none⟩), g, v3, .pointer (some ⟨gb, 4, none⟩), l, v4, .pointer (some ⟨gb, 5, none⟩), x, v5, .pointer (some ⟨gb, 1, none⟩), .pointer (some ⟨gb, 2, none⟩), .pointer (some ⟨gb, 3, none⟩), .pointer (some ⟨gb, 4, none⟩), .pointer (some ⟨gb, 5, none⟩), undef], []⟩ w')
    (w' : World) (v1 : Value) (hD : Chg (fun k => k = gb) W w') (hK : Blk w' gb 28 #[.int .i64 b.users, e, r, g, l, x, .int .i64 b.step]) (h1 : SlsN cEnt W.heap.size w' v1 b.entries) :
    wpAnyU Tryz.prog .any bookOps Q (fun u => u.cell? ⟨gb, 1, none⟩ = some e ∧ u.cell? ⟨gb, 2, none⟩ = some r ∧ u.cell? ⟨gb, 3, none⟩ = some g ∧ u.cell? ⟨gb, 4, none⟩ = some l ∧ u.cell? ⟨gb, 5, none⟩ = some x) 16 13 #[true, true, true, true, true, false, true, true, false, true, true, false, true, true, false, true, false, false, false, false, false, false, false, false, false] ⟨#[t0, .pointer (some ⟨gb, 0, none⟩), t2, .pointer (some ⟨gb, 1, none⟩), e, v1, .pointer (some ⟨gb, 2, none⟩), r, undef, .pointer (some ⟨gb, 3, none⟩), g, undef, .pointer (some ⟨gb, 4, none⟩), l, undef, .pointer (some ⟨gb, 5, none⟩), x, undef, .pointer (some ⟨gb, 1, none⟩), undef, undef, undef, undef, undef], []⟩ w' := by
  refine wpAnyU_one 5 (o := ⟨some 8, .call { callee := .value (.func 80), args := #[.tmp 7], argTypes := #[23] }, 23, _, _, none⟩) (by kernel_rfl) rfl rfl ?_
  · go_simp
    go_at_call 80
    refine (copy_rul _ _ B _ (hb.ruls.chg hD (by omega) (by intro k hk; omega)) hn.n2).mono ?_
    rintro u w1 ⟨v2, rfl, h2, hb1⟩
    have hD1 : Chg (fun k => k = gb) W w1 := hD.below hb1
    have hK1 := hK.below_ hb1
    have hS : (fun u => u.cell? ⟨gb, 1, none⟩ = some e ∧ u.cell? ⟨gb, 2, none⟩ = some r ∧ u.cell? ⟨gb, 3, none⟩ = some g ∧ u.cell? ⟨gb, 4, none⟩ = some l ∧ u.cell? ⟨gb, 5, none⟩ = some x) w1 := ⟨hK1.cell 1, hK1.cell 2, hK1.cell 3, hK1.cell 4, hK1.cell 5⟩
    refine ⟨hS, ?_⟩
    exact cb_2_0 hQ hB hg hb hn hF w1 v1 v2 hD1 hK1 (h1.below hb1) (h2.older hD.size)

set_option maxRecDepth 100000 in
set_option maxHeartbeats 2000000 in
theorem cb_0_0 (hQ : ∀ c a d v w, Q (.panic c) (Act.put a d v) w → Q (.panic c) a w) (hB : B ≤ gb) (hg : gb < W.heap.size) (hb : RdBok W B b e r g l x) (hn : Short b) (hF : ∀ w' v1 v2 v3 v4 v5, Chg (fun k => k = gb) W w' → Blk w' gb 28 #[.int .i64 b.users, v1, v2, v3, v4, v5, .int .i64 b.step] → SlsN cEnt W.heap.size w' v1 b.entries → SlsN cRul W.heap.size w' v2 b.rules → SlsN cGrt W.heap.size w' v3 b.grants → SlsN cEvt W.heap.size w' v4 b.log → SlsN cRls W.heap.size w' v5 b.releases → Q .normal ⟨#[t0, .pointer (some ⟨gb, 0, none⟩), t2, .pointer (some ⟨gb, 1, none⟩), e, v1, .pointer (some ⟨gb, 2, none⟩), r, v2, .pointer (some ⟨gb, 3, none⟩), g, v3, .pointer (some ⟨gb, 4, none⟩), l, v4, .pointer (some ⟨gb, 5, none⟩), x, v5, .pointer (some ⟨gb, 1, none⟩), .pointer (some ⟨gb, 2, none⟩), .pointer (some ⟨gb, 3, none⟩), .pointer (some ⟨gb, 4, none⟩), .pointer (some ⟨gb, 5, none⟩), undef], []⟩ w')
    (w' : World) (hD : Chg (fun k => k = gb) W w') (hK : Blk w' gb 28 #[.int .i64 b.users, e, r, g, l, x, .int .i64 b.step]) :
    wpAnyU Tryz.prog .any bookOps Q (fun u => u.cell? ⟨gb, 1, none⟩ = some e ∧ u.cell? ⟨gb, 2, none⟩ = some r ∧ u.cell? ⟨gb, 3, none⟩ = some g ∧ u.cell? ⟨gb, 4, none⟩ = some l ∧ u.cell? ⟨gb, 5, none⟩ = some x) 16 15 #[true, true, false, true, true, false, true, true, false, true, true, false, true, true, false, false, false, false, false, false, false, false, false, false, false] ⟨#[t0, .pointer (some ⟨gb, 0, none⟩), t2, .pointer (some ⟨gb, 1, none⟩), e, undef, .pointer (some ⟨gb, 2, none⟩), r, undef, .pointer (some ⟨gb, 3, none⟩), g, undef, .pointer (some ⟨gb, 4, none⟩), l, undef, .pointer (some ⟨gb, 5, none⟩), x, undef, undef, undef, undef, undef, undef, undef], []⟩ w' := by
  refine wpAnyU_one 2 (o := ⟨some 5, .call { callee := .value (.func 79), args := #[.tmp 4], argTypes := #[22] }, 22, _, _, none⟩) (by kernel_rfl) rfl rfl ?_
  · go_simp
    go_at_call 79
    refine (copy_ent _ _ B _ (hb.ents.chg hD (by omega) (by intro k hk; omega)) hn.n1).mono ?_
    rintro u w1 ⟨v1, rfl, h1, hb1⟩
    have hD1 : Chg (fun k => k = gb) W w1 := hD.below hb1
    have hK1 := hK.below_ hb1
    have hS : (fun u => u.cell? ⟨gb, 1, none⟩ = some e ∧ u.cell? ⟨gb, 2, none⟩ = some r ∧ u.cell? ⟨gb, 3, none⟩ = some g ∧ u.cell? ⟨gb, 4, none⟩ = some l ∧ u.cell? ⟨gb, 5, none⟩ = some x) w1 := ⟨hK1.cell 1, hK1.cell 2, hK1.cell 3, hK1.cell 4, hK1.cell 5⟩
    refine ⟨hS, wpAnyU_take0 15 (oi := ⟨some 18, .fieldAddr 28 (.tmp 1) 1, 0, _, _, none⟩) rfl (by kernel_rfl) (by kernel_rfl) (by kernel_rfl) (by decide) (fun _ _ _ h => hQ _ _ _ _ _ h) (Or.inl ⟨rfl, fun _ _ => rfl⟩) (fun _ => hS) ?_⟩
    exact cb_1_0 hQ hB hg hb hn hF w1 v1 hD1 hK1 (h1.older hD.size)

set_option maxRecDepth 100000 in
set_option maxHeartbeats 2000000 in
theorem cb_load_4 (hQ : ∀ c a d v w, Q (.panic c) (Act.put a d v) w → Q (.panic c) a w) (hB : B ≤ gb) (hg : gb < W.heap.size) (hb : RdBok W B b e r g l x) (hn : Short b) (hF : ∀ w' v1 v2 v3 v4 v5, Chg (fun k => k = gb) W w' → Blk w' gb 28 #[.int .i64 b.users, v1, v2, v3, v4, v5, .int .i64 b.step] → SlsN cEnt W.heap.size w' v1 b.entries → SlsN cRul W.heap.size w' v2 b.rules → SlsN cGrt W.heap.size w' v3 b.grants → SlsN cEvt W.heap.size w' v4 b.log → SlsN cRls W.heap.size w' v5 b.releases → Q .normal ⟨#[t0, .pointer (some ⟨gb, 0, none⟩), t2, .pointer (some ⟨gb, 1, none⟩), e, v1, .pointer (some ⟨gb, 2, none⟩), r, v2, .pointer (some ⟨gb, 3, none⟩), g, v3, .pointer (some ⟨gb, 4, none⟩), l, v4, .pointer (some ⟨gb, 5, none⟩), x, v5, .pointer (some ⟨gb, 1, none⟩), .pointer (some ⟨gb, 2, none⟩), .pointer (some ⟨gb, 3, none⟩), .pointer (some ⟨gb, 4, none⟩), .pointer (some ⟨gb, 5, none⟩), undef], []⟩ w')
    (hK : Blk W gb 28 #[.int .i64 b.users, e, r, g, l, x, .int .i64 b.step]) (hS : (fun u => u.cell? ⟨gb, 1, none⟩ = some e ∧ u.cell? ⟨gb, 2, none⟩ = some r ∧ u.cell? ⟨gb, 3, none⟩ = some g ∧ u.cell? ⟨gb, 4, none⟩ = some l ∧ u.cell? ⟨gb, 5, none⟩ = some x) W) :
    wpAnyU Tryz.prog .any bookOps Q (fun u => u.cell? ⟨gb, 1, none⟩ = some e ∧ u.cell? ⟨gb, 2, none⟩ = some r ∧ u.cell? ⟨gb, 3, none⟩ = some g ∧ u.cell? ⟨gb, 4, none⟩ = some l ∧ u.cell? ⟨gb, 5, none⟩ = some x) 16 17 #[true, true, false, true, true, false, true, true, false, true, true, false, false, false, false, false, false, false, false, false, false, false, false, false, false] ⟨#[t0, .pointer (some ⟨gb, 0, none⟩), t2, .pointer (some ⟨gb, 1, none⟩), e, undef, .pointer (some ⟨gb, 2, none⟩), r, undef, .pointer (some ⟨gb, 3, none⟩), g, undef, .pointer (some ⟨gb, 4, none⟩), l, undef, undef, undef, undef, undef, undef, undef, undef, undef, undef], []⟩ W := by
  refine wpAnyU_take0 12 (oi := ⟨some 15, .fieldAddr 28 (.tmp 1) 5, 0, _, _, none⟩) (v := .pointer (some ⟨gb, 5, none⟩)) rfl (by kernel_rfl) (by kernel_rfl) (by kernel_rfl) (by decide) (fun _ _ _ h => hQ _ _ _ _ _ h) (Or.inl ⟨rfl, fun _ _ => rfl⟩) (fun _ => hS) ?_
  refine wpAnyU_take 13 (oi := ⟨some 16, .load 26 (.tmp 15), 26, _, _, none⟩) (v := x) rfl (by kernel_rfl) (by kernel_rfl) (by kernel_rfl) (by kernel_rfl) (by decide) (by decide) (fun _ _ _ h => hQ _ _ _ _ _ h) (Or.inl ⟨rfl, fun u hu => ?_⟩) hS ?_
  · have hu := hu.2.2.2.2
    obtain ⟨A, c, rfl, _⟩ := hb.rlss
    go_simp
  · exact cb_0_0 hQ hB hg hb hn hF W (Chg.refl _ _) hK

set_option maxRecDepth 100000 in
set_option maxHeartbeats 2000000 in
theorem cb_load_3 (hQ : ∀ c a d v w, Q (.panic c) (Act.put a d v) w → Q (.panic c) a w) (hB : B ≤ gb) (hg : gb < W.heap.size) (hb : RdBok W B b e r g l x) (hn : Short b) (hF : ∀ w' v1 v2 v3 v4 v5, Chg (fun k => k = gb) W w' → Blk w' gb 28 #[.int .i64 b.users, v1, v2, v3, v4, v5, .int .i64 b.step] → SlsN cEnt W.heap.size w' v1 b.entries → SlsN cRul W.heap.size w' v2 b.rules → SlsN cGrt W.heap.size w' v3 b.grants → SlsN cEvt W.heap.size w' v4 b.log → SlsN cRls W.heap.size w' v5 b.releases → Q .normal ⟨#[t0, .pointer (some ⟨gb, 0, none⟩), t2, .pointer (some ⟨gb, 1, none⟩), e, v1, .pointer (some ⟨gb, 2, none⟩), r, v2, .pointer (some ⟨gb, 3, none⟩), g, v3, .pointer (some ⟨gb, 4, none⟩), l, v4, .pointer (some ⟨gb, 5, none⟩), x, v5, .pointer (some ⟨gb, 1, none⟩), .pointer (some ⟨gb, 2, none⟩), .pointer (some ⟨gb, 3, none⟩), .pointer (some ⟨gb, 4, none⟩), .pointer (some ⟨gb, 5, none⟩), undef], []⟩ w')
    (hK : Blk W gb 28 #[.int .i64 b.users, e, r, g, l, x, .int .i64 b.step]) (hS : (fun u => u.cell? ⟨gb, 1, none⟩ = some e ∧ u.cell? ⟨gb, 2, none⟩ = some r ∧ u.cell? ⟨gb, 3, none⟩ = some g ∧ u.cell? ⟨gb, 4, none⟩ = some l ∧ u.cell? ⟨gb, 5, none⟩ = some x) W) :
    wpAnyU Tryz.prog .any bookOps Q (fun u => u.cell? ⟨gb, 1, none⟩ = some e ∧ u.cell? ⟨gb, 2, none⟩ = some r ∧ u.cell? ⟨gb, 3, none⟩ = some g ∧ u.cell? ⟨gb, 4, none⟩ = some l ∧ u.cell? ⟨gb, 5, none⟩ = some x) 16 19 #[true, true, false, true, true, false, true, true, false, false, false, false, false, false, false, false, false, false, false, false, false, false, false, false, false] ⟨#[t0, .pointer (some ⟨gb, 0, none⟩), t2, .pointer (some ⟨gb, 1, none⟩), e, undef, .pointer (some ⟨gb, 2, none⟩), r, undef, .pointer (some ⟨gb, 3, none⟩), g, undef, undef, undef, undef, undef, undef, undef, undef, undef, undef, undef, undef, undef], []⟩ W := by
  refine wpAnyU_take0 9 (oi := ⟨some 12, .fieldAddr 28 (.tmp 1) 4, 0, _, _, none⟩) (v := .pointer (some ⟨gb, 4, none⟩)) rfl (by kernel_rfl) (by kernel_rfl) (by kernel_rfl) (by decide) (fun _ _ _ h => hQ _ _ _ _ _ h) (Or.inl ⟨rfl, fun _ _ => rfl⟩) (fun _ => hS) ?_
  refine wpAnyU_take 10 (oi := ⟨some 13, .load 25 (.tmp 12), 25, _, _, none⟩) (v := l) rfl (by kernel_rfl) (by kernel_rfl) (by kernel_rfl) (by kernel_rfl) (by decide) (by decide) (fun _ _ _ h => hQ _ _ _ _ _ h) (Or.inl ⟨rfl, fun u hu => ?_⟩) hS ?_
  · have hu := hu.2.2.2.1
    obtain ⟨A, c, rfl, _⟩ := hb.evts
    go_simp
  · exact cb_load_4 hQ hB hg hb hn hF hK hS

set_option maxRecDepth 100000 in
set_option maxHeartbeats 2000000 in
theorem cb_load_2 (hQ : ∀ c a d v w, Q (.panic c) (Act.put a d v) w → Q (.panic c) a w) (hB : B ≤ gb) (hg : gb < W.heap.size) (hb : RdBok W B b e r g l x) (hn : Short b) (hF : ∀ w' v1 v2 v3 v4 v5, Chg (fun k => k = gb) W w' → Blk w' gb 28 #[.int .i64 b.users, v1, v2, v3, v4, v5, .int .i64 b.step] → SlsN cEnt W.heap.size w' v1 b.entries → SlsN cRul W.heap.size w' v2 b.rules → SlsN cGrt W.heap.size w' v3 b.grants → SlsN cEvt W.heap.size w' v4 b.log → SlsN cRls W.heap.size w' v5 b.releases → Q .normal ⟨#[t0, .pointer (some ⟨gb, 0, none⟩), t2, .pointer (some ⟨gb, 1, none⟩), e, v1, .pointer (some ⟨gb, 2, none⟩), r, v2, .pointer (some ⟨gb, 3, none⟩), g, v3, .pointer (some ⟨gb, 4, none⟩), l, v4, .pointer (some ⟨gb, 5, none⟩), x, v5, .pointer (some ⟨gb, 1, none⟩), .pointer (some ⟨gb, 2, none⟩), .pointer (some ⟨gb, 3, none⟩), .pointer (some ⟨gb, 4, none⟩), .pointer (some ⟨gb, 5, none⟩), undef], []⟩ w')
    (hK : Blk W gb 28 #[.int .i64 b.users, e, r, g, l, x, .int .i64 b.step]) (hS : (fun u => u.cell? ⟨gb, 1, none⟩ = some e ∧ u.cell? ⟨gb, 2, none⟩ = some r ∧ u.cell? ⟨gb, 3, none⟩ = some g ∧ u.cell? ⟨gb, 4, none⟩ = some l ∧ u.cell? ⟨gb, 5, none⟩ = some x) W) :
    wpAnyU Tryz.prog .any bookOps Q (fun u => u.cell? ⟨gb, 1, none⟩ = some e ∧ u.cell? ⟨gb, 2, none⟩ = some r ∧ u.cell? ⟨gb, 3, none⟩ = some g ∧ u.cell? ⟨gb, 4, none⟩ = some l ∧ u.cell? ⟨gb, 5, none⟩ = some x) 16 21 #[true, true, false, true, true, false, false, false, false, false, false, false, false, false, false, false, false, false, false, false, false, false, false, false, false] ⟨#[t0, .pointer (some ⟨gb, 0, none⟩), t2, .pointer (some ⟨gb, 1, none⟩), e, undef, .pointer (some ⟨gb, 2, none⟩), r, undef, undef, undef, undef, undef, undef, undef, undef, undef, undef, undef, undef, undef, undef, undef, undef], []⟩ W := by
  refine wpAnyU_take0 6 (oi := ⟨some 9, .fieldAddr 28 (.tmp 1) 3, 0, _, _, none⟩) (v := .pointer (some ⟨gb, 3, none⟩)) rfl (by kernel_rfl) (by kernel_rfl) (by kernel_rfl) (by decide) (fun _ _ _ h => hQ _ _ _ _ _ h) (Or.inl ⟨rfl, fun _ _ => rfl⟩) (fun _ => hS) ?_
  refine wpAnyU_take 7 (oi := ⟨some 10, .load 24 (.tmp 9), 24, _, _, none⟩) (v := g) rfl (by kernel_rfl) (by kernel_rfl) (by kernel_rfl) (by kernel_rfl) (by decide) (by decide) (fun _ _ _ h => hQ _ _ _ _ _ h) (Or.inl ⟨rfl, fun u hu => ?_⟩) hS ?_
  · have hu := hu.2.2.1
    obtain ⟨A, c, rfl, _⟩ := hb.grts
    go_simp
  · exact cb_load_3 hQ hB hg hb hn hF hK hS

set_option maxRecDepth 100000 in
set_option maxHeartbeats 2000000 in
theorem cb_load_1 (hQ : ∀ c a d v w, Q (.panic c) (Act.put a d v) w → Q (.panic c) a w) (hB : B ≤ gb) (hg : gb < W.heap.size) (hb : RdBok W B b e r g l x) (hn : Short b) (hF : ∀ w' v1 v2 v3 v4 v5, Chg (fun k => k = gb) W w' → Blk w' gb 28 #[.int .i64 b.users, v1, v2, v3, v4, v5, .int .i64 b.step] → SlsN cEnt W.heap.size w' v1 b.entries → SlsN cRul W.heap.size w' v2 b.rules → SlsN cGrt W.heap.size w' v3 b.grants → SlsN cEvt W.heap.size w' v4 b.log → SlsN cRls W.heap.size w' v5 b.releases → Q .normal ⟨#[t0, .pointer (some ⟨gb, 0, none⟩), t2, .pointer (some ⟨gb, 1, none⟩), e, v1, .pointer (some ⟨gb, 2, none⟩), r, v2, .pointer (some ⟨gb, 3, none⟩), g, v3, .pointer (some ⟨gb, 4, none⟩), l, v4, .pointer (some ⟨gb, 5, none⟩), x, v5, .pointer (some ⟨gb, 1, none⟩), .pointer (some ⟨gb, 2, none⟩), .pointer (some ⟨gb, 3, none⟩), .pointer (some ⟨gb, 4, none⟩), .pointer (some ⟨gb, 5, none⟩), undef], []⟩ w')
    (hK : Blk W gb 28 #[.int .i64 b.users, e, r, g, l, x, .int .i64 b.step]) (hS : (fun u => u.cell? ⟨gb, 1, none⟩ = some e ∧ u.cell? ⟨gb, 2, none⟩ = some r ∧ u.cell? ⟨gb, 3, none⟩ = some g ∧ u.cell? ⟨gb, 4, none⟩ = some l ∧ u.cell? ⟨gb, 5, none⟩ = some x) W) :
    wpAnyU Tryz.prog .any bookOps Q (fun u => u.cell? ⟨gb, 1, none⟩ = some e ∧ u.cell? ⟨gb, 2, none⟩ = some r ∧ u.cell? ⟨gb, 3, none⟩ = some g ∧ u.cell? ⟨gb, 4, none⟩ = some l ∧ u.cell? ⟨gb, 5, none⟩ = some x) 16 23 #[true, true, false, false, false, false, false, false, false, false, false, false, false, false, false, false, false, false, false, false, false, false, false, false, false] ⟨#[t0, .pointer (some ⟨gb, 0, none⟩), t2, .pointer (some ⟨gb, 1, none⟩), e, undef, undef, undef, undef, undef, undef, undef, undef, undef, undef, undef, undef, undef, undef, undef, undef, undef, undef, undef], []⟩ W := by
  refine wpAnyU_take0 3 (oi := ⟨some 6, .fieldAddr 28 (.tmp 1) 2, 0, _, _, none⟩) (v := .pointer (some ⟨gb, 2, none⟩)) rfl (by kernel_rfl) (by kernel_rfl) (by kernel_rfl) (by decide) (fun _ _ _ h => hQ _ _ _ _ _ h) (Or.inl ⟨rfl, fun _ _ => rfl⟩) (fun _ => hS) ?_
  refine wpAnyU_take 4 (oi := ⟨some 7, .load 23 (.tmp 6), 23, _, _, none⟩) (v := r) rfl (by kernel_rfl) (by kernel_rfl) (by kernel_rfl) (by kernel_rfl) (by decide) (by decide) (fun _ _ _ h => hQ _ _ _ _ _ h) (Or.inl ⟨rfl, fun u hu => ?_⟩) hS ?_
  · have hu := hu.2.1
    obtain ⟨A, c, rfl, _⟩ := hb.ruls
    go_simp
  · exact cb_load_2 hQ hB hg hb hn hF hK hS

set_option maxRecDepth 100000 in
set_option maxHeartbeats 2000000 in
theorem cb_load_0 (hQ : ∀ c a d v w, Q (.panic c) (Act.put a d v) w → Q (.panic c) a w) (hB : B ≤ gb) (hg : gb < W.heap.size) (hb : RdBok W B b e r g l x) (hn : Short b) (hF : ∀ w' v1 v2 v3 v4 v5, Chg (fun k => k = gb) W w' → Blk w' gb 28 #[.int .i64 b.users, v1, v2, v3, v4, v5, .int .i64 b.step] → SlsN cEnt W.heap.size w' v1 b.entries → SlsN cRul W.heap.size w' v2 b.rules → SlsN cGrt W.heap.size w' v3 b.grants → SlsN cEvt W.heap.size w' v4 b.log → SlsN cRls W.heap.size w' v5 b.releases → Q .normal ⟨#[t0, .pointer (some ⟨gb, 0, none⟩), t2, .pointer (some ⟨gb, 1, none⟩), e, v1, .pointer (some ⟨gb, 2, none⟩), r, v2, .pointer (some ⟨gb, 3, none⟩), g, v3, .pointer (some ⟨gb, 4, none⟩), l, v4, .pointer (some ⟨gb, 5, none⟩), x, v5, .pointer (some ⟨gb, 1, none⟩), .pointer (some ⟨gb, 2, none⟩), .pointer (some ⟨gb, 3, none⟩), .pointer (some ⟨gb, 4, none⟩), .pointer (some ⟨gb, 5, none⟩), undef], []⟩ w')
    (hK : Blk W gb 28 #[.int .i64 b.users, e, r, g, l, x, .int .i64 b.step]) (hS : (fun u => u.cell? ⟨gb, 1, none⟩ = some e ∧ u.cell? ⟨gb, 2, none⟩ = some r ∧ u.cell? ⟨gb, 3, none⟩ = some g ∧ u.cell? ⟨gb, 4, none⟩ = some l ∧ u.cell? ⟨gb, 5, none⟩ = some x) W) :
    wpAnyU Tryz.prog .any bookOps Q (fun u => u.cell? ⟨gb, 1, none⟩ = some e ∧ u.cell? ⟨gb, 2, none⟩ = some r ∧ u.cell? ⟨gb, 3, none⟩ = some g ∧ u.cell? ⟨gb, 4, none⟩ = some l ∧ u.cell? ⟨gb, 5, none⟩ = some x) 16 25 #[false, false, false, false, false, false, false, false, false, false, false, false, false, false, false, false, false, false, false, false, false, false, false, false, false] ⟨#[t0, .pointer (some ⟨gb, 0, none⟩), t2, undef, undef, undef, undef, undef, undef, undef, undef, undef, undef, undef, undef, undef, undef, undef, undef, undef, undef, undef, undef, undef], []⟩ W := by
  refine wpAnyU_take0 0 (oi := ⟨some 3, .fieldAddr 28 (.tmp 1) 1, 0, _, _, none⟩) (v := .pointer (some ⟨gb, 1, none⟩)) rfl (by kernel_rfl) (by kernel_rfl) (by kernel_rfl) (by decide) (fun _ _ _ h => hQ _ _ _ _ _ h) (Or.inl ⟨rfl, fun _ _ => rfl⟩) (fun _ => hS) ?_
  refine wpAnyU_take 1 (oi := ⟨some 4, .load 22 (.tmp 3), 22, _, _, none⟩) (v := e) rfl (by kernel_rfl) (by kernel_rfl) (by kernel_rfl) (by kernel_rfl) (by decide) (by decide) (fun _ _ _ h => hQ _ _ _ _ _ h) (Or.inl ⟨rfl, fun u hu => ?_⟩) hS ?_
  · have hu := hu.1
    obtain ⟨A, c, rfl, _⟩ := hb.ents
    go_simp
  · exact cb_load_1 hQ hB hg hb hn hF hK hS
end

theorem bok_below {w w' : World} {B : Nat} {b : Bok} {e r g l x : Value} (h : RdBok w B b e r g l x) (hb : Chg (fun _ => False) w w') (hB : B ≤ w.heap.size) : RdBok w' B b e r g l x := h.below (hb.to_below hB (fun _ _ h => h))

set_option maxRecDepth 100000 in
set_option maxHeartbeats 4000000 in
theorem copy_book (b : Bok) (e r g l x : Value) (B : Nat) (w : World) (hB : B ≤ w.heap.size) (hb : RdBok w B b e r g l x) (hn : Short b) :
    Calls Tryz.prog 25 #[vBok b e r g l x] w fun u w' => ∃ e' r' g' l' x', u = .returned (vBok b e' r' g' l' x') ∧
      (SlsN cEnt w.heap.size w' e' b.entries ∧ SlsN cRul w.heap.size w' r' b.rules ∧ SlsN cGrt w.heap.size w' g' b.grants ∧ SlsN cEvt w.heap.size w' l' b.log ∧ SlsN cRls w.heap.size w' x' b.releases) ∧ Below w.heap.size w w' := by
  obtain ⟨Ae, ne, ce, rfl⟩ : ∃ A n c, e = .slice A n c := by obtain ⟨A, c, h, _⟩ := hb.ents; exact ⟨_, _, _, h⟩
  obtain ⟨Ar, nr, cr, rfl⟩ : ∃ A n c, r = .slice A n c := by obtain ⟨A, c, h, _⟩ := hb.ruls; exact ⟨_, _, _, h⟩
  obtain ⟨Ag, ng, cg, rfl⟩ : ∃ A n c, g = .slice A n c := by obtain ⟨A, c, h, _⟩ := hb.grts; exact ⟨_, _, _, h⟩
  obtain ⟨Al, nl, cl, rfl⟩ : ∃ A n c, l = .slice A n c := by obtain ⟨A, c, h, _⟩ := hb.evts; exact ⟨_, _, _, h⟩
  obtain ⟨Ax, nx, cx, rfl⟩ : ∃ A n c, x = .slice A n c := by obtain ⟨A, c, h, _⟩ := hb.rlss; exact ⟨_, _, _, h⟩
  have HB := Lib.hid hb
  have HN := Lib.hid hn
  clear hb hn
  go_enter Tryz.func25, Tryz.ntmps25
  go_wp2_with fail
  refine wp_region_U (fun w' => w'.cell? ⟨w.heap.size, 1, none⟩ = some (.slice Ae ne ce) ∧ w'.cell? ⟨w.heap.size, 2, none⟩ = some (.slice Ar nr cr) ∧ w'.cell? ⟨w.heap.size, 3, none⟩ = some (.slice Ag ng cg) ∧ w'.cell? ⟨w.heap.size, 4, none⟩ = some (.slice Al nl cl) ∧ w'.cell? ⟨w.heap.size, 5, none⟩ = some (.slice Ax nx cx)) 16 (by kernel_rfl) ?_
  change wpAnyU _ _ bookOps _ _ _ 25 (Array.replicate 25 false) _ _
  generalize hW : World.drew _ = W
  have hs : W.heap.size = w.heap.size + 2 := by rw [← hW]; simp
  have hK : Blk W w.heap.size 28 #[.int .i64 b.users, .slice Ae ne ce, .slice Ar nr cr, .slice Ag ng cg, .slice Al nl cl, .slice Ax nx cx, .int .i64 b.step] := by rw [← hW]; exact ((Blk.new _ _ _).alloc _).drew
  have hR : Blk W (w.heap.size + 1) 28 #[.int .i64 0, .slice none 0 0, .slice none 0 0, .slice none 0 0, .slice none 0 0, .slice none 0 0, .int .i64 0] := by rw [← hW]; have := Blk.new (w.alloc (.cells #[.int .i64 b.users, .slice Ae ne ce, .slice Ar nr cr, .slice Ag ng cg, .slice Al nl cl, .slice Ax nx cx, .int .i64 b.step] 28)) 28 #[.int .i64 0, .slice none 0 0, .slice none 0 0, .slice none 0 0, .slice none 0 0, .slice none 0 0, .int .i64 0]; simpa using this.drew
  have hBW : Below w.heap.size w W := by rw [← hW]; go_grown
  clear hW
  have hS : W.cell? ⟨w.heap.size, 1, none⟩ = some (.slice Ae ne ce) ∧ W.cell? ⟨w.heap.size, 2, none⟩ = some (.slice Ar nr cr) ∧ W.cell? ⟨w.heap.size, 3, none⟩ = some (.slice Ag ng cg) ∧ W.cell? ⟨w.heap.size, 4, none⟩ = some (.slice Al nl cl) ∧ W.cell? ⟨w.heap.size, 5, none⟩ = some (.slice Ax nx cx) := ⟨hK.cell 1, hK.cell 2, hK.cell 3, hK.cell 4, hK.cell 5⟩
  refine cb_load_0 (fun _ _ d _ _ h => by cases d <;> exact h) hB (by omega) (RdBok.below HB.out (hBW.mono hB)) HN.out ?_ hK hS
  intro w' v1 v2 v3 v4 v5 hD hK' h1 h2 h3 h4 h5
  have hR' := hR.chg hD (by simp)
  have kc : ∀ o, w'.cell? ⟨w.heap.size, o, none⟩ = _ := hK'.cell
  have rc : ∀ o, w'.cell? ⟨w.heap.size + 1, o, none⟩ = _ := hR'.cell
  have rf : ∀ o, w'.frozen? ⟨w.heap.size + 1, o, none⟩ = _ := hR'.frozen
  obtain ⟨Ae', ce', rfl, _⟩ := id h1.1
  obtain ⟨Ar', cr', rfl, _⟩ := id h2.1
  obtain ⟨Ag', cg', rfl, _⟩ := id h3.1
  obtain ⟨Al', cl', rfl, _⟩ := id h4.1
  obtain ⟨Ax', cx', rfl, _⟩ := id h5.1
  have H1 := Lib.hid h1
  have H2 := Lib.hid h2
  have H3 := Lib.hid h3
  have H4 := Lib.hid h4
  have H5 := Lib.hid h5
  clear h1 h2 h3 h4 h5 hS hR hK
  have hBw : Below w.heap.size w w' := hBW.trans (hD.to_below (by omega) (fun k hk e => by omega))
  clear hD hBW
  go_wp2
  refine bodyPost_ret (v := vBok b (.slice Ae' b.entries.length ce') (.slice Ar' b.rules.length cr') (.slice Ag' b.grants.length cg') (.slice Al' b.log.length cl') (.slice Ax' b.releases.length cx')) (by simp (maxDischargeDepth := 9) [results, Tryz.results25, go_sem, rc]) rfl ?_
  have hp : w.heap.size + 1 < W.heap.size := by omega
  have hp' : w.heap.size ≤ w.heap.size + 1 := by omega
  have ho : w.heap.size ≤ W.heap.size := by omega
  exact ⟨_, _, _, _, _, rfl, ⟨SlsN.older (((((((H1.out.set hp _).set hp _).set hp _).set hp _).set hp _).set hp _).set hp _) ho, SlsN.older (((((((H2.out.set hp _).set hp _).set hp _).set hp _).set hp _).set hp _).set hp _) ho, SlsN.older (((((((H3.out.set hp _).set hp _).set hp _).set hp _).set hp _).set hp _).set hp _) ho, SlsN.older (((((((H4.out.set hp _).set hp _).set hp _).set hp _).set hp _).set hp _).set hp _) ho, SlsN.older (((((((H5.out.set hp _).set hp _).set hp _).set hp _).set hp _).set hp _).set hp _) ho⟩, ((((((hBw.setCell hp' _).setCell hp' _).setCell hp' _).setCell hp' _).setCell hp' _).setCell hp' _).setCell hp' _⟩

end Go.Proofs.YtamcgggmfghljaaGreatDoor
