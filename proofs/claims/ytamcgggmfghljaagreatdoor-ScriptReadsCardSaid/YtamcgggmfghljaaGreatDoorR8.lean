/- Copies of scripts. -/
import Derived.Test.YtamcgggmfghljaaGreatDoorR6
import Derived.Test.YtamcgggmfghljaaGreatDoorR7
namespace Go.Proofs.YtamcgggmfghljaaGreatDoor
open Go.RowKit

noncomputable def scriptOps : Array Oper := ((Tryz.f11.body.bind (opsOf 1)).getD #[])

section
variable {Q : Exit → Act → World → Prop} {s : Scp} {e r g l x o t0 t2 : Value} {B gb : Nat} {W : World}

set_option maxRecDepth 100000 in
set_option maxHeartbeats 4000000 in
theorem cs_2_2 (_hQ : ∀ c a d v w, Q (.panic c) (Act.put a d v) w → Q (.panic c) a w) (_hB : B ≤ gb) (_hg : gb < W.heap.size) (_hb : RdScp W B s e r g l x o) (_hn : Short s.book) (_hm : s.ops.length ≤ 8192) (hF : ∀ w' e1 r1 g1 l1 x1 o1, Chg (fun k => k = gb) W w' → Blk w' gb 31 #[.int .i64 s.book.users, e1, r1, g1, l1, x1, .int .i64 s.book.step, o1] → SlsN cEnt W.heap.size w' e1 s.book.entries → SlsN cRul W.heap.size w' r1 s.book.rules → SlsN cGrt W.heap.size w' g1 s.book.grants → SlsN cEvt W.heap.size w' l1 s.book.log → SlsN cRls W.heap.size w' x1 s.book.releases → SlsN cOpr W.heap.size w' o1 s.ops → Q .normal ⟨#[t0, .pointer (some ⟨gb, 0, none⟩), t2, .pointer (some ⟨gb, 0, none⟩), vBok s.book e r g l x, vBok s.book e1 r1 g1 l1 x1, .pointer (some ⟨gb, 7, none⟩), o, o1, .pointer (some ⟨gb, 0, none⟩), .pointer (some ⟨gb, 7, none⟩), undef], []⟩ w')
    (w' : World) (e1 r1 g1 l1 x1 : Value) (o1 : Value) (hD : Chg (fun k => k = gb) W w') (hK : Blk w' gb 31 #[.int .i64 s.book.users, e1, r1, g1, l1, x1, .int .i64 s.book.step, o1]) (h1 : SlsN cEnt W.heap.size w' e1 s.book.entries) (h2 : SlsN cRul W.heap.size w' r1 s.book.rules) (h3 : SlsN cGrt W.heap.size w' g1 s.book.grants) (h4 : SlsN cEvt W.heap.size w' l1 s.book.log) (h5 : SlsN cRls W.heap.size w' x1 s.book.releases) (h6 : SlsN cOpr W.heap.size w' o1 s.ops) :
    wpAnyU Tryz.prog .any scriptOps Q (fun u => u.rangeAt gb 0 [.int .i64 s.book.users, e, r, g, l, x, .int .i64 s.book.step] ∧ u.cell? ⟨gb, 7, none⟩ = some o) 7 0 #[true, true, true, true, true, true, true, true, true, true] ⟨#[t0, .pointer (some ⟨gb, 0, none⟩), t2, .pointer (some ⟨gb, 0, none⟩), vBok s.book e r g l x, vBok s.book e1 r1 g1 l1 x1, .pointer (some ⟨gb, 7, none⟩), o, o1, .pointer (some ⟨gb, 0, none⟩), .pointer (some ⟨gb, 7, none⟩), undef], []⟩ w' := by
  exact wpAnyU_done (by kernel_rfl) (hF w' e1 r1 g1 l1 x1 o1 hD hK h1 h2 h3 h4 h5 h6)

set_option maxRecDepth 100000 in
set_option maxHeartbeats 4000000 in
theorem cs_2_1 (hQ : ∀ c a d v w, Q (.panic c) (Act.put a d v) w → Q (.panic c) a w) (hB : B ≤ gb) (hg : gb < W.heap.size) (hb : RdScp W B s e r g l x o) (hn : Short s.book) (hm : s.ops.length ≤ 8192) (hF : ∀ w' e1 r1 g1 l1 x1 o1, Chg (fun k => k = gb) W w' → Blk w' gb 31 #[.int .i64 s.book.users, e1, r1, g1, l1, x1, .int .i64 s.book.step, o1] → SlsN cEnt W.heap.size w' e1 s.book.entries → SlsN cRul W.heap.size w' r1 s.book.rules → SlsN cGrt W.heap.size w' g1 s.book.grants → SlsN cEvt W.heap.size w' l1 s.book.log → SlsN cRls W.heap.size w' x1 s.book.releases → SlsN cOpr W.heap.size w' o1 s.ops → Q .normal ⟨#[t0, .pointer (some ⟨gb, 0, none⟩), t2, .pointer (some ⟨gb, 0, none⟩), vBok s.book e r g l x, vBok s.book e1 r1 g1 l1 x1, .pointer (some ⟨gb, 7, none⟩), o, o1, .pointer (some ⟨gb, 0, none⟩), .pointer (some ⟨gb, 7, none⟩), undef], []⟩ w')
    (w' : World) (e1 r1 g1 l1 x1 : Value) (o1 : Value) (hD : Chg (fun k => k = gb) W w') (hK : Blk w' gb 31 #[.int .i64 s.book.users, e1, r1, g1, l1, x1, .int .i64 s.book.step, o]) (h1 : SlsN cEnt W.heap.size w' e1 s.book.entries) (h2 : SlsN cRul W.heap.size w' r1 s.book.rules) (h3 : SlsN cGrt W.heap.size w' g1 s.book.grants) (h4 : SlsN cEvt W.heap.size w' l1 s.book.log) (h5 : SlsN cRls W.heap.size w' x1 s.book.releases) (h6 : SlsN cOpr W.heap.size w' o1 s.ops) :
    wpAnyU Tryz.prog .any scriptOps Q (fun u => u.rangeAt gb 0 [.int .i64 s.book.users, e, r, g, l, x, .int .i64 s.book.step] ∧ u.cell? ⟨gb, 7, none⟩ = some o) 7 1 #[true, true, true, true, true, true, true, true, true, false] ⟨#[t0, .pointer (some ⟨gb, 0, none⟩), t2, .pointer (some ⟨gb, 0, none⟩), vBok s.book e r g l x, vBok s.book e1 r1 g1 l1 x1, .pointer (some ⟨gb, 7, none⟩), o, o1, .pointer (some ⟨gb, 0, none⟩), .pointer (some ⟨gb, 7, none⟩), undef], []⟩ w' := by
  refine wpAnyU_one 9 (o := ⟨none, .store 29 (.tmp 10) (.tmp 8), 0, _, _, none⟩) (by kernel_rfl) rfl rfl ?_
  have hc : w'.cell? ⟨gb, 7, none⟩ = some o := hK.cell 7
  have hf := hK.frozen 7
  have hK1 := hK.set_ 7 o1
  have hD1 := hD.setCell (p := ⟨gb, 7, none⟩) (.inl rfl) o1
  have f1 := h1.set (p := ⟨gb, 7, none⟩) hg o1
  have f2 := h2.set (p := ⟨gb, 7, none⟩) hg o1
  have f3 := h3.set (p := ⟨gb, 7, none⟩) hg o1
  have f4 := h4.set (p := ⟨gb, 7, none⟩) hg o1
  have f5 := h5.set (p := ⟨gb, 7, none⟩) hg o1
  have f6 := h6.set (p := ⟨gb, 7, none⟩) hg o1
  have H := cs_2_2 hQ hB hg hb hn hm hF _ e1 r1 g1 l1 x1 o1 hD1 hK1 f1 f2 f3 f4 f5 f6
  have H' := Lib.hid H
  clear H
  obtain ⟨A, cap, rfl, _⟩ := id h6.1
  go_simp
  first | exact H'.out | exact ⟨fun h => absurd h (by decide), H'.out⟩

set_option maxRecDepth 100000 in
set_option maxHeartbeats 4000000 in
theorem cs_2_0 (hQ : ∀ c a d v w, Q (.panic c) (Act.put a d v) w → Q (.panic c) a w) (hB : B ≤ gb) (hg : gb < W.heap.size) (hb : RdScp W B s e r g l x o) (hn : Short s.book) (hm : s.ops.length ≤ 8192) (hF : ∀ w' e1 r1 g1 l1 x1 o1, Chg (fun k => k = gb) W w' → Blk w' gb 31 #[.int .i64 s.book.users, e1, r1, g1, l1, x1, .int .i64 s.book.step, o1] → SlsN cEnt W.heap.size w' e1 s.book.entries → SlsN cRul W.heap.size w' r1 s.book.rules → SlsN cGrt W.heap.size w' g1 s.book.grants → SlsN cEvt W.heap.size w' l1 s.book.log → SlsN cRls W.heap.size w' x1 s.book.releases → SlsN cOpr W.heap.size w' o1 s.ops → Q .normal ⟨#[t0, .pointer (some ⟨gb, 0, none⟩), t2, .pointer (some ⟨gb, 0, none⟩), vBok s.book e r g l x, vBok s.book e1 r1 g1 l1 x1, .pointer (some ⟨gb, 7, none⟩), o, o1, .pointer (some ⟨gb, 0, none⟩), .pointer (some ⟨gb, 7, none⟩), undef], []⟩ w')
    (w' : World) (e1 r1 g1 l1 x1 : Value) (o1 : Value) (hD : Chg (fun k => k = gb) W w') (hK : Blk w' gb 31 #[.int .i64 s.book.users, e, r, g, l, x, .int .i64 s.book.step, o]) (h1 : SlsN cEnt W.heap.size w' e1 s.book.entries) (h2 : SlsN cRul W.heap.size w' r1 s.book.rules) (h3 : SlsN cGrt W.heap.size w' g1 s.book.grants) (h4 : SlsN cEvt W.heap.size w' l1 s.book.log) (h5 : SlsN cRls W.heap.size w' x1 s.book.releases) (h6 : SlsN cOpr W.heap.size w' o1 s.ops) :
    wpAnyU Tryz.prog .any scriptOps Q (fun u => u.rangeAt gb 0 [.int .i64 s.book.users, e, r, g, l, x, .int .i64 s.book.step] ∧ u.cell? ⟨gb, 7, none⟩ = some o) 7 3 #[true, true, true, true, true, true, true, false, false, false] ⟨#[t0, .pointer (some ⟨gb, 0, none⟩), t2, .pointer (some ⟨gb, 0, none⟩), vBok s.book e r g l x, vBok s.book e1 r1 g1 l1 x1, .pointer (some ⟨gb, 7, none⟩), o, o1, .pointer (some ⟨gb, 0, none⟩), undef, undef], []⟩ w' := by
  refine wpAnyU_one 7 (o := ⟨none, .store 28 (.tmp 9) (.tmp 5), 0, _, _, none⟩) (by kernel_rfl) rfl rfl ?_
  have kc : ∀ q, w'.cell? ⟨gb, q, none⟩ = _ := hK.cell
  have kf : ∀ q, w'.frozen? ⟨gb, q, none⟩ = _ := hK.frozen
  have hK1 := (Blk.set_ (Blk.set_ (Blk.set_ (Blk.set_ (Blk.set_ (Blk.set_ (Blk.set_ hK 0 (.int .i64 s.book.users)) 1 e1) 2 r1) 3 g1) 4 l1) 5 x1) 6 (.int .i64 s.book.step))
  have hD1 := (Chg.setCell (Chg.setCell (Chg.setCell (Chg.setCell (Chg.setCell (Chg.setCell (Chg.setCell hD (p := ⟨gb, 0, none⟩) (.inl rfl) (.int .i64 s.book.users)) (p := ⟨gb, 1, none⟩) (.inl rfl) e1) (p := ⟨gb, 2, none⟩) (.inl rfl) r1) (p := ⟨gb, 3, none⟩) (.inl rfl) g1) (p := ⟨gb, 4, none⟩) (.inl rfl) l1) (p := ⟨gb, 5, none⟩) (.inl rfl) x1) (p := ⟨gb, 6, none⟩) (.inl rfl) (.int .i64 s.book.step))
  have f1 := (SlsN.set (SlsN.set (SlsN.set (SlsN.set (SlsN.set (SlsN.set (SlsN.set h1 (p := ⟨gb, 0, none⟩) hg (.int .i64 s.book.users)) (p := ⟨gb, 1, none⟩) hg e1) (p := ⟨gb, 2, none⟩) hg r1) (p := ⟨gb, 3, none⟩) hg g1) (p := ⟨gb, 4, none⟩) hg l1) (p := ⟨gb, 5, none⟩) hg x1) (p := ⟨gb, 6, none⟩) hg (.int .i64 s.book.step))
  have f2 := (SlsN.set (SlsN.set (SlsN.set (SlsN.set (SlsN.set (SlsN.set (SlsN.set h2 (p := ⟨gb, 0, none⟩) hg (.int .i64 s.book.users)) (p := ⟨gb, 1, none⟩) hg e1) (p := ⟨gb, 2, none⟩) hg r1) (p := ⟨gb, 3, none⟩) hg g1) (p := ⟨gb, 4, none⟩) hg l1) (p := ⟨gb, 5, none⟩) hg x1) (p := ⟨gb, 6, none⟩) hg (.int .i64 s.book.step))
  have f3 := (SlsN.set (SlsN.set (SlsN.set (SlsN.set (SlsN.set (SlsN.set (SlsN.set h3 (p := ⟨gb, 0, none⟩) hg (.int .i64 s.book.users)) (p := ⟨gb, 1, none⟩) hg e1) (p := ⟨gb, 2, none⟩) hg r1) (p := ⟨gb, 3, none⟩) hg g1) (p := ⟨gb, 4, none⟩) hg l1) (p := ⟨gb, 5, none⟩) hg x1) (p := ⟨gb, 6, none⟩) hg (.int .i64 s.book.step))
  have f4 := (SlsN.set (SlsN.set (SlsN.set (SlsN.set (SlsN.set (SlsN.set (SlsN.set h4 (p := ⟨gb, 0, none⟩) hg (.int .i64 s.book.users)) (p := ⟨gb, 1, none⟩) hg e1) (p := ⟨gb, 2, none⟩) hg r1) (p := ⟨gb, 3, none⟩) hg g1) (p := ⟨gb, 4, none⟩) hg l1) (p := ⟨gb, 5, none⟩) hg x1) (p := ⟨gb, 6, none⟩) hg (.int .i64 s.book.step))
  have f5 := (SlsN.set (SlsN.set (SlsN.set (SlsN.set (SlsN.set (SlsN.set (SlsN.set h5 (p := ⟨gb, 0, none⟩) hg (.int .i64 s.book.users)) (p := ⟨gb, 1, none⟩) hg e1) (p := ⟨gb, 2, none⟩) hg r1) (p := ⟨gb, 3, none⟩) hg g1) (p := ⟨gb, 4, none⟩) hg l1) (p := ⟨gb, 5, none⟩) hg x1) (p := ⟨gb, 6, none⟩) hg (.int .i64 s.book.step))
  have f6 := (SlsN.set (SlsN.set (SlsN.set (SlsN.set (SlsN.set (SlsN.set (SlsN.set h6 (p := ⟨gb, 0, none⟩) hg (.int .i64 s.book.users)) (p := ⟨gb, 1, none⟩) hg e1) (p := ⟨gb, 2, none⟩) hg r1) (p := ⟨gb, 3, none⟩) hg g1) (p := ⟨gb, 4, none⟩) hg l1) (p := ⟨gb, 5, none⟩) hg x1) (p := ⟨gb, 6, none⟩) hg (.int .i64 s.book.step))
  have H := cs_2_1 hQ hB hg hb hn hm hF _ e1 r1 g1 l1 x1 o1 hD1 hK1 f1 f2 f3 f4 f5 f6
  have H' := Lib.hid H
  clear H hD1 hK1 f1 f2 f3 f4 f5 f6
  obtain ⟨A0, cap0, rfl, _⟩ := id h1.1
  obtain ⟨A1, cap1, rfl, _⟩ := id h2.1
  obtain ⟨A2, cap2, rfl, _⟩ := id h3.1
  obtain ⟨A3, cap3, rfl, _⟩ := id h4.1
  obtain ⟨A4, cap4, rfl, _⟩ := id h5.1
  go_simp
  refine wpAnyU_take0 8 (oi := ⟨some 10, .fieldAddr 31 (.tmp 1) 1, 0, _, _, none⟩) rfl (by kernel_rfl) (by kernel_rfl) (by kernel_rfl) (by decide) (fun _ _ _ h => hQ _ _ _ _ _ h) (Or.inl ⟨rfl, fun _ _ => rfl⟩) (fun h => absurd h (by decide)) ?_
  exact H'.out

set_option maxRecDepth 100000 in
set_option maxHeartbeats 4000000 in
theorem cs_1_0 (hQ : ∀ c a d v w, Q (.panic c) (Act.put a d v) w → Q (.panic c) a w) (hB : B ≤ gb) (hg : gb < W.heap.size) (hb : RdScp W B s e r g l x o) (hn : Short s.book) (hm : s.ops.length ≤ 8192) (hF : ∀ w' e1 r1 g1 l1 x1 o1, Chg (fun k => k = gb) W w' → Blk w' gb 31 #[.int .i64 s.book.users, e1, r1, g1, l1, x1, .int .i64 s.book.step, o1] → SlsN cEnt W.heap.size w' e1 s.book.entries → SlsN cRul W.heap.size w' r1 s.book.rules → SlsN cGrt W.heap.size w' g1 s.book.grants → SlsN cEvt W.heap.size w' l1 s.book.log → SlsN cRls W.heap.size w' x1 s.book.releases → SlsN cOpr W.heap.size w' o1 s.ops → Q .normal ⟨#[t0, .pointer (some ⟨gb, 0, none⟩), t2, .pointer (some ⟨gb, 0, none⟩), vBok s.book e r g l x, vBok s.book e1 r1 g1 l1 x1, .pointer (some ⟨gb, 7, none⟩), o, o1, .pointer (some ⟨gb, 0, none⟩), .pointer (some ⟨gb, 7, none⟩), undef], []⟩ w')
    (w' : World) (e1 r1 g1 l1 x1 : Value) (hD : Chg (fun k => k = gb) W w') (hK : Blk w' gb 31 #[.int .i64 s.book.users, e, r, g, l, x, .int .i64 s.book.step, o]) (h1 : SlsN cEnt W.heap.size w' e1 s.book.entries) (h2 : SlsN cRul W.heap.size w' r1 s.book.rules) (h3 : SlsN cGrt W.heap.size w' g1 s.book.grants) (h4 : SlsN cEvt W.heap.size w' l1 s.book.log) (h5 : SlsN cRls W.heap.size w' x1 s.book.releases) :
    wpAnyU Tryz.prog .any scriptOps Q (fun u => u.rangeAt gb 0 [.int .i64 s.book.users, e, r, g, l, x, .int .i64 s.book.step] ∧ u.cell? ⟨gb, 7, none⟩ = some o) 7 4 #[true, true, true, true, true, false, true, false, false, false] ⟨#[t0, .pointer (some ⟨gb, 0, none⟩), t2, .pointer (some ⟨gb, 0, none⟩), vBok s.book e r g l x, vBok s.book e1 r1 g1 l1 x1, .pointer (some ⟨gb, 7, none⟩), o, undef, .pointer (some ⟨gb, 0, none⟩), undef, undef], []⟩ w' := by
  refine wpAnyU_one 5 (o := ⟨some 8, .call { callee := .value (.func 26), args := #[.tmp 7], argTypes := #[29] }, 29, _, _, none⟩) (by kernel_rfl) rfl rfl ?_
  go_simp
  go_at_call 26
  refine (copy_opr _ _ B _ (hb.ops.chg hD (by omega) (by intro k hk; omega)) hm).mono ?_
  rintro u w1 ⟨o1, rfl, h6, hb1⟩
  have hD1 : Chg (fun k => k = gb) W w1 := hD.below hb1
  have hKX := hK.below_ hb1
  have hS : (fun u => u.rangeAt gb 0 [.int .i64 s.book.users, e, r, g, l, x, .int .i64 s.book.step] ∧ u.cell? ⟨gb, 7, none⟩ = some o) w1 := ⟨hKX.range (l := [.int .i64 s.book.users, e, r, g, l, x, .int .i64 s.book.step]) (o := 0) (by intro j v hj; rw [List.getElem?_eq_some_iff] at hj; obtain ⟨hj, rfl⟩ := hj; have : j < 7 := hj; rcases j with _|_|_|_|_|_|_|_ <;> first | rfl | omega), hKX.cell 7⟩
  refine ⟨hS, ?_⟩
  exact cs_2_0 hQ hB hg hb hn hm hF w1 e1 r1 g1 l1 x1 o1 hD1 hKX (h1.below hb1) (h2.below hb1) (h3.below hb1) (h4.below hb1) (h5.below hb1) (h6.older hD.size)

set_option maxRecDepth 100000 in
set_option maxHeartbeats 4000000 in
theorem cs_0_0 (hQ : ∀ c a d v w, Q (.panic c) (Act.put a d v) w → Q (.panic c) a w) (hB : B ≤ gb) (hg : gb < W.heap.size) (hb : RdScp W B s e r g l x o) (hn : Short s.book) (hm : s.ops.length ≤ 8192) (hF : ∀ w' e1 r1 g1 l1 x1 o1, Chg (fun k => k = gb) W w' → Blk w' gb 31 #[.int .i64 s.book.users, e1, r1, g1, l1, x1, .int .i64 s.book.step, o1] → SlsN cEnt W.heap.size w' e1 s.book.entries → SlsN cRul W.heap.size w' r1 s.book.rules → SlsN cGrt W.heap.size w' g1 s.book.grants → SlsN cEvt W.heap.size w' l1 s.book.log → SlsN cRls W.heap.size w' x1 s.book.releases → SlsN cOpr W.heap.size w' o1 s.ops → Q .normal ⟨#[t0, .pointer (some ⟨gb, 0, none⟩), t2, .pointer (some ⟨gb, 0, none⟩), vBok s.book e r g l x, vBok s.book e1 r1 g1 l1 x1, .pointer (some ⟨gb, 7, none⟩), o, o1, .pointer (some ⟨gb, 0, none⟩), .pointer (some ⟨gb, 7, none⟩), undef], []⟩ w')
    (w' : World) (hD : Chg (fun k => k = gb) W w') (hK : Blk w' gb 31 #[.int .i64 s.book.users, e, r, g, l, x, .int .i64 s.book.step, o]) :
    wpAnyU Tryz.prog .any scriptOps Q (fun u => u.rangeAt gb 0 [.int .i64 s.book.users, e, r, g, l, x, .int .i64 s.book.step] ∧ u.cell? ⟨gb, 7, none⟩ = some o) 7 6 #[true, true, false, true, true, false, false, false, false, false] ⟨#[t0, .pointer (some ⟨gb, 0, none⟩), t2, .pointer (some ⟨gb, 0, none⟩), vBok s.book e r g l x, undef, .pointer (some ⟨gb, 7, none⟩), o, undef, undef, undef, undef], []⟩ w' := by
  refine wpAnyU_one 2 (o := ⟨some 5, .call { callee := .value (.func 25), args := #[.tmp 4], argTypes := #[28] }, 28, _, _, none⟩) (by kernel_rfl) rfl rfl ?_
  go_simp
  go_at_call 25
  refine (copy_book s.book e r g l x B w' (by have := hD.size; omega) (hb.book.below (hD.to_below (by omega) (by intro k hk; omega))) hn).mono ?_
  rintro u w1 ⟨e1, r1, g1, l1, x1, rfl, ⟨h1, h2, h3, h4, h5⟩, hb1⟩
  have hD1 : Chg (fun k => k = gb) W w1 := hD.below hb1
  have hKX := hK.below_ hb1
  have hS : (fun u => u.rangeAt gb 0 [.int .i64 s.book.users, e, r, g, l, x, .int .i64 s.book.step] ∧ u.cell? ⟨gb, 7, none⟩ = some o) w1 := ⟨hKX.range (l := [.int .i64 s.book.users, e, r, g, l, x, .int .i64 s.book.step]) (o := 0) (by intro j v hj; rw [List.getElem?_eq_some_iff] at hj; obtain ⟨hj, rfl⟩ := hj; have : j < 7 := hj; rcases j with _|_|_|_|_|_|_|_ <;> first | rfl | omega), hKX.cell 7⟩
  refine ⟨hS, wpAnyU_take0 6 (oi := ⟨some 9, .fieldAddr 31 (.tmp 1) 0, 0, _, _, none⟩) rfl (by kernel_rfl) (by kernel_rfl) (by kernel_rfl) (by decide) (fun _ _ _ h => hQ _ _ _ _ _ h) (Or.inl ⟨rfl, fun _ _ => rfl⟩) (fun _ => hS) ?_⟩
  exact cs_1_0 hQ hB hg hb hn hm hF w1 e1 r1 g1 l1 x1 hD1 hKX (h1.older hD.size) (h2.older hD.size) (h3.older hD.size) (h4.older hD.size) (h5.older hD.size)

set_option maxRecDepth 100000 in
set_option maxHeartbeats 4000000 in
theorem cs_load_1 (hQ : ∀ c a d v w, Q (.panic c) (Act.put a d v) w → Q (.panic c) a w) (hB : B ≤ gb) (hg : gb < W.heap.size) (hb : RdScp W B s e r g l x o) (hn : Short s.book) (hm : s.ops.length ≤ 8192) (hF : ∀ w' e1 r1 g1 l1 x1 o1, Chg (fun k => k = gb) W w' → Blk w' gb 31 #[.int .i64 s.book.users, e1, r1, g1, l1, x1, .int .i64 s.book.step, o1] → SlsN cEnt W.heap.size w' e1 s.book.entries → SlsN cRul W.heap.size w' r1 s.book.rules → SlsN cGrt W.heap.size w' g1 s.book.grants → SlsN cEvt W.heap.size w' l1 s.book.log → SlsN cRls W.heap.size w' x1 s.book.releases → SlsN cOpr W.heap.size w' o1 s.ops → Q .normal ⟨#[t0, .pointer (some ⟨gb, 0, none⟩), t2, .pointer (some ⟨gb, 0, none⟩), vBok s.book e r g l x, vBok s.book e1 r1 g1 l1 x1, .pointer (some ⟨gb, 7, none⟩), o, o1, .pointer (some ⟨gb, 0, none⟩), .pointer (some ⟨gb, 7, none⟩), undef], []⟩ w')
    (hK : Blk W gb 31 #[.int .i64 s.book.users, e, r, g, l, x, .int .i64 s.book.step, o]) (hS : (fun u => u.rangeAt gb 0 [.int .i64 s.book.users, e, r, g, l, x, .int .i64 s.book.step] ∧ u.cell? ⟨gb, 7, none⟩ = some o) W) :
    wpAnyU Tryz.prog .any scriptOps Q (fun u => u.rangeAt gb 0 [.int .i64 s.book.users, e, r, g, l, x, .int .i64 s.book.step] ∧ u.cell? ⟨gb, 7, none⟩ = some o) 7 8 #[true, true, false, false, false, false, false, false, false, false] ⟨#[t0, .pointer (some ⟨gb, 0, none⟩), t2, .pointer (some ⟨gb, 0, none⟩), vBok s.book e r g l x, undef, undef, undef, undef, undef, undef, undef], []⟩ W := by
  refine wpAnyU_take0 3 (oi := ⟨some 6, .fieldAddr 31 (.tmp 1) 1, 0, _, _, none⟩) (v := .pointer (some ⟨gb, 7, none⟩)) rfl (by kernel_rfl) (by kernel_rfl) (by kernel_rfl) (by decide) (fun _ _ _ h => hQ _ _ _ _ _ h) (Or.inl ⟨rfl, fun _ _ => rfl⟩) (fun _ => hS) ?_
  refine wpAnyU_take 4 (oi := ⟨some 7, .load 29 (.tmp 6), 29, _, _, none⟩) (v := o) rfl (by kernel_rfl) (by kernel_rfl) (by kernel_rfl) (by kernel_rfl) (by decide) (by decide) (fun _ _ _ h => hQ _ _ _ _ _ h) (Or.inl ⟨rfl, fun u hu => ?_⟩) hS ?_
  · have hu := hu.2
    obtain ⟨A, c, rfl, _⟩ := hb.ops
    go_simp
  · exact cs_0_0 hQ hB hg hb hn hm hF W (Chg.refl _ _) hK

set_option maxRecDepth 100000 in
set_option maxHeartbeats 4000000 in
theorem cs_load_0 (hQ : ∀ c a d v w, Q (.panic c) (Act.put a d v) w → Q (.panic c) a w) (hB : B ≤ gb) (hg : gb < W.heap.size) (hb : RdScp W B s e r g l x o) (hn : Short s.book) (hm : s.ops.length ≤ 8192) (hF : ∀ w' e1 r1 g1 l1 x1 o1, Chg (fun k => k = gb) W w' → Blk w' gb 31 #[.int .i64 s.book.users, e1, r1, g1, l1, x1, .int .i64 s.book.step, o1] → SlsN cEnt W.heap.size w' e1 s.book.entries → SlsN cRul W.heap.size w' r1 s.book.rules → SlsN cGrt W.heap.size w' g1 s.book.grants → SlsN cEvt W.heap.size w' l1 s.book.log → SlsN cRls W.heap.size w' x1 s.book.releases → SlsN cOpr W.heap.size w' o1 s.ops → Q .normal ⟨#[t0, .pointer (some ⟨gb, 0, none⟩), t2, .pointer (some ⟨gb, 0, none⟩), vBok s.book e r g l x, vBok s.book e1 r1 g1 l1 x1, .pointer (some ⟨gb, 7, none⟩), o, o1, .pointer (some ⟨gb, 0, none⟩), .pointer (some ⟨gb, 7, none⟩), undef], []⟩ w')
    (hK : Blk W gb 31 #[.int .i64 s.book.users, e, r, g, l, x, .int .i64 s.book.step, o]) (hS : (fun u => u.rangeAt gb 0 [.int .i64 s.book.users, e, r, g, l, x, .int .i64 s.book.step] ∧ u.cell? ⟨gb, 7, none⟩ = some o) W) :
    wpAnyU Tryz.prog .any scriptOps Q (fun u => u.rangeAt gb 0 [.int .i64 s.book.users, e, r, g, l, x, .int .i64 s.book.step] ∧ u.cell? ⟨gb, 7, none⟩ = some o) 7 10 #[false, false, false, false, false, false, false, false, false, false] ⟨#[t0, .pointer (some ⟨gb, 0, none⟩), t2, undef, undef, undef, undef, undef, undef, undef, undef, undef], []⟩ W := by
  refine wpAnyU_take0 0 (oi := ⟨some 3, .fieldAddr 31 (.tmp 1) 0, 0, _, _, none⟩) (v := .pointer (some ⟨gb, 0, none⟩)) rfl (by kernel_rfl) (by kernel_rfl) (by kernel_rfl) (by decide) (fun _ _ _ h => hQ _ _ _ _ _ h) (Or.inl ⟨rfl, fun _ _ => rfl⟩) (fun _ => hS) ?_
  refine wpAnyU_take 1 (oi := ⟨some 4, .load 28 (.tmp 3), 28, _, _, none⟩) (v := vBok s.book e r g l x) rfl (by kernel_rfl) (by kernel_rfl) (by kernel_rfl) (by kernel_rfl) (by decide) (by decide) (fun _ _ _ h => hQ _ _ _ _ _ h) (yieldsIf_load_mid rfl _ _ rfl gb 0 rfl [.int .i64 s.book.users, e, r, g, l, x, .int .i64 s.book.step] _ (fun _ h => h.1) rfl rfl (by kernel_rfl)) hS ?_
  exact cs_load_1 hQ hB hg hb hn hm hF hK hS
end

set_option maxRecDepth 100000 in
set_option maxHeartbeats 4000000 in
theorem copy_script (s : Scp) (e r g l x o : Value) (B : Nat) (w : World) (hB : B ≤ w.heap.size) (hb : RdScp w B s e r g l x o) (hn : Short s.book) (hm : s.ops.length ≤ 8192) :
    Calls Tryz.prog 11 #[vScp s e r g l x o] w fun u w' => ∃ e' r' g' l' x' o', u = .returned (vScp s e' r' g' l' x' o') ∧
      (SlsN cEnt w.heap.size w' e' s.book.entries ∧ SlsN cRul w.heap.size w' r' s.book.rules ∧ SlsN cGrt w.heap.size w' g' s.book.grants ∧ SlsN cEvt w.heap.size w' l' s.book.log ∧ SlsN cRls w.heap.size w' x' s.book.releases ∧ SlsN cOpr w.heap.size w' o' s.ops) ∧ Below w.heap.size w w' := by
  obtain ⟨Ae, ne, ce, rfl⟩ : ∃ A n c, e = .slice A n c := by obtain ⟨A, c, h, _⟩ := hb.book.ents; exact ⟨_, _, _, h⟩
  obtain ⟨Ar, nr, cr, rfl⟩ : ∃ A n c, r = .slice A n c := by obtain ⟨A, c, h, _⟩ := hb.book.ruls; exact ⟨_, _, _, h⟩
  obtain ⟨Ag, ng, cg, rfl⟩ : ∃ A n c, g = .slice A n c := by obtain ⟨A, c, h, _⟩ := hb.book.grts; exact ⟨_, _, _, h⟩
  obtain ⟨Al, nl, cl, rfl⟩ : ∃ A n c, l = .slice A n c := by obtain ⟨A, c, h, _⟩ := hb.book.evts; exact ⟨_, _, _, h⟩
  obtain ⟨Ax, nx, cx, rfl⟩ : ∃ A n c, x = .slice A n c := by obtain ⟨A, c, h, _⟩ := hb.book.rlss; exact ⟨_, _, _, h⟩
  obtain ⟨Ao, no, co, rfl⟩ : ∃ A n c, o = .slice A n c := by obtain ⟨A, c, h, _⟩ := hb.ops; exact ⟨_, _, _, h⟩
  have HB := Lib.hid hb
  have HN := Lib.hid hn
  have HM := Lib.hid hm
  clear hb hn hm
  go_enter Tryz.func11, Tryz.ntmps11
  go_wp2_with fail
  refine wp_region_U (fun u => u.rangeAt w.heap.size 0 [.int .i64 s.book.users, .slice Ae ne ce, .slice Ar nr cr, .slice Ag ng cg, .slice Al nl cl, .slice Ax nx cx, .int .i64 s.book.step] ∧ u.cell? ⟨w.heap.size, 7, none⟩ = some (.slice Ao no co)) 7 (by kernel_rfl) ?_
  change wpAnyU _ _ scriptOps _ _ _ 10 (Array.replicate 10 false) _ _
  generalize hW : World.drew _ = W
  have hs : W.heap.size = w.heap.size + 2 := by rw [← hW]; simp
  have hKX : Blk W w.heap.size 31 #[.int .i64 s.book.users, .slice Ae ne ce, .slice Ar nr cr, .slice Ag ng cg, .slice Al nl cl, .slice Ax nx cx, .int .i64 s.book.step, .slice Ao no co] := by rw [← hW]; exact ((Blk.new _ _ _).alloc _).drew
  have hR : Blk W (w.heap.size + 1) 31 #[.int .i64 0, .slice none 0 0, .slice none 0 0, .slice none 0 0, .slice none 0 0, .slice none 0 0, .int .i64 0, .slice none 0 0] := by rw [← hW]; have := Blk.new (w.alloc (.cells #[.int .i64 s.book.users, .slice Ae ne ce, .slice Ar nr cr, .slice Ag ng cg, .slice Al nl cl, .slice Ax nx cx, .int .i64 s.book.step, .slice Ao no co] 31)) 31 #[.int .i64 0, .slice none 0 0, .slice none 0 0, .slice none 0 0, .slice none 0 0, .slice none 0 0, .int .i64 0, .slice none 0 0]; simpa using this.drew
  have hBW : Below w.heap.size w W := by rw [← hW]; go_grown
  clear hW
  have hS : (fun u => u.rangeAt w.heap.size 0 [.int .i64 s.book.users, .slice Ae ne ce, .slice Ar nr cr, .slice Ag ng cg, .slice Al nl cl, .slice Ax nx cx, .int .i64 s.book.step] ∧ u.cell? ⟨w.heap.size, 7, none⟩ = some (.slice Ao no co)) W := ⟨hKX.range (l := [.int .i64 s.book.users, _, _, _, _, _, .int .i64 s.book.step]) (o := 0) (by intro j v hj; rw [List.getElem?_eq_some_iff] at hj; obtain ⟨hj, rfl⟩ := hj; have : j < 7 := hj; rcases j with _|_|_|_|_|_|_|_ <;> first | rfl | omega), hKX.cell 7⟩
  refine cs_load_0 (fun _ _ d _ _ h => by cases d <;> exact h) hB (by omega) (RdScp.below HB.out (hBW.mono hB)) HN.out HM.out ?_ hKX hS
  intro w' e1 r1 g1 l1 x1 o1 hD hK' h1 h2 h3 h4 h5 h6
  have hR' := hR.chg hD (by simp)
  have kc : ∀ q, w'.cell? ⟨w.heap.size, q, none⟩ = _ := hK'.cell
  have rc : ∀ q, w'.cell? ⟨w.heap.size + 1, q, none⟩ = _ := hR'.cell
  have rf : ∀ q, w'.frozen? ⟨w.heap.size + 1, q, none⟩ = _ := hR'.frozen
  obtain ⟨Ae', ce', rfl, _⟩ := id h1.1
  obtain ⟨Ar', cr', rfl, _⟩ := id h2.1
  obtain ⟨Ag', cg', rfl, _⟩ := id h3.1
  obtain ⟨Al', cl', rfl, _⟩ := id h4.1
  obtain ⟨Ax', cx', rfl, _⟩ := id h5.1
  obtain ⟨Ao', co', rfl, _⟩ := id h6.1
  have H1 := Lib.hid h1
  have H2 := Lib.hid h2
  have H3 := Lib.hid h3
  have H4 := Lib.hid h4
  have H5 := Lib.hid h5
  have H6 := Lib.hid h6
  clear h1 h2 h3 h4 h5 h6 hS hR hKX
  have hBw : Below w.heap.size w w' := hBW.trans (hD.to_below (by omega) (fun k hk e => by omega))
  clear hD hBW
  go_wp2
  refine bodyPost_ret (v := vScp s (.slice Ae' s.book.entries.length ce') (.slice Ar' s.book.rules.length cr') (.slice Ag' s.book.grants.length cg') (.slice Al' s.book.log.length cl') (.slice Ax' s.book.releases.length cx') (.slice Ao' s.ops.length co')) (by simp (maxDischargeDepth := 9) [results, Tryz.results11, go_sem, rc]) rfl ?_
  have hp : w.heap.size + 1 < W.heap.size := by omega
  have hp' : w.heap.size ≤ w.heap.size + 1 := by omega
  have ho : w.heap.size ≤ W.heap.size := by omega
  exact ⟨_, _, _, _, _, _, rfl, ⟨SlsN.older ((((((((H1.out.set hp _).set hp _).set hp _).set hp _).set hp _).set hp _).set hp _).set hp _) ho, SlsN.older ((((((((H2.out.set hp _).set hp _).set hp _).set hp _).set hp _).set hp _).set hp _).set hp _) ho, SlsN.older ((((((((H3.out.set hp _).set hp _).set hp _).set hp _).set hp _).set hp _).set hp _).set hp _) ho, SlsN.older ((((((((H4.out.set hp _).set hp _).set hp _).set hp _).set hp _).set hp _).set hp _).set hp _) ho, SlsN.older ((((((((H5.out.set hp _).set hp _).set hp _).set hp _).set hp _).set hp _).set hp _).set hp _) ho, SlsN.older ((((((((H6.out.set hp _).set hp _).set hp _).set hp _).set hp _).set hp _).set hp _).set hp _) ho⟩, (((((((hBw.setCell hp' _).setCell hp' _).setCell hp' _).setCell hp' _).setCell hp' _).setCell hp' _).setCell hp' _).setCell hp' _⟩

end Go.Proofs.YtamcgggmfghljaaGreatDoor
