/- Layer 41 (reference): what Read has made so far. -/
import Derived.Test.YtamcgggmfghljaaGreatDoorR18
import Derived.Test.YtamcgggmfghljaaGreatDoorR23
import Derived.Test.YtamcgggmfghljaaGreatDoorR24
namespace Go.Proofs.YtamcgggmfghljaaGreatDoor
open Go.RowKit

/-- The result's block (w0's end), the taker's, the book's (gb); the lists. -/
structure QS (w0 : World) (gb : Nat) (W : World) (s : Bytes) (u : Int) (e r g : Value) (le : List Ent) (lr : List Rul) (lg : List Grt) : Prop where
  rs : Blk W w0.heap.size 31 #[.int .i64 0, .slice none 0 0, .slice none 0 0, .slice none 0 0, .slice none 0 0, .slice none 0 0, .int .i64 0, .slice none 0 0]
  tk : Blk W (w0.heap.size + 1) 90 #[str s]
  bx : Blk W gb 28 #[.int .i64 u, e, r, g, .slice none 0 0, .slice none 0 0, .int .i64 0]
  ls : L4 (gb + 1) W e r g (.slice none 0 0) le lr lg []
  bw : Below w0.heap.size w0 W
  hg : w0.heap.size + 1 < gb

section
variable {w0 W W' : World} {gb : Nat} {s : Bytes} {u : Int} {e r g : Value} {le : List Ent} {lr : List Rul} {lg : List Grt}
theorem QS.size (h : QS w0 gb W s u e r g le lr lg) : gb + 1 ≤ W.heap.size := h.bx.lt
theorem QS.below (h : QS w0 gb W s u e r g le lr lg) (hb : Below W.heap.size W W') : QS w0 gb W' s u e r g le lr lg :=
  ⟨h.rs.below_ hb, h.tk.below_ hb, h.bx.below_ hb, h.ls.below hb, Below.next h.bw hb h.bw.size, h.hg⟩
theorem QS.alloc (h : QS w0 gb W s u e r g le lr lg) (ob : Obj) : QS w0 gb (W.alloc ob) s u e r g le lr lg := h.below ((Below.refl _ _).alloc (Nat.le_refl _) ob)
theorem QS.drewN (h : QS w0 gb W s u e r g le lr lg) (n : Nat) : QS w0 gb (W.drewN n) s u e r g le lr lg := h.below (Below.drewN_ (Below.refl _ _) n)
theorem QS.take {s' : Bytes} (h : QS w0 gb W s u e r g le lr lg) (hk : Blk W' (w0.heap.size + 1) 90 #[str s']) (hd : Chg (fun k => k = w0.heap.size + 1) W W') : QS w0 gb W' s' u e r g le lr lg :=
  ⟨h.rs.chg hd (by simp), hk, h.bx.chg hd (by have := h.hg; omega), h.ls.chg hd (fun k hk => by subst hk; exact h.ls.away (by have := h.hg; omega)), h.bw.trans (hd.to_below h.bw.size (by omega)), h.hg⟩
theorem QS.far (h : QS w0 gb W s u e r g le lr lg) {p : Addr} (hp : gb + 1 ≤ p.block) (hl : e.ownBlock ≠ some p.block ∧ r.ownBlock ≠ some p.block ∧ g.ownBlock ≠ some p.block ∧ (Value.slice none 0 0).ownBlock ≠ some p.block) (v : Value) : QS w0 gb (W.setCell p v) s u e r g le lr lg :=
  ⟨h.rs.far (by have := h.hg; omega) v, h.tk.far (by have := h.hg; omega) v, h.bx.far (by omega) v, h.ls.set hl v, h.bw.setCell (by have := h.hg; omega) v, h.hg⟩
theorem QS.putE {e' : Value} {le' : List Ent} (h : QS w0 gb W s u e r g le lr lg) (ho : Own cEnt 58 3 W' e' le') (ht : OutTo W e W' e') : QS w0 gb (W'.setCell ⟨gb, 1, none⟩ e') s u e' r g le' lr lg := by
  have hz := h.size
  have hg := h.hg
  have hn : ∀ k, k < gb + 1 → e.ownBlock ≠ some k := fun k hk e => by have := h.ls.be k e; omega
  have hl := h.ls.setE (by omega) ho ht
  exact ⟨(h.rs.outTo ht (hn _ (by omega))).far (by simp; omega) e', (h.tk.outTo ht (hn _ (by omega))).far (by simp; omega) e', (h.bx.outTo ht (hn _ (by omega))).set_ 1 e', hl.set (hl.away (by show gb < _; omega)) e', (h.bw.trans (ht.old h.bw.size (fun k hk => by have := h.ls.be k hk; omega))).setCell (by show _ ≤ gb; omega) e', hg⟩
theorem QS.putR {r' : Value} {lr' : List Rul} (h : QS w0 gb W s u e r g le lr lg) (ho : Own cRul 79 7 W' r' lr') (ht : OutTo W r W' r') : QS w0 gb (W'.setCell ⟨gb, 2, none⟩ r') s u e r' g le lr' lg := by
  have hz := h.size
  have hg := h.hg
  have hn : ∀ k, k < gb + 1 → r.ownBlock ≠ some k := fun k hk e => by have := h.ls.br k e; omega
  have hl := h.ls.setR (by omega) ho ht
  exact ⟨(h.rs.outTo ht (hn _ (by omega))).far (by simp; omega) r', (h.tk.outTo ht (hn _ (by omega))).far (by simp; omega) r', (h.bx.outTo ht (hn _ (by omega))).set_ 2 r', hl.set (hl.away (by show gb < _; omega)) r', (h.bw.trans (ht.old h.bw.size (fun k hk => by have := h.ls.br k hk; omega))).setCell (by show _ ≤ gb; omega) r', hg⟩
theorem QS.putG {g' : Value} {lg' : List Grt} (h : QS w0 gb W s u e r g le lr lg) (ho : Own cGrt 85 8 W' g' lg') (ht : OutTo W g W' g') : QS w0 gb (W'.setCell ⟨gb, 3, none⟩ g') s u e r g' le lr lg' := by
  have hz := h.size
  have hg := h.hg
  have hn : ∀ k, k < gb + 1 → g.ownBlock ≠ some k := fun k hk e => by have := h.ls.bg k e; omega
  have hl := h.ls.setG (by omega) ho ht
  exact ⟨(h.rs.outTo ht (hn _ (by omega))).far (by simp; omega) g', (h.tk.outTo ht (hn _ (by omega))).far (by simp; omega) g', (h.bx.outTo ht (hn _ (by omega))).set_ 3 g', hl.set (hl.away (by show gb < _; omega)) g', (h.bw.trans (ht.old h.bw.size (fun k hk => by have := h.ls.bg k hk; omega))).setCell (by show _ ≤ gb; omega) g', hg⟩
/-- A new list in the place of an old one. -/
theorem OutTo.anew {v v' : Value} (hb : Below W.heap.size W W') (hn : ∀ q, v'.ownBlock = some q → W.heap.size ≤ q) : OutTo W v W' v' :=
  ⟨⟨hb.os, hb.tape, hb.output, hb.size, fun k hk _ => hb.block k hk⟩, fun q hq => .inr (hn q hq)⟩
end

/-- .. and behind the third loop: the script's block (gs) beside it, the operations. -/
structure QO (w0 : World) (gb gs : Nat) (W : World) (s : Bytes) (u : Int) (e r g o : Value) (le : List Ent) (lr : List Rul) (lg : List Grt) (lo : List Opr) : Prop where
  rs : Blk W w0.heap.size 31 #[.int .i64 0, .slice none 0 0, .slice none 0 0, .slice none 0 0, .slice none 0 0, .slice none 0 0, .int .i64 0, .slice none 0 0]
  tk : Blk W (w0.heap.size + 1) 90 #[str s]
  bx : Blk W gb 28 #[.int .i64 u, e, r, g, .slice none 0 0, .slice none 0 0, .int .i64 0]
  sx : Blk W gs 31 #[.int .i64 u, e, r, g, .slice none 0 0, .slice none 0 0, .int .i64 0, o]
  ls : L4 (gb + 1) W e r g o le lr lg lo
  ng : e.ownBlock ≠ some gs ∧ r.ownBlock ≠ some gs ∧ g.ownBlock ≠ some gs ∧ o.ownBlock ≠ some gs
  bw : Below w0.heap.size w0 W
  hg : w0.heap.size + 1 < gb
  hs : gb < gs

section
variable {w0 W W' : World} {gb gs : Nat} {s : Bytes} {u : Int} {e r g o : Value} {le : List Ent} {lr : List Rul} {lg : List Grt} {lo : List Opr}
theorem QO.start (h : QS w0 gb W s u e r g le lr lg) : QO w0 gb W.heap.size (W.alloc (.cells #[.int .i64 u, e, r, g, .slice none 0 0, .slice none 0 0, .int .i64 0, .slice none 0 0] 31)) s u e r g (.slice none 0 0) le lr lg [] where
  rs := (h.alloc _).rs
  tk := (h.alloc _).tk
  bx := (h.alloc _).bx
  sx := Blk.new _ _ _
  ls := (h.alloc _).ls
  ng := h.ls.fresh (Nat.le_refl _)
  bw := (h.alloc _).bw
  hg := h.hg
  hs := h.bx.lt
theorem QO.below (h : QO w0 gb gs W s u e r g o le lr lg lo) (hb : Below W.heap.size W W') : QO w0 gb gs W' s u e r g o le lr lg lo :=
  ⟨h.rs.below_ hb, h.tk.below_ hb, h.bx.below_ hb, h.sx.below_ hb, h.ls.below hb, h.ng, Below.next h.bw hb h.bw.size, h.hg, h.hs⟩
theorem QO.alloc (h : QO w0 gb gs W s u e r g o le lr lg lo) (ob : Obj) : QO w0 gb gs (W.alloc ob) s u e r g o le lr lg lo := h.below ((Below.refl _ _).alloc (Nat.le_refl _) ob)
theorem QO.drewN (h : QO w0 gb gs W s u e r g o le lr lg lo) (n : Nat) : QO w0 gb gs (W.drewN n) s u e r g o le lr lg lo := h.below (Below.drewN_ (Below.refl _ _) n)
theorem QO.take {s' : Bytes} (h : QO w0 gb gs W s u e r g o le lr lg lo) (hk : Blk W' (w0.heap.size + 1) 90 #[str s']) (hd : Chg (fun k => k = w0.heap.size + 1) W W') : QO w0 gb gs W' s' u e r g o le lr lg lo :=
  ⟨h.rs.chg hd (by simp), hk, h.bx.chg hd (by have := h.hg; omega), h.sx.chg hd (by have := h.hg; have := h.hs; omega), h.ls.chg hd (fun k hk => by subst hk; exact h.ls.away (by have := h.hg; omega)), h.ng, h.bw.trans (hd.to_below h.bw.size (by omega)), h.hg, h.hs⟩
theorem QO.putO {o' : Value} {lo' : List Opr} (h : QO w0 gb gs W s u e r g o le lr lg lo) (ho : Own cOpr 48 13 W' o' lo') (ht : OutTo W o W' o') : QO w0 gb gs (W'.setCell ⟨gs, 7, none⟩ o') s u e r g o' le lr lg lo' := by
  have hz := h.sx.lt
  have hg := h.hg
  have hs := h.hs
  have hn : ∀ k, k < gb + 1 → o.ownBlock ≠ some k := fun k hk e => by have := h.ls.bo k e; omega
  have hl := h.ls.setO (by omega) ho ht
  have hno : o'.ownBlock ≠ some gs := fun q => (ht.own gs q).elim h.ng.2.2.2 (fun k => by omega)
  exact ⟨(h.rs.outTo ht (hn _ (by omega))).far (by simp; omega) o', (h.tk.outTo ht (hn _ (by omega))).far (by simp; omega) o', (h.bx.outTo ht (hn _ (by omega))).far (by simp; omega) o', (h.sx.outTo ht h.ng.2.2.2).set_ 7 o', hl.set ⟨h.ng.1, h.ng.2.1, h.ng.2.2.1, hno⟩ o', ⟨h.ng.1, h.ng.2.1, h.ng.2.2.1, hno⟩, (h.bw.trans (ht.old h.bw.size (fun k hk => by have := h.ls.bo k hk; omega))).setCell (by show _ ≤ gs; omega) o', hg, hs⟩
end

end Go.Proofs.YtamcgggmfghljaaGreatDoor
