/- Layer 29 (program): Target, Plain and Check of well-formed operations (printed by tools/ge · Layer 41 (program): the known bytes, read. · Layers 21, 30 (program): no grants, no logs: checked. · Layers 31, 41 (program): a book of entries and rules alone, checked. · Layer 41 (program): a bool's bytes, a string's. · Layer 41 (program): an address's, rights' bytes (printed by tools/gen_enc.py). · Layer 41 (program): a range's bytes. -/
import Derived.Deep.RegionHeld3
import Derived.Deep.MidRow
import Derived.Deep.Cut
import Derived.RegionTactic
import Derived.ChangeAlike
import Derived.BigRegion
import Derived.BigQuiet
import Derived.Deep.QuietTactic
import Derived.Deep.RegionWith
import Derived.Test.YtamcgggmfghljaaGreatDoorC31
import Derived.Test.YtamcgggmfghljaaGreatDoorC32
import Derived.Test.YtamcgggmfghljaaGreatDoorC33
import Derived.Test.YtamcgggmfghljaaGreatDoorC34
import Derived.Test.YtamcgggmfghljaaGreatDoorC35
set_option maxRecDepth 100000
set_option maxHeartbeats 8000000
namespace Go.Proofs.YtamcgggmfghljaaGreatDoor
open Go.RowKit
theorem rct_z {a b c d : Int} (h : (⟨a, b, c, d⟩ : Rct) = ⟨0, 0, 0, 0⟩) : a = 0 ∧ b = 0 ∧ c = 0 ∧ d = 0 := by simpa using h
theorem rts_z {a b c : Int} (h : (⟨a, b, c⟩ : Rts) = ⟨0, 0, 0⟩) : a = 0 ∧ b = 0 ∧ c = 0 := by simpa using h
theorem kinds {k : Int} (h1 : 1 ≤ k) (h2 : k ≤ 10) : k = 1 ∨ k = 2 ∨ k = 3 ∨ k = 4 ∨ k = 5 ∨ k = 6 ∨ k = 7 ∨ k = 8 ∨ k = 9 ∨ k = 10 := by omega
theorem opchk_ok (u : Int) (x : Opr) (h : OprOk u x) (w : World) :
    Calls Tryz.prog 21 #[.agg (cOpr x).toArray] w fun v w' => v = .returned (.int .i64 0) ∧ Below w.heap.size w w' := by
  obtain ⟨k, us, ⟨c1, r1, c2, r2⟩, s, ⟨rd, wr, ow⟩, fns, to_, ix⟩ := x
  have hkk := kinds h.k1 h.k2
  simp only at hkk
  rcases hkk with hk | hk | hk | hk | hk | hk | hk | hk | hk | hk
  · subst hk
    have f1 : (⟨c1, r1, c2, r2⟩ : Rct) = ⟨0, 0, 0, 0⟩ := by have q := h.rc; simpa using q
    have f2 : s = [] := h.tx.2.2 (by simp)
    have f3 : (⟨rd, wr, ow⟩ : Rts) = ⟨0, 0, 0⟩ := h.rt (by simp)
    have f4 : fns = 0 ∧ to_ = 0 := by have q := h.gr; simpa using q
    have f5 : ix = 0 := h.ix (by simp)
    clear h
    obtain ⟨rfl, rfl, rfl, rfl⟩ := rct_z f1
    subst f2
    obtain ⟨rfl, rfl, rfl⟩ := rts_z f3
    obtain ⟨rfl, rfl⟩ := f4
    subst f5
    exact opchk_1 us w
  · subst hk
    have f1 : (⟨c1, r1, c2, r2⟩ : Rct) = ⟨0, 0, 0, 0⟩ := by have q := h.rc; simpa using q
    have f2 : s = [] := h.tx.2.2 (by simp)
    have f3 : (⟨rd, wr, ow⟩ : Rts) = ⟨0, 0, 0⟩ := h.rt (by simp)
    have f4 : fns = 0 ∧ to_ = 0 := by have q := h.gr; simpa using q
    have f5 : ix = 0 := h.ix (by simp)
    clear h
    obtain ⟨rfl, rfl, rfl, rfl⟩ := rct_z f1
    subst f2
    obtain ⟨rfl, rfl, rfl⟩ := rts_z f3
    obtain ⟨rfl, rfl⟩ := f4
    subst f5
    exact opchk_2 us w
  · subst hk
    have f1 := h.on (by simp)
    simp only at f1
    have f3 : (⟨rd, wr, ow⟩ : Rts) = ⟨0, 0, 0⟩ := h.rt (by simp)
    have f4 : fns = 0 ∧ to_ = 0 := by have q := h.gr; simpa using q
    have f5 : ix = 0 := h.ix (by simp)
    have f6 := h.tx
    simp only at f6
    clear h
    obtain ⟨rfl, rfl⟩ := f1
    obtain ⟨rfl, rfl, rfl⟩ := rts_z f3
    obtain ⟨rfl, rfl⟩ := f4
    subst f5
    exact opchk_3 us c1 r1 s (by have := f6.1; omega) (by have t1 := f6.1; have t2 := f6.2.1; unfold txtE; rw [if_neg (by omega)]; exact if_pos t2) w
  · subst hk
    have f2 : s = [] := h.tx.2.2 (by simp)
    have f3 : (⟨rd, wr, ow⟩ : Rts) = ⟨0, 0, 0⟩ := h.rt (by simp)
    have f4 : fns = 0 ∧ to_ = 0 := by have q := h.gr; simpa using q
    have f5 : ix = 0 := h.ix (by simp)
    clear h
    subst f2
    obtain ⟨rfl, rfl, rfl⟩ := rts_z f3
    obtain ⟨rfl, rfl⟩ := f4
    subst f5
    exact opchk_4 us c1 r1 c2 r2 w
  · subst hk
    have f2 : s = [] := h.tx.2.2 (by simp)
    have f3 : (⟨rd, wr, ow⟩ : Rts) = ⟨0, 0, 0⟩ := h.rt (by simp)
    have f4 : fns = 0 ∧ to_ = 0 := by have q := h.gr; simpa using q
    have f5 : ix = 0 := h.ix (by simp)
    clear h
    subst f2
    obtain ⟨rfl, rfl, rfl⟩ := rts_z f3
    obtain ⟨rfl, rfl⟩ := f4
    subst f5
    exact opchk_5 us c1 r1 c2 r2 w
  · subst hk
    have f1 := h.on (by simp)
    simp only at f1
    have f2 : s = [] := h.tx.2.2 (by simp)
    have f3 : (⟨rd, wr, ow⟩ : Rts) = ⟨0, 0, 0⟩ := h.rt (by simp)
    have f4 : fns = 0 ∧ to_ = 0 := by have q := h.gr; simpa using q
    have f5 : ix = 0 := h.ix (by simp)
    clear h
    obtain ⟨rfl, rfl⟩ := f1
    subst f2
    obtain ⟨rfl, rfl, rfl⟩ := rts_z f3
    obtain ⟨rfl, rfl⟩ := f4
    subst f5
    exact opchk_6 us c1 r1 w
  · subst hk
    have f2 : s = [] := h.tx.2.2 (by simp)
    have f4 : fns = 0 ∧ to_ = 0 := by have q := h.gr; simpa using q
    have f5 : ix = 0 := h.ix (by simp)
    clear h
    subst f2
    obtain ⟨rfl, rfl⟩ := f4
    subst f5
    exact opchk_7 us c1 r1 c2 r2 rd wr ow w
  · subst hk
    have f2 : s = [] := h.tx.2.2 (by simp)
    have f3 : (⟨rd, wr, ow⟩ : Rts) = ⟨0, 0, 0⟩ := h.rt (by simp)
    have f4 : 1 ≤ fns ∧ fns ≤ 31 := by have q := h.gr; simpa using q
    have f5 : ix = 0 := h.ix (by simp)
    clear h
    subst f2
    obtain ⟨rfl, rfl, rfl⟩ := rts_z f3
    subst f5
    exact opchk_8 us c1 r1 c2 r2 fns to_ f4.1 f4.2 w
  · subst hk
    have f1 : (⟨c1, r1, c2, r2⟩ : Rct) = ⟨0, 0, 0, 0⟩ := by have q := h.rc; simpa using q
    have f2 : s = [] := h.tx.2.2 (by simp)
    have f3 : (⟨rd, wr, ow⟩ : Rts) = ⟨0, 0, 0⟩ := h.rt (by simp)
    have f4 : fns = 0 ∧ to_ = 0 := by have q := h.gr; simpa using q
    clear h
    obtain ⟨rfl, rfl, rfl, rfl⟩ := rct_z f1
    subst f2
    obtain ⟨rfl, rfl, rfl⟩ := rts_z f3
    obtain ⟨rfl, rfl⟩ := f4
    exact opchk_9 us ix w
  · subst hk
    have f1 : (⟨c1, r1, c2, r2⟩ : Rct) = ⟨0, 0, 0, 0⟩ := by have q := h.rc; simpa using q
    have f2 : s = [] := h.tx.2.2 (by simp)
    have f3 : (⟨rd, wr, ow⟩ : Rts) = ⟨0, 0, 0⟩ := h.rt (by simp)
    have f4 : fns = 0 ∧ to_ = 0 := by have q := h.gr; simpa using q
    have f5 : ix = 0 := h.ix (by simp)
    clear h
    obtain ⟨rfl, rfl, rfl, rfl⟩ := rct_z f1
    subst f2
    obtain ⟨rfl, rfl, rfl⟩ := rts_z f3
    obtain ⟨rfl, rfl⟩ := f4
    subst f5
    exact opchk_10 us w
theorem target_ok (u : Int) (x : Opr) (h : OprOk u x) (w : World) :
    Calls Tryz.prog 22 #[.agg (cOpr x).toArray] w fun v w' => v = .returned (.tuple #[.agg (cRct x.rect).toArray, .bool (decide (3 ≤ x.kind ∧ x.kind ≤ 8))]) ∧ Below w.heap.size w w' := by
  obtain ⟨k, us, ⟨c1, r1, c2, r2⟩, s, ⟨rd, wr, ow⟩, fns, to_, ix⟩ := x
  have hkk := kinds h.k1 h.k2
  simp only at hkk
  rcases hkk with hk | hk | hk | hk | hk | hk | hk | hk | hk | hk
  · subst hk
    have f1 : (⟨c1, r1, c2, r2⟩ : Rct) = ⟨0, 0, 0, 0⟩ := by have q := h.rc; simpa using q
    have f2 : s = [] := h.tx.2.2 (by simp)
    have f3 : (⟨rd, wr, ow⟩ : Rts) = ⟨0, 0, 0⟩ := h.rt (by simp)
    have f4 : fns = 0 ∧ to_ = 0 := by have q := h.gr; simpa using q
    have f5 : ix = 0 := h.ix (by simp)
    clear h
    obtain ⟨rfl, rfl, rfl, rfl⟩ := rct_z f1
    subst f2
    obtain ⟨rfl, rfl, rfl⟩ := rts_z f3
    obtain ⟨rfl, rfl⟩ := f4
    subst f5
    exact target_1 us w
  · subst hk
    have f1 : (⟨c1, r1, c2, r2⟩ : Rct) = ⟨0, 0, 0, 0⟩ := by have q := h.rc; simpa using q
    have f2 : s = [] := h.tx.2.2 (by simp)
    have f3 : (⟨rd, wr, ow⟩ : Rts) = ⟨0, 0, 0⟩ := h.rt (by simp)
    have f4 : fns = 0 ∧ to_ = 0 := by have q := h.gr; simpa using q
    have f5 : ix = 0 := h.ix (by simp)
    clear h
    obtain ⟨rfl, rfl, rfl, rfl⟩ := rct_z f1
    subst f2
    obtain ⟨rfl, rfl, rfl⟩ := rts_z f3
    obtain ⟨rfl, rfl⟩ := f4
    subst f5
    exact target_2 us w
  · subst hk
    have f1 := h.on (by simp)
    simp only at f1
    have f3 : (⟨rd, wr, ow⟩ : Rts) = ⟨0, 0, 0⟩ := h.rt (by simp)
    have f4 : fns = 0 ∧ to_ = 0 := by have q := h.gr; simpa using q
    have f5 : ix = 0 := h.ix (by simp)
    have f6 := h.tx
    simp only at f6
    clear h
    obtain ⟨rfl, rfl⟩ := f1
    obtain ⟨rfl, rfl, rfl⟩ := rts_z f3
    obtain ⟨rfl, rfl⟩ := f4
    subst f5
    exact target_3 us c1 r1 s w
  · subst hk
    have f2 : s = [] := h.tx.2.2 (by simp)
    have f3 : (⟨rd, wr, ow⟩ : Rts) = ⟨0, 0, 0⟩ := h.rt (by simp)
    have f4 : fns = 0 ∧ to_ = 0 := by have q := h.gr; simpa using q
    have f5 : ix = 0 := h.ix (by simp)
    clear h
    subst f2
    obtain ⟨rfl, rfl, rfl⟩ := rts_z f3
    obtain ⟨rfl, rfl⟩ := f4
    subst f5
    exact target_4 us c1 r1 c2 r2 w
  · subst hk
    have f2 : s = [] := h.tx.2.2 (by simp)
    have f3 : (⟨rd, wr, ow⟩ : Rts) = ⟨0, 0, 0⟩ := h.rt (by simp)
    have f4 : fns = 0 ∧ to_ = 0 := by have q := h.gr; simpa using q
    have f5 : ix = 0 := h.ix (by simp)
    clear h
    subst f2
    obtain ⟨rfl, rfl, rfl⟩ := rts_z f3
    obtain ⟨rfl, rfl⟩ := f4
    subst f5
    exact target_5 us c1 r1 c2 r2 w
  · subst hk
    have f1 := h.on (by simp)
    simp only at f1
    have f2 : s = [] := h.tx.2.2 (by simp)
    have f3 : (⟨rd, wr, ow⟩ : Rts) = ⟨0, 0, 0⟩ := h.rt (by simp)
    have f4 : fns = 0 ∧ to_ = 0 := by have q := h.gr; simpa using q
    have f5 : ix = 0 := h.ix (by simp)
    clear h
    obtain ⟨rfl, rfl⟩ := f1
    subst f2
    obtain ⟨rfl, rfl, rfl⟩ := rts_z f3
    obtain ⟨rfl, rfl⟩ := f4
    subst f5
    exact target_6 us c1 r1 w
  · subst hk
    have f2 : s = [] := h.tx.2.2 (by simp)
    have f4 : fns = 0 ∧ to_ = 0 := by have q := h.gr; simpa using q
    have f5 : ix = 0 := h.ix (by simp)
    clear h
    subst f2
    obtain ⟨rfl, rfl⟩ := f4
    subst f5
    exact target_7 us c1 r1 c2 r2 rd wr ow w
  · subst hk
    have f2 : s = [] := h.tx.2.2 (by simp)
    have f3 : (⟨rd, wr, ow⟩ : Rts) = ⟨0, 0, 0⟩ := h.rt (by simp)
    have f4 : 1 ≤ fns ∧ fns ≤ 31 := by have q := h.gr; simpa using q
    have f5 : ix = 0 := h.ix (by simp)
    clear h
    subst f2
    obtain ⟨rfl, rfl, rfl⟩ := rts_z f3
    subst f5
    exact target_8 us c1 r1 c2 r2 fns to_ w
  · subst hk
    have f1 : (⟨c1, r1, c2, r2⟩ : Rct) = ⟨0, 0, 0, 0⟩ := by have q := h.rc; simpa using q
    have f2 : s = [] := h.tx.2.2 (by simp)
    have f3 : (⟨rd, wr, ow⟩ : Rts) = ⟨0, 0, 0⟩ := h.rt (by simp)
    have f4 : fns = 0 ∧ to_ = 0 := by have q := h.gr; simpa using q
    clear h
    obtain ⟨rfl, rfl, rfl, rfl⟩ := rct_z f1
    subst f2
    obtain ⟨rfl, rfl, rfl⟩ := rts_z f3
    obtain ⟨rfl, rfl⟩ := f4
    exact target_9 us ix w
  · subst hk
    have f1 : (⟨c1, r1, c2, r2⟩ : Rct) = ⟨0, 0, 0, 0⟩ := by have q := h.rc; simpa using q
    have f2 : s = [] := h.tx.2.2 (by simp)
    have f3 : (⟨rd, wr, ow⟩ : Rts) = ⟨0, 0, 0⟩ := h.rt (by simp)
    have f4 : fns = 0 ∧ to_ = 0 := by have q := h.gr; simpa using q
    have f5 : ix = 0 := h.ix (by simp)
    clear h
    obtain ⟨rfl, rfl, rfl, rfl⟩ := rct_z f1
    subst f2
    obtain ⟨rfl, rfl, rfl⟩ := rts_z f3
    obtain ⟨rfl, rfl⟩ := f4
    subst f5
    exact target_10 us w
def knownB : Bytes := [2, 7, 7, 7, 0, 1, 2, 3, 1, 9, 0]
def knownS : Scp := ⟨⟨3, [⟨⟨3, 4⟩, [57]⟩], [⟨⟨1, 1, 1024, 1024⟩, ⟨7, 7, 7⟩⟩], [], [], [], 0⟩, []⟩
theorem SlsN.chg {α : Type} {c : α → List Value} {base : Nat} {w w' : World} {v : Value} {l : List α} {S : Nat → Prop} (h : SlsN c base w v l) (hb : Chg S w w') (hS : ∀ k, base ≤ k → ¬ S k) : SlsN c base w' v l := by
  refine ⟨?_, h.2⟩
  obtain ⟨A, cap, rfl, h1, hm, h2⟩ := h.1
  refine ⟨A, cap, rfl, h1, hm, fun hn => ?_⟩
  obtain ⟨b, o, rfl, hlt, hr⟩ := h2 hn
  have hz := hb.size
  have hq := h.2 b rfl
  refine ⟨b, o, rfl, by omega, fun j t ht => ?_⟩
  rw [hb.cell (p := ⟨b, o + j, none⟩) hlt (hS b hq)]
  exact hr j t ht
theorem known_read (w : World) :
    Calls Tryz.prog 17 #[str knownB] w fun u w' => ∃ e r g l x o, u = .returned (vScp knownS e r g l x o) ∧ RdScp w' w'.heap.size knownS e r g l x o ∧ Below w.heap.size w w' := by
  unfold knownB
  go_enter Tryz.func17, Tryz.ntmps17
  go_wp2_with fail
  have kr : Blk (((w.alloc (.cells #[.int .i64 0, .slice none 0 0, .slice none 0 0, .slice none 0 0, .slice none 0 0, .slice none 0 0, .int .i64 0, .slice none 0 0] 31)).alloc (.cells #[str [2, 7, 7, 7, 0, 1, 2, 3, 1, 9, 0]] 74)).alloc (.cells #[.int .i64 0, .slice none 0 0, .slice none 0 0, .slice none 0 0, .slice none 0 0, .slice none 0 0, .int .i64 0, .slice none 0 0] 31)) w.heap.size 31 #[.int .i64 0, .slice none 0 0, .slice none 0 0, .slice none 0 0, .slice none 0 0, .slice none 0 0, .int .i64 0, .slice none 0 0] := ((Blk.new w _ _).alloc _).alloc _
  have kt : Blk (((w.alloc (.cells #[.int .i64 0, .slice none 0 0, .slice none 0 0, .slice none 0 0, .slice none 0 0, .slice none 0 0, .int .i64 0, .slice none 0 0] 31)).alloc (.cells #[str [2, 7, 7, 7, 0, 1, 2, 3, 1, 9, 0]] 74)).alloc (.cells #[.int .i64 0, .slice none 0 0, .slice none 0 0, .slice none 0 0, .slice none 0 0, .slice none 0 0, .int .i64 0, .slice none 0 0] 31)) (w.heap.size + 1) 74 #[str [2, 7, 7, 7, 0, 1, 2, 3, 1, 9, 0]] := by
    have := (Blk.new (w.alloc (.cells #[.int .i64 0, .slice none 0 0, .slice none 0 0, .slice none 0 0, .slice none 0 0, .slice none 0 0, .int .i64 0, .slice none 0 0] 31)) 74 #[str [2, 7, 7, 7, 0, 1, 2, 3, 1, 9, 0]]).alloc (.cells #[.int .i64 0, .slice none 0 0, .slice none 0 0, .slice none 0 0, .slice none 0 0, .slice none 0 0, .int .i64 0, .slice none 0 0] 31)
    simpa using this
  have kx : Blk (((w.alloc (.cells #[.int .i64 0, .slice none 0 0, .slice none 0 0, .slice none 0 0, .slice none 0 0, .slice none 0 0, .int .i64 0, .slice none 0 0] 31)).alloc (.cells #[str [2, 7, 7, 7, 0, 1, 2, 3, 1, 9, 0]] 74)).alloc (.cells #[.int .i64 0, .slice none 0 0, .slice none 0 0, .slice none 0 0, .slice none 0 0, .slice none 0 0, .int .i64 0, .slice none 0 0] 31)) (w.heap.size + 1 + 1) 31 #[.int .i64 0, .slice none 0 0, .slice none 0 0, .slice none 0 0, .slice none 0 0, .slice none 0 0, .int .i64 0, .slice none 0 0] := by
    have := Blk.new ((w.alloc (.cells #[.int .i64 0, .slice none 0 0, .slice none 0 0, .slice none 0 0, .slice none 0 0, .slice none 0 0, .int .i64 0, .slice none 0 0] 31)).alloc (.cells #[str [2, 7, 7, 7, 0, 1, 2, 3, 1, 9, 0]] 74)) 31 #[.int .i64 0, .slice none 0 0, .slice none 0 0, .slice none 0 0, .slice none 0 0, .slice none 0 0, .int .i64 0, .slice none 0 0]
    simpa using this
  have bw : Below w.heap.size w (((w.alloc (.cells #[.int .i64 0, .slice none 0 0, .slice none 0 0, .slice none 0 0, .slice none 0 0, .slice none 0 0, .int .i64 0, .slice none 0 0] 31)).alloc (.cells #[str [2, 7, 7, 7, 0, 1, 2, 3, 1, 9, 0]] 74)).alloc (.cells #[.int .i64 0, .slice none 0 0, .slice none 0 0, .slice none 0 0, .slice none 0 0, .slice none 0 0, .int .i64 0, .slice none 0 0] 31)) := by go_grown
  refine (take_any _ [2, 7, 7, 7, 0, 1, 2, 3, 1, 9, 0] 4 _ (by decide) kt).mono ?_
  rintro e w1 ⟨rfl, kt1, hd1⟩
  rw [show (take 4 [2, 7, 7, 7, 0, 1, 2, 3, 1, 9, 0]).1 = 2 from rfl]
  have KT := Lib.hid (show Blk w1 (w.heap.size + 1) 74 #[str [7, 7, 7, 0, 1, 2, 3, 1, 9, 0]] from kt1)
  have KR := Lib.hid (kr.chg hd1 (by omega))
  have KX := Lib.hid (kx.chg hd1 (by omega))
  have BW := Lib.hid (Below.trans bw (hd1.to_below (B := w.heap.size) (by simp; omega) (by omega)))
  have hx := KX.out.cell 0
  have fx := KX.out.frozen
  clear kr kt kx bw kt1 hd1
  go_wp2_with fail
  have KT1 := Lib.hid (KT.out.far (p := ⟨w.heap.size + 1 + 1, 0, none⟩) (by simp) (.int .i64 3))
  have KR1 := Lib.hid (KR.out.far (p := ⟨w.heap.size + 1 + 1, 0, none⟩) (by simp; try omega) (.int .i64 3))
  have KX1 := Lib.hid (KX.out.set_ 0 (.int .i64 3))
  have BW1 := Lib.hid (Below.setCell BW.out (p := ⟨w.heap.size + 1 + 1, 0, none⟩) (by simp; try omega) (.int .i64 3))
  refine (crowds_any (w.heap.size + 1) [7, 7, 7, 0, 1, 2, 3, 1, 9, 0] 3 _ (by decide) KT1.out).mono ?_
  rintro e w2 ⟨rfl, kt, hd⟩
  rw [show (crowds 3 [7, 7, 7, 0, 1, 2, 3, 1, 9, 0]).1 = ⟨7, 7, 7⟩ from rfl]
  have KT2 := Lib.hid (show Blk w2 (w.heap.size + 1) 74 #[str [0, 1, 2, 3, 1, 9, 0]] from kt)
  have KR2 := Lib.hid (KR1.out.chg hd (by omega))
  have KX2 := Lib.hid (KX1.out.chg hd (by omega))
  have BW2 := Lib.hid (Below.trans BW1.out (hd.to_below (B := w.heap.size) BW1.out.size (by omega)))
  clear KT KR KX BW KT1 KR1 KX1 BW1 hx fx kt hd
  have hx := KX2.out.cell 2
  have fx := KX2.out.frozen
  have lx := KX2.out.lt
  go_wp2_with fail
  have KT3 := Lib.hid ((KT2.out.far (p := ⟨w.heap.size + 1 + 1, 2, none⟩) (by simp; try omega) (.slice (some ⟨w2.heap.size, 0, none⟩) 1 1)).alloc (.cells #[.int .i64 1, .int .i64 1, .int .i64 1024, .int .i64 1024, .int .u64 7, .int .u64 7, .int .u64 7] 79))
  have KR3 := Lib.hid ((KR2.out.far (p := ⟨w.heap.size + 1 + 1, 2, none⟩) (by simp; try omega) (.slice (some ⟨w2.heap.size, 0, none⟩) 1 1)).alloc (.cells #[.int .i64 1, .int .i64 1, .int .i64 1024, .int .i64 1024, .int .u64 7, .int .u64 7, .int .u64 7] 79))
  have KX3 := Lib.hid ((KX2.out.set_ 2 (.slice (some ⟨w2.heap.size, 0, none⟩) 1 1)).alloc (.cells #[.int .i64 1, .int .i64 1, .int .i64 1024, .int .i64 1024, .int .u64 7, .int .u64 7, .int .u64 7] 79))
  have KL3 := Lib.hid (show Blk ((w2.setCell ⟨w.heap.size + 1 + 1, 2, none⟩ (.slice (some ⟨w2.heap.size, 0, none⟩) 1 1)).alloc (.cells #[.int .i64 1, .int .i64 1, .int .i64 1024, .int .i64 1024, .int .u64 7, .int .u64 7, .int .u64 7] 79)) w2.heap.size 79 #[.int .i64 1, .int .i64 1, .int .i64 1024, .int .i64 1024, .int .u64 7, .int .u64 7, .int .u64 7] by have := Blk.new (w2.setCell ⟨w.heap.size + 1 + 1, 2, none⟩ (.slice (some ⟨w2.heap.size, 0, none⟩) 1 1)) 79 #[.int .i64 1, .int .i64 1, .int .i64 1024, .int .i64 1024, .int .u64 7, .int .u64 7, .int .u64 7]; simpa using this)
  have BW3 := Lib.hid (Below.alloc (Below.setCell BW2.out (p := ⟨w.heap.size + 1 + 1, 2, none⟩) (by simp; try omega) (.slice (some ⟨w2.heap.size, 0, none⟩) 1 1)) (by have := BW2.out.size; simp; omega) (.cells #[.int .i64 1, .int .i64 1, .int .i64 1024, .int .i64 1024, .int .u64 7, .int .u64 7, .int .u64 7] 79))
  refine (take_any _ [0, 1, 2, 3, 1, 9, 0] 3 _ (by decide) KT3.out).mono ?_
  rintro e w3 ⟨rfl, kt, hd⟩
  rw [show (take 3 [0, 1, 2, 3, 1, 9, 0]).1 = 0 from rfl]
  have KT := Lib.hid (show Blk w3 (w.heap.size + 1) 74 #[str [1, 2, 3, 1, 9, 0]] from kt)
  have KR := Lib.hid (KR3.out.chg hd (by omega))
  have KX := Lib.hid (KX3.out.chg hd (by omega))
  have KL := Lib.hid (KL3.out.chg hd (by omega))
  have BW := Lib.hid (Below.trans BW3.out (hd.to_below (B := w.heap.size) BW3.out.size (by omega)))
  have hL : w.heap.size + 1 + 1 < w2.heap.size := lx
  clear KT2 KR2 KX2 BW2 KT3 KR3 KX3 KL3 BW3 hx fx lx kt hd
  go_wp2
  refine wp_loop_rounds 1 ?_
  rw [rounds_succ]
  go_wp2_with fail
  refine (take_any _ [1, 2, 3, 1, 9, 0] 8 _ (by decide) KT.out).mono ?_
  rintro e w4 ⟨rfl, kt, hd⟩
  rw [show (take 8 [1, 2, 3, 1, 9, 0]).1 = 1 from rfl]
  have KT4 := Lib.hid (show Blk w4 (w.heap.size + 1) 74 #[str [2, 3, 1, 9, 0]] from kt)
  have KR4 := Lib.hid (KR.out.chg hd (by omega))
  have KX4 := Lib.hid (KX.out.chg hd (by omega))
  have KL4 := Lib.hid (KL.out.chg hd (by omega))
  have BW4 := Lib.hid (Below.trans BW.out (hd.to_below (B := w.heap.size) BW.out.size (by omega)))
  clear KT KR KX KL BW kt hd
  go_wp2
  refine wp_loop_rounds 2 ?_
  rw [rounds_succ]
  go_wp2_with fail
  refine (spot_any _ [2, 3, 1, 9, 0] _ KT4.out).mono ?_
  rintro e w5 ⟨rfl, kt, hd⟩
  rw [show (spot [2, 3, 1, 9, 0]).1 = ⟨3, 4⟩ from rfl]
  have KT5 := Lib.hid (show Blk w5 (w.heap.size + 1) 74 #[str [1, 9, 0]] from kt)
  have KR5 := Lib.hid (KR4.out.chg hd (by omega))
  have KX5 := Lib.hid (KX4.out.chg hd (by omega))
  have KL5 := Lib.hid (KL4.out.chg hd (by omega))
  have BW5 := Lib.hid (Below.trans BW4.out (hd.to_below (B := w.heap.size) BW4.out.size (by omega)))
  clear KT4 KR4 KX4 KL4 BW4 kt hd
  have hx := KX5.out.cell 1
  have fx := KX5.out.frozen
  have lx := KX5.out.lt
  go_wp2_with fail
  have kA := Lib.hid (KT5.out.alloc (.cells #[.int .i64 3, .int .i64 4] 56))
  have kB := Lib.hid (Blk.new w5 56 #[.int .i64 3, .int .i64 4])
  have lw := KT5.out.lt
  go_region_with (first
    | (go_at_call 40; refine (content_1 _ [1, 9, 0] _ rfl (by first | exact kA.out | exact kA.out.drew | exact (kA.out.drewN _))).mono ?_; rintro e w6 ⟨rfl, kt, hd⟩; have hz6 := hd.size; simp at hz6; have f6 : w6.frozen? ⟨w.heap.size + 1 + 1, 1, none⟩ = false := (hd.frozen (p := ⟨w.heap.size + 1 + 1, 1, none⟩) (by simp; omega) (by simp)).trans (by go_simp; try exact fx 1); have x6 : w6.cell? ⟨w.heap.size + 1 + 1, 1, none⟩ = some (.slice none 0 0) := (hd.cell (p := ⟨w.heap.size + 1 + 1, 1, none⟩) (by simp; omega) (by simp)).trans (by go_simp; try exact hx); have a6 : w6.cell? ⟨w5.heap.size, 0, none⟩ = some (.int .i64 3) := (hd.cell (p := ⟨w5.heap.size, 0, none⟩) (by simp) (by simp; omega)).trans (by go_simp); have a7 : w6.cell? ⟨w5.heap.size, 1, none⟩ = some (.int .i64 4) := (hd.cell (p := ⟨w5.heap.size, 1, none⟩) (by simp) (by simp; omega)).trans (by go_simp))
    | (go_at_call 39; refine (put_nil ⟨⟨3, 4⟩, [57]⟩ _ (by simp)).mono ?_; rintro e w7 ⟨v7, rfl, hs7, hb7⟩; obtain ⟨A7, cap7, rfl, _⟩ := id hs7.1; have x7 := (hb7.cell (p := ⟨w.heap.size + 1 + 1, 1, none⟩) (by (try simp); omega)).trans x6; have f7 := (hb7.frozen (p := ⟨w.heap.size + 1 + 1, 1, none⟩) (by (try simp); omega)).trans f6))
  all_goals
    have kt7 : Blk w7 (w.heap.size + 1) 74 #[str [0]] := Blk.below_ (show Blk w6 (w.heap.size + 1) 74 #[str [0]] from kt) hb7
    have kr7 := Blk.below_ (Blk.chg (S := fun k => k = w.heap.size + 1) ((KR5.out.alloc (.cells #[.int .i64 3, .int .i64 4] 56)).drew) hd (by simp)) hb7
    have kx7 := Blk.below_ (Blk.chg (S := fun k => k = w.heap.size + 1) ((KX5.out.alloc (.cells #[.int .i64 3, .int .i64 4] 56)).drew) hd (by simp)) hb7
    have kl7 := Blk.below_ (Blk.chg (S := fun k => k = w.heap.size + 1) ((KL5.out.alloc (.cells #[.int .i64 3, .int .i64 4] 56)).drew) hd (by show ¬ (_ = _); omega)) hb7
    have bw7 := Below.trans (Below.trans (Below.drewN_ (Below.alloc BW5.out BW5.out.size (.cells #[.int .i64 3, .int .i64 4] 56)) 1) (hd.to_below (B := w.heap.size) (by have := BW5.out.size; simp; omega) (by omega))) (hb7.mono (by have := BW5.out.size; omega))
    have hn7 : ∀ q, (Value.slice A7 1 cap7).ownBlock = some q → w6.heap.size ≤ q := hs7.2
    have KT8 := Lib.hid (kt7.far (p := ⟨w.heap.size + 1 + 1, 1, none⟩) (by simp) (.slice A7 1 cap7))
    have KR8 := Lib.hid (kr7.far (p := ⟨w.heap.size + 1 + 1, 1, none⟩) (by simp; try omega) (.slice A7 1 cap7))
    have KX8 := Lib.hid (kx7.set_ 1 (.slice A7 1 cap7))
    have KL8 := Lib.hid (kl7.far (p := ⟨w.heap.size + 1 + 1, 1, none⟩) (by simp; try omega) (.slice A7 1 cap7))
    have BW8 := Lib.hid (Below.setCell bw7 (p := ⟨w.heap.size + 1 + 1, 1, none⟩) (by simp; try omega) (.slice A7 1 cap7))
    have HS8 := Lib.hid (SlsN.set hs7 (p := ⟨w.heap.size + 1 + 1, 1, none⟩) (by simp; omega) (.slice A7 1 cap7))
    clear kt7 kr7 kx7 kl7 bw7 hn7 kt hd x6 f6 a6 a7 x7 f7 hb7 hs7 KT5 KR5 KX5 KL5 BW5 kA kB hx fx
    go_wp2
    rw [rounds_succ]
    go_wp2_with fail
    refine (take_any _ [0] 3 _ (by decide) KT8.out).mono ?_
    rintro e w9 ⟨rfl, kt, hd⟩
    rw [show (take 3 [0]).1 = 0 from rfl]
    have KR := Lib.hid (KR8.out.chg hd (by simp))
    have kt9 : w9.cell? ⟨w.heap.size + 1, 0, none⟩ = some (str []) := kt.cell 0
    have KX := Lib.hid (KX8.out.chg hd (by simp))
    have KL := Lib.hid (KL8.out.chg hd (by show ¬ (_ = _); omega))
    have BW := Lib.hid (Below.trans BW8.out (hd.to_below (B := w.heap.size) BW8.out.size (by omega)))
    have x0 : w9.cell? ⟨w.heap.size + 1 + 1, 0, none⟩ = some (.int .i64 3) := KX.out.cell 0
    have x1 : w9.cell? ⟨w.heap.size + 1 + 1, 1, none⟩ = some (.slice A7 1 cap7) := KX.out.cell 1
    have x2 : w9.cell? ⟨w.heap.size + 1 + 1, 2, none⟩ = some (.slice (some ⟨w2.heap.size, 0, none⟩) 1 1) := KX.out.cell 2
    have x3 : w9.cell? ⟨w.heap.size + 1 + 1, 3, none⟩ = some (.slice none 0 0) := KX.out.cell 3
    have x4 : w9.cell? ⟨w.heap.size + 1 + 1, 4, none⟩ = some (.slice none 0 0) := KX.out.cell 4
    have x5 : w9.cell? ⟨w.heap.size + 1 + 1, 5, none⟩ = some (.slice none 0 0) := KX.out.cell 5
    have x6 : w9.cell? ⟨w.heap.size + 1 + 1, 6, none⟩ = some (.int .i64 0) := KX.out.cell 6
    have x7 : w9.cell? ⟨w.heap.size + 1 + 1, 7, none⟩ = some (.slice none 0 0) := KX.out.cell 7
    have r0 : w9.cell? ⟨w.heap.size, 0, none⟩ = some (.int .i64 0) := KR.out.cell 0
    have r1 : w9.cell? ⟨w.heap.size, 1, none⟩ = some (.slice none 0 0) := KR.out.cell 1
    have r2 : w9.cell? ⟨w.heap.size, 2, none⟩ = some (.slice none 0 0) := KR.out.cell 2
    have r3 : w9.cell? ⟨w.heap.size, 3, none⟩ = some (.slice none 0 0) := KR.out.cell 3
    have r4 : w9.cell? ⟨w.heap.size, 4, none⟩ = some (.slice none 0 0) := KR.out.cell 4
    have r5 : w9.cell? ⟨w.heap.size, 5, none⟩ = some (.slice none 0 0) := KR.out.cell 5
    have r6 : w9.cell? ⟨w.heap.size, 6, none⟩ = some (.int .i64 0) := KR.out.cell 6
    have r7 : w9.cell? ⟨w.heap.size, 7, none⟩ = some (.slice none 0 0) := KR.out.cell 7
    have fr := KR.out.frozen
    have kt0 : w9.cell? ⟨w.heap.size + 1, 0, none⟩ = some (str []) := kt9
    clear KT8 KR8 KX8 KL8 BW8 kt
    have HS := Lib.hid (SlsN.chg HS8.out hd (by intro k hk e; subst e; omega))
    clear HS8 hd
    go_wp2
    refine wp_loop_rounds 1 ?_
    rw [rounds_succ]
    go_wp2
    refine wp_loop_rounds 1 ?_
    rw [rounds_succ]
    go_wp2
    refine bodyPost_ret (v := vScp knownS (.slice A7 1 cap7) (.slice (some ⟨w2.heap.size, 0, none⟩) 1 1) (.slice none 0 0) (.slice none 0 0) (.slice none 0 0) (.slice none 0 0)) (by simp (maxDischargeDepth := 9) [results, Tryz.results17, go_sem, knownS, r0, r1, r2, r3, r4, r5, r6, r7]) rfl ?_
    refine ⟨_, _, _, _, _, _, rfl, ⟨⟨?_, Sls.one (t := 79) (cs := #[.int .i64 1, .int .i64 1, .int .i64 1024, .int .i64 1024, .int .u64 7, .int .u64 7, .int .u64 7]) ?_ rfl, Sls.nil _ _ _ _ _, Sls.nil _ _ _ _ _, Sls.nil _ _ _ _ _⟩, Sls.nil _ _ _ _ _⟩, ?_⟩
    · have hS : SlsN cEnt w6.heap.size _ _ _ := HS.out
      refine (?_ : SlsN cEnt w6.heap.size _ _ _).1
      iterate 8 refine SlsN.set ?_ (by simp; omega) _
      exact hS
    · iterate 8 refine Blk.far ?_ (by simp; omega) _
      exact KL.out
    · iterate 8 refine Below.setCell ?_ (by simp) _
      exact BW.out
theorem grant_nil (u : Int) (A : Option Addr) (cap : Nat) (w : World) (h0 : 1 ≤ u) (h1 : u ≤ 64) :
    Calls Tryz.prog 112 #[.int .i64 u, .slice A 0 cap] w fun e w' => e = .returned (.tuple #[.int .i64 0, .int .i64 0]) ∧ Below w.heap.size w w' := by
  have u0 : (u == 0) = false := by simp; omega
  go_enter Tryz.func112, Tryz.ntmps112
  go_wp2_with fail
  refine (all_yes u _ (by omega) (by omega)).mono ?_
  rintro e w1 ⟨rfl, rfl⟩
  go_wp2
  refine wp_loop_rounds 1 ?_
  rw [rounds_succ]
  go_wp2
  go_ret2
  exact ⟨rfl, by go_grown⟩
theorem audit_nil (u : Int) (A A' : Option Addr) (cap cap' : Nat) (w : World) (h0 : 1 ≤ u) (h1 : u ≤ 64) :
    Calls Tryz.prog 113 #[.int .i64 u, .slice A 0 cap, .slice A' 0 cap'] w fun e w' => e = .returned (.int .i64 0) ∧ Below w.heap.size w w' := by
  have u0 : (u == 0) = false := by simp; omega
  go_enter Tryz.func113, Tryz.ntmps113
  go_wp2_with fail
  refine (all_yes u _ (by omega) (by omega)).mono ?_
  rintro e w1 ⟨rfl, rfl⟩
  go_wp2
  refine wp_loop_rounds 1 ?_
  rw [rounds_succ]
  go_wp2
  refine wp_loop_rounds 1 ?_
  rw [rounds_succ]
  go_wp2
  go_ret
  exact ⟨rfl, by go_grown⟩
theorem book_check (b : Bok) (e r g l x : Value) (B : Nat) (w : World) (hB : B ≤ w.heap.size) (hb : RdBok w B b e r g l x) (u0 : 1 ≤ b.users) (u1 : b.users ≤ 64) (hr : aclE b.users b.rules = 0) (hg : b.grants = []) (hl : b.log = []) (hx : b.releases = []) (s0 : 0 ≤ b.step) (s1 : b.step ≤ 1099511627776)
    (he : ∀ W, Below w.heap.size w W → Calls Tryz.prog 110 #[e] W fun u w' => ∃ i, u = .returned (.tuple #[.int .i64 i, .int .i64 0]) ∧ Below W.heap.size W w') :
    Calls Tryz.prog 31 #[vBok b e r g l x] w fun u w' => u = .returned (.int .i64 0) ∧ Below w.heap.size w w' := by
  obtain ⟨Ae, ce, rfl, _⟩ := id hb.ents
  obtain ⟨Ar, cr, rfl, _⟩ := id hb.ruls
  obtain ⟨Ag, cg, rfl, _⟩ := id hb.grts
  obtain ⟨Al, cl, rfl, _⟩ := id hb.evts
  obtain ⟨Ax, cx, rfl, _⟩ := id hb.rlss
  have HB := Lib.hid hb
  have HE := Lib.hid he
  have HR := Lib.hid hr
  clear hb he hr
  rw [hg, hl, hx]
  simp only [List.length_nil]
  have U0 := Lib.hid u0
  have U1 := Lib.hid u1
  clear hg hl hx
  go_enter Tryz.func31, Tryz.ntmps31
  go_wp2_with fail
  refine (HE.out _ ((Below.refl w.heap.size w).alloc (Nat.le_refl _) _)).mono ?_
  rintro e w1 ⟨i1, rfl, hb1⟩
  have p1_0 : w1.cell? ⟨w.heap.size, 0, none⟩ = some (.int .i64 b.users) := (hb1.cell (p := ⟨w.heap.size, 0, none⟩) (by first | (simp; done) | omega)).trans (by go_simp)
  have p1_1 : w1.cell? ⟨w.heap.size, 1, none⟩ = some (.slice Ae b.entries.length ce) := (hb1.cell (p := ⟨w.heap.size, 1, none⟩) (by first | (simp; done) | omega)).trans (by go_simp)
  have p1_2 : w1.cell? ⟨w.heap.size, 2, none⟩ = some (.slice Ar b.rules.length cr) := (hb1.cell (p := ⟨w.heap.size, 2, none⟩) (by first | (simp; done) | omega)).trans (by go_simp)
  have p1_3 : w1.cell? ⟨w.heap.size, 3, none⟩ = some (.slice Ag 0 cg) := (hb1.cell (p := ⟨w.heap.size, 3, none⟩) (by first | (simp; done) | omega)).trans (by go_simp)
  have p1_4 : w1.cell? ⟨w.heap.size, 4, none⟩ = some (.slice Al 0 cl) := (hb1.cell (p := ⟨w.heap.size, 4, none⟩) (by first | (simp; done) | omega)).trans (by go_simp)
  have p1_5 : w1.cell? ⟨w.heap.size, 5, none⟩ = some (.slice Ax 0 cx) := (hb1.cell (p := ⟨w.heap.size, 5, none⟩) (by first | (simp; done) | omega)).trans (by go_simp)
  have p1_6 : w1.cell? ⟨w.heap.size, 6, none⟩ = some (.int .i64 b.step) := (hb1.cell (p := ⟨w.heap.size, 6, none⟩) (by first | (simp; done) | omega)).trans (by go_simp)
  have B1 : Below w.heap.size w w1 := ((Below.refl w.heap.size w).alloc (Nat.le_refl _) _).trans (hb1.mono (by simp))
  have hz1 : w.heap.size < w1.heap.size := by have := hb1.size; simp at this; omega
  go_wp2_with fail
  refine (acl_check _ _ _ B _ (by have := B1.size; omega) (HB.out.ruls.below (B1.mono hB))).mono ?_
  rintro e w2 ⟨i2, rfl, hb2⟩
  rw [HR.out]
  have p2_0 : w2.cell? ⟨w.heap.size, 0, none⟩ = some (.int .i64 b.users) := (hb2.cell (p := ⟨w.heap.size, 0, none⟩) (by first | (simp; done) | omega)).trans p1_0
  have p2_1 : w2.cell? ⟨w.heap.size, 1, none⟩ = some (.slice Ae b.entries.length ce) := (hb2.cell (p := ⟨w.heap.size, 1, none⟩) (by first | (simp; done) | omega)).trans p1_1
  have p2_2 : w2.cell? ⟨w.heap.size, 2, none⟩ = some (.slice Ar b.rules.length cr) := (hb2.cell (p := ⟨w.heap.size, 2, none⟩) (by first | (simp; done) | omega)).trans p1_2
  have p2_3 : w2.cell? ⟨w.heap.size, 3, none⟩ = some (.slice Ag 0 cg) := (hb2.cell (p := ⟨w.heap.size, 3, none⟩) (by first | (simp; done) | omega)).trans p1_3
  have p2_4 : w2.cell? ⟨w.heap.size, 4, none⟩ = some (.slice Al 0 cl) := (hb2.cell (p := ⟨w.heap.size, 4, none⟩) (by first | (simp; done) | omega)).trans p1_4
  have p2_5 : w2.cell? ⟨w.heap.size, 5, none⟩ = some (.slice Ax 0 cx) := (hb2.cell (p := ⟨w.heap.size, 5, none⟩) (by first | (simp; done) | omega)).trans p1_5
  have p2_6 : w2.cell? ⟨w.heap.size, 6, none⟩ = some (.int .i64 b.step) := (hb2.cell (p := ⟨w.heap.size, 6, none⟩) (by first | (simp; done) | omega)).trans p1_6
  have B2 : Below w.heap.size w w2 := B1.trans (hb2.mono B1.size)
  have hz2 : w.heap.size < w2.heap.size := by have := hb2.size; omega
  clear p1_0 p1_1 p1_2 p1_3 p1_4 p1_5 p1_6 hb1
  go_wp2_with fail
  refine (grant_nil _ _ _ _ U0.out U1.out).mono ?_
  rintro e w3 ⟨rfl, hb3⟩
  have p3_0 : w3.cell? ⟨w.heap.size, 0, none⟩ = some (.int .i64 b.users) := (hb3.cell (p := ⟨w.heap.size, 0, none⟩) (by first | (simp; done) | omega)).trans p2_0
  have p3_1 : w3.cell? ⟨w.heap.size, 1, none⟩ = some (.slice Ae b.entries.length ce) := (hb3.cell (p := ⟨w.heap.size, 1, none⟩) (by first | (simp; done) | omega)).trans p2_1
  have p3_2 : w3.cell? ⟨w.heap.size, 2, none⟩ = some (.slice Ar b.rules.length cr) := (hb3.cell (p := ⟨w.heap.size, 2, none⟩) (by first | (simp; done) | omega)).trans p2_2
  have p3_3 : w3.cell? ⟨w.heap.size, 3, none⟩ = some (.slice Ag 0 cg) := (hb3.cell (p := ⟨w.heap.size, 3, none⟩) (by first | (simp; done) | omega)).trans p2_3
  have p3_4 : w3.cell? ⟨w.heap.size, 4, none⟩ = some (.slice Al 0 cl) := (hb3.cell (p := ⟨w.heap.size, 4, none⟩) (by first | (simp; done) | omega)).trans p2_4
  have p3_5 : w3.cell? ⟨w.heap.size, 5, none⟩ = some (.slice Ax 0 cx) := (hb3.cell (p := ⟨w.heap.size, 5, none⟩) (by first | (simp; done) | omega)).trans p2_5
  have p3_6 : w3.cell? ⟨w.heap.size, 6, none⟩ = some (.int .i64 b.step) := (hb3.cell (p := ⟨w.heap.size, 6, none⟩) (by first | (simp; done) | omega)).trans p2_6
  have B3 : Below w.heap.size w w3 := B2.trans (hb3.mono B2.size)
  have hz3 : w.heap.size < w3.heap.size := by have := hb3.size; omega
  clear p2_0 p2_1 p2_2 p2_3 p2_4 p2_5 p2_6 hb2
  go_wp2_with fail
  refine (audit_nil _ _ _ _ _ _ U0.out U1.out).mono ?_
  rintro e w4 ⟨rfl, hb4⟩
  have p4_0 : w4.cell? ⟨w.heap.size, 0, none⟩ = some (.int .i64 b.users) := (hb4.cell (p := ⟨w.heap.size, 0, none⟩) (by first | (simp; done) | omega)).trans p3_0
  have p4_1 : w4.cell? ⟨w.heap.size, 1, none⟩ = some (.slice Ae b.entries.length ce) := (hb4.cell (p := ⟨w.heap.size, 1, none⟩) (by first | (simp; done) | omega)).trans p3_1
  have p4_2 : w4.cell? ⟨w.heap.size, 2, none⟩ = some (.slice Ar b.rules.length cr) := (hb4.cell (p := ⟨w.heap.size, 2, none⟩) (by first | (simp; done) | omega)).trans p3_2
  have p4_3 : w4.cell? ⟨w.heap.size, 3, none⟩ = some (.slice Ag 0 cg) := (hb4.cell (p := ⟨w.heap.size, 3, none⟩) (by first | (simp; done) | omega)).trans p3_3
  have p4_4 : w4.cell? ⟨w.heap.size, 4, none⟩ = some (.slice Al 0 cl) := (hb4.cell (p := ⟨w.heap.size, 4, none⟩) (by first | (simp; done) | omega)).trans p3_4
  have p4_5 : w4.cell? ⟨w.heap.size, 5, none⟩ = some (.slice Ax 0 cx) := (hb4.cell (p := ⟨w.heap.size, 5, none⟩) (by first | (simp; done) | omega)).trans p3_5
  have p4_6 : w4.cell? ⟨w.heap.size, 6, none⟩ = some (.int .i64 b.step) := (hb4.cell (p := ⟨w.heap.size, 6, none⟩) (by first | (simp; done) | omega)).trans p3_6
  have B4 : Below w.heap.size w w4 := B3.trans (hb4.mono B3.size)
  have hz4 : w.heap.size < w4.heap.size := by have := hb4.size; omega
  clear p3_0 p3_1 p3_2 p3_3 p3_4 p3_5 p3_6 hb3
  go_wp2
  go_quiet (fail)
  go_wp2
  go_quiet (fail)
  go_wp2
  go_ret
  exact ⟨rfl, Below.drewN_ (Below.drewN_ B4 _) _⟩
theorem text_any (v : Value) (l s : Bytes) (w : World) (h : Out w v l) (hs : s.length ≤ 1000000000) (hl : l.length ≤ 10000000000) :
    Calls Tryz.prog 87 #[v, str s] w fun e w' => ∃ v', e = .returned v' ∧ Out w' v' (l ++ textB s) ∧ OutTo w v w' v' := by
  obtain ⟨i0, hi0, hz0, hz1, hz2⟩ := info_parts (show (Tryz.prog.info? 5).map (fun i => (i.zero, i.size, i.bytes)) = some (some (.int .u8 0), 1, 1) by kernel_rfl)
  have H := Lib.hid h
  clear h
  have n1 := numI_le s.length
  go_enter Tryz.func87, Tryz.ntmps87
  go_wp2_with fail
  refine (num_int v l _ _ H.out (by omega)).mono ?_
  rintro e w1 ⟨v1, rfl, o1, t1⟩
  have O1 := Lib.hid o1
  have T1 := Lib.hid t1
  clear o1 t1
  go_wp2_with (at_builtin; refine wpList_push_str rfl _ _ 59 9 rfl i0 rfl rfl hi0 hz0 hz1 hz2 v1 _ s rfl O1.out rfl (by simp; omega) (by omega) ?_; intro v2 w2 o2 t2)
  have O2 := Lib.hid o2
  have T2 := Lib.hid (T1.out.trans t2)
  clear o2 t2
  go_wp2
  go_ret
  exact ⟨_, rfl, by simpa [textB] using O2.out, T2.out⟩
theorem place_any (v : Value) (l : Bytes) (c r : Int) (w : World)  (h : Out w v l) (hl : l.length ≤ 1000000000) :
    Calls Tryz.prog 88 #[v, .agg #[.int .i64 c, .int .i64 r]] w fun e w' => ∃ v', e = .returned v' ∧ Out w' v' (l ++ placeB ⟨c, r⟩) ∧ OutTo w v w' v' := by
  have hv : v.ownBlock ≠ some w.heap.size := fun e => by have := h.lt _ e; omega
  have kk : Blk (w.alloc (.cells #[.int .i64 c, .int .i64 r] 56)).drew w.heap.size 56 #[.int .i64 c, .int .i64 r] := (Blk.new _ _ _).drew
  have TT := ((OutTo.refl w v).alloc (.cells #[.int .i64 c, .int .i64 r] 56)).drew
  have oo := (h.alloc (.cells #[.int .i64 c, .int .i64 r] 56)).drew
  clear h
  have n1 := numI_le c
  have n2 := numI_le r
  go_enter Tryz.func88, Tryz.ntmps88
  go_wp2_with fail
  go_region_held3 (fun W : World => W.cell? ⟨w.heap.size, 0, none⟩ = some (.int .i64 c) ∧ W.cell? ⟨w.heap.size, 1, none⟩ = some (.int .i64 r))
    (first
     | exact ⟨kk.cell 0, kk.cell 1⟩)
    (first
     | (go_at_call 84; refine (num_int _ _ _ _ oo (by first | omega | (simp; done) | (simp; omega))).mono ?_; rintro e w1 ⟨v1, rfl, oo, tt⟩; have hv' := tt.ne kk.lt hv; have kk := kk.outTo tt hv; have hv := hv'; have TT := TT.trans tt; clear tt hv'))
  have OO := Lib.hid oo
  have TT := Lib.hid TT
  go_wp2
  go_ret
  exact ⟨_, rfl, by simpa [placeB] using OO.out, TT.out⟩
theorem sets_any (v : Value) (l : Bytes) (a b c : Int) (w : World) (a0 : 0 ≤ a) (a1 : a < 18446744073709551616) (b0 : 0 ≤ b) (b1 : b < 18446744073709551616) (c0 : 0 ≤ c) (c1 : c < 18446744073709551616) (h : Out w v l) (hl : l.length ≤ 1000000000) :
    Calls Tryz.prog 91 #[v, .agg #[.int .u64 a, .int .u64 b, .int .u64 c]] w fun e w' => ∃ v', e = .returned v' ∧ Out w' v' (l ++ setsB ⟨a, b, c⟩) ∧ OutTo w v w' v' := by
  have hv : v.ownBlock ≠ some w.heap.size := fun e => by have := h.lt _ e; omega
  have kk : Blk (w.alloc (.cells #[.int .u64 a, .int .u64 b, .int .u64 c] 46)).drew w.heap.size 46 #[.int .u64 a, .int .u64 b, .int .u64 c] := (Blk.new _ _ _).drew
  have TT := ((OutTo.refl w v).alloc (.cells #[.int .u64 a, .int .u64 b, .int .u64 c] 46)).drew
  have oo := (h.alloc (.cells #[.int .u64 a, .int .u64 b, .int .u64 c] 46)).drew
  clear h
  have n1 := numI_le a
  have n2 := numI_le b
  have n3 := numI_le c
  go_enter Tryz.func91, Tryz.ntmps91
  go_wp2_with fail
  go_region_held3 (fun W : World => W.cell? ⟨w.heap.size, 0, none⟩ = some (.int .u64 a) ∧ W.cell? ⟨w.heap.size, 1, none⟩ = some (.int .u64 b) ∧ W.cell? ⟨w.heap.size, 2, none⟩ = some (.int .u64 c))
    (first
     | exact ⟨kk.cell 0, kk.cell 1, kk.cell 2⟩)
    (first
     | (go_at_call 96; refine (num_u64 _ _ _ _ (by assumption) (by assumption)  oo (by first | omega | (simp; done) | (simp; omega))).mono ?_; rintro e w1 ⟨v1, rfl, oo, tt⟩; have hv' := tt.ne kk.lt hv; have kk := kk.outTo tt hv; have hv := hv'; have TT := TT.trans tt; clear tt hv'))
  have OO := Lib.hid oo
  have TT := Lib.hid TT
  go_wp2
  go_ret
  exact ⟨_, rfl, by simpa [setsB] using OO.out, TT.out⟩
theorem corners_any (v : Value) (l : Bytes) (a b c d : Int) (w : World) (h : Out w v l) (hl : l.length ≤ 1000000000) :
    Calls Tryz.prog 92 #[v, .agg #[.int .i64 a, .int .i64 b, .int .i64 c, .int .i64 d]] w fun e w' => ∃ v', e = .returned v' ∧ Out w' v' (l ++ cornB ⟨a, b, c, d⟩) ∧ OutTo w v w' v' := by
  have H := Lib.hid h
  clear h
  have n1 := numI_le a
  have n2 := numI_le b
  have n3 := numI_le c
  have n4 := numI_le d
  go_enter Tryz.func92, Tryz.ntmps92
  go_wp2_with fail
  have hv : v.ownBlock ≠ some (w.heap.size + 1) := fun e => by have := H.out.lt _ e; omega
  have KK := Lib.hid (show Blk ((w.alloc (.cells #[.int .i64 a, .int .i64 b, .int .i64 c, .int .i64 d] 43)).alloc (.cells #[.int .i64 a, .int .i64 b, .int .i64 c, .int .i64 d] 3)) (w.heap.size + 1) 3 #[.int .i64 a, .int .i64 b, .int .i64 c, .int .i64 d] by have := Blk.new (w.alloc (.cells #[.int .i64 a, .int .i64 b, .int .i64 c, .int .i64 d] 43)) 3 #[.int .i64 a, .int .i64 b, .int .i64 c, .int .i64 d]; simpa using this)
  have hlen : ∀ k, (([a, b, c, d].take k).flatMap numI).length ≤ 36 := by
    intro k
    rcases k with _ | _ | _ | _ | _ | k <;> simp <;> omega
  have HL := Lib.hid hlen
  clear n1 n2 n3 n4 hlen
  go_loopw [0, 17] (fun u i wr => ∃ k : Nat, k ≤ 4 ∧ i = .int .i64 k ∧ Out wr u (l ++ ([a, b, c, d].take k).flatMap numI) ∧ OutTo w v wr u ∧ Blk wr (w.heap.size + 1) 3 #[.int .i64 a, .int .i64 b, .int .i64 c, .int .i64 d] ∧ u.ownBlock ≠ some (w.heap.size + 1)) (fun _ i _ => 4 - (intOf i).toNat)
  case atStart => exact ⟨0, by omega, rfl, by simpa using (H.out.alloc _).alloc _, ((OutTo.refl w v).alloc _).alloc _, KK.out, hv⟩
  case round =>
    obtain ⟨k, hk, rfl, oo, tt, kk, hu⟩ := hrel
    have OO := Lib.hid oo
    have TT := Lib.hid tt
    have KK := Lib.hid kk
    have hl2 := HL.out k
    clear oo tt
    by_cases hlt : k < 4
    · obtain ⟨x, hx, hc, hs⟩ : ∃ x, [a, b, c, d][k]? = some x ∧ (∀ W, Blk W (w.heap.size + 1) 3 #[.int .i64 a, .int .i64 b, .int .i64 c, .int .i64 d] → W.cell? ⟨w.heap.size + 1, k, none⟩ = some (.int .i64 x)) ∧ [a, b, c, d].take (k + 1) = [a, b, c, d].take k ++ [x] := by
        have e : k = 0 ∨ k = 1 ∨ k = 2 ∨ k = 3 := by omega
        rcases e with rfl | rfl | rfl | rfl
        · exact ⟨a, rfl, fun W hW => hW.cell 0, rfl⟩
        · exact ⟨b, rfl, fun W hW => hW.cell 1, rfl⟩
        · exact ⟨c, rfl, fun W hW => hW.cell 2, rfl⟩
        · exact ⟨d, rfl, fun W hW => hW.cell 3, rfl⟩
      have hcw := hc wr kk
      have HS := Lib.hid hs
      have hi0 : (0 : Int) ≤ (k : Int) := by omega
      have hi1 : (k : Int) < 4 := by omega
      have hg := kk.lt
      clear hc hs hx kk
      go_wp2_with fail
      refine (num_int _ _ _ _ OO.out (by rw [List.length_append]; omega)).mono ?_
      rintro e w1 ⟨v1, rfl, o1, t1⟩
      have O1 := Lib.hid o1
      have T1 := Lib.hid (TT.out.trans t1)
      have K1 := Lib.hid (KK.out.outTo t1 hu)
      have hu1 := t1.ne hg hu
      clear o1 t1
      go_wp2
      refine ⟨⟨k + 1, by omega, by go_num, ?_, T1.out, K1.out, hu1⟩, by simp [intOf]; omega⟩
      rw [HS.out]
      simpa using O1.out
    · go_wp2
      go_ret
      obtain rfl : k = 4 := by omega
      exact ⟨_, rfl, by simpa [cornB] using OO.out, TT.out⟩
end Go.Proofs.YtamcgggmfghljaaGreatDoor
