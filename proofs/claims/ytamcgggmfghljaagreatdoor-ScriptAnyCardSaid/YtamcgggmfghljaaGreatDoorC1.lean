/- Closed facts of the program that each row asks: one declaration each (all in one outgrow t · ScriptAny: the closed facts of its row. · Words for memory: what a call changes, blocks, rows of cells, slices that read as lists. N · The shapes of package api as plain data, and what layers 2, 3 and 41 say of them. No progr · What the walks import; small words for walks. · Layer 4 (program): strings changed byte by byte. · Layer 4 (program): printable strings; strings that are texts. · Layer 4 (program): strings that are texts. · Layer 4 (program): capitals. -/
import Derived.Test.YtamcgggmfghljaaGreatDoorRows
import Derived.JoinedOf
import Derived.WalkKit
import Derived.WalkSpells
import Derived.WalkLawsBesides
import Derived.Handy
import Derived.Lib.Hide
import Derived.Deep.MidRow
import Derived.Deep.AppendLies
import Derived.Below
import Derived.Test.YtamcgggmfghljaaGreatDoorProg
import Derived.Laws.IdiomStrings
import Derived.WalkSmall
import Derived.Lib.OthersKept
import Derived.Deep.QuietTactic
import Derived.BigQuiet
set_option maxRecDepth 100000
set_option maxHeartbeats 8000000
namespace Go.Proofs.YtamcgggmfghljaaGreatDoor
open Go.RowKit
namespace facts
theorem laid : laidOutB Tryz.prog = true := by kernel_rfl
theorem rowed : mapsRowed Tryz.prog = true := by kernel_rfl
theorem keys : (Rows.scriptEqualsRow.plainKeys == Tryz.prog.plainKeys) = true := by kernel_rfl
theorem heard : Tryz.prog.stopsHeard = true := by kernel_rfl
theorem enter : Tryz.prog.mayEnter = true := by kernel_rfl
theorem lift : (Rows.scriptEqualsRow.lifted == Tryz.prog.liftsFinal) = true := by kernel_rfl
theorem make : (Tryz.prog.make == some Rows.scriptEqualsRow.make) = true := by kernel_rfl
end facts
namespace scriptAny
theorem fInPlace : (Rows.scriptAnyRow.inPlace == Tryz.prog.inPlace 6) = true := by kernel_rfl
theorem fUnfollowed : (Rows.scriptAnyRow.unfollowed == Tryz.prog.unfollowed 6) = true := by kernel_rfl
theorem fRecurses : (Rows.scriptAnyRow.recurses == Tryz.prog.recurses 6) = true := by kernel_rfl
theorem fNamed : (Rows.scriptAnyRow.named == Tryz.prog.varsNamed 6) = true := by kernel_rfl
theorem closed : joinedFacts Tryz.pinned.checked.prog 6 Tryz.f6 (OpenSpec.ofChange Rows.scriptAnySpec).bare Rows.scriptAnyRow = true := by
  unfold joinedFacts
  simp only [Bool.and_eq_true]
  exact ⟨⟨⟨⟨⟨⟨⟨⟨⟨⟨⟨⟨⟨⟨⟨⟨⟨⟨⟨⟨⟨⟨⟨⟨⟨⟨⟨⟨⟨⟨⟨(by as_aux_lemma => kernel_rfl), facts.laid⟩, facts.rowed⟩, (by as_aux_lemma => kernel_rfl)⟩, (by as_aux_lemma => kernel_rfl)⟩, (by as_aux_lemma => kernel_rfl)⟩, (by as_aux_lemma => kernel_rfl)⟩, (by as_aux_lemma => kernel_rfl)⟩, (by as_aux_lemma => kernel_rfl)⟩, fInPlace⟩, fUnfollowed⟩, fRecurses⟩, fNamed⟩, (by as_aux_lemma => kernel_rfl)⟩, (by as_aux_lemma => kernel_rfl)⟩, (by as_aux_lemma => kernel_rfl)⟩, (by as_aux_lemma => kernel_rfl)⟩, (by as_aux_lemma => kernel_rfl)⟩, (by as_aux_lemma => kernel_rfl)⟩, (by as_aux_lemma => kernel_rfl)⟩, (by as_aux_lemma => kernel_rfl)⟩, (by as_aux_lemma => kernel_rfl)⟩, facts.keys⟩, (by as_aux_lemma => kernel_rfl)⟩, facts.heard⟩, facts.enter⟩, facts.lift⟩, facts.make⟩, (by as_aux_lemma => kernel_rfl)⟩, (by as_aux_lemma => kernel_rfl)⟩, (by as_aux_lemma => kernel_rfl)⟩, (by as_aux_lemma => kernel_rfl)⟩
end scriptAny
/-! ### Worlds -/
/-- Outside the blocks S the world w' is as w was. -/
structure Chg (S : Nat → Prop) (w w' : World) : Prop where
  os : w'.os = w.os
  tape : w'.tape = w.tape
  output : w'.output = w.output
  size : w.heap.size ≤ w'.heap.size
  block : ∀ k, k < w.heap.size → ¬ S k → w'.heap[k]? = w.heap[k]?
theorem Chg.refl (S : Nat → Prop) (w : World) : Chg S w w := ⟨rfl, rfl, rfl, Nat.le_refl _, fun _ _ _ => rfl⟩
theorem Chg.trans {S : Nat → Prop} {a b c : World} (h : Chg S a b) (k : Chg S b c) : Chg S a c :=
  ⟨k.os.trans h.os, k.tape.trans h.tape, k.output.trans h.output, Nat.le_trans h.size k.size, fun i hi hs => (k.block i (Nat.lt_of_lt_of_le hi h.size) hs).trans (h.block i hi hs)⟩
theorem Chg.mono {S T : Nat → Prop} {a b : World} (h : Chg S a b) (hs : ∀ k, k < a.heap.size → S k → T k) : Chg T a b := ⟨h.os, h.tape, h.output, h.size, fun i hi ht => h.block i hi fun s => ht (hs i hi s)⟩
theorem Chg.drew {S : Nat → Prop} {a w : World} (h : Chg S a w) : Chg S a w.drew := ⟨h.os, h.tape, h.output, h.size, h.block⟩
theorem Chg.drewN {S : Nat → Prop} {a w : World} (h : Chg S a w) (n : Nat) : Chg S a (w.drewN n) := ⟨h.os, h.tape, h.output, h.size, h.block⟩
theorem Chg.alloc {S : Nat → Prop} {a w : World} (h : Chg S a w) (o : Obj) : Chg S a (w.alloc o) :=
  h.trans ⟨rfl, rfl, rfl, by simp, fun k hk _ => Below.heap_alloc _ _ _ hk⟩
theorem Chg.setCell {S : Nat → Prop} {a w : World} (h : Chg S a w) {p : Addr} (hp : S p.block ∨ a.heap.size ≤ p.block) (u : Value) : Chg S a (w.setCell p u) :=
  ⟨h.os, h.tape, h.output, by have := h.size; simpa [World.setCell] using this, fun k hk hs => (Below.heap_setCell _ _ _ _ (by rintro rfl; exact hp.elim hs (fun h => by omega))).trans (h.block k hk hs)⟩
theorem Chg.grown {S : Nat → Prop} {a w w' : World} {row : Option Nat} (h : Chg S a w) (hg : w.grownBy w' row) (hr : ∀ k, row = some k → S k ∨ a.heap.size ≤ k) : Chg S a w' :=
  ⟨hg.os.trans h.os, hg.tape.trans h.tape, hg.output.trans h.output, Nat.le_trans h.size hg.size, fun k hk hs => (hg.block k (Nat.lt_of_lt_of_le hk h.size) (fun e => (hr k e.symm).elim hs (fun h => by omega))).trans (h.block k hk hs)⟩
theorem Chg.of_below {B : Nat} {w w' : World} (h : Below B w w') (S : Nat → Prop) (hB : ∀ k, k < w.heap.size → ¬ S k → k < B) : Chg S w w' := ⟨h.os, h.tape, h.output, h.size, fun k hk hs => h.block k (hB k hk hs)⟩
theorem Chg.below {S : Nat → Prop} {w0 w w' : World} (h : Chg S w0 w) (hb : Below w.heap.size w w') : Chg S w0 w' :=
  ⟨hb.os.trans h.os, hb.tape.trans h.tape, hb.output.trans h.output, Nat.le_trans h.size hb.size, fun k hk hs => (hb.block k (Nat.lt_of_lt_of_le hk h.size)).trans (h.block k hk hs)⟩
theorem Chg.to_below {S : Nat → Prop} {B : Nat} {w w' : World} (h : Chg S w w') (hB : B ≤ w.heap.size) (hs : ∀ k, k < B → ¬ S k) : Below B w w' := ⟨h.os, h.tape, h.output, h.size, fun k hk => h.block k (by omega) (hs k hk)⟩
theorem Chg.cell {S : Nat → Prop} {w w' : World} (h : Chg S w w') {p : Addr} (hp : p.block < w.heap.size) (hs : ¬ S p.block) : w'.cell? p = w.cell? p := World.cell?_of_block (w := w) (h.block p.block hp hs)
theorem Chg.frozen {S : Nat → Prop} {w w' : World} (h : Chg S w w') {p : Addr} (hp : p.block < w.heap.size) (hs : ¬ S p.block) : w'.frozen? p = w.frozen? p := World.frozen?_of_block (w := w) (h.block p.block hp hs)
/-- The same world, but for draws. -/
structure Same (w w' : World) : Prop where
  heap : w'.heap = w.heap
  os : w'.os = w.os
  tape : w'.tape = w.tape
  output : w'.output = w.output
theorem Same.refl (w : World) : Same w w := ⟨rfl, rfl, rfl, rfl⟩
theorem Same.trans {a b c : World} (h : Same a b) (k : Same b c) : Same a c := ⟨k.heap.trans h.heap, k.os.trans h.os, k.tape.trans h.tape, k.output.trans h.output⟩
theorem Same.drew {w w' : World} (h : Same w w') : Same w w'.drew := ⟨h.heap, h.os, h.tape, h.output⟩
theorem Same.drewN {w w' : World} (h : Same w w') (n : Nat) : Same w (w'.drewN n) := ⟨h.heap, h.os, h.tape, h.output⟩
theorem Same.cell {w w' : World} (h : Same w w') (a : Addr) : w'.cell? a = w.cell? a := by unfold World.cell?; rw [h.heap]
theorem Same.below {w w' : World} (h : Same w w') (B : Nat) : Below B w w' := ⟨h.os, h.tape, h.output, by rw [h.heap]; exact Nat.le_refl _, fun k _ => by rw [h.heap]⟩
theorem Below.drewN_ {B : Nat} {a w : World} (h : Below B a w) (n : Nat) : Below B a (w.drewN n) := ⟨h.os, h.tape, h.output, h.size, h.block⟩
/-- Two calls, one after the other, each of which makes memory alone. -/
theorem Below.next {B : Nat} {a b c : World} (h : Below B a b) (k : Below b.heap.size b c) (hB : B ≤ b.heap.size) : Below B a c := h.trans (k.mono hB)
theorem Below.next_ {a b c : World} (h : Below a.heap.size a b) (k : Below b.heap.size b c) : Below a.heap.size a c := h.trans (k.mono h.size)
/-! ### Blocks -/
def Blk (w : World) (g : Nat) (t : TypeId) (cs : Array Value) : Prop := w.heap[g]? = some (.cells cs t (0, 0))
section
variable {w w' : World} {g : Nat} {t : TypeId} {cs : Array Value}
theorem Blk.lt (h : Blk w g t cs) : g < w.heap.size := by
  rcases Nat.lt_or_ge g w.heap.size with hlt | hge
  · exact hlt
  · unfold Blk at h; rw [Array.getElem?_eq_none hge] at h; cases h
theorem Blk.cell (h : Blk w g t cs) (i : Nat) : w.cell? ⟨g, i, none⟩ = cs[i]? := cell_of_row w g i cs t (0, 0) h
theorem Blk.frozen (h : Blk w g t cs) (i : Nat) : w.frozen? ⟨g, i, none⟩ = false := by
  unfold Blk at h
  simp [World.frozen?, h]
theorem Blk.new (w : World) (t : TypeId) (cs : Array Value) : Blk (w.alloc (.cells cs t)) w.heap.size t cs := heap_alloc_new w _
theorem Blk.drew (h : Blk w g t cs) : Blk w.drew g t cs := h
theorem Blk.drewN (h : Blk w g t cs) (n : Nat) : Blk (w.drewN n) g t cs := h
theorem Blk.alloc (h : Blk w g t cs) (o : Obj) : Blk (w.alloc o) g t cs := (Below.heap_alloc w o g h.lt).trans h
theorem Blk.set_ (h : Blk w g t cs) (i : Nat) (u : Value) : Blk (w.setCell ⟨g, i, none⟩ u) g t (cs.setIfInBounds i u) := by
  unfold Blk at h ⊢
  simp [World.setCell, Array.getElem?_modify, h]
theorem Blk.far (h : Blk w g t cs) {p : Addr} (hp : g ≠ p.block) (u : Value) : Blk (w.setCell p u) g t cs := (Below.heap_setCell w p u g hp).trans h
theorem Blk.chg {S : Nat → Prop} (h : Blk w g t cs) (hb : Chg S w w') (hg : ¬ S g) : Blk w' g t cs := (hb.block g h.lt hg).trans h
theorem Blk.below {B : Nat} (h : Blk w g t cs) (hb : Below B w w') (hg : g < B) : Blk w' g t cs := (hb.block g hg).trans h
theorem Blk.below_ (h : Blk w g t cs) (hb : Below w.heap.size w w') : Blk w' g t cs := h.below hb h.lt
theorem Blk.same (h : Blk w g t cs) (hb : Same w w') : Blk w' g t cs := by unfold Blk; rw [hb.heap]; exact h
theorem Blk.grown {row : Option Nat} (h : Blk w g t cs) (hb : w.grownBy w' row) (hg : some g ≠ row) : Blk w' g t cs := (hb.block g h.lt hg).trans h
theorem Blk.range (h : Blk w g t cs) {o : Nat} {l : List Value} (hl : ∀ j v, l[j]? = some v → cs[o + j]? = some v) : w.rangeAt g o l := fun j v hv => (h.cell _).trans (hl j v hv)
end
theorem setRow_new (w : World) (cs cs' : Array Value) (t : TypeId) : (w.alloc (.cells cs t)).setRow w.heap.size cs' = w.alloc (.cells cs' t) := by
  have h : ((w.heap.push (Obj.cells cs t)).modify w.heap.size fun
      | .cells _ elem frozen => Obj.cells cs' elem frozen
      | o => o) = w.heap.push (.cells cs' t) := by
    apply Array.ext
    · simp
    · intro i h1 h2
      rw [Array.getElem_modify]
      by_cases e : w.heap.size = i
      · subst e; simp
      · rw [if_neg e, Array.getElem_push, Array.getElem_push]
        have : i < w.heap.size := by simp at h2; omega
        simp [this]
  show World.mk _ _ _ _ _ = World.mk _ _ _ _ _
  exact congrArg (fun H => World.mk H w.tape w.drawn w.os w.output) h
/-! ### Ranges of cells, slices that read as lists -/
theorem range_below {w w' : World} {B b o : Nat} {cs : List Value} (h : w.rangeAt b o cs) (hb : Below B w w') (hlt : b < B) : w'.rangeAt b o cs := fun j v hv => (hb.cell (p := ⟨b, o + j, none⟩) hlt).trans (h j v hv)
theorem range_chg {S : Nat → Prop} {w w' : World} {b o : Nat} {cs : List Value} (h : w.rangeAt b o cs) (hb : Chg S w w') (hlt : b < w.heap.size) (hs : ¬ S b) : w'.rangeAt b o cs := fun j v hv => (hb.cell (p := ⟨b, o + j, none⟩) hlt hs).trans (h j v hv)
theorem range_same {w w' : World} {b o : Nat} {cs : List Value} (h : w.rangeAt b o cs) (hb : Same w w') : w'.rangeAt b o cs := fun j v hv => (hb.cell _).trans (h j v hv)
theorem range_part {w : World} {b o : Nat} {cs l : List Value} (k : Nat) (h : w.rangeAt b o cs) (hl : ∀ j v, l[j]? = some v → cs[k + j]? = some v) : w.rangeAt b (o + k) l := fun j v hv => by
  have := h (k + j) v (hl j v hv)
  rwa [← Nat.add_assoc] at this
/-- The slice value v reads as n elements, whose cells are xs, in blocks below B. -/
def Sl (w : World) (B : Nat) (v : Value) (n : Nat) (xs : List Value) : Prop :=
  ∃ A cap, v = .slice A n cap ∧ n ≤ cap ∧ n ≤ maxLen ∧ (0 < n → ∃ b o, A = some ⟨b, o, none⟩ ∧ b < B ∧ w.rangeAt b o xs)
theorem Sl.below {w w' : World} {B : Nat} {v : Value} {n : Nat} {xs : List Value} (h : Sl w B v n xs) (hb : Below B w w') : Sl w' B v n xs := by
  obtain ⟨A, cap, rfl, h1, hm, h2⟩ := h
  exact ⟨A, cap, rfl, h1, hm, fun hn => by obtain ⟨b, o, e, hlt, hr⟩ := h2 hn; exact ⟨b, o, e, hlt, range_below hr hb hlt⟩⟩
theorem Sl.more {w : World} {B B' : Nat} {v : Value} {n : Nat} {xs : List Value} (h : Sl w B v n xs) (hB : B ≤ B') : Sl w B' v n xs := by
  obtain ⟨A, cap, rfl, h1, hm, h2⟩ := h
  exact ⟨A, cap, rfl, h1, hm, fun hn => by obtain ⟨b, o, e, hlt, hr⟩ := h2 hn; exact ⟨b, o, e, by omega, hr⟩⟩
theorem Sl.same {w w' : World} {B : Nat} {v : Value} {n : Nat} {xs : List Value} (h : Sl w B v n xs) (hb : Same w w') : Sl w' B v n xs := by
  obtain ⟨A, cap, rfl, h1, hm, h2⟩ := h
  exact ⟨A, cap, rfl, h1, hm, fun hn => by obtain ⟨b, o, e, hlt, hr⟩ := h2 hn; exact ⟨b, o, e, hlt, range_same hr hb⟩⟩
theorem Sl.chg {S : Nat → Prop} {w w' : World} {B : Nat} {v : Value} {n : Nat} {xs : List Value} (h : Sl w B v n xs) (hb : Chg S w w') (hB : B ≤ w.heap.size) (hs : ∀ k, k < B → ¬ S k) : Sl w' B v n xs := h.below (hb.to_below hB hs)
/-- .. as a list of elements of k cells each. -/
def Sls {α : Type} (c : α → List Value) (w : World) (B : Nat) (v : Value) (l : List α) : Prop := Sl w B v l.length (l.flatMap c)
theorem flatMap_get {α : Type} (c : α → List Value) (k : Nat) (hk : ∀ x, (c x).length = k) : ∀ (l : List α) (i : Nat) (x : α), l[i]? = some x → ∀ j v, (c x)[j]? = some v → (l.flatMap c)[i * k + j]? = some v
  | [], i, x, h => by simp at h
  | y :: l, 0, x, h => by
    intro j v hj
    simp at h; subst h
    have := (List.getElem?_eq_some_iff.1 hj).1
    rw [List.flatMap_cons, Nat.zero_mul, Nat.zero_add, List.getElem?_append_left this]
    exact hj
  | y :: l, i + 1, x, h => by
    intro j v hj
    simp at h
    have ih := flatMap_get c k hk l i x h j v hj
    rw [List.flatMap_cons, List.getElem?_append_right (by rw [hk, Nat.add_mul]; omega), hk]
    rw [show (i + 1) * k + j - k = i * k + j by rw [Nat.add_mul]; omega]
    exact ih
theorem flatMap_length {α : Type} (c : α → List Value) (k : Nat) (hk : ∀ x, (c x).length = k) (l : List α) : (l.flatMap c).length = l.length * k := by
  induction l with
  | nil => simp
  | cons x l ih => rw [List.flatMap_cons, List.length_append, ih, hk, List.length_cons, Nat.add_mul]; omega
theorem Sls.get {α : Type} {c : α → List Value} {w : World} {B : Nat} {A : Option Addr} {n cap : Nat} {l : List α} (h : Sls c w B (.slice A n cap) l) (k : Nat) (hk : ∀ x, (c x).length = k) {i : Nat} {x : α} (hi : l[i]? = some x) :
    ∃ b o, A = some ⟨b, o, none⟩ ∧ b < B ∧ w.rangeAt b (o + i * k) (c x) := by
  obtain ⟨A', cap', e, h1, hm, h2⟩ := h
  have hl := (List.getElem?_eq_some_iff.1 hi).1
  obtain ⟨b, o, eA, hlt, hr⟩ := h2 (by omega)
  injection e with e1 e2 e3
  exact ⟨b, o, e1.trans eA, hlt, range_part (i * k) hr (flatMap_get c k hk l i x hi)⟩
theorem Sls.len {α : Type} {c : α → List Value} {w : World} {B : Nat} {A : Option Addr} {n cap : Nat} {l : List α} (h : Sls c w B (.slice A n cap) l) : n = l.length ∧ n ≤ cap ∧ n ≤ maxLen := by
  obtain ⟨A', cap', e, h1, hm, h2⟩ := h
  injection e with e1 e2 e3
  exact ⟨e2, by omega, by omega⟩
theorem Sls.below {α : Type} {c : α → List Value} {w w' : World} {B : Nat} {v : Value} {l : List α} (h : Sls c w B v l) (hb : Below B w w') : Sls c w' B v l := Sl.below h hb
theorem Sls.more {α : Type} {c : α → List Value} {w : World} {B B' : Nat} {v : Value} {l : List α} (h : Sls c w B v l) (hB : B ≤ B') : Sls c w B' v l := Sl.more h hB
theorem Sls.same {α : Type} {c : α → List Value} {w w' : World} {B : Nat} {v : Value} {l : List α} (h : Sls c w B v l) (hb : Same w w') : Sls c w' B v l := Sl.same h hb
theorem Sls.nil {α : Type} (c : α → List Value) (w : World) (B : Nat) (A : Option Addr) (cap : Nat) : Sls c w B (.slice A 0 cap) [] := ⟨A, cap, rfl, by simp, by simp, fun h => by simp at h⟩
/-- What the call owns reads as a list. -/
theorem Sls.of_own {α : Type} {c : α → List Value} {w : World} {base : Nat} {e : TypeId} {size : Nat} {v : Value} {l : List α} (h : w.ownsRow base e size v l.length (l.flatMap c)) (hm : l.length ≤ maxLen) : Sls c w w.heap.size v l := by
  by_cases hn : 0 < l.length
  · obtain ⟨g, cap, rfl, _, hlt⟩ := h.form hn
    have hc : l.length ≤ cap := by
      obtain ⟨_, h2⟩ := h
      rcases h2 with ⟨e, _⟩ | ⟨g', cap', cur, e, _, _, hcap, _⟩
      · injection e with e1 e2 e3; omega
      · injection e with e1 e2 e3; omega
    exact ⟨_, cap, rfl, hc, hm, fun _ => ⟨g, 0, rfl, hlt, fun j u hu => by have := (h.cells (g := g) rfl) j u hu; rw [Addr.add_mid] at this; exact this⟩⟩
  · have h0 : l.length = 0 := by omega
    obtain ⟨_, h2⟩ := h
    rcases h2 with ⟨e, _⟩ | ⟨g', cap', cur, e, _⟩
    · exact ⟨none, 0, by rw [e, h0], by omega, by omega, fun hp => absurd hp hn⟩
    · exact ⟨_, cap', e, by omega, by omega, fun hp => absurd hp hn⟩
abbrev Bytes := List UInt8
structure Ref where
  col : Int
  row : Int
  deriving DecidableEq
structure Rct where
  c1 : Int
  r1 : Int
  c2 : Int
  r2 : Int
  deriving DecidableEq
structure Rts where
  rd : Int
  wr : Int
  ow : Int
  deriving DecidableEq
structure Ent where
  at_ : Ref
  input : Bytes
  deriving DecidableEq
structure Rul where
  rect : Rct
  rights : Rts
  deriving DecidableEq
structure Grt where
  rect : Rct
  fns : Int
  to_ : Int
  by_ : Int
  revoked : Bool
  deriving DecidableEq
structure Evt where
  step : Int
  user : Int
  kind : Int
  rect : Rct
  done_ : Bool
  to_ : Int
  deriving DecidableEq
structure Rls where
  step : Int
  at_ : Ref
  node : Int
  fn : Int
  rect : Rct
  grant : Int
  to_ : Int
  deriving DecidableEq
structure Bok where
  users : Int
  entries : List Ent
  rules : List Rul
  grants : List Grt
  log : List Evt
  releases : List Rls
  step : Int
  deriving DecidableEq
structure Opr where
  kind : Int
  user : Int
  rect : Rct
  input : Bytes
  rights : Rts
  fns : Int
  to_ : Int
  index : Int
  deriving DecidableEq
structure Scp where
  book : Bok
  ops : List Opr
  deriving DecidableEq
/-! ### Numbers as text -/
def dig (n : Nat) : UInt8 := .ofNat (48 + n % 10)
/-- The decimal digits of a number. -/
def digits : Nat → Bytes
  | n => if _h : n < 10 then [dig n] else digits (n / 10) ++ [dig n]
termination_by n => n
decreasing_by omega
/-- The letters of a column. -/
def letters : Nat → Bytes
  | 0 => []
  | n + 1 => letters (n / 26) ++ [.ofNat (65 + n % 26)]
termination_by n => n
decreasing_by omega
def validB (c r : Int) : Bool := decide (1 ≤ c) && decide (c ≤ 1024) && decide (1 ≤ r) && decide (r ≤ 1024)
def fmtRef (r : Ref) : Bytes := if validB r.col r.row then letters r.col.toNat ++ digits r.row.toNat else []
def rctB (x : Rct) : Bool := validB x.c1 x.r1 && validB x.c2 x.r2 && decide (x.c1 ≤ x.c2) && decide (x.r1 ≤ x.r2)
def fmtRct (x : Rct) : Bytes :=
  if rctB x then (if x.c1 = x.c2 ∧ x.r1 = x.r2 then fmtRef ⟨x.c1, x.r1⟩ else fmtRef ⟨x.c1, x.r1⟩ ++ 58 :: fmtRef ⟨x.c2, x.r2⟩) else []
def lessB (a b : Ref) : Bool := decide (a.row < b.row) || decide (a.row = b.row) && decide (a.col < b.col)
/-! ### What bytes are read as -/
def take (n : Int) : Bytes → Int × Bytes
  | [] => (0, [])
  | c :: t => ((c.toNat : Int) % n, t)
def spot (s : Bytes) : Ref × Bytes := (⟨1 + (take 3 s).1, 1 + (take 4 (take 3 s).2).1⟩, (take 4 (take 3 s).2).2)
def field (s : Bytes) : Rct × Bytes :=
  let a := spot s
  let x := take 2 a.2
  let y := take 3 x.2
  (⟨a.1.col, a.1.row, a.1.col + x.1, a.1.row + y.1⟩, y.2)
def crowd (users : Nat) (s : Bytes) : Int × Bytes := take (2 ^ users) s
def crowds (users : Nat) (s : Bytes) : Rts × Bytes :=
  let a := crowd users s
  let b := crowd users a.2
  let c := crowd users b.2
  (⟨a.1, b.1, c.1⟩, c.2)
def spotText (s : Bytes) : Bytes × Bytes := (fmtRef (spot s).1, (spot s).2)
def fieldText (s : Bytes) : Bytes × Bytes := (fmtRct (field s).1, (field s).2)
def content (s : Bytes) : Bytes × Bytes :=
  let k := take 12 s
  if k.1 = 0 then ([], k.2)
  else if k.1 = 1 then (digits (take 10 k.2).1.toNat, (take 10 k.2).2)
  else if k.1 = 2 then ([120], k.2)
  else if k.1 = 3 then ([84, 82, 85, 69], k.2)
  else if k.1 = 4 then ([35, 78, 47, 65], k.2)
  else if k.1 = 5 then (61 :: (spotText k.2).1, (spotText k.2).2)
  else if k.1 = 6 then (61 :: (spotText k.2).1 ++ 43 :: (spotText (spotText k.2).2).1, (spotText (spotText k.2).2).2)
  else if k.1 = 7 then ([61, 83, 85, 77, 40] ++ (fieldText k.2).1 ++ [41], (fieldText k.2).2)
  else if k.1 = 8 then ([61, 68, 83, 85, 77, 40] ++ (fieldText k.2).1 ++ [41], (fieldText k.2).2)
  else if k.1 = 9 then ([61, 68, 67, 79, 85, 78, 84, 40] ++ (fieldText k.2).1 ++ [41], (fieldText k.2).2)
  else if k.1 = 10 then ([61, 73, 70, 69, 82, 82, 79, 82, 40] ++ (spotText k.2).1 ++ [44, 48, 41], (spotText k.2).2)
  else ([61, 49, 47] ++ (spotText k.2).1, (spotText k.2).2)
theorem take_le (n : Int) (s : Bytes) : (take n s).2.length ≤ s.length := by cases s <;> simp [take]
theorem take_lt (n : Int) (s : Bytes) (h : s ≠ []) : (take n s).2.length < s.length := by
  cases s with
  | nil => exact absurd rfl h
  | cons c t => simp [take]
theorem take_bd (n : Int) (hn : 0 < n) (s : Bytes) : 0 ≤ (take n s).1 ∧ (take n s).1 < n := by
  cases s with
  | nil => simp [take]; omega
  | cons c t => exact ⟨Int.emod_nonneg _ (by omega), Int.emod_lt_of_pos _ hn⟩
/-! ### Tests in a row, decided one by one -/
theorem chain2 (a b : Prop) : (a ∧ b) ∨ ¬ a ∨ (a ∧ ¬ b) := by
  by_cases a <;> by_cases b <;> simp_all
theorem chain4 (a b c d : Prop) : (a ∧ b ∧ c ∧ d) ∨ ¬ a ∨ (a ∧ ¬ b) ∨ (a ∧ b ∧ ¬ c) ∨ (a ∧ b ∧ c ∧ ¬ d) := by
  by_cases a <;> by_cases b <;> by_cases c <;> by_cases d <;> simp_all
theorem bytes_app (a b : Bytes) : (⟨a.toArray⟩ : ByteArray) ++ ⟨b.toArray⟩ = ⟨(a ++ b).toArray⟩ := by
  apply ByteArray.ext
  simp
theorem bytes_cons (a : UInt8) (b : Bytes) : (⟨#[a]⟩ : ByteArray) ++ ⟨b.toArray⟩ = ⟨(a :: b).toArray⟩ := bytes_app [a] b
theorem ret_int {k : IntKind} {a b : Int} (h : a = b) : Ending.returned (.int k a) = .returned (.int k b) := by rw [h]
/-- A string of Go's, by its bytes. -/
abbrev str (l : Bytes) : Value := .string ⟨l.toArray⟩
theorem addr_add0 (b j : Nat) : (⟨b, 0, none⟩ : Addr).add j = ⟨b, j, none⟩ := by unfold Addr.add; split <;> simp_all
/-- A row of a conversion's make: its cells, the mark behind them. -/
def Rowb (w : World) (g : Nat) (cs : Array Value) : Prop := w.heap[g]? = some (.cells cs 5 (cs.size, cs.size + 1))
section
variable {w : World} {g : Nat} {cs : Array Value}
theorem Rowb.cell (h : Rowb w g cs) (i : Nat) : w.cell? ⟨g, i, none⟩ = cs[i]? := by simp [World.cell?, show w.heap[g]? = _ from h]
theorem Rowb.frozen (h : Rowb w g cs) (i : Nat) (hi : i < cs.size) : w.frozen? ⟨g, i, none⟩ = false := by
  simp [World.frozen?, show w.heap[g]? = _ from h]
  omega
theorem Rowb.lt (h : Rowb w g cs) : g < w.heap.size := by
  rcases Nat.lt_or_ge g w.heap.size with hlt | hge
  · exact hlt
  · unfold Rowb at h; rw [Array.getElem?_eq_none hge] at h; cases h
theorem Rowb.set_ (h : Rowb w g cs) (i : Nat) (u : Value) : Rowb (w.setCell ⟨g, i, none⟩ u) g (cs.setIfInBounds i u) := by
  unfold Rowb at h ⊢
  simp [World.setCell, Array.getElem?_modify, h]
theorem Rowb.drew (h : Rowb w g cs) : Rowb w.drew g cs := h
theorem Rowb.below {w' : World} {B : Nat} (h : Rowb w g cs) (hb : Below B w w') (hg : g < B) : Rowb w' g cs := (hb.block g hg).trans h
end
/-- What a function of bytes does. -/
def Maps1 (v : Value) (φ : UInt8 → UInt8) (w0 : World) : Prop :=
  ∃ K fs, v = .func (.func K) #[] fs ∧ (∀ (args : Array Value) (w : World), (callFunc K args).run Tryz.prog w = .ok (.enter K args) w) ∧ ∀ (c : UInt8) (w : World), Below w0.heap.size w0 w → Calls Tryz.prog K (#[.int .u8 c.toNat] ++ fs) w fun e w' => e = .returned (.int .u8 (φ c).toNat) ∧ Below w.heap.size w w'
def prC (c : UInt8) : UInt8 := if c.toNat < 32 ∨ 126 < c.toNat then 0 else 32
theorem pr_1 (c : UInt8) (w : World) :
    Calls Tryz.prog 193 #[.int .u8 c.toNat] w fun u w' => u = .returned (.int .u8 (prC c).toNat) ∧ Below w.heap.size w w' := by
  have hc := c.toNat_lt
  by_cases h1 : c.toNat < 32
  · have H := Lib.hid (show prC c = 0 by unfold prC; rw [if_pos (.inl h1)])
    go_enter Tryz.func193, Tryz.ntmps193
    go_wp2
    go_ret
    exact ⟨by rw [H.out]; rfl, by go_grown⟩
  · by_cases h2 : 126 < c.toNat
    · have H := Lib.hid (show prC c = 0 by unfold prC; rw [if_pos (.inr h2)])
      go_enter Tryz.func193, Tryz.ntmps193
      go_wp2
      go_ret
      exact ⟨by rw [H.out]; rfl, by go_grown⟩
    · have H := Lib.hid (show prC c = 32 by unfold prC; rw [if_neg (by omega)])
      go_enter Tryz.func193, Tryz.ntmps193
      go_wp2
      go_ret
      exact ⟨by rw [H.out]; rfl, by go_grown⟩
theorem changed_any (s : Bytes) (f : Value) (φ : UInt8 → UInt8) (w : World) (hs : s.length ≤ 1000000) (hf : Maps1 f φ w) :
    Calls Tryz.prog 192 #[str s, f] w fun u w' => ∃ (g cap : Nat) (cs : Array Value), u = .returned (.slice (some ⟨g, 0, none⟩) s.length cap) ∧ Rowb w' g cs ∧ w.heap.size ≤ g ∧ (∀ (j : Nat) (c : UInt8), s[j]? = some c → cs[j]? = some (.int .u8 (φ c).toNat)) ∧ Below w.heap.size w w' := by
  obtain ⟨K, fs, rfl, hE, hK⟩ := hf
  have HK := Lib.hid hK
  clear hK
  have hcv := run_bytes_of_string (P := Tryz.prog) w 9 59 5 ⟨s.toArray⟩ rfl rfl rfl
  have hsz : (⟨s.toArray⟩ : ByteArray).size = s.length := by show s.toArray.size = _; simp
  rw [hsz] at hcv
  generalize hcap : grownCap w s.length 0 5 = cap at hcv
  have hge : s.length ≤ cap := hcap ▸ grownCap_ge w s.length 0 5
  generalize hrow : bytesRow ⟨s.toArray⟩ cap = row at hcv
  have hat : ∀ (j : Nat) (c : UInt8), s[j]? = some c → row[j]? = some (.int .u8 c.toNat) := fun j c hj => by
    have hjl := (List.getElem?_eq_some_iff.1 hj).1
    rw [← hrow, bytesRow_at _ cap j (by simpa using hjl)]
    have : s[j] = c := by rw [List.getElem?_eq_getElem hjl] at hj; simpa using hj
    simp [this]
  have hrs : s.length ≤ row.size := by
    rw [← hrow]
    simp [bytesRow]
  have HR := Lib.hid hat
  clear hat hcap hrow
  have H1 := Lib.hid (show Rowb (w.alloc (.cells row 5 (row.size, row.size + 1))).drew w.heap.size row from heap_alloc_new w _)
  go_enter Tryz.func192, Tryz.ntmps192
  go_wp2
  go_loopw [12] (fun i wr => ∃ (k : Nat) (cs : Array Value), k ≤ s.length ∧ i = .int .i64 k ∧ Rowb wr w.heap.size cs ∧ s.length ≤ cs.size ∧ (∀ (j : Nat) (c : UInt8), s[j]? = some c → cs[j]? = some (.int .u8 (if j < k then φ c else c).toNat)) ∧ Below w.heap.size w wr) (fun i _ => s.length - (intOf i).toNat)
  case atStart => exact ⟨0, row, by omega, rfl, H1.out, hrs, by simpa using HR.out, by go_grown⟩
  case round =>
    obtain ⟨k, cs, hk, rfl, hrb, hcs, hall, hbw⟩ := hrel
    have RB := Lib.hid hrb
    have HA := Lib.hid hall
    have HBW := Lib.hid hbw
    by_cases hlt : k < s.length
    · have hx : s[k]? = some s[k] := List.getElem?_eq_getElem hlt
      have hc0 := (hrb.cell k).trans (hall k _ hx)
      rw [if_neg (by omega)] at hc0
      have hlw := hrb.lt
      have HX := Lib.hid hx
      clear hrb hall hbw hx
      generalize s[k] = c at *
      have hi0 : (0 : Int) ≤ (k : Int) := Int.natCast_nonneg _
      have hi1 : (k : Int) < (s.length : Int) := by omega
      go_wp2_with fail
      refine (HK.out c _ HBW.out).mono ?_
      rintro e w1 ⟨rfl, hb1⟩
      have r1 := Rowb.below RB.out hb1 hlw
      have hf1 := r1.frozen k (by omega)
      have hc1 := (r1.cell k).trans (HA.out k c HX.out)
      have R1 := Lib.hid r1
      have B1 := Lib.hid (HBW.out.trans (hb1.mono HBW.out.size))
      clear r1 hb1 hc0
      go_wp2
      refine ⟨⟨k + 1, cs.setIfInBounds k (.int .u8 (φ c).toNat), by omega, by go_num, R1.out.set_ k _, by simpa using hcs, fun j d hj => ?_, B1.out.setCell (Nat.le_refl _) _⟩, by simp [intOf]; omega⟩
      have h0 := HA.out j d hj
      have hjl := (List.getElem?_eq_some_iff.1 hj).1
      by_cases hjk : j = k
      · subst hjk
        rw [Array.getElem?_setIfInBounds_self_of_lt (by omega), if_pos (by omega)]
        have := HX.out.symm.trans hj
        simp at this
        rw [this]
      · rw [Array.getElem?_setIfInBounds_ne (by omega), h0]
        by_cases hjk2 : j < k
        · rw [if_pos hjk2, if_pos (by omega)]
        · rw [if_neg hjk2, if_neg (by omega)]
    · go_wp2
      go_ret
      obtain rfl : k = s.length := by omega
      refine ⟨_, _, cs, rfl, RB.out, Nat.le_refl _, fun j c hj => ?_, HBW.out⟩
      have hjl := (List.getElem?_eq_some_iff.1 hj).1
      have := HA.out j c hj
      rwa [if_pos hjl] at this
theorem pr_2 (c : Nat) (w : World) :
    Calls Tryz.prog 194 #[.int .i32 c] w fun u w' => u = .returned (.bool (decide (c = 0))) ∧ w = w' := by
  by_cases h : c = 0
  · have h1 : ((c : Int) == 0) = true := by simp [h]
    have H := Lib.hid h
    clear h
    go_enter Tryz.func194, Tryz.ntmps194
    go_wp2
    go_ret
    exact ⟨by simp [H.out], rfl⟩
  · have h1 : ((c : Int) == 0) = false := by simpa using h
    have H := Lib.hid h
    clear h
    go_enter Tryz.func194, Tryz.ntmps194
    go_wp2
    go_ret
    exact ⟨by simp [H.out], rfl⟩
theorem index_pr (s : Bytes) (w : World) (_hs : s.length ≤ 1000000) (ha : ∀ c ∈ s, c.toNat < 128) :
    Calls Tryz.prog 210 #[str s, .func (.func 194) #[] #[], .bool true] w fun u w' => ∃ i, u = .returned (.int .i64 i) ∧ decide (i < 0) = s.all (fun c => c.toNat ≠ 0) ∧ Below w.heap.size w w' := by
  have hk0 : (w.iter ⟨s.toArray⟩ 0).heap[w.heap.size]? = some (.stringIter ⟨s.toArray⟩ 0) := World.iter_heap w _ 0
  have hb0 : Below w.heap.size w (w.iter ⟨s.toArray⟩ 0) := (Below.refl _ w).alloc (Nat.le_refl _) _
  have hsz : (⟨s.toArray⟩ : ByteArray).size = s.length := by show s.toArray.size = _; simp
  have HA := Lib.hid ha
  have HS := Lib.hid hsz
  clear ha hsz
  go_enter Tryz.func210, Tryz.ntmps210
  go_wp2
  go_loopw [7] (fun _ wr => ∃ pos : Nat, pos ≤ s.length ∧ wr.heap[w.heap.size]? = some (.stringIter ⟨s.toArray⟩ pos) ∧ (s.take pos).all (fun c => c.toNat ≠ 0) = true ∧ Below w.heap.size w wr)
    (fun _ wr => s.length - wr.iterPos w.heap.size)
  case atStart => exact ⟨0, Nat.zero_le _, hk0, by simp, hb0⟩
  case round =>
    obtain ⟨pos, hps, hk, hall, hnx⟩ := hrel
    clear hk0 hb0
    have hsz := HS.out
    have HAL := Lib.hid hall
    have HNX := Lib.hid hnx
    clear hall
    by_cases hp : pos < s.length
    · have hx : s[pos]? = some s[pos] := List.getElem?_eq_getElem hp
      have hm := HA.out _ (List.getElem_mem hp)
      have htk : s.take (pos + 1) = s.take pos ++ [s[pos]] := by rw [List.take_succ_eq_append_getElem hp]
      have HT := Lib.hid htk
      have hp' : pos < (⟨s.toArray⟩ : ByteArray).size := by omega
      have h128 : ((⟨s.toArray⟩ : ByteArray)[pos]'hp').toNat < 128 := hm
      have hnext : ∀ ty, (Instr.next (.pointer (some ⟨w.heap.size, 0, none⟩)) true ty).run Tryz.prog wr = .ok (.tuple #[.bool true, .int .i64 pos, .int .i32 ((s[pos]'hp).toNat)]) (wr.iterAt w.heap.size ⟨s.toArray⟩ (pos + 1)) := fun ty => Lib.run_next_ascii_at wr w.heap.size ⟨s.toArray⟩ pos ty hk hp' h128
      have hk1 := Lib.iterAt_heap wr w.heap.size ⟨s.toArray⟩ pos (pos + 1) hk
      have hnx1 : Below w.heap.size w (wr.iterAt w.heap.size ⟨s.toArray⟩ (pos + 1)) := Lib.below_iterAt hnx (Nat.le_refl _) _ (pos + 1)
      have hmu : wr.iterPos w.heap.size = pos := by simp [World.iterPos, hk]
      have HX := Lib.hid hx
      have HMU := Lib.hid hmu
      have HK1 := Lib.hid hk1
      have HN1 := Lib.hid hnx1
      clear hnx hk hx htk hm h128 hmu hk1 hnx1 hp' hsz
      generalize wr.iterAt w.heap.size ⟨s.toArray⟩ (pos + 1) = W1 at *
      generalize s[pos] = c at *
      go_wp2_with fail
      refine (pr_2 _ _).mono ?_
      rintro e w2 ⟨rfl, rfl⟩
      by_cases hc : c.toNat = 0
      · rw [decide_eq_true hc]
        go_wp2
        go_ret
        refine ⟨_, rfl, ?_, HN1.out⟩
        rw [decide_eq_false (by omega)]
        symm
        rw [List.all_eq_false]
        exact ⟨c, List.mem_of_getElem? HX.out, by simp [hc]⟩
      · rw [decide_eq_false hc]
        go_wp2
        refine ⟨⟨pos + 1, by omega, HK1.out, ?_, HN1.out⟩, ?_⟩
        · rw [HT.out, List.all_append, HAL.out]
          simpa using hc
        · rw [HMU.out, show W1.iterPos w.heap.size = pos + 1 by have := HK1.out; simp [World.iterPos, this]]
          omega
    · have hnext : ∀ ty, (Instr.next (.pointer (some ⟨w.heap.size, 0, none⟩)) true ty).run Tryz.prog wr = .ok (.tuple #[.bool false]) wr := fun ty => Lib.run_next_end_at wr w.heap.size ⟨s.toArray⟩ pos ty hk (by omega)
      clear hsz hk hnx
      go_wp2
      go_ret
      refine ⟨_, rfl, ?_, HNX.out⟩
      have := HAL.out
      rw [List.take_of_length_le (by omega)] at this
      rw [this]
      rfl
def prB (s : Bytes) : Bool := s.all fun c => decide (32 ≤ c.toNat) && decide (c.toNat ≤ 126)
theorem pr_all (s : Bytes) : (s.map prC).all (fun c => decide (c.toNat ≠ 0)) = prB s := by
  unfold prB
  rw [List.all_map]
  congr 1
  funext c
  simp only [Function.comp, prC]
  split
  · rename_i h
    rcases h with h | h
    · simp; omega
    · simp; omega
  · rename_i h
    simp; omega
theorem pr_ascii (s : Bytes) : ∀ c ∈ s.map prC, c.toNat < 128 := by
  intro c hc
  obtain ⟨d, _, rfl⟩ := List.mem_map.1 hc
  unfold prC
  split <;> decide
theorem pr_maps (w : World) : Maps1 (.func (.func 193) #[] #[]) prC w := ⟨_, _, rfl, fun args w => by simp [go_sem], fun c w _ => pr_1 c w⟩
theorem index_top (s : Bytes) (w : World) (hs : s.length ≤ 1000000) (ha : ∀ c ∈ s, c.toNat < 128) :
    Calls Tryz.prog 191 #[str s, .func (.func 194) #[] #[]] w fun u w' => ∃ i, u = .returned (.int .i64 i) ∧ decide (i < 0) = s.all (fun c => c.toNat ≠ 0) ∧ Below w.heap.size w w' := by
  have HA := Lib.hid ha
  clear ha
  go_enter Tryz.func191, Tryz.ntmps191
  go_wp2_with fail
  refine (index_pr s _ hs HA.out).mono ?_
  rintro e w1 ⟨i, rfl, hi, hb⟩
  have HI := Lib.hid hi
  clear hi
  go_wp2
  go_ret
  exact ⟨i, rfl, HI.out, hb⟩
theorem printable_any (s : Bytes) (w : World) (hs : s.length ≤ 1000000) :
    Calls Tryz.prog 144 #[str s] w fun u w' => u = .returned (.bool (prB s)) ∧ Below w.heap.size w w' := by
  have HM := Lib.hid (pr_maps w)
  go_enter Tryz.func144, Tryz.ntmps144
  go_wp2_with fail
  refine (changed_any s _ prC _ hs HM.out).mono ?_
  rintro e w1 ⟨g, cap, cs, rfl, hr, hg, hc, hb⟩
  have hcv := run_convert_bytes_back (P := Tryz.prog) w1 59 9 5 ⟨g, 0, none⟩ cap (s.map prC) rfl rfl rfl (fun j hj => by
    have hj' : j < s.length := by simpa using hj
    have h1 := hc j _ (List.getElem?_eq_getElem hj')
    rw [addr_add0, hr.cell, h1]
    simp)
  rw [List.length_map] at hcv
  have HB := Lib.hid hb
  clear hr hg hc hb
  go_wp2_with fail
  refine (index_top (s.map prC) _ (by simpa using hs) (pr_ascii s)).mono ?_
  rintro e w2 ⟨i, rfl, hi, hb⟩
  rw [pr_all] at hi
  have HI := Lib.hid hi
  have HB2 := Lib.hid (Below.next_ HB.out hb)
  clear hi hb
  go_wp2
  go_ret
  exact ⟨by rw [← HI.out]; rfl, HB2.out⟩
def txtE (s : Bytes) : Int := if 256 < s.length then 5 else if prB s then 0 else 4
theorem glyph_check (s : Bytes) (w : World) (hs : s.length ≤ 140737488355328) :
    Calls Tryz.prog 56 #[str s] w fun u w' => u = .returned (.int .i64 (txtE s)) ∧ Below w.heap.size w w' := by
  by_cases hl : 256 < s.length
  · have H := Lib.hid (show txtE s = 5 by unfold txtE; rw [if_pos hl])
    go_enter Tryz.func56, Tryz.ntmps56
    go_wp2
    go_ret
    exact ⟨by rw [H.out]; rfl, by go_grown⟩
  · have H := Lib.hid (show txtE s = if prB s then 0 else 4 by unfold txtE; rw [if_neg hl])
    go_enter Tryz.func56, Tryz.ntmps56
    go_wp2_with fail
    refine (printable_any s _ (by omega)).mono ?_
    rintro e w1 ⟨rfl, hb⟩
    cases hp : prB s
    · go_wp2
      go_ret
      exact ⟨by rw [H.out, hp]; rfl, hb⟩
    · go_wp2
      go_ret
      exact ⟨by rw [H.out, hp]; rfl, hb⟩
def upC (c : UInt8) : UInt8 := if 97 ≤ c.toNat ∧ c.toNat ≤ 122 then UInt8.ofNat (c.toNat - 32) else c
def upB (s : Bytes) : Bytes := s.map upC
theorem moved_1 (c : UInt8) (g1 g2 : Nat) (w : World) (h1 : w.cell? ⟨g1, 0, none⟩ = some (.int .u8 97)) (h2 : w.cell? ⟨g2, 0, none⟩ = some (.int .i64 (-32))) :
    Calls Tryz.prog 301 #[.int .u8 c.toNat, .pointer (some ⟨g1, 0, none⟩), .pointer (some ⟨g2, 0, none⟩)] w fun u w' => u = .returned (.int .u8 (upC c).toNat) ∧ Below w.heap.size w w' := by
  have hc := c.toNat_lt
  by_cases c1 : 97 ≤ c.toNat
  · by_cases c2 : c.toNat ≤ 122
    · have H := Lib.hid (show ((upC c).toNat : Int) = (c.toNat : Int) - 32 by
        unfold upC
        rw [if_pos ⟨c1, c2⟩, UInt8.toNat_ofNat']
        omega)
      go_enter Tryz.func301, Tryz.ntmps301
      go_wp2
      go_ret
      exact ⟨by rw [H.out]; rfl, by go_grown⟩
    · have H := Lib.hid (show upC c = c by unfold upC; rw [if_neg (by omega)])
      go_enter Tryz.func301, Tryz.ntmps301
      go_wp2
      go_ret
      exact ⟨by rw [H.out]; rfl, by go_grown⟩
  · have H := Lib.hid (show upC c = c by unfold upC; rw [if_neg (by omega)])
    go_enter Tryz.func301, Tryz.ntmps301
    go_wp2
    go_ret
    exact ⟨by rw [H.out]; rfl, by go_grown⟩
theorem moved_any (s : Bytes) (w : World) (hs : s.length ≤ 1000000) :
    Calls Tryz.prog 272 #[str s, .int .u8 97, .int .i64 (-32)] w fun u w' => u = .returned (str (upB s)) ∧ Below w.heap.size w w' := by
  have HM := Lib.hid (show Maps1 (.func (.func 301) #[] #[.pointer (some ⟨w.heap.size, 0, none⟩), .pointer (some ⟨w.heap.size + 1, 0, none⟩)]) upC ((w.alloc (.cells #[.int .u8 97] 5)).alloc (.cells #[.int .i64 (-32)] 3)) from
    ⟨_, _, rfl, fun args w => by simp [go_sem], fun c W hW => moved_1 c w.heap.size (w.heap.size + 1) W
      ((hW.cell (p := ⟨w.heap.size, 0, none⟩) (by simp; omega)).trans (by simp))
      ((hW.cell (p := ⟨w.heap.size + 1, 0, none⟩) (by simp)).trans (by simp))⟩)
  go_enter Tryz.func272, Tryz.ntmps272
  go_wp2_with fail
  refine (changed_any s _ upC _ hs HM.out).mono ?_
  rintro e w1 ⟨g, cap, cs, rfl, hr, hg, hc, hb⟩
  have hcv := run_convert_bytes_back (P := Tryz.prog) w1 59 9 5 ⟨g, 0, none⟩ cap (s.map upC) rfl rfl rfl (fun j hj => by
    have hj' : j < s.length := by simpa using hj
    have h1 := hc j _ (List.getElem?_eq_getElem hj')
    rw [addr_add0, hr.cell, h1]
    simp)
  rw [List.length_map] at hcv
  have HB := Lib.hid (show Below w.heap.size w w1 from Below.next (by go_grown) hb (by simp; omega))
  clear hr hg hc hb
  go_wp2
  go_ret
  exact ⟨rfl, HB.out⟩
theorem upper_any (s : Bytes) (w : World) (hs : s.length ≤ 1000000) :
    Calls Tryz.prog 243 #[str s] w fun u w' => u = .returned (str (upB s)) ∧ Below w.heap.size w w' := by
  go_enter Tryz.func243, Tryz.ntmps243
  go_wp2_with fail
  refine (moved_any s _ hs).mono ?_
  rintro e w1 ⟨rfl, hb⟩
  go_wp2
  go_ret
  exact ⟨rfl, hb⟩
end Go.Proofs.YtamcgggmfghljaaGreatDoor
