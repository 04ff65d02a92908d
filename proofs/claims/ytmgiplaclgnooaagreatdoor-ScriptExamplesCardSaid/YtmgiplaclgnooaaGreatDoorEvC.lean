/- Memory of our own machine, and how it stands for the model's. -/
import Derived.Test.YtmgiplaclgnooaaGreatDoorEvB
set_option maxRecDepth 10000
namespace Go.Proofs.YtmgiplaclgnooaaGreatDoor
namespace Ev
noncomputable section
/-- A block: cells (how many are known; the cells that have been written, cell i under the key i + 1; what the others hold: a list, again and again; of an open block how many cells an element takes) · a map · the record of a range over a function · the block for the rounds' deferred calls (none) · a walk over a string. -/
inductive Blk where
  | cells (n : Nat) (c : T Value) (d : List Value) (s : Nat)
  | map (es : List MapEntry) (clock : Nat)
  | loop (l : Loop) (t : T Value)
  | dfr
  | sit (s : ByteArray) (pos : Nat)
  | mit (m : Option Nat) (since : Nat) (seen : List Nat) (last : Nat)
/-- Memory: blocks (block x under the key x + 1); the numbers below 'lo' are for blocks that are read alone; the next new block has the number 2 * k, or 2 * k + 1 (an open one); g: how many package-level variables there are (number i is block 2 * i). -/
structure H where
  t : T Blk
  k : Nat
  lo : Nat
  g : Nat
def H.get (h : H) (x : Nat) : Option Blk := h.t.get (x + 1)
def H.set (h : H) (x : Nat) (b : Blk) : H := { h with t := h.t.set b (x + 1) }
def H.del (h : H) (x : Nat) : H := { h with t := h.t.del (x + 1) }
theorem H.get_set (h : H) (x y : Nat) (b : Blk) : (h.set x b).get y = if y = x then some b else h.get y := by
  simp only [H.get, H.set, T.set_get b h.t (x + 1) (y + 1) (by omega), Nat.add_right_cancel_iff]
theorem H.get_del (h : H) (x y : Nat) : (h.del x).get y = if y = x then none else h.get y := by
  simp only [H.get, H.del, T.del_get h.t (x + 1) (y + 1) (by omega) (by omega), Nat.add_right_cancel_iff]
/-- Cell i. -/
def cg (c : T Value) (d : List Value) (i : Nat) : Option Value :=
  match c.get (i + 1) with
  | some v => some v
  | none => d[i % d.length]?
/-- A map's entries. -/
inductive ER (r : Ren) : List MapEntry → List MapEntry → Prop
  | nil : ER r [] []
  | cons {e e' : MapEntry} {l l' : List MapEntry} (hk : plain e.key = true) (he : e'.key = e.key) (hb : e'.born = e.born) (hv : VR r e.val e'.val) (t : ER r l l') : ER r (e :: l) (e' :: l')
/-- Temporaries. -/
def TR (r : Ren) (t : T Value) (a : Array Value) : Prop := ∀ i, VR r ((t.get (i + 1)).getD undef) (a.getD i undef)
/-- May a block be written? (A block known whole whose mark is not 0 is there to be read.) -/
def wrt (s x : Nat) : Bool := Nat.beq (Nat.mul s (Nat.sub 1 (Nat.mod x 2))) 0
theorem wrt_odd {s x : Nat} (h : x % 2 = 1) : wrt s x = true := by
  have : Nat.mul s (Nat.sub 1 (Nat.mod x 2)) = 0 := by show s * (1 - x % 2) = 0; rw [h]; simp
  unfold wrt
  rw [this]; rfl
/-- A block of ours and the model's. -/
def BR (r : Ren) (x : Nat) (e : E) (w : World) : Blk → Prop
  | .cells n c d s => ∃ (C : Array Value) (t : TypeId) (f : Nat × Nat), w.heap[e.blk]? = some (.cells C t f) ∧ C.size = e.size ∧
      (∀ i, i < n → ∃ v v', cg c d i = some v ∧ C[e.base + i]? = some v' ∧ VR r v v') ∧
      (wrt s x = true → ∀ i, i < C.size → ¬ (f.1 ≤ i ∧ i < f.2)) ∧
      (if x % 2 = 0 then e.base = 0 ∧ n = e.size else e.base + n ≤ e.size ∧ e.sz = s)
  | .map es clock => ∃ es', w.heap[e.blk]? = some (.map es' clock) ∧ ER r es es'.toList
  | .loop l t => ∃ d' tm fn, r l.defers = some d' ∧ w.heap[e.blk]? = some (.loop { l with tmps := tm, defers := d'.blk, fn := fn }) ∧ tm.size = l.tmps.size ∧ TR r t tm
  | .dfr => w.heap[e.blk]? = some (.deferred (some []))
  | .sit s pos => e.base = 0 ∧ w.heap[e.blk]? = some (.stringIter s pos)
  | .mit m since seen last => e.base = 0 ∧ ∃ m', (match m with | none => m' = none | some b => ∃ f, r b = some f ∧ m' = some f.blk) ∧ w.heap[e.blk]? = some (.mapIter m' since seen.toArray last)
structure HR (r : Ren) (h : H) (w : World) : Prop where
  blk : ∀ x b, h.get x = some b → ∃ e, r x = some e ∧ e.blk < w.heap.size ∧ BR r x e w b
  inj : ∀ x y b c e f, h.get x = some b → h.get y = some c → r x = some e → r y = some f → h.lo ≤ x → x ≠ y → e.blk ≠ f.blk
  new : ∀ x, 2 * h.k ≤ x → r x = none
  lo : h.lo ≤ 2 * h.k
  gl : ∀ i, i < h.g → ∃ e, r (2 * i) = some e ∧ e.blk = i ∧ e.base = 0
  bnd : ∀ x e, r x = some e → e.blk < w.heap.size
/-- The model's blocks that we may write. -/
def Owns (r : Ren) (h : H) (k : Nat) : Prop := ∃ x b e, h.get x = some b ∧ h.lo ≤ x ∧ r x = some e ∧ e.blk = k
/-- What a step of ours may do to the model's memory. -/
structure Step (r : Ren) (h : H) (w : World) (r' : Ren) (h' : H) (w' : World) : Prop where
  ext : Ext r r'
  keep : ∀ x, x < 2 * h.k → r' x = r x
  hr : HR r' h' w'
  k : h.k ≤ h'.k
  lo : h'.lo = h.lo
  g : h'.g = h.g
  size : w.heap.size ≤ w'.heap.size
  old : ∀ k, k < w.heap.size → ¬ Owns r h k → w'.heap[k]? = w.heap[k]? ∧ ¬ Owns r' h' k
  os : w'.os = w.os
  tape : w'.tape = w.tape
  output : w'.output = w.output
theorem Step.refl {r : Ren} {h : H} {w : World} (hr : HR r h w) : Step r h w r h w :=
  ⟨Ext.refl r, fun _ _ => rfl, hr, Nat.le_refl _, rfl, rfl, Nat.le_refl _, fun _ _ ho => ⟨rfl, ho⟩, rfl, rfl, rfl⟩
theorem Step.trans {r r1 r2 : Ren} {h h1 h2 : H} {w w1 w2 : World} (a : Step r h w r1 h1 w1) (b : Step r1 h1 w1 r2 h2 w2) : Step r h w r2 h2 w2 :=
  ⟨a.ext.trans b.ext, fun x hx => (b.keep x (Nat.lt_of_lt_of_le hx (Nat.mul_le_mul_left 2 a.k))).trans (a.keep x hx), b.hr, Nat.le_trans a.k b.k, b.lo.trans a.lo, b.g.trans a.g, Nat.le_trans a.size b.size,
   fun k hk ho => ⟨((b.old k (Nat.lt_of_lt_of_le hk a.size) (a.old k hk ho).2).1).trans (a.old k hk ho).1, (b.old k (Nat.lt_of_lt_of_le hk a.size) (a.old k hk ho).2).2⟩,
   b.os.trans a.os, b.tape.trans a.tape, b.output.trans a.output⟩
theorem ER.ext {r r' : Ren} (hx : Ext r r') {l l' : List MapEntry} (h : ER r l l') : ER r' l l' := by
  induction h with
  | nil => exact .nil
  | cons hk he hb hv _ ih => exact .cons hk he hb (hv.ext hx) ih
theorem TR.ext {r r' : Ren} (hx : Ext r r') {t : T Value} {a : Array Value} (h : TR r t a) : TR r' t a := fun i => (h i).ext hx
/-- A block stands where the model's own block, and what its numbers mean, have not turned. -/
theorem BR.same {r r' : Ren} (hx : Ext r r') {x : Nat} {e : E} {w w' : World} (hw : w'.heap[e.blk]? = w.heap[e.blk]?) {b : Blk} (h : BR r x e w b) : BR r' x e w' b := by
  cases b with
  | cells n c d s =>
    obtain ⟨C, t, f, h1, h2, h3, h4, h5⟩ := h
    refine ⟨C, t, f, hw.trans h1, h2, fun i hi => ?_, h4, h5⟩
    obtain ⟨v, v', a, b, c⟩ := h3 i hi
    exact ⟨v, v', a, b, c.ext hx⟩
  | map es cl =>
    obtain ⟨es', h1, h2⟩ := h
    exact ⟨es', hw.trans h1, h2.ext hx⟩
  | loop l t =>
    obtain ⟨d, tm, fn, h1, h2, h3, h4⟩ := h
    exact ⟨d, tm, fn, hx _ _ h1, hw.trans h2, h3, h4.ext hx⟩
  | dfr => exact hw.trans h
  | sit s p => exact ⟨h.1, hw.trans h.2⟩
  | mit m since seen last =>
    obtain ⟨h1, m', h2, h3⟩ := h
    refine ⟨h1, m', ?_, hw.trans h3⟩
    cases m with
    | none => exact h2
    | some b => obtain ⟨f, q1, q2⟩ := h2; exact ⟨f, hx _ _ q1, q2⟩
/-- The model's memory turns where nobody of ours lives. -/
theorem HR.drew {r : Ren} {h : H} {w : World} (hr : HR r h w) (n : Nat) : HR r h { w with drawn := n } :=
  ⟨fun x b hx => by obtain ⟨e, h1, h2, h3⟩ := hr.blk x b hx; exact ⟨e, h1, h2, h3.same (w' := { w with drawn := n }) (Ext.refl r) rfl⟩, hr.inj, hr.new, hr.lo, hr.gl, hr.bnd⟩
def Ren.put (r : Ren) (x : Nat) (e : E) : Ren := fun y => if y = x then some e else r y
theorem Ren.put_bnd {r : Ren} {x : Nat} {e : E} {m m' : Nat} (h : ∀ y f, r y = some f → f.blk < m) (hm : m ≤ m') (he : e.blk < m') : ∀ y f, r.put x e y = some f → f.blk < m' := fun y f hy => by
  unfold Ren.put at hy
  split at hy
  · cases hy; exact he
  · have := h y f hy; omega
theorem Ren.put_ext {r : Ren} {x : Nat} {e : E} (h : r x = none) : Ext r (r.put x e) := fun y f hy => by
  unfold Ren.put
  by_cases hxy : y = x
  · subst hxy; rw [h] at hy; cases hy
  · rw [if_neg hxy]; exact hy
/-- A new block of ours, at the end of the model's memory. -/
theorem HR.new_ {r : Ren} {h : H} {w : World} (hr : HR r h w) {x : Nat} {e : E} {b : Blk} {o : Obj} {k' : Nat} (hx : 2 * h.k ≤ x) (hk : h.k ≤ k') (hx' : x < 2 * k') (he : e.blk = w.heap.size)
    (hb : BR (r.put x e) x e { w with heap := w.heap.push o } b) : Step r h w (r.put x e) { (h.set x b) with k := k' } { w with heap := w.heap.push o } := by
  have hext : Ext r (r.put x e) := Ren.put_ext (hr.new x hx)
  have hold : ∀ k, k < w.heap.size → (w.heap.push o)[k]? = w.heap[k]? := fun k hk => by
    rw [Array.getElem?_push]; rw [if_neg (by omega)]
  have hnx : ∀ y c, h.get y = some c → y ≠ x := fun y c hy hxy => by
    obtain ⟨f, hf, _⟩ := hr.blk y c hy
    rw [hr.new y (by omega)] at hf; cases hf
  have hget : ∀ y, ({ (h.set x b) with k := k' } : H).get y = if y = x then some b else h.get y := fun y => H.get_set h x y b
  refine ⟨hext, fun y hy => if_neg (by omega), ⟨?_, ?_, ?_, ?_, fun i hi => by obtain ⟨f, h1, h2⟩ := hr.gl i hi; exact ⟨f, hext _ _ h1, h2⟩, Ren.put_bnd hr.bnd (by simp) (by simp [he])⟩, hk, rfl, rfl, by simp, ?_, rfl, rfl, rfl⟩
  · intro y c hy
    rw [hget] at hy
    by_cases hxy : y = x
    · subst hxy
      simp at hy; subst hy
      exact ⟨e, by simp [Ren.put], by simp [he], hb⟩
    · rw [if_neg hxy] at hy
      obtain ⟨f, h1, h2, h3⟩ := hr.blk y c hy
      exact ⟨f, hext _ _ h1, by simp; omega, h3.same hext (hold _ h2)⟩
  · intro y z c d f g hy hz hf hg hlo hne
    rw [hget] at hy hz
    unfold Ren.put at hf hg
    by_cases hyx : y = x
    · subst hyx
      have hzy : z ≠ y := fun q => hne q.symm
      rw [if_neg hzy] at hz hg
      simp at hf; subst hf
      obtain ⟨g', h1, h2, _⟩ := hr.blk z d hz
      rw [hg] at h1; cases h1
      omega
    · rw [if_neg hyx] at hy hf
      by_cases hzx : z = x
      · subst hzx
        simp at hg; subst hg
        obtain ⟨f', h1, h2, _⟩ := hr.blk y c hy
        rw [hf] at h1; cases h1
        omega
      · rw [if_neg hzx] at hz hg
        exact hr.inj y z c d f g hy hz hf hg hlo hne
  · intro y hy
    have : y ≠ x := by simp at hy; omega
    simp only [Ren.put, if_neg this]
    exact hr.new y (by simp at hy; omega)
  · have := hr.lo
    show h.lo ≤ 2 * k'
    omega
  · intro k hk ho
    refine ⟨hold k hk, fun ⟨y, c, f, h1, h2, h3, h4⟩ => ?_⟩
    rw [hget] at h1
    by_cases hyx : y = x
    · subst hyx; simp [Ren.put] at h3; subst h3; omega
    · rw [if_neg hyx] at h1
      simp only [Ren.put, if_neg hyx] at h3
      exact ho ⟨y, c, f, h1, h2, h3, h4⟩
/-- A block of ours is written, and so is the model's. -/
theorem HR.set_ {r : Ren} {h : H} {w w' : World} (hr : HR r h w) {x : Nat} {e : E} {b b' : Blk} (hx : h.get x = some b) (he : r x = some e) (hlo : h.lo ≤ x)
    (hsz : w'.heap.size = w.heap.size) (hw : ∀ k, k ≠ e.blk → w'.heap[k]? = w.heap[k]?) (hos : w'.os = w.os) (ht : w'.tape = w.tape) (ho : w'.output = w.output)
    (hb : BR r x e w' b') : Step r h w r (h.set x b') w' := by
  have hget : ∀ y, (h.set x b').get y = if y = x then some b' else h.get y := fun y => H.get_set h x y b'
  have hal : ∀ y c, (h.set x b').get y = some c → ∃ c', h.get y = some c' := fun y c hy => by
    rw [hget] at hy
    by_cases q : y = x
    · subst q; exact ⟨b, hx⟩
    · rw [if_neg q] at hy; exact ⟨c, hy⟩
  refine ⟨Ext.refl r, fun _ _ => rfl, ⟨?_, ?_, hr.new, hr.lo, hr.gl, fun x e hx => by have := hr.bnd x e hx; omega⟩, Nat.le_refl _, rfl, rfl, by omega, ?_, hos, ht, ho⟩
  · intro y c hy
    rw [hget] at hy
    by_cases hxy : y = x
    · subst hxy
      simp at hy; subst hy
      obtain ⟨e', h1, h2, _⟩ := hr.blk y b hx
      rw [he] at h1; cases h1
      exact ⟨e, he, by omega, hb⟩
    · rw [if_neg hxy] at hy
      obtain ⟨f, h1, h2, h3⟩ := hr.blk y c hy
      exact ⟨f, h1, by omega, h3.same (Ext.refl r) (hw _ (fun q => hr.inj x y b c e f hx hy he h1 hlo (fun s => hxy s.symm) q.symm))⟩
  · intro y z c d f g hy hz hf hg hl hne
    obtain ⟨c', hc'⟩ := hal y c hy
    obtain ⟨d', hd'⟩ := hal z d hz
    exact hr.inj y z c' d' f g hc' hd' hf hg hl hne
  · intro k hk hno
    refine ⟨hw k (fun q => hno ⟨x, b, e, hx, hlo, he, q.symm⟩), fun ⟨y, c, f, h1, h2, h3, h4⟩ => ?_⟩
    obtain ⟨c', hc'⟩ := hal y c h1
    exact hno ⟨y, c', f, hc', h2, h3, h4⟩
end
end Ev
end Go.Proofs.YtmgiplaclgnooaaGreatDoor
