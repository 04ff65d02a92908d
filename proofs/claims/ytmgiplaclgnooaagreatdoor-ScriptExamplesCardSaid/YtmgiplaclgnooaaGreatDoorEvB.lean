/- Values of our own machine (the model's, with block numbers of its own) and what they stand for. -/
import Derived.Test.YtmgiplaclgnooaaGreatDoorEvA
set_option maxRecDepth 10000
namespace Go.Proofs.YtmgiplaclgnooaaGreatDoor
namespace Ev
/-! Values without addresses. -/
mutual
def plain : Value → Bool
  | .bool _ | .int _ _ | .float _ _ | .complex _ _ _ | .string _ => true
  | .pointer a => a.isNone
  | .slice a _ _ => a.isNone
  | .map a => a.isNone
  | .chan a => a.isNone
  | .func fn f c => (match fn with | .func _ => true | _ => false) && plainA f && plainA c
  | .nilFunc => true
  | .iface _ v => plain v
  | .nilIface => true
  | .agg cs => plainA cs
  | .tuple vs => plainA vs
def plainA : Array Value → Bool
  | ⟨l⟩ => plainL l
def plainL : List Value → Bool
  | [] => true
  | v :: l => plain v && plainL l
end
/-- Where a block of ours lies: the model's block, from which cell on, how many cells that block has, how many cells an element takes (asked of open blocks alone). -/
structure E where
  blk : Nat
  base : Nat
  size : Nat
  sz : Nat
abbrev Ren := Nat → Option E
/- Even numbers: a block known whole. Odd ones: an open block (an append made it: what lies behind the known cells is not known); a slice of one has 0 for its capacity: it reaches to the block's end. -/
mutual
inductive VR (r : Ren) : Value → Value → Prop
  | bool b : VR r (.bool b) (.bool b)
  | int k n : VR r (.int k n) (.int k n)
  | float k n : VR r (.float k n) (.float k n)
  | complex k n m : VR r (.complex k n m) (.complex k n m)
  | string s : VR r (.string s) (.string s)
  | ptr0 : VR r (.pointer none) (.pointer none)
  | ptr {b o : Nat} {e : E} (h : r b = some e) : VR r (.pointer (some ⟨b, o, none⟩)) (.pointer (some ⟨e.blk, e.base + o, none⟩))
  | sl0 l c : VR r (.slice none l c) (.slice none l c)
  | sl {b o l c : Nat} {e : E} (h : r b = some e) (hb : b % 2 = 0) : VR r (.slice (some ⟨b, o, none⟩) l c) (.slice (some ⟨e.blk, e.base + o, none⟩) l c)
  | slo {b o l c : Nat} {e : E} (h : r b = some e) (hb : b % 2 = 1) (hc : e.base + o + c * e.sz = e.size) (hl : l ≤ c) : VR r (.slice (some ⟨b, o, none⟩) l 0) (.slice (some ⟨e.blk, e.base + o, none⟩) l c)
  | slz {b o x : Nat} {e : E} (h : r b = some e) (hb : b % 2 = 1) (hc : e.base + o = e.size) : VR r (.slice (some ⟨b, o, none⟩) 0 0) (.slice (some ⟨e.blk, x, none⟩) 0 0)
  | map0 : VR r (.map none) (.map none)
  | map {b : Nat} {e : E} (h : r b = some e) : VR r (.map (some b)) (.map (some e.blk))
  | chan0 : VR r (.chan none) (.chan none)
  | func {fn : Fn} {f f' c c' : List Value} (h : ∀ l, fn ≠ .yield l) (hf : VRL r f f') (hc : VRL r c c') : VR r (.func fn ⟨f⟩ ⟨c⟩) (.func fn ⟨f'⟩ ⟨c'⟩)
  | yield {b : Nat} {e : E} (h : r b = some e) : VR r (.func (.yield b) #[] #[]) (.func (.yield e.blk) #[] #[])
  | func0 : VR r .nilFunc .nilFunc
  | iface {t v v'} (h : VR r v v') : VR r (.iface t v) (.iface t v')
  | iface0 : VR r .nilIface .nilIface
  | agg {l l'} (h : VRL r l l') : VR r (.agg ⟨l⟩) (.agg ⟨l'⟩)
  | tuple {l l'} (h : VRL r l l') : VR r (.tuple ⟨l⟩) (.tuple ⟨l'⟩)
inductive VRL (r : Ren) : List Value → List Value → Prop
  | nil : VRL r [] []
  | cons {v v' l l'} (h : VR r v v') (t : VRL r l l') : VRL r (v :: l) (v' :: l')
end
mutual
theorem VR.of_plain (r : Ren) : ∀ (v : Value), plain v = true → VR r v v
  | .bool _, _ => .bool _
  | .int _ _, _ => .int _ _
  | .float _ _, _ => .float _ _
  | .complex _ _ _, _ => .complex _ _ _
  | .string _, _ => .string _
  | .pointer none, _ => .ptr0
  | .slice none _ _, _ => .sl0 _ _
  | .map none, _ => .map0
  | .chan none, _ => .chan0
  | .func (.func g) ⟨f⟩ ⟨c⟩, h => by
    simp only [plain, plainA, Bool.and_eq_true, Bool.true_and] at h
    exact .func (by simp) (VRL.of_plain r f h.1) (VRL.of_plain r c h.2)
  | .nilFunc, _ => .func0
  | .iface _ v, h => .iface (VR.of_plain r v h)
  | .nilIface, _ => .iface0
  | .agg ⟨l⟩, h => .agg (VRL.of_plain r l h)
  | .tuple ⟨l⟩, h => .tuple (VRL.of_plain r l h)
theorem VRL.of_plain (r : Ren) : ∀ (l : List Value), plainL l = true → VRL r l l
  | [], _ => .nil
  | v :: l, h => by
    simp only [plainL, Bool.and_eq_true] at h
    exact .cons (VR.of_plain r v h.1) (VRL.of_plain r l h.2)
end
mutual
theorem VR.plain {r : Ren} : ∀ {v v' : Value}, VR r v v' → plain v = true → v' = v
  | _, _, .bool _, _ => rfl
  | _, _, .int _ _, _ => rfl
  | _, _, .float _ _, _ => rfl
  | _, _, .complex _ _ _, _ => rfl
  | _, _, .string _, _ => rfl
  | _, _, .ptr0, _ => rfl
  | _, _, .sl0 _ _, _ => rfl
  | _, _, .map0, _ => rfl
  | _, _, .chan0, _ => rfl
  | _, _, .func _ hf hc, h => by
    simp only [Ev.plain, plainA, Bool.and_eq_true] at h
    rw [VRL.plain hf h.1.2, VRL.plain hc h.2]
  | _, _, .func0, _ => rfl
  | _, _, .iface hv, h => by rw [VR.plain hv h]
  | _, _, .iface0, _ => rfl
  | _, _, .agg hl, h => by rw [VRL.plain hl h]
  | _, _, .tuple hl, h => by rw [VRL.plain hl h]
theorem VRL.plain {r : Ren} : ∀ {l l' : List Value}, VRL r l l' → plainL l = true → l' = l
  | _, _, .nil, _ => rfl
  | _, _, .cons hv hl, h => by
    simp only [plainL, Bool.and_eq_true] at h
    rw [VR.plain hv h.1, VRL.plain hl h.2]
end
def Ext (r r' : Ren) : Prop := ∀ x e, r x = some e → r' x = some e
theorem Ext.refl (r : Ren) : Ext r r := fun _ _ h => h
theorem Ext.trans {a b c : Ren} (h : Ext a b) (k : Ext b c) : Ext a c := fun x e hx => k x e (h x e hx)
mutual
theorem VR.ext {r r' : Ren} (hx : Ext r r') : ∀ {v v' : Value}, VR r v v' → VR r' v v'
  | _, _, .bool _ => .bool _
  | _, _, .int _ _ => .int _ _
  | _, _, .float _ _ => .float _ _
  | _, _, .complex _ _ _ => .complex _ _ _
  | _, _, .string _ => .string _
  | _, _, .ptr0 => .ptr0
  | _, _, .ptr h => .ptr (hx _ _ h)
  | _, _, .sl0 _ _ => .sl0 _ _
  | _, _, .sl h hb => .sl (hx _ _ h) hb
  | _, _, .slo h hb hc hl => .slo (hx _ _ h) hb hc hl
  | _, _, .slz h hb hc => .slz (hx _ _ h) hb hc
  | _, _, .map0 => .map0
  | _, _, .map h => .map (hx _ _ h)
  | _, _, .chan0 => .chan0
  | _, _, .func h hf hc => .func h (VRL.ext hx hf) (VRL.ext hx hc)
  | _, _, .yield h => .yield (hx _ _ h)
  | _, _, .func0 => .func0
  | _, _, .iface h => .iface (VR.ext hx h)
  | _, _, .iface0 => .iface0
  | _, _, .agg h => .agg (VRL.ext hx h)
  | _, _, .tuple h => .tuple (VRL.ext hx h)
theorem VRL.ext {r r' : Ren} (hx : Ext r r') : ∀ {l l' : List Value}, VRL r l l' → VRL r' l l'
  | _, _, .nil => .nil
  | _, _, .cons h t => .cons (VR.ext hx h) (VRL.ext hx t)
end
theorem VRL.length {r : Ren} {l l' : List Value} (h : VRL r l l') : l'.length = l.length := by
  induction l generalizing l' with
  | nil => cases h; rfl
  | cons v l ih => cases h with | cons hv ht => simp [ih ht]
theorem VRL.get {r : Ren} {l l' : List Value} (h : VRL r l l') {i : Nat} {v : Value} (hi : l[i]? = some v) : ∃ v', l'[i]? = some v' ∧ VR r v v' := by
  induction l generalizing l' i with
  | nil => simp at hi
  | cons w l ih =>
    cases h with
    | cons hv ht =>
      cases i with
      | zero => simp at hi; subst hi; exact ⟨_, rfl, hv⟩
      | succ i => simpa using ih ht (by simpa using hi)
theorem VRL.append {r : Ren} {l l' m m' : List Value} (h : VRL r l l') (k : VRL r m m') : VRL r (l ++ m) (l' ++ m') := by
  induction l generalizing l' with
  | nil => cases h; exact k
  | cons v l ih => cases h with | cons hv ht => exact .cons hv (ih ht)
theorem VRL.take {r : Ren} {l l' : List Value} (h : VRL r l l') (n : Nat) : VRL r (l.take n) (l'.take n) := by
  induction l generalizing l' n with
  | nil => cases h; simp; exact .nil
  | cons v l ih =>
    cases h with
    | cons hv ht =>
      cases n with
      | zero => exact .nil
      | succ n => exact .cons hv (ih ht n)
theorem VRL.drop {r : Ren} {l l' : List Value} (h : VRL r l l') (n : Nat) : VRL r (l.drop n) (l'.drop n) := by
  induction l generalizing l' n with
  | nil => cases h; simp; exact .nil
  | cons v l ih =>
    cases h with
    | cons hv ht =>
      cases n with
      | zero => exact .cons hv ht
      | succ n => exact ih ht n
theorem VRL.snoc {r : Ren} {l l' : List Value} {v v' : Value} (h : VRL r l l') (k : VR r v v') : VRL r (l ++ [v]) (l' ++ [v']) := h.append (.cons k .nil)
/-- A value as a list of cells. -/
theorem VR.cells {r : Ren} {v v' : Value} (h : VR r v v') : VRL r v.cells.toList v'.cells.toList := by
  cases h <;> first | (rename_i h; exact h) | exact .cons (by constructor <;> assumption) .nil
/-- Is a value one cell (no struct, no tuple)? -/
def one : Value → Bool
  | .agg _ | .tuple _ => false
  | _ => true
theorem VR.one {r : Ren} {v v' : Value} (h : VR r v v') : Ev.one v' = Ev.one v := by cases h <;> rfl
end Ev
end Go.Proofs.YtmgiplaclgnooaaGreatDoor
