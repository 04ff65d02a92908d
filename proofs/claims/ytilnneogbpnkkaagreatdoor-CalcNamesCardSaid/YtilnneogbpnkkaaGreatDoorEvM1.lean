/- A machine of our own that runs the program's code over trees (to be run by the kernel): its memory, and how its memory stands for the model's. -/
import Derived.AtR
import Derived.Laws.Sem
import Derived.OrdersHeld
set_option maxRecDepth 10000
namespace Go.Proofs.YtilnneogbpnkkaaGreatDoor
namespace Ev
/-! Trees by binary keys (1, 2, ..). -/
inductive T (α : Type) where
  | e
  | n (l : T α) (v : Option α) (r : T α)
noncomputable def T.get {α : Type} (t : T α) : Nat → Option α :=
  T.rec (motive := fun _ => Nat → Option α) (fun _ => none) (fun _ v _ fl fr m => Bool.rec (motive := fun _ => Option α) (Bool.rec (motive := fun _ => Option α) (fr (Nat.div m 2)) (fl (Nat.div m 2)) (Nat.beq (Nat.mod m 2) 0)) v (Nat.beq m 1)) t
theorem T.get_e {α : Type} (m : Nat) : (T.e : T α).get m = none := rfl
theorem T.get_n {α : Type} (l r : T α) (v : Option α) (m : Nat) : (T.n l v r).get m = bif Nat.beq m 1 then v else bif Nat.beq (m % 2) 0 then l.get (m / 2) else r.get (m / 2) := by
  show Bool.rec (motive := fun _ => Option α) (Bool.rec (motive := fun _ => Option α) (r.get (Nat.div m 2)) (l.get (Nat.div m 2)) (Nat.beq (Nat.mod m 2) 0)) v (Nat.beq m 1) = bif Nat.beq m 1 then v else bif Nat.beq (Nat.mod m 2) 0 then l.get (Nat.div m 2) else r.get (Nat.div m 2)
  cases Nat.beq m 1 <;> cases Nat.beq (Nat.mod m 2) 0 <;> rfl
noncomputable def T.one {α : Type} (v : α) (f : Nat) : Nat → T α :=
  Nat.rec (motive := fun _ => Nat → T α) (fun _ => .e) (fun _ ih m => Bool.rec (motive := fun _ => T α) (Bool.rec (motive := fun _ => T α) (.n .e none (ih (Nat.div m 2))) (.n (ih (Nat.div m 2)) none .e) (Nat.beq (Nat.mod m 2) 0)) (.n .e (some v) .e) (Nat.beq m 1)) f
theorem T.one_z {α : Type} (v : α) (m : Nat) : T.one v 0 m = .e := rfl
theorem T.one_s {α : Type} (v : α) (f m : Nat) : T.one v (f + 1) m = bif Nat.beq m 1 then .n .e (some v) .e else bif Nat.beq (m % 2) 0 then .n (T.one v f (m / 2)) none .e else .n .e none (T.one v f (m / 2)) := by
  show Bool.rec (motive := fun _ => T α) (Bool.rec (motive := fun _ => T α) (.n .e none (T.one v f (Nat.div m 2))) (.n (T.one v f (Nat.div m 2)) none .e) (Nat.beq (Nat.mod m 2) 0)) (.n .e (some v) .e) (Nat.beq m 1) = bif Nat.beq m 1 then .n .e (some v) .e else bif Nat.beq (Nat.mod m 2) 0 then .n (T.one v f (Nat.div m 2)) none .e else .n .e none (T.one v f (Nat.div m 2))
  cases Nat.beq m 1 <;> cases Nat.beq (Nat.mod m 2) 0 <;> rfl
noncomputable def T.set {α : Type} (v : α) (t : T α) : Nat → T α :=
  T.rec (motive := fun _ => Nat → T α) (fun m => T.one v m m) (fun l w r fl fr m => Bool.rec (motive := fun _ => T α) (Bool.rec (motive := fun _ => T α) (.n l w (fr (Nat.div m 2))) (.n (fl (Nat.div m 2)) w r) (Nat.beq (Nat.mod m 2) 0)) (.n l (some v) r) (Nat.beq m 1)) t
theorem T.set_e {α : Type} (v : α) (m : Nat) : (T.e : T α).set v m = T.one v m m := rfl
theorem T.set_n {α : Type} (v : α) (l r : T α) (w : Option α) (m : Nat) : (T.n l w r).set v m = bif Nat.beq m 1 then .n l (some v) r else bif Nat.beq (m % 2) 0 then .n (l.set v (m / 2)) w r else .n l w (r.set v (m / 2)) := by
  show Bool.rec (motive := fun _ => T α) (Bool.rec (motive := fun _ => T α) (.n l w (r.set v (Nat.div m 2))) (.n (l.set v (Nat.div m 2)) w r) (Nat.beq (Nat.mod m 2) 0)) (.n l (some v) r) (Nat.beq m 1) = bif Nat.beq m 1 then .n l (some v) r else bif Nat.beq (Nat.mod m 2) 0 then .n (l.set v (Nat.div m 2)) w r else .n l w (r.set v (Nat.div m 2))
  cases Nat.beq m 1 <;> cases Nat.beq (Nat.mod m 2) 0 <;> rfl
def T.del {α : Type} : T α → Nat → T α
  | .e, _ => .e
  | .n l w r, m => bif Nat.beq m 1 then .n l none r else bif Nat.beq (m % 2) 0 then .n (l.del (m / 2)) w r else .n l w (r.del (m / 2))
theorem beqF {a b : Nat} (h : a ≠ b) : Nat.beq a b = false := by
  cases e : Nat.beq a b
  · rfl
  · exact absurd (Nat.eq_of_beq_eq_true e) h
theorem beqT {a b : Nat} (h : a = b) : Nat.beq a b = true := by subst h; exact Nat.beq_refl a
theorem T.one_get {α : Type} (v : α) : ∀ f m k : Nat, 1 ≤ m → m ≤ f → (T.one v f m).get k = if k = m then some v else none := by
  intro f
  induction f with
  | zero => intro m k h1 h2; omega
  | succ f ih =>
    intro m k h1 h2
    by_cases hm : m = 1
    · subst hm
      by_cases hk : k = 1
      · subst hk; simp [T.one_s, T.get_n, T.get_e]
      · simp [T.one_s, T.get_n, T.get_e, hk, beqF hk]
    · have hm' : Nat.beq m 1 = false := beqF (by omega)
      by_cases h0 : m % 2 = 0
      · have h0' : Nat.beq (m % 2) 0 = true := beqT (by omega)
        simp only [T.one_s, hm', h0', cond_false, cond_true, T.get_n, T.get_e]
        by_cases hk : k = 1
        · subst hk; simp; omega
        · have hk' : Nat.beq k 1 = false := beqF (by omega)
          by_cases hk0 : k % 2 = 0
          · have hk0' : Nat.beq (k % 2) 0 = true := beqT (by omega)
            simp only [hk', hk0', cond_false, cond_true]
            rw [ih _ _ (by omega) (by omega)]
            by_cases e : k = m
            · subst e; simp
            · rw [if_neg e, if_neg (by omega)]
          · have hk0' : Nat.beq (k % 2) 0 = false := beqF (by omega)
            simp only [hk', hk0', cond_false]
            rw [if_neg (by omega)]
      · have h0' : Nat.beq (m % 2) 0 = false := beqF (by omega)
        simp only [T.one_s, hm', h0', cond_false, T.get_n, T.get_e]
        by_cases hk : k = 1
        · subst hk; simp; omega
        · have hk' : Nat.beq k 1 = false := beqF (by omega)
          by_cases hk0 : k % 2 = 0
          · have hk0' : Nat.beq (k % 2) 0 = true := beqT (by omega)
            simp only [hk', hk0', cond_false, cond_true]
            rw [if_neg (by omega)]
          · have hk0' : Nat.beq (k % 2) 0 = false := beqF (by omega)
            simp only [hk', hk0', cond_false]
            rw [ih _ _ (by omega) (by omega)]
            by_cases e : k = m
            · subst e; simp
            · rw [if_neg e, if_neg (by omega)]
theorem T.set_get {α : Type} (v : α) : ∀ (t : T α) (m k : Nat), 1 ≤ m → (t.set v m).get k = if k = m then some v else t.get k := by
  intro t
  induction t with
  | e => intro m k h; rw [T.set_e, T.one_get v m m k h (Nat.le_refl _)]; rfl
  | n l w r ihl ihr =>
    intro m k h
    by_cases hm : m = 1
    · subst hm
      by_cases hk : k = 1
      · subst hk; simp [T.set_n, T.get_n]
      · simp [T.set_n, T.get_n, hk, beqF hk]
    · have hm' : Nat.beq m 1 = false := beqF (by omega)
      by_cases h0 : m % 2 = 0
      · have h0' : Nat.beq (m % 2) 0 = true := beqT (by omega)
        simp only [T.set_n, hm', h0', cond_false, cond_true, T.get_n]
        by_cases hk : k = 1
        · subst hk; simp; omega
        · have hk' : Nat.beq k 1 = false := beqF (by omega)
          by_cases hk0 : k % 2 = 0
          · have hk0' : Nat.beq (k % 2) 0 = true := beqT (by omega)
            simp only [hk', hk0', cond_false, cond_true]
            rw [ihl _ _ (by omega)]
            by_cases e : k = m
            · subst e; simp
            · rw [if_neg e, if_neg (by omega)]
          · have hk0' : Nat.beq (k % 2) 0 = false := beqF (by omega)
            simp only [hk', hk0', cond_false]
            rw [if_neg (by omega)]
      · have h0' : Nat.beq (m % 2) 0 = false := beqF (by omega)
        simp only [T.set_n, hm', h0', cond_false, T.get_n]
        by_cases hk : k = 1
        · subst hk; simp; omega
        · have hk' : Nat.beq k 1 = false := beqF (by omega)
          by_cases hk0 : k % 2 = 0
          · have hk0' : Nat.beq (k % 2) 0 = true := beqT (by omega)
            simp only [hk', hk0', cond_false, cond_true]
            rw [if_neg (by omega)]
          · have hk0' : Nat.beq (k % 2) 0 = false := beqF (by omega)
            simp only [hk', hk0', cond_false]
            rw [ihr _ _ (by omega)]
            by_cases e : k = m
            · subst e; simp
            · rw [if_neg e, if_neg (by omega)]
theorem T.one_set {α : Type} (u v : α) : ∀ (f m : Nat), 1 ≤ m → m ≤ f → (T.one u f m).set v m = T.one v f m := by
  intro f
  induction f with
  | zero => intro m h1 h2; omega
  | succ f ih =>
    intro m h1 h2
    by_cases hm : m = 1
    · subst hm; rfl
    · rw [T.one_s, T.one_s, beqF hm]
      cases hq : Nat.beq (m % 2) 0 with
      | true => simp only [cond_false, cond_true, T.set_n, beqF hm, hq, ih _ (show 1 ≤ m / 2 by omega) (by omega)]
      | false => simp only [cond_false, T.set_n, beqF hm, hq, ih _ (show 1 ≤ m / 2 by omega) (by omega)]
theorem T.set_set {α : Type} (u v : α) : ∀ (t : T α) (m : Nat), 1 ≤ m → (t.set u m).set v m = t.set v m := by
  intro t
  induction t with
  | e => intro m h; rw [T.set_e, T.set_e, T.one_set u v m m h (Nat.le_refl _)]
  | n l w r ihl ihr =>
    intro m h
    by_cases hm : m = 1
    · subst hm; rfl
    · rw [T.set_n, T.set_n, beqF hm]
      cases hq : Nat.beq (m % 2) 0 with
      | true => simp only [cond_false, cond_true, T.set_n, beqF hm, hq, ihl _ (show 1 ≤ m / 2 by omega)]
      | false => simp only [cond_false, T.set_n, beqF hm, hq, ihr _ (show 1 ≤ m / 2 by omega)]
theorem T.del_get {α : Type} : ∀ (t : T α) (m k : Nat), 1 ≤ m → 1 ≤ k → (t.del m).get k = if k = m then none else t.get k := by
  intro t
  induction t with
  | e => intro m k h hk; simp [T.del, T.get_e]
  | n l w r ihl ihr =>
    intro m k h hk1
    by_cases hm : m = 1
    · subst hm
      by_cases hk : k = 1
      · subst hk; simp [T.del, T.get_n]
      · simp [T.del, T.get_n, hk, beqF hk]
    · have hm' : Nat.beq m 1 = false := beqF (by omega)
      by_cases h0 : m % 2 = 0
      · have h0' : Nat.beq (m % 2) 0 = true := beqT (by omega)
        simp only [T.del, hm', h0', cond_false, cond_true, T.get_n]
        by_cases hk : k = 1
        · subst hk; simp; omega
        · have hk' : Nat.beq k 1 = false := beqF (by omega)
          by_cases hk0 : k % 2 = 0
          · have hk0' : Nat.beq (k % 2) 0 = true := beqT (by omega)
            simp only [hk', hk0', cond_false, cond_true]
            rw [ihl _ _ (by omega) (by omega)]
            by_cases e : k = m
            · subst e; simp
            · rw [if_neg e, if_neg (by omega)]
          · have hk0' : Nat.beq (k % 2) 0 = false := beqF (by omega)
            simp only [hk', hk0', cond_false]
            rw [if_neg (by omega)]
      · have h0' : Nat.beq (m % 2) 0 = false := beqF (by omega)
        simp only [T.del, hm', h0', cond_false, T.get_n]
        by_cases hk : k = 1
        · subst hk; simp; omega
        · have hk' : Nat.beq k 1 = false := beqF (by omega)
          by_cases hk0 : k % 2 = 0
          · have hk0' : Nat.beq (k % 2) 0 = true := beqT (by omega)
            simp only [hk', hk0', cond_false, cond_true]
            rw [if_neg (by omega)]
          · have hk0' : Nat.beq (k % 2) 0 = false := beqF (by omega)
            simp only [hk', hk0', cond_false]
            rw [ihr _ _ (by omega) (by omega)]
            by_cases e : k = m
            · subst e; simp
            · rw [if_neg e, if_neg (by omega)]
end Ev
end Go.Proofs.YtilnneogbpnkkaaGreatDoor
/- Values of our own machine (the model's, with block numbers of its own) and what they stand for. -/
set_option maxRecDepth 10000
namespace Go.Proofs.YtilnneogbpnkkaaGreatDoor
namespace Ev
/-! Values without addresses. -/
mutual
def plain : Value → Bool
  | .bool _ | .int _ _ | .float _ _ | .complex _ _ _ | .string _ => true
  | .pointer a => a.isNone
  | .slice a _ _ => a.isNone
  | .map a => a.isNone
  | .chan a => a.isNone
  | .func fn f c => (match fn with | .func _ => true | _ => false) && plainA f && plainA c
  | .nilFunc => true
  | .iface _ v => plain v
  | .nilIface => true
  | .agg cs => plainA cs
  | .tuple vs => plainA vs
def plainA : Array Value → Bool
  | ⟨l⟩ => plainL l
def plainL : List Value → Bool
  | [] => true
  | v :: l => plain v && plainL l
end
/-- Where a block of ours lies: the model's block, from which cell on, how many cells that block has, how many cells an element takes (asked of open blocks alone). -/
structure E where
  blk : Nat
  base : Nat
  size : Nat
  sz : Nat
abbrev Ren := Nat → Option E
/-- Is a value one cell (no struct, no tuple)? -/
def one : Value → Bool
  | .agg _ | .tuple _ => false
  | .chan (some 0) => false
  | _ => true
/- 'any': a cell of which nothing is known; 'atl': a number of which is known that it is at least c.
Even numbers: a block known whole. Odd ones: an open block (an append made it: what lies behind the known cells is not known); a slice of one has 0 for its capacity: it reaches to the block's end. -/
mutual
inductive VR (r : Ren) : Value → Value → Prop
  | bool b : VR r (.bool b) (.bool b)
  | int k n : VR r (.int k n) (.int k n)
  | float k n : VR r (.float k n) (.float k n)
  | complex k n m : VR r (.complex k n m) (.complex k n m)
  | string s : VR r (.string s) (.string s)
  | ptr0 : VR r (.pointer none) (.pointer none)
  | ptr {b o : Nat} {e : E} (h : r b = some e) : VR r (.pointer (some ⟨b, o, none⟩)) (.pointer (some ⟨e.blk, e.base + o, none⟩))
  | sl0 l c : VR r (.slice none l c) (.slice none l c)
  | sl {b o l c : Nat} {e : E} (h : r b = some e) (hb : b % 2 = 0) : VR r (.slice (some ⟨b, o, none⟩) l c) (.slice (some ⟨e.blk, e.base + o, none⟩) l c)
  | slo {b o l c : Nat} {e : E} (h : r b = some e) (hb : b % 2 = 1) (hc : e.base + o + c * e.sz = e.size) (hl : l ≤ c) : VR r (.slice (some ⟨b, o, none⟩) l 0) (.slice (some ⟨e.blk, e.base + o, none⟩) l c)
  | slz {b o x : Nat} {e : E} (h : r b = some e) (hb : b % 2 = 1) (hc : e.base + o = e.size) : VR r (.slice (some ⟨b, o, none⟩) 0 0) (.slice (some ⟨e.blk, x, none⟩) 0 0)
  | slk {b o l c x : Nat} {e : E} (h : r b = some e) (hb : b % 2 = 1) (hx : c ≠ 0 → x = e.base + o) (hc : e.base + o + c * e.sz ≤ e.size) (hl : l ≤ c) : VR r (.slice (some ⟨b, o, none⟩) l (c + 1)) (.slice (some ⟨e.blk, x, none⟩) l c)
  | map0 : VR r (.map none) (.map none)
  | map {b : Nat} {e : E} (h : r b = some e) : VR r (.map (some b)) (.map (some e.blk))
  | chan0 : VR r (.chan none) (.chan none)
  | func {fn : Fn} {f f' c c' : List Value} (h : ∀ l, fn ≠ .yield l) (hf : VRL r f f') (hc : VRL r c c') : VR r (.func fn ⟨f⟩ ⟨c⟩) (.func fn ⟨f'⟩ ⟨c'⟩)
  | yield {b : Nat} {e : E} (h : r b = some e) : VR r (.func (.yield b) #[] #[]) (.func (.yield e.blk) #[] #[])
  | func0 : VR r .nilFunc .nilFunc
  | iface {t v v'} (h : VR r v v') : VR r (.iface t v) (.iface t v')
  | iface0 : VR r .nilIface .nilIface
  | agg {l l'} (h : VRL r l l') : VR r (.agg ⟨l⟩) (.agg ⟨l'⟩)
  | tuple {l l'} (h : VRL r l l') : VR r (.tuple ⟨l⟩) (.tuple ⟨l'⟩)
  | any {v : Value} : VR r (.chan (some 0)) v
  | atl {c n : Nat} (h : c ≤ n) : VR r (.chan (some (c + 1))) (.int .i64 n)
inductive VRL (r : Ren) : List Value → List Value → Prop
  | nil : VRL r [] []
  | cons {v v' l l'} (h : VR r v v') (t : VRL r l l') : VRL r (v :: l) (v' :: l')
end
mutual
theorem VR.of_plain (r : Ren) : ∀ (v : Value), plain v = true → VR r v v
  | .bool _, _ => .bool _
  | .int _ _, _ => .int _ _
  | .float _ _, _ => .float _ _
  | .complex _ _ _, _ => .complex _ _ _
  | .string _, _ => .string _
  | .pointer none, _ => .ptr0
  | .slice none _ _, _ => .sl0 _ _
  | .map none, _ => .map0
  | .chan none, _ => .chan0
  | .func (.func g) ⟨f⟩ ⟨c⟩, h => by
    simp only [plain, plainA, Bool.and_eq_true, Bool.true_and] at h
    exact .func (by simp) (VRL.of_plain r f h.1) (VRL.of_plain r c h.2)
  | .nilFunc, _ => .func0
  | .iface _ v, h => .iface (VR.of_plain r v h)
  | .nilIface, _ => .iface0
  | .agg ⟨l⟩, h => .agg (VRL.of_plain r l h)
  | .tuple ⟨l⟩, h => .tuple (VRL.of_plain r l h)
theorem VRL.of_plain (r : Ren) : ∀ (l : List Value), plainL l = true → VRL r l l
  | [], _ => .nil
  | v :: l, h => by
    simp only [plainL, Bool.and_eq_true] at h
    exact .cons (VR.of_plain r v h.1) (VRL.of_plain r l h.2)
end
mutual
theorem VR.plain {r : Ren} : ∀ {v v' : Value}, VR r v v' → plain v = true → v' = v
  | _, _, .bool _, _ => rfl
  | _, _, .int _ _, _ => rfl
  | _, _, .float _ _, _ => rfl
  | _, _, .complex _ _ _, _ => rfl
  | _, _, .string _, _ => rfl
  | _, _, .ptr0, _ => rfl
  | _, _, .sl0 _ _, _ => rfl
  | _, _, .map0, _ => rfl
  | _, _, .chan0, _ => rfl
  | _, _, .func _ hf hc, h => by
    simp only [Ev.plain, plainA, Bool.and_eq_true] at h
    rw [VRL.plain hf h.1.2, VRL.plain hc h.2]
  | _, _, .func0, _ => rfl
  | _, _, .iface hv, h => by rw [VR.plain hv h]
  | _, _, .iface0, _ => rfl
  | _, _, .agg hl, h => by rw [VRL.plain hl h]
  | _, _, .tuple hl, h => by rw [VRL.plain hl h]
  | _, _, .any, h => by simp [Ev.plain] at h
  | _, _, .atl _, h => by simp [Ev.plain] at h
theorem VRL.plain {r : Ren} : ∀ {l l' : List Value}, VRL r l l' → plainL l = true → l' = l
  | _, _, .nil, _ => rfl
  | _, _, .cons hv hl, h => by
    simp only [plainL, Bool.and_eq_true] at h
    rw [VR.plain hv h.1, VRL.plain hl h.2]
end
def Ext (r r' : Ren) : Prop := ∀ x e, r x = some e → r' x = some e
theorem Ext.refl (r : Ren) : Ext r r := fun _ _ h => h
theorem Ext.trans {a b c : Ren} (h : Ext a b) (k : Ext b c) : Ext a c := fun x e hx => k x e (h x e hx)
mutual
theorem VR.ext {r r' : Ren} (hx : Ext r r') : ∀ {v v' : Value}, VR r v v' → VR r' v v'
  | _, _, .bool _ => .bool _
  | _, _, .int _ _ => .int _ _
  | _, _, .float _ _ => .float _ _
  | _, _, .complex _ _ _ => .complex _ _ _
  | _, _, .string _ => .string _
  | _, _, .ptr0 => .ptr0
  | _, _, .ptr h => .ptr (hx _ _ h)
  | _, _, .sl0 _ _ => .sl0 _ _
  | _, _, .sl h hb => .sl (hx _ _ h) hb
  | _, _, .slo h hb hc hl => .slo (hx _ _ h) hb hc hl
  | _, _, .slz h hb hc => .slz (hx _ _ h) hb hc
  | _, _, .slk h hb hq hc hl => .slk (hx _ _ h) hb hq hc hl
  | _, _, .map0 => .map0
  | _, _, .map h => .map (hx _ _ h)
  | _, _, .chan0 => .chan0
  | _, _, .func h hf hc => .func h (VRL.ext hx hf) (VRL.ext hx hc)
  | _, _, .yield h => .yield (hx _ _ h)
  | _, _, .func0 => .func0
  | _, _, .iface h => .iface (VR.ext hx h)
  | _, _, .iface0 => .iface0
  | _, _, .agg h => .agg (VRL.ext hx h)
  | _, _, .tuple h => .tuple (VRL.ext hx h)
  | _, _, .any => .any
  | _, _, .atl h => .atl h
theorem VRL.ext {r r' : Ren} (hx : Ext r r') : ∀ {l l' : List Value}, VRL r l l' → VRL r' l l'
  | _, _, .nil => .nil
  | _, _, .cons h t => .cons (VR.ext hx h) (VRL.ext hx t)
end
theorem VRL.length {r : Ren} {l l' : List Value} (h : VRL r l l') : l'.length = l.length := by
  induction l generalizing l' with
  | nil => cases h; rfl
  | cons v l ih => cases h with | cons hv ht => simp [ih ht]
theorem VRL.get {r : Ren} {l l' : List Value} (h : VRL r l l') {i : Nat} {v : Value} (hi : l[i]? = some v) : ∃ v', l'[i]? = some v' ∧ VR r v v' := by
  induction l generalizing l' i with
  | nil => simp at hi
  | cons w l ih =>
    cases h with
    | cons hv ht =>
      cases i with
      | zero => simp at hi; subst hi; exact ⟨_, rfl, hv⟩
      | succ i => simpa using ih ht (by simpa using hi)
theorem VRL.append {r : Ren} {l l' m m' : List Value} (h : VRL r l l') (k : VRL r m m') : VRL r (l ++ m) (l' ++ m') := by
  induction l generalizing l' with
  | nil => cases h; exact k
  | cons v l ih => cases h with | cons hv ht => exact .cons hv (ih ht)
theorem VRL.take {r : Ren} {l l' : List Value} (h : VRL r l l') (n : Nat) : VRL r (l.take n) (l'.take n) := by
  induction l generalizing l' n with
  | nil => cases h; simp; exact .nil
  | cons v l ih =>
    cases h with
    | cons hv ht =>
      cases n with
      | zero => exact .nil
      | succ n => exact .cons hv (ih ht n)
theorem VRL.drop {r : Ren} {l l' : List Value} (h : VRL r l l') (n : Nat) : VRL r (l.drop n) (l'.drop n) := by
  induction l generalizing l' n with
  | nil => cases h; simp; exact .nil
  | cons v l ih =>
    cases h with
    | cons hv ht =>
      cases n with
      | zero => exact .cons hv ht
      | succ n => exact ih ht n
theorem VRL.snoc {r : Ren} {l l' : List Value} {v v' : Value} (h : VRL r l l') (k : VR r v v') : VRL r (l ++ [v]) (l' ++ [v']) := h.append (.cons k .nil)
/-- A temporary that has been forgotten. -/
def isJ : Value → Bool
  | .chan (some 0) => true
  | _ => false
def junk : Value := .chan (some 0)
theorem VR.cells {r : Ren} {v v' : Value} (h : VR r v v') (hj : isJ v = false) : VRL r v.cells.toList v'.cells.toList := by
  cases h <;> first | cases hj; done | (rename_i h; exact h) | exact .cons (by constructor <;> assumption) .nil
theorem VR.one {r : Ren} {v v' : Value} (h : VR r v v') (h1 : Ev.one v = true) : Ev.one v' = true := by cases h <;> first | rfl | cases h1
/-- What a temporary stands for: forgotten, or a value. -/
def UR (r : Ren) (v v' : Value) : Prop := isJ v = true ∨ VR r v v'
theorem UR.ext {r r' : Ren} (hx : Ext r r') {v v' : Value} (h : UR r v v') : UR r' v v' := h.imp id (VR.ext hx)
theorem UR.vr {r : Ren} {v v' : Value} (h : UR r v v') (hj : isJ v = false) : VR r v v' := h.resolve_left (by rw [hj]; simp)
end Ev
end Go.Proofs.YtilnneogbpnkkaaGreatDoor
/- Memory of our own machine, and how it stands for the model's. -/
set_option maxRecDepth 10000
namespace Go.Proofs.YtilnneogbpnkkaaGreatDoor
namespace Ev
noncomputable section
/-- A block: cells (how many are known; the cells that have been written, cell i under the key i + 1; what the others hold: a list, again and again; of an open block how many cells an element takes) · a map · the record of a range over a function · the block for the rounds' deferred calls (none) · a walk over a string · a walk over a map · the same, of which is known what it has seen, what it may have seen and how many, not in which order (and perhaps where it stands). -/
inductive Blk where
  | cells (n : Nat) (c : T Value) (d : List Value) (s : Nat)
  | map (es : List MapEntry) (clock : Nat)
  | loop (l : Loop) (t : T Value)
  | dfr
  | sit (s : ByteArray) (pos : Nat)
  | mit (m : Option Nat) (since : Nat) (seen : List Nat) (last : Nat)
  | mis (m : Nat) (since : Nat) (seen may : List Nat) (cur : Option Nat) (last cnt : Nat)
/-- Memory: blocks (block x under the key x + 1); the numbers below 'lo' are for blocks that are read alone; the next new block has the number 2 * k, or 2 * k + 1 (an open one); g: how many package-level variables there are (number i is block 2 * i). -/
structure H where
  t : T Blk
  k : Nat
  lo : Nat
  g : Nat
def H.get (h : H) (x : Nat) : Option Blk := h.t.get (x + 1)
def H.set (h : H) (x : Nat) (b : Blk) : H := { h with t := h.t.set b (x + 1) }
def H.del (h : H) (x : Nat) : H := { h with t := h.t.del (x + 1) }
theorem H.get_set (h : H) (x y : Nat) (b : Blk) : (h.set x b).get y = if y = x then some b else h.get y := by
  simp only [H.get, H.set, T.set_get b h.t (x + 1) (y + 1) (by omega), Nat.add_right_cancel_iff]
theorem H.get_del (h : H) (x y : Nat) : (h.del x).get y = if y = x then none else h.get y := by
  simp only [H.get, H.del, T.del_get h.t (x + 1) (y + 1) (by omega) (by omega), Nat.add_right_cancel_iff]
/-- Cell i. -/
def cg (c : T Value) (d : List Value) (i : Nat) : Option Value :=
  match c.get (i + 1) with
  | some v => some v
  | none => d[i % d.length]?
/-- A map's entries. -/
inductive ER (r : Ren) : List MapEntry → List MapEntry → Prop
  | nil : ER r [] []
  | cons {e e' : MapEntry} {l l' : List MapEntry} (hk : plain e.key = true) (he : e'.key = e.key) (hb : e'.born = e.born) (hv : VR r e.val e'.val) (t : ER r l l') : ER r (e :: l) (e' :: l')
/-- Temporaries. -/
def TR (r : Ren) (t : T Value) (a : Array Value) : Prop := ∀ i, UR r ((t.get (i + 1)).getD undef) (a.getD i undef)
/-- May a block be written? (A block known whole whose mark is not 0 is there to be read.) -/
def wrt (s x : Nat) : Bool := Nat.beq (Nat.mul s (Nat.sub 1 (Nat.mod x 2))) 0
theorem wrt_odd {s x : Nat} (h : x % 2 = 1) : wrt s x = true := by
  have : Nat.mul s (Nat.sub 1 (Nat.mod x 2)) = 0 := by show s * (1 - x % 2) = 0; rw [h]; simp
  unfold wrt
  rw [this]; rfl
/-- A block of ours and the model's. -/
def BR (r : Ren) (x : Nat) (e : E) (w : World) : Blk → Prop
  | .cells n c d s => ∃ (C : Array Value) (t : TypeId) (f : Nat × Nat), w.heap[e.blk]? = some (.cells C t f) ∧ C.size = e.size ∧
      (∀ i, i < n → ∃ v v', cg c d i = some v ∧ C[e.base + i]? = some v' ∧ VR r v v') ∧
      (wrt s x = true → ∀ i, i < C.size + (1 - x % 2) → ¬ (f.1 ≤ i ∧ i < f.2)) ∧
      (if x % 2 = 0 then e.base = 0 ∧ n = e.size else e.base + n ≤ e.size ∧ e.sz = s)
  | .map es clock => ∃ es', w.heap[e.blk]? = some (.map es' clock) ∧ ER r es es'.toList
  | .loop l t => ∃ d' tm fn, r l.defers = some d' ∧ w.heap[e.blk]? = some (.loop { l with tmps := tm, defers := d'.blk, fn := fn }) ∧ tm.size = l.tmps.size ∧ TR r t tm
  | .dfr => w.heap[e.blk]? = some (.deferred (some []))
  | .sit s pos => e.base = 0 ∧ w.heap[e.blk]? = some (.stringIter s pos)
  | .mit m since seen last => e.base = 0 ∧ ∃ m', (match m with | none => m' = none | some b => ∃ f, r b = some f ∧ m' = some f.blk) ∧ w.heap[e.blk]? = some (.mapIter m' since seen.toArray last)
  | .mis m since seen may cur last cnt => e.base = 0 ∧ ∃ (f : E) (S : Array Nat), r m = some f ∧ w.heap[e.blk]? = some (.mapIter (some f.blk) since S last) ∧ ((∀ x ∈ seen, x ∈ S) ∧ (∀ x ∈ S, x ∈ seen ∨ x ∈ may) ∧ S.size = cnt ∧ S.toList.Nodup) ∧ ∀ c, cur = some c → S.back? = some c
structure HR (r : Ren) (h : H) (w : World) : Prop where
  blk : ∀ x b, h.get x = some b → ∃ e, r x = some e ∧ e.blk < w.heap.size ∧ BR r x e w b
  inj : ∀ x y b c e f, h.get x = some b → h.get y = some c → r x = some e → r y = some f → h.lo ≤ x → x ≠ y → e.blk ≠ f.blk
  new : ∀ x, 2 * h.k ≤ x → r x = none
  lo : h.lo ≤ 2 * h.k
  gl : ∀ i, i < h.g → ∃ e, r (2 * i) = some e ∧ e.blk = i ∧ e.base = 0
  bnd : ∀ x e, r x = some e → e.blk < w.heap.size
/-- The model's blocks that we may write. -/
def Owns (r : Ren) (h : H) (k : Nat) : Prop := ∃ x b e, h.get x = some b ∧ h.lo ≤ x ∧ r x = some e ∧ e.blk = k
/-- What a step of ours may do to the model's memory. -/
structure Step (r : Ren) (h : H) (w : World) (r' : Ren) (h' : H) (w' : World) : Prop where
  ext : Ext r r'
  keep : ∀ x, x < 2 * h.k → r' x = r x
  hr : HR r' h' w'
  k : h.k ≤ h'.k
  lo : h'.lo = h.lo
  g : h'.g = h.g
  size : w.heap.size ≤ w'.heap.size
  old : ∀ k, k < w.heap.size → ¬ Owns r h k → w'.heap[k]? = w.heap[k]? ∧ ¬ Owns r' h' k
  os : w'.os = w.os
  tape : w'.tape = w.tape
  output : w'.output = w.output
theorem Step.refl {r : Ren} {h : H} {w : World} (hr : HR r h w) : Step r h w r h w :=
  ⟨Ext.refl r, fun _ _ => rfl, hr, Nat.le_refl _, rfl, rfl, Nat.le_refl _, fun _ _ ho => ⟨rfl, ho⟩, rfl, rfl, rfl⟩
theorem Step.trans {r r1 r2 : Ren} {h h1 h2 : H} {w w1 w2 : World} (a : Step r h w r1 h1 w1) (b : Step r1 h1 w1 r2 h2 w2) : Step r h w r2 h2 w2 :=
  ⟨a.ext.trans b.ext, fun x hx => (b.keep x (Nat.lt_of_lt_of_le hx (Nat.mul_le_mul_left 2 a.k))).trans (a.keep x hx), b.hr, Nat.le_trans a.k b.k, b.lo.trans a.lo, b.g.trans a.g, Nat.le_trans a.size b.size,
   fun k hk ho => ⟨((b.old k (Nat.lt_of_lt_of_le hk a.size) (a.old k hk ho).2).1).trans (a.old k hk ho).1, (b.old k (Nat.lt_of_lt_of_le hk a.size) (a.old k hk ho).2).2⟩,
   b.os.trans a.os, b.tape.trans a.tape, b.output.trans a.output⟩
theorem ER.ext {r r' : Ren} (hx : Ext r r') {l l' : List MapEntry} (h : ER r l l') : ER r' l l' := by
  induction h with
  | nil => exact .nil
  | cons hk he hb hv _ ih => exact .cons hk he hb (hv.ext hx) ih
theorem TR.ext {r r' : Ren} (hx : Ext r r') {t : T Value} {a : Array Value} (h : TR r t a) : TR r' t a := fun i => (h i).ext hx
/-- A block stands where the model's own block, and what its numbers mean, have not turned. -/
theorem BR.same {r r' : Ren} (hx : Ext r r') {x : Nat} {e : E} {w w' : World} (hw : w'.heap[e.blk]? = w.heap[e.blk]?) {b : Blk} (h : BR r x e w b) : BR r' x e w' b := by
  cases b with
  | cells n c d s =>
    obtain ⟨C, t, f, h1, h2, h3, h4, h5⟩ := h
    refine ⟨C, t, f, hw.trans h1, h2, fun i hi => ?_, h4, h5⟩
    obtain ⟨v, v', a, b, c⟩ := h3 i hi
    exact ⟨v, v', a, b, c.ext hx⟩
  | map es cl =>
    obtain ⟨es', h1, h2⟩ := h
    exact ⟨es', hw.trans h1, h2.ext hx⟩
  | loop l t =>
    obtain ⟨d, tm, fn, h1, h2, h3, h4⟩ := h
    exact ⟨d, tm, fn, hx _ _ h1, hw.trans h2, h3, h4.ext hx⟩
  | dfr => exact hw.trans h
  | sit s p => exact ⟨h.1, hw.trans h.2⟩
  | mit m since seen last =>
    obtain ⟨h1, m', h2, h3⟩ := h
    refine ⟨h1, m', ?_, hw.trans h3⟩
    cases m with
    | none => exact h2
    | some b => obtain ⟨f, q1, q2⟩ := h2; exact ⟨f, hx _ _ q1, q2⟩
  | mis m since seen may cur last cnt =>
    obtain ⟨h1, f, S, h2, h3, h4⟩ := h
    exact ⟨h1, f, S, hx _ _ h2, hw.trans h3, h4⟩
/-- The model's memory turns where nobody of ours lives. -/
theorem HR.drew {r : Ren} {h : H} {w : World} (hr : HR r h w) (n : Nat) : HR r h { w with drawn := n } :=
  ⟨fun x b hx => by obtain ⟨e, h1, h2, h3⟩ := hr.blk x b hx; exact ⟨e, h1, h2, h3.same (w' := { w with drawn := n }) (Ext.refl r) rfl⟩, hr.inj, hr.new, hr.lo, hr.gl, hr.bnd⟩
def Ren.put (r : Ren) (x : Nat) (e : E) : Ren := fun y => if y = x then some e else r y
theorem Ren.put_bnd {r : Ren} {x : Nat} {e : E} {m m' : Nat} (h : ∀ y f, r y = some f → f.blk < m) (hm : m ≤ m') (he : e.blk < m') : ∀ y f, r.put x e y = some f → f.blk < m' := fun y f hy => by
  unfold Ren.put at hy
  split at hy
  · cases hy; exact he
  · have := h y f hy; omega
theorem Ren.put_ext {r : Ren} {x : Nat} {e : E} (h : r x = none) : Ext r (r.put x e) := fun y f hy => by
  unfold Ren.put
  by_cases hxy : y = x
  · subst hxy; rw [h] at hy; cases hy
  · rw [if_neg hxy]; exact hy
/-- A new block of ours, at the end of the model's memory. -/
theorem HR.new_ {r : Ren} {h : H} {w : World} (hr : HR r h w) {x : Nat} {e : E} {b : Blk} {o : Obj} {k' : Nat} (hx : 2 * h.k ≤ x) (hk : h.k ≤ k') (hx' : x < 2 * k') (he : e.blk = w.heap.size)
    (hb : BR (r.put x e) x e { w with heap := w.heap.push o } b) : Step r h w (r.put x e) { (h.set x b) with k := k' } { w with heap := w.heap.push o } := by
  have hext : Ext r (r.put x e) := Ren.put_ext (hr.new x hx)
  have hold : ∀ k, k < w.heap.size → (w.heap.push o)[k]? = w.heap[k]? := fun k hk => by
    rw [Array.getElem?_push]; rw [if_neg (by omega)]
  have hnx : ∀ y c, h.get y = some c → y ≠ x := fun y c hy hxy => by
    obtain ⟨f, hf, _⟩ := hr.blk y c hy
    rw [hr.new y (by omega)] at hf; cases hf
  have hget : ∀ y, ({ (h.set x b) with k := k' } : H).get y = if y = x then some b else h.get y := fun y => H.get_set h x y b
  refine ⟨hext, fun y hy => if_neg (by omega), ⟨?_, ?_, ?_, ?_, fun i hi => by obtain ⟨f, h1, h2⟩ := hr.gl i hi; exact ⟨f, hext _ _ h1, h2⟩, Ren.put_bnd hr.bnd (by simp) (by simp [he])⟩, hk, rfl, rfl, by simp, ?_, rfl, rfl, rfl⟩
  · intro y c hy
    rw [hget] at hy
    by_cases hxy : y = x
    · subst hxy
      simp at hy; subst hy
      exact ⟨e, by simp [Ren.put], by simp [he], hb⟩
    · rw [if_neg hxy] at hy
      obtain ⟨f, h1, h2, h3⟩ := hr.blk y c hy
      exact ⟨f, hext _ _ h1, by simp; omega, h3.same hext (hold _ h2)⟩
  · intro y z c d f g hy hz hf hg hlo hne
    rw [hget] at hy hz
    unfold Ren.put at hf hg
    by_cases hyx : y = x
    · subst hyx
      have hzy : z ≠ y := fun q => hne q.symm
      rw [if_neg hzy] at hz hg
      simp at hf; subst hf
      obtain ⟨g', h1, h2, _⟩ := hr.blk z d hz
      rw [hg] at h1; cases h1
      omega
    · rw [if_neg hyx] at hy hf
      by_cases hzx : z = x
      · subst hzx
        simp at hg; subst hg
        obtain ⟨f', h1, h2, _⟩ := hr.blk y c hy
        rw [hf] at h1; cases h1
        omega
      · rw [if_neg hzx] at hz hg
        exact hr.inj y z c d f g hy hz hf hg hlo hne
  · intro y hy
    have : y ≠ x := by simp at hy; omega
    simp only [Ren.put, if_neg this]
    exact hr.new y (by simp at hy; omega)
  · have := hr.lo
    show h.lo ≤ 2 * k'
    omega
  · intro k hk ho
    refine ⟨hold k hk, fun ⟨y, c, f, h1, h2, h3, h4⟩ => ?_⟩
    rw [hget] at h1
    by_cases hyx : y = x
    · subst hyx; simp [Ren.put] at h3; subst h3; omega
    · rw [if_neg hyx] at h1
      simp only [Ren.put, if_neg hyx] at h3
      exact ho ⟨y, c, f, h1, h2, h3, h4⟩
/-- A block of ours is written, and so is the model's. -/
theorem HR.set_ {r : Ren} {h : H} {w w' : World} (hr : HR r h w) {x : Nat} {e : E} {b b' : Blk} (hx : h.get x = some b) (he : r x = some e) (hlo : h.lo ≤ x)
    (hsz : w'.heap.size = w.heap.size) (hw : ∀ k, k ≠ e.blk → w'.heap[k]? = w.heap[k]?) (hos : w'.os = w.os) (ht : w'.tape = w.tape) (ho : w'.output = w.output)
    (hb : BR r x e w' b') : Step r h w r (h.set x b') w' := by
  have hget : ∀ y, (h.set x b').get y = if y = x then some b' else h.get y := fun y => H.get_set h x y b'
  have hal : ∀ y c, (h.set x b').get y = some c → ∃ c', h.get y = some c' := fun y c hy => by
    rw [hget] at hy
    by_cases q : y = x
    · subst q; exact ⟨b, hx⟩
    · rw [if_neg q] at hy; exact ⟨c, hy⟩
  refine ⟨Ext.refl r, fun _ _ => rfl, ⟨?_, ?_, hr.new, hr.lo, hr.gl, fun x e hx => by have := hr.bnd x e hx; omega⟩, Nat.le_refl _, rfl, rfl, by omega, ?_, hos, ht, ho⟩
  · intro y c hy
    rw [hget] at hy
    by_cases hxy : y = x
    · subst hxy
      simp at hy; subst hy
      obtain ⟨e', h1, h2, _⟩ := hr.blk y b hx
      rw [he] at h1; cases h1
      exact ⟨e, he, by omega, hb⟩
    · rw [if_neg hxy] at hy
      obtain ⟨f, h1, h2, h3⟩ := hr.blk y c hy
      exact ⟨f, h1, by omega, h3.same (Ext.refl r) (hw _ (fun q => hr.inj x y b c e f hx hy he h1 hlo (fun s => hxy s.symm) q.symm))⟩
  · intro y z c d f g hy hz hf hg hl hne
    obtain ⟨c', hc'⟩ := hal y c hy
    obtain ⟨d', hd'⟩ := hal z d hz
    exact hr.inj y z c' d' f g hc' hd' hf hg hl hne
  · intro k hk hno
    refine ⟨hw k (fun q => hno ⟨x, b, e, hx, hlo, he, q.symm⟩), fun ⟨y, c, f, h1, h2, h3, h4⟩ => ?_⟩
    obtain ⟨c', hc'⟩ := hal y c h1
    exact hno ⟨y, c', f, hc', h2, h3, h4⟩
end
end Ev
end Go.Proofs.YtilnneogbpnkkaaGreatDoor
