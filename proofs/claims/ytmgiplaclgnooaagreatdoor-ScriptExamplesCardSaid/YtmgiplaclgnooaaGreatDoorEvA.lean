/- A machine of our own that runs the program's code over trees (to be run by the kernel): its memory, and how its memory stands for the model's. -/
import Derived.AtR
import Derived.Laws.Sem
import Derived.OrdersHeld
set_option maxRecDepth 10000
namespace Go.Proofs.YtmgiplaclgnooaaGreatDoor
namespace Ev
/-! Trees by binary keys (1, 2, ..). -/
inductive T (α : Type) where
  | e
  | n (l : T α) (v : Option α) (r : T α)
noncomputable def T.get {α : Type} (t : T α) : Nat → Option α :=
  T.rec (motive := fun _ => Nat → Option α) (fun _ => none) (fun _ v _ fl fr m => Bool.rec (motive := fun _ => Option α) (Bool.rec (motive := fun _ => Option α) (fr (Nat.div m 2)) (fl (Nat.div m 2)) (Nat.beq (Nat.mod m 2) 0)) v (Nat.beq m 1)) t
theorem T.get_e {α : Type} (m : Nat) : (T.e : T α).get m = none := rfl
theorem T.get_n {α : Type} (l r : T α) (v : Option α) (m : Nat) : (T.n l v r).get m = bif Nat.beq m 1 then v else bif Nat.beq (m % 2) 0 then l.get (m / 2) else r.get (m / 2) := by
  show Bool.rec (motive := fun _ => Option α) (Bool.rec (motive := fun _ => Option α) (r.get (Nat.div m 2)) (l.get (Nat.div m 2)) (Nat.beq (Nat.mod m 2) 0)) v (Nat.beq m 1) = bif Nat.beq m 1 then v else bif Nat.beq (Nat.mod m 2) 0 then l.get (Nat.div m 2) else r.get (Nat.div m 2)
  cases Nat.beq m 1 <;> cases Nat.beq (Nat.mod m 2) 0 <;> rfl
noncomputable def T.one {α : Type} (v : α) (f : Nat) : Nat → T α :=
  Nat.rec (motive := fun _ => Nat → T α) (fun _ => .e) (fun _ ih m => Bool.rec (motive := fun _ => T α) (Bool.rec (motive := fun _ => T α) (.n .e none (ih (Nat.div m 2))) (.n (ih (Nat.div m 2)) none .e) (Nat.beq (Nat.mod m 2) 0)) (.n .e (some v) .e) (Nat.beq m 1)) f
theorem T.one_z {α : Type} (v : α) (m : Nat) : T.one v 0 m = .e := rfl
theorem T.one_s {α : Type} (v : α) (f m : Nat) : T.one v (f + 1) m = bif Nat.beq m 1 then .n .e (some v) .e else bif Nat.beq (m % 2) 0 then .n (T.one v f (m / 2)) none .e else .n .e none (T.one v f (m / 2)) := by
  show Bool.rec (motive := fun _ => T α) (Bool.rec (motive := fun _ => T α) (.n .e none (T.one v f (Nat.div m 2))) (.n (T.one v f (Nat.div m 2)) none .e) (Nat.beq (Nat.mod m 2) 0)) (.n .e (some v) .e) (Nat.beq m 1) = bif Nat.beq m 1 then .n .e (some v) .e else bif Nat.beq (Nat.mod m 2) 0 then .n (T.one v f (Nat.div m 2)) none .e else .n .e none (T.one v f (Nat.div m 2))
  cases Nat.beq m 1 <;> cases Nat.beq (Nat.mod m 2) 0 <;> rfl
noncomputable def T.set {α : Type} (v : α) (t : T α) : Nat → T α :=
  T.rec (motive := fun _ => Nat → T α) (fun m => T.one v m m) (fun l w r fl fr m => Bool.rec (motive := fun _ => T α) (Bool.rec (motive := fun _ => T α) (.n l w (fr (Nat.div m 2))) (.n (fl (Nat.div m 2)) w r) (Nat.beq (Nat.mod m 2) 0)) (.n l (some v) r) (Nat.beq m 1)) t
theorem T.set_e {α : Type} (v : α) (m : Nat) : (T.e : T α).set v m = T.one v m m := rfl
theorem T.set_n {α : Type} (v : α) (l r : T α) (w : Option α) (m : Nat) : (T.n l w r).set v m = bif Nat.beq m 1 then .n l (some v) r else bif Nat.beq (m % 2) 0 then .n (l.set v (m / 2)) w r else .n l w (r.set v (m / 2)) := by
  show Bool.rec (motive := fun _ => T α) (Bool.rec (motive := fun _ => T α) (.n l w (r.set v (Nat.div m 2))) (.n (l.set v (Nat.div m 2)) w r) (Nat.beq (Nat.mod m 2) 0)) (.n l (some v) r) (Nat.beq m 1) = bif Nat.beq m 1 then .n l (some v) r else bif Nat.beq (Nat.mod m 2) 0 then .n (l.set v (Nat.div m 2)) w r else .n l w (r.set v (Nat.div m 2))
  cases Nat.beq m 1 <;> cases Nat.beq (Nat.mod m 2) 0 <;> rfl
def T.del {α : Type} : T α → Nat → T α
  | .e, _ => .e
  | .n l w r, m => bif Nat.beq m 1 then .n l none r else bif Nat.beq (m % 2) 0 then .n (l.del (m / 2)) w r else .n l w (r.del (m / 2))
theorem beqF {a b : Nat} (h : a ≠ b) : Nat.beq a b = false := by
  cases e : Nat.beq a b
  · rfl
  · exact absurd (Nat.eq_of_beq_eq_true e) h
theorem beqT {a b : Nat} (h : a = b) : Nat.beq a b = true := by subst h; exact Nat.beq_refl a
theorem T.one_get {α : Type} (v : α) : ∀ f m k : Nat, 1 ≤ m → m ≤ f → (T.one v f m).get k = if k = m then some v else none := by
  intro f
  induction f with
  | zero => intro m k h1 h2; omega
  | succ f ih =>
    intro m k h1 h2
    by_cases hm : m = 1
    · subst hm
      by_cases hk : k = 1
      · subst hk; simp [T.one_s, T.get_n, T.get_e]
      · simp [T.one_s, T.get_n, T.get_e, hk, beqF hk]
    · have hm' : Nat.beq m 1 = false := beqF (by omega)
      by_cases h0 : m % 2 = 0
      · have h0' : Nat.beq (m % 2) 0 = true := beqT (by omega)
        simp only [T.one_s, hm', h0', cond_false, cond_true, T.get_n, T.get_e]
        by_cases hk : k = 1
        · subst hk; simp; omega
        · have hk' : Nat.beq k 1 = false := beqF (by omega)
          by_cases hk0 : k % 2 = 0
          · have hk0' : Nat.beq (k % 2) 0 = true := beqT (by omega)
            simp only [hk', hk0', cond_false, cond_true]
            rw [ih _ _ (by omega) (by omega)]
            by_cases e : k = m
            · subst e; simp
            · rw [if_neg e, if_neg (by omega)]
          · have hk0' : Nat.beq (k % 2) 0 = false := beqF (by omega)
            simp only [hk', hk0', cond_false]
            rw [if_neg (by omega)]
      · have h0' : Nat.beq (m % 2) 0 = false := beqF (by omega)
        simp only [T.one_s, hm', h0', cond_false, T.get_n, T.get_e]
        by_cases hk : k = 1
        · subst hk; simp; omega
        · have hk' : Nat.beq k 1 = false := beqF (by omega)
          by_cases hk0 : k % 2 = 0
          · have hk0' : Nat.beq (k % 2) 0 = true := beqT (by omega)
            simp only [hk', hk0', cond_false, cond_true]
            rw [if_neg (by omega)]
          · have hk0' : Nat.beq (k % 2) 0 = false := beqF (by omega)
            simp only [hk', hk0', cond_false]
            rw [ih _ _ (by omega) (by omega)]
            by_cases e : k = m
            · subst e; simp
            · rw [if_neg e, if_neg (by omega)]
theorem T.set_get {α : Type} (v : α) : ∀ (t : T α) (m k : Nat), 1 ≤ m → (t.set v m).get k = if k = m then some v else t.get k := by
  intro t
  induction t with
  | e => intro m k h; rw [T.set_e, T.one_get v m m k h (Nat.le_refl _)]; rfl
  | n l w r ihl ihr =>
    intro m k h
    by_cases hm : m = 1
    · subst hm
      by_cases hk : k = 1
      · subst hk; simp [T.set_n, T.get_n]
      · simp [T.set_n, T.get_n, hk, beqF hk]
    · have hm' : Nat.beq m 1 = false := beqF (by omega)
      by_cases h0 : m % 2 = 0
      · have h0' : Nat.beq (m % 2) 0 = true := beqT (by omega)
        simp only [T.set_n, hm', h0', cond_false, cond_true, T.get_n, T.get_e]
        by_cases hk : k = 1
        · subst hk; simp; omega
        · have hk' : Nat.beq k 1 = false := beqF (by omega)
          by_cases hk0 : k % 2 = 0
          · have hk0' : Nat.beq (k % 2) 0 = true := beqT (by omega)
            simp only [hk', hk0', cond_false, cond_true]
            rw [ihl _ _ (by omega)]
            by_cases e : k = m
            · subst e; simp
            · rw [if_neg e, if_neg (by omega)]
          · have hk0' : Nat.beq (k % 2) 0 = false := beqF (by omega)
            simp only [hk', hk0', cond_false]
            rw [if_neg (by omega)]
      · have h0' : Nat.beq (m % 2) 0 = false := beqF (by omega)
        simp only [T.set_n, hm', h0', cond_false, T.get_n, T.get_e]
        by_cases hk : k = 1
        · subst hk; simp; omega
        · have hk' : Nat.beq k 1 = false := beqF (by omega)
          by_cases hk0 : k % 2 = 0
          · have hk0' : Nat.beq (k % 2) 0 = true := beqT (by omega)
            simp only [hk', hk0', cond_false, cond_true]
            rw [if_neg (by omega)]
          · have hk0' : Nat.beq (k % 2) 0 = false := beqF (by omega)
            simp only [hk', hk0', cond_false]
            rw [ihr _ _ (by omega)]
            by_cases e : k = m
            · subst e; simp
            · rw [if_neg e, if_neg (by omega)]
theorem T.one_set {α : Type} (u v : α) : ∀ (f m : Nat), 1 ≤ m → m ≤ f → (T.one u f m).set v m = T.one v f m := by
  intro f
  induction f with
  | zero => intro m h1 h2; omega
  | succ f ih =>
    intro m h1 h2
    by_cases hm : m = 1
    · subst hm; rfl
    · rw [T.one_s, T.one_s, beqF hm]
      cases hq : Nat.beq (m % 2) 0 with
      | true => simp only [cond_false, cond_true, T.set_n, beqF hm, hq, ih _ (show 1 ≤ m / 2 by omega) (by omega)]
      | false => simp only [cond_false, T.set_n, beqF hm, hq, ih _ (show 1 ≤ m / 2 by omega) (by omega)]
theorem T.set_set {α : Type} (u v : α) : ∀ (t : T α) (m : Nat), 1 ≤ m → (t.set u m).set v m = t.set v m := by
  intro t
  induction t with
  | e => intro m h; rw [T.set_e, T.set_e, T.one_set u v m m h (Nat.le_refl _)]
  | n l w r ihl ihr =>
    intro m h
    by_cases hm : m = 1
    · subst hm; rfl
    · rw [T.set_n, T.set_n, beqF hm]
      cases hq : Nat.beq (m % 2) 0 with
      | true => simp only [cond_false, cond_true, T.set_n, beqF hm, hq, ihl _ (show 1 ≤ m / 2 by omega)]
      | false => simp only [cond_false, T.set_n, beqF hm, hq, ihr _ (show 1 ≤ m / 2 by omega)]
theorem T.del_get {α : Type} : ∀ (t : T α) (m k : Nat), 1 ≤ m → 1 ≤ k → (t.del m).get k = if k = m then none else t.get k := by
  intro t
  induction t with
  | e => intro m k h hk; simp [T.del, T.get_n, T.get_e]
  | n l w r ihl ihr =>
    intro m k h hk1
    by_cases hm : m = 1
    · subst hm
      by_cases hk : k = 1
      · subst hk; simp [T.del, T.get_n, T.get_e]
      · simp [T.del, T.get_n, T.get_e, hk, beqF hk]
    · have hm' : Nat.beq m 1 = false := beqF (by omega)
      by_cases h0 : m % 2 = 0
      · have h0' : Nat.beq (m % 2) 0 = true := beqT (by omega)
        simp only [T.del, hm', h0', cond_false, cond_true, T.get_n, T.get_e]
        by_cases hk : k = 1
        · subst hk; simp; omega
        · have hk' : Nat.beq k 1 = false := beqF (by omega)
          by_cases hk0 : k % 2 = 0
          · have hk0' : Nat.beq (k % 2) 0 = true := beqT (by omega)
            simp only [hk', hk0', cond_false, cond_true]
            rw [ihl _ _ (by omega) (by omega)]
            by_cases e : k = m
            · subst e; simp
            · rw [if_neg e, if_neg (by omega)]
          · have hk0' : Nat.beq (k % 2) 0 = false := beqF (by omega)
            simp only [hk', hk0', cond_false]
            rw [if_neg (by omega)]
      · have h0' : Nat.beq (m % 2) 0 = false := beqF (by omega)
        simp only [T.del, hm', h0', cond_false, T.get_n, T.get_e]
        by_cases hk : k = 1
        · subst hk; simp; omega
        · have hk' : Nat.beq k 1 = false := beqF (by omega)
          by_cases hk0 : k % 2 = 0
          · have hk0' : Nat.beq (k % 2) 0 = true := beqT (by omega)
            simp only [hk', hk0', cond_false, cond_true]
            rw [if_neg (by omega)]
          · have hk0' : Nat.beq (k % 2) 0 = false := beqF (by omega)
            simp only [hk', hk0', cond_false]
            rw [ihr _ _ (by omega) (by omega)]
            by_cases e : k = m
            · subst e; simp
            · rw [if_neg e, if_neg (by omega)]
end Ev
end Go.Proofs.YtmgiplaclgnooaaGreatDoor
