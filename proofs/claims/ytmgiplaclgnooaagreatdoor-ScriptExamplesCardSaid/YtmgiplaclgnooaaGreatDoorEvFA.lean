/- The same machine, made for the kernel's speed: places in trees, values taken apart by recursors, code made ready. -/
import Derived.Test.YtmgiplaclgnooaaGreatDoorEvZQ
set_option maxRecDepth 10000
namespace Go.Proofs.YtmgiplaclgnooaaGreatDoor
namespace Ev
/-- A place in a tree. -/
inductive Pth where
  | h
  | l (p : Pth)
  | r (p : Pth)
def pthF : Nat → Nat → Pth
  | 0, _ => .h
  | f + 1, m => bif Nat.beq m 1 then .h else bif Nat.beq (m % 2) 0 then .l (pthF f (m / 2)) else .r (pthF f (m / 2))
def pth (d : Nat) : Pth := pthF (d + 1) (d + 1)
noncomputable def T.at_ (p : Pth) : T Value → Value :=
  Pth.rec (motive := fun _ => T Value → Value) (fun t => T.rec (motive := fun _ => Value) undef (fun _ v _ _ _ => Option.rec (motive := fun _ => Value) undef (fun x => x) v) t)
    (fun _ ih t => T.rec (motive := fun _ => Value) undef (fun l _ _ _ _ => ih l) t) (fun _ ih t => T.rec (motive := fun _ => Value) undef (fun _ _ r _ _ => ih r) t) p
noncomputable def T.put (v : Value) (p : Pth) : T Value → T Value :=
  Pth.rec (motive := fun _ => T Value → T Value) (fun t => T.rec (motive := fun _ => T Value) (.n .e (some v) .e) (fun l _ r _ _ => .n l (some v) r) t)
    (fun _ ih t => T.rec (motive := fun _ => T Value) (.n (ih .e) none .e) (fun l w r _ _ => .n (ih l) w r) t) (fun _ ih t => T.rec (motive := fun _ => T Value) (.n .e none (ih .e)) (fun l w r _ _ => .n l w (ih r)) t) p
theorem T.at_eq : ∀ (f m : Nat) (t : T Value), 1 ≤ m → m ≤ f → t.at_ (pthF f m) = (t.get m).getD undef := by
  intro f
  induction f with
  | zero => intro m t h1 h2; omega
  | succ f ih =>
    intro m t h1 h2
    cases t with
    | e =>
      simp only [pthF, T.get_e, Option.getD_none]
      cases Nat.beq m 1 <;> cases Nat.beq (m % 2) 0 <;> rfl
    | n l v r =>
      simp only [pthF, T.get_n]
      by_cases hm : m = 1
      · subst hm; cases v <;> rfl
      · rw [beqF hm]
        cases Nat.beq (m % 2) 0
        · exact ih _ _ (by omega) (by omega)
        · exact ih _ _ (by omega) (by omega)
theorem T.one_fuel {α : Type} (v : α) : ∀ (f g m : Nat), 1 ≤ m → m ≤ f → m ≤ g → T.one v f m = T.one v g m := by
  intro f
  induction f with
  | zero => intro g m h1 h2; omega
  | succ f ih =>
    intro g m h1 h2 h3
    cases g with
    | zero => omega
    | succ g =>
      simp only [T.one_s]
      by_cases hm : m = 1
      · subst hm; rfl
      · rw [beqF hm, ih g (m / 2) (by omega) (by omega) (by omega)]
theorem T.put_one (v : Value) : ∀ (f m : Nat), 1 ≤ m → m ≤ f → T.put v (pthF f m) .e = T.one v f m := by
  intro f
  induction f with
  | zero => intro m h1 h2; omega
  | succ f ih =>
    intro m h1 h2
    simp only [pthF, T.one_s]
    by_cases hm : m = 1
    · subst hm; rfl
    · rw [beqF hm]
      cases Nat.beq (m % 2) 0
      · show T.n .e none (T.put v (pthF f (m / 2)) .e) = _
        rw [ih _ (by omega) (by omega)]; rfl
      · show T.n (T.put v (pthF f (m / 2)) .e) none .e = _
        rw [ih _ (by omega) (by omega)]; rfl
theorem T.put_eq (v : Value) : ∀ (f m : Nat) (t : T Value), 1 ≤ m → m ≤ f → T.put v (pthF f m) t = t.set v m := by
  intro f
  induction f with
  | zero => intro m t h1 h2; omega
  | succ f ih =>
    intro m t h1 h2
    cases t with
    | e => rw [T.put_one v _ _ h1 h2, T.set_e]; exact T.one_fuel v _ _ _ h1 h2 (Nat.le_refl _)
    | n l w r =>
      simp only [pthF, T.set_n]
      by_cases hm : m = 1
      · subst hm; rfl
      · rw [beqF hm]
        cases Nat.beq (m % 2) 0
        · show T.n l w (T.put v (pthF f (m / 2)) r) = _
          rw [ih _ _ (by omega) (by omega)]; rfl
        · show T.n (T.put v (pthF f (m / 2)) l) w r = _
          rw [ih _ _ (by omega) (by omega)]; rfl
theorem at_pth (d : Nat) (t : T Value) : t.at_ (pth d) = (t.get (d + 1)).getD undef := T.at_eq _ _ _ (by omega) (Nat.le_refl _)
theorem put_pth (v : Value) (d : Nat) (t : T Value) : T.put v (pth d) t = t.set v (d + 1) := T.put_eq v _ _ _ (by omega) (Nat.le_refl _)
noncomputable def vBool {α : Type} (v : Value) (d : α) (k : Bool → α) : α :=
  @Value.rec (fun _ => α) (fun _ => Unit) (fun _ => Unit) (fun q => k q) (fun _ _ => d) (fun _ _ => d) (fun _ _ _ => d) (fun _ => d) (fun _ => d) (fun _ _ _ => d) (fun _ => d) (fun _ => d) (fun _ _ _ _ _ => d) d (fun _ _ _ => d) d (fun _ _ => d) (fun _ _ => d) (fun _ _ => ()) () (fun _ _ _ _ => ()) v
noncomputable def vInt {α : Type} (v : Value) (d : α) (k : IntKind → Int → α) : α :=
  @Value.rec (fun _ => α) (fun _ => Unit) (fun _ => Unit) (fun _ => d) (fun i n => k i n) (fun _ _ => d) (fun _ _ _ => d) (fun _ => d) (fun _ => d) (fun _ _ _ => d) (fun _ => d) (fun _ => d) (fun _ _ _ _ _ => d) d (fun _ _ _ => d) d (fun _ _ => d) (fun _ _ => d) (fun _ _ => ()) () (fun _ _ _ _ => ()) v
noncomputable def vStr {α : Type} (v : Value) (d : α) (k : ByteArray → α) : α :=
  @Value.rec (fun _ => α) (fun _ => Unit) (fun _ => Unit) (fun _ => d) (fun _ _ => d) (fun _ _ => d) (fun _ _ _ => d) (fun s => k s) (fun _ => d) (fun _ _ _ => d) (fun _ => d) (fun _ => d) (fun _ _ _ _ _ => d) d (fun _ _ _ => d) d (fun _ _ => d) (fun _ _ => d) (fun _ _ => ()) () (fun _ _ _ _ => ()) v
noncomputable def vPtr {α : Type} (v : Value) (d : α) (k : Option Addr → α) : α :=
  @Value.rec (fun _ => α) (fun _ => Unit) (fun _ => Unit) (fun _ => d) (fun _ _ => d) (fun _ _ => d) (fun _ _ _ => d) (fun _ => d) (fun a => k a) (fun _ _ _ => d) (fun _ => d) (fun _ => d) (fun _ _ _ _ _ => d) d (fun _ _ _ => d) d (fun _ _ => d) (fun _ _ => d) (fun _ _ => ()) () (fun _ _ _ _ => ()) v
noncomputable def vSl {α : Type} (v : Value) (d : α) (k : Option Addr → Nat → Nat → α) : α :=
  @Value.rec (fun _ => α) (fun _ => Unit) (fun _ => Unit) (fun _ => d) (fun _ _ => d) (fun _ _ => d) (fun _ _ _ => d) (fun _ => d) (fun _ => d) (fun a l c => k a l c) (fun _ => d) (fun _ => d) (fun _ _ _ _ _ => d) d (fun _ _ _ => d) d (fun _ _ => d) (fun _ _ => d) (fun _ _ => ()) () (fun _ _ _ _ => ()) v
noncomputable def vFn {α : Type} (v : Value) (d : α) (k : Fn → Array Value → Array Value → α) : α :=
  @Value.rec (fun _ => α) (fun _ => Unit) (fun _ => Unit) (fun _ => d) (fun _ _ => d) (fun _ _ => d) (fun _ _ _ => d) (fun _ => d) (fun _ => d) (fun _ _ _ => d) (fun _ => d) (fun _ => d) (fun f a b _ _ => k f a b) d (fun _ _ _ => d) d (fun _ _ => d) (fun _ _ => d) (fun _ _ => ()) () (fun _ _ _ _ => ()) v
noncomputable def vAgg {α : Type} (v : Value) (d : α) (k : Array Value → α) : α :=
  @Value.rec (fun _ => α) (fun _ => Unit) (fun _ => Unit) (fun _ => d) (fun _ _ => d) (fun _ _ => d) (fun _ _ _ => d) (fun _ => d) (fun _ => d) (fun _ _ _ => d) (fun _ => d) (fun _ => d) (fun _ _ _ _ _ => d) d (fun _ _ _ => d) d (fun a _ => k a) (fun _ _ => d) (fun _ _ => ()) () (fun _ _ _ _ => ()) v
noncomputable def vTup {α : Type} (v : Value) (d : α) (k : Array Value → α) : α :=
  @Value.rec (fun _ => α) (fun _ => Unit) (fun _ => Unit) (fun _ => d) (fun _ _ => d) (fun _ _ => d) (fun _ _ _ => d) (fun _ => d) (fun _ => d) (fun _ _ _ => d) (fun _ => d) (fun _ => d) (fun _ _ _ _ _ => d) d (fun _ _ _ => d) d (fun _ _ => d) (fun a _ => k a) (fun _ _ => ()) () (fun _ _ _ _ => ()) v
theorem vBool_eq {α : Type} (v : Value) (d : α) (k : Bool → α) : vBool v d k = (match v with | .bool q => k q | _ => d) := by cases v <;> rfl
theorem vInt_eq {α : Type} (v : Value) (d : α) (k : IntKind → Int → α) : vInt v d k = (match v with | .int i n => k i n | _ => d) := by cases v <;> rfl
theorem vStr_eq {α : Type} (v : Value) (d : α) (k : ByteArray → α) : vStr v d k = (match v with | .string s => k s | _ => d) := by cases v <;> rfl
theorem vPtr_eq {α : Type} (v : Value) (d : α) (k : Option Addr → α) : vPtr v d k = (match v with | .pointer a => k a | _ => d) := by cases v <;> rfl
theorem vSl_eq {α : Type} (v : Value) (d : α) (k : Option Addr → Nat → Nat → α) : vSl v d k = (match v with | .slice a l c => k a l c | _ => d) := by cases v <;> rfl
theorem vFn_eq {α : Type} (v : Value) (d : α) (k : Fn → Array Value → Array Value → α) : vFn v d k = (match v with | .func f a b => k f a b | _ => d) := by cases v <;> rfl
theorem vAgg_eq {α : Type} (v : Value) (d : α) (k : Array Value → α) : vAgg v d k = (match v with | .agg a => k a | _ => d) := by cases v <;> rfl
theorem vTup_eq {α : Type} (v : Value) (d : α) (k : Array Value → α) : vTup v d k = (match v with | .tuple a => k a | _ => d) := by cases v <;> rfl
end Ev
end Go.Proofs.YtmgiplaclgnooaaGreatDoor
