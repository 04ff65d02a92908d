/- What a function leads to, reckoned quickly. No condition. -/
import Derived.JoinedOf
import Derived.KernelRfl
namespace Go.Proofs.YtmemadmjgcpobaaGreatDoor
namespace Cl
/-- A list's element, by recursors. -/
noncomputable def nth {α : Type} (d : α) (l : List α) : Nat → α := List.rec (motive := fun _ => Nat → α) (fun _ => d) (fun a _ ih i => Nat.rec (motive := fun _ => α) a (fun j _ => ih j) i) l
theorem nth_eq {α : Type} (d : α) : ∀ (l : List α) (i : Nat), nth d l i = (l[i]?).getD d := by
  intro l
  induction l with
  | nil => intro i; rfl
  | cons a l ih =>
    intro i
    cases i with
    | zero => rfl
    | succ i => exact ih i
/-- The closure, what has been seen held as bits. -/
noncomputable def go (lead : Nat → List Nat) (n : Nat) : List Nat → List Nat → Nat → List Nat :=
  Nat.rec (motive := fun _ => List Nat → List Nat → Nat → List Nat) (fun _ seen _ => seen.reverse)
    (fun _ ih todo seen m => List.rec (motive := fun _ => List Nat) seen.reverse (fun f todo _ => Bool.rec (motive := fun _ => List Nat) (ih (lead f ++ todo) (f :: seen) (m ||| 2 ^ f)) (ih todo seen m) (Nat.testBit m f)) todo) n
theorem testBit_put (m f x : Nat) : (m ||| 2 ^ f).testBit x = (x == f || m.testBit x) := by
  rw [Nat.testBit_or, Nat.testBit_two_pow]
  by_cases h : f = x
  · subst h; simp
  · have : (x == f) = false := by simpa using fun e => h e.symm
    simp [h, this]
theorem closureVia_eq (P : Program) (lead : Nat → List Nat) (h : ∀ f, (P.funcs[f]?).elim [] P.leadsTo = lead f) : ∀ (n : Nat) (todo seen : List Nat) (m : Nat), (∀ x, m.testBit x = seen.contains x) → P.closureVia n todo seen = go lead n todo seen m := by
  intro n
  induction n with
  | zero => intro todo seen m _; rfl
  | succ n ih =>
    intro todo seen m hm
    cases todo with
    | nil => rfl
    | cons f todo =>
      rw [Program.closureVia]
      show _ = Bool.rec (motive := fun _ => List Nat) (go lead n (lead f ++ todo) (f :: seen) (m ||| 2 ^ f)) (go lead n todo seen m) (Nat.testBit m f)
      rw [hm f]
      cases hq : seen.contains f with
      | true => simp only [if_true]; exact ih todo seen m hm
      | false =>
        simp only [Bool.false_eq_true, if_false]
        rw [h f]
        refine ih _ _ _ fun x => ?_
        rw [testBit_put, hm x, List.contains_cons]
theorem closure_eq (P : Program) (L : List (List Nat)) (hL : P.funcs.toList.map P.leadsTo = L) (f : FuncId) : P.closure f = go (nth [] L) (1 + (L.map fun l => l.length + 1).sum) [f] [] 0 := by
  unfold Program.closure
  have e : (P.funcs.toList.map fun g => (P.leadsTo g).length + 1) = L.map fun l => l.length + 1 := by rw [← hL, List.map_map]; rfl
  rw [e]
  refine closureVia_eq P _ (fun g => ?_) _ _ _ _ (fun x => by simp)
  rw [nth_eq, ← hL, List.getElem?_map, Array.getElem?_toList]
  cases P.funcs[g]? <;> rfl
theorem parts {α β : Type} (f : α → β) (l : List α) (a b c : Nat) {A B C D : List β} (hA : (l.take a).map f = A) (hB : ((l.drop a).take b).map f = B) (hC : ((l.drop (a + b)).take c).map f = C) (hD : (l.drop (a + b + c)).map f = D) : l.map f = A ++ (B ++ (C ++ D)) := by
  have e1 := List.take_append_drop a l
  have e2 := List.take_append_drop b (l.drop a)
  have e3 := List.take_append_drop c (l.drop (a + b))
  rw [List.drop_drop] at e2 e3
  rw [← hA, ← hB, ← hC, ← hD, ← List.map_append, ← List.map_append, ← List.map_append, e3, e2, e1]
/-- A test of the numbers below n, in parts. -/
theorem all_parts (p : Nat → Bool) : ∀ (l : List (Nat × Nat)) (s n : Nat), (l.foldl (fun a x => a + x.2) s) = n → (∀ x ∈ l, (List.range' x.1 x.2).all p = true) → (l.foldl (fun (a : Nat × Bool) x => (a.1 + x.2, a.2 && Nat.beq a.1 x.1)) (s, true)).2 = true → (List.range' s (n - s)).all p = true := by
  intro l
  suffices H : ∀ (l : List (Nat × Nat)) (s n : Nat) (q : Bool), (l.foldl (fun a x => a + x.2) s) = n → (∀ x ∈ l, (List.range' x.1 x.2).all p = true) → (l.foldl (fun (a : Nat × Bool) x => (a.1 + x.2, a.2 && Nat.beq a.1 x.1)) (s, q)).2 = true → s ≤ n ∧ q = true ∧ (List.range' s (n - s)).all p = true by
    intro s n h1 h2 h3
    exact (H l s n true h1 h2 h3).2.2
  intro l
  induction l with
  | nil =>
    intro s n q h1 _ h3
    simp only [List.foldl_nil] at h1 h3
    subst h1
    exact ⟨Nat.le_refl _, h3, by simp⟩
  | cons x l ih =>
    intro s n q h1 h2 h3
    simp only [List.foldl_cons] at h1 h3
    obtain ⟨g1, g2, g3⟩ := ih (s + x.2) n _ h1 (fun y hy => h2 y (by simp [hy])) h3
    simp only [Bool.and_eq_true] at g2
    have hx := Nat.eq_of_beq_eq_true g2.2
    have h4 := h2 x (by simp)
    rw [← hx] at h4
    refine ⟨by omega, g2.1, ?_⟩
    have : List.range' s (n - s) = List.range' s x.2 ++ List.range' (s + x.2) (n - (s + x.2)) := by
      rw [List.range'_append_1]
      congr 1
      omega
    rw [this, List.all_append, h4, g3]
    rfl
end Cl
end Go.Proofs.YtmemadmjgcpobaaGreatDoor
