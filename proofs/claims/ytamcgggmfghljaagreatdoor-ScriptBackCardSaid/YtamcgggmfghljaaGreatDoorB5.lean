/- Layer 41: what bytes are decoded as; what was written is read again. No program in sight. · Layers 1, 2, 4, 7: decimal numbers, addresses, literals and tokens, as the program reads t · Layer 1 (program): numbers read: digits, signs. · Layers 2 and 3: addresses and ranges: valid, less, corners, check. · Layer 3, small ones. · Layer 41: what bytes are taken as: take, spot, crowd, crowds (program and reference). -/
import Derived.BigQuiet
import Derived.Deep.QuietTactic
import Derived.Laws.IdiomStrings
import Derived.Test.YtamcgggmfghljaaGreatDoorB4
set_option maxRecDepth 100000
set_option maxHeartbeats 8000000
namespace Go.Proofs.YtamcgggmfghljaaGreatDoor
open Go.RowKit
/-- A reader: the bytes that are left, and whether there was a fault. -/
abbrev Rd := Bytes × Bool
def bytesR (n : Int) (r : Rd) : Bytes × Rd := if n < 0 ∨ (r.1.length : Int) < n then ([], ([], true)) else (r.1.take n.toNat, (r.1.drop n.toNat, r.2))
/-- Bytes as a number of 64 bits, put behind v. -/
def beN : Nat → Bytes → Nat
  | v, [] => v
  | v, c :: t => beN ((v * 256 + c.toNat) % 18446744073709551616) t
def numR (r : Rd) : Nat × Rd :=
  match r with
  | ([], _) => (0, ([], true))
  | (c :: t, b) => (beN 0 (bytesR c.toNat (t, b || decide (8 < c.toNat))).1, (bytesR c.toNat (t, b || decide (8 < c.toNat))).2)
def wrapI (n : Nat) : Int := (((n : Int) + 9223372036854775808) % 18446744073709551616) - 9223372036854775808
def intR (r : Rd) : Int × Rd := (wrapI (numR r).1, (numR r).2)
def u64R (r : Rd) : Int × Rd := ((numR r).1, (numR r).2)
def u8R (r : Rd) : Int × Rd := (((numR r).1 % 256 : Nat), (numR r).2)
def cornR (r : Rd) : Rct × Rd :=
  let a := intR r
  let b := intR a.2
  let c := intR b.2
  let d := intR c.2
  (⟨a.1, b.1, c.1, d.1⟩, d.2)
def placeR (r : Rd) : Ref × Rd :=
  let a := intR r
  let b := intR a.2
  (⟨a.1, b.1⟩, b.2)
def setsR (r : Rd) : Rts × Rd :=
  let a := u64R r
  let b := u64R a.2
  let c := u64R b.2
  (⟨a.1, b.1, c.1⟩, c.2)
def textR (r : Rd) : Bytes × Rd := bytesR (intR r).1 (intR r).2
/-- n elements, as long as there is no fault. -/
def manyR {α : Type} (one : Rd → α × Rd) : Nat → Rd → List α × Rd
  | 0, r => ([], r)
  | n + 1, r => if r.2 = true then ([], r) else ((one r).1 :: (manyR one n (one r).2).1, (manyR one n (one r).2).2)
/-- The length of a list, and the reader behind it. -/
def lenR (r : Rd) : Int × Rd := ((intR r).1, ((intR r).2.1, (intR r).2.2 || decide ((intR r).1 < 0) || decide (((intR r).2.1.length : Int) < (intR r).1)))
def listR {α : Type} (one : Rd → α × Rd) (r : Rd) : List α × Rd := manyR one (lenR r).1.toNat (lenR r).2
def entR (r : Rd) : Ent × Rd :=
  let a := placeR r
  let b := textR a.2
  (⟨a.1, b.1⟩, b.2)
def rulR (r : Rd) : Rul × Rd :=
  let a := cornR r
  let b := setsR a.2
  (⟨a.1, b.1⟩, b.2)
def oneR (r : Rd) : Bool × Rd := (decide ((intR r).1 = 1), (intR r).2)
def grtR (r : Rd) : Grt × Rd :=
  let a := cornR r
  let b := u8R a.2
  let c := u64R b.2
  let d := intR c.2
  let e := oneR d.2
  (⟨a.1, b.1, c.1, d.1, e.1⟩, e.2)
def evtR (r : Rd) : Evt × Rd :=
  let a := intR r
  let b := intR a.2
  let c := u8R b.2
  let d := cornR c.2
  let e := oneR d.2
  let f := u64R e.2
  (⟨a.1, b.1, c.1, d.1, e.1, f.1⟩, f.2)
def rlsR (r : Rd) : Rls × Rd :=
  let a := intR r
  let b := placeR a.2
  let c := intR b.2
  let d := u8R c.2
  let e := cornR d.2
  let f := intR e.2
  let g := u64R f.2
  (⟨a.1, b.1, c.1, d.1, e.1, f.1, g.1⟩, g.2)
/-- Whether bit i of a mask is set. -/
def bitR (m : Nat) (i : Nat) : Bool := decide (m / 2 ^ i % 2 = 1)
def ifR {α : Type} (b : Bool) (z : α) (f : Rd → α × Rd) (r : Rd) : α × Rd := if b = true then f r else (z, r)
def oprR (r : Rd) : Opr × Rd :=
  let k := u8R r
  let m := numR k.2
  let a := ifR (bitR m.1 0) 0 intR m.2
  let b := ifR (bitR m.1 1) ⟨0, 0, 0, 0⟩ cornR a.2
  let c := ifR (bitR m.1 2) [] textR b.2
  let d := ifR (bitR m.1 3) ⟨0, 0, 0⟩ setsR c.2
  let e := ifR (bitR m.1 4) 0 u8R d.2
  let f := ifR (bitR m.1 5) 0 u64R e.2
  let g := ifR (bitR m.1 6) 0 intR f.2
  (⟨k.1, a.1, b.1, c.1, d.1, e.1, f.1, g.1⟩, g.2)
def scpR (r : Rd) : Scp × Rd :=
  let u := intR r
  let e := listR entR u.2
  let l := listR rulR e.2
  let g := listR grtR l.2
  let v := listR evtR g.2
  let x := listR rlsR v.2
  let t := intR x.2
  let o := listR oprR t.2
  (⟨⟨u.1, e.1, l.1, g.1, v.1, x.1, t.1⟩, o.1⟩, o.2)
/-! ### What was written is read again -/
/-- f's bytes are read by g as what they say, and what stands behind them is left. -/
def Back {α : Type} (f : α → Bytes) (g : Rd → α × Rd) (x : α) : Prop := ∀ (t : Bytes), g (f x ++ t, false) = (x, (t, false))
theorem beN_app : ∀ (l : Bytes) (v : Nat) (c : UInt8), beN v (l ++ [c]) = (beN v l * 256 + c.toNat) % 18446744073709551616
  | [], _, _ => rfl
  | _ :: l, _, c => beN_app l _ c
theorem beN_beB : ∀ (n : Nat), n < 18446744073709551616 → beN 0 (beB n) = n := by
  intro n
  induction n using Nat.strongRecOn with
  | _ n ih =>
    intro h
    by_cases h0 : n = 0
    · subst h0; rw [beB_zero]; rfl
    · rw [beB_pos h0, beN_app, ih (n / 256) (by omega) (by omega), UInt8.toNat_ofNat']
      omega
theorem bytesR_app (a t : Bytes) (n : Int) (h : n = (a.length : Int)) (b : Bool) : bytesR n (a ++ t, b) = (a, (t, b)) := by
  subst h
  unfold bytesR
  rw [if_neg (by simp; omega)]
  simp
theorem numR_back (n : Nat) (h : n < 18446744073709551616) (t : Bytes) : numR (numB n ++ t, false) = (n, (t, false)) := by
  have h8 := beB_le8 h
  have e : (UInt8.ofNat (beB n).length).toNat = (beB n).length := by rw [UInt8.toNat_ofNat']; omega
  unfold numB
  rw [List.cons_append]
  unfold numR
  simp only [e, Bool.false_or]
  rw [show decide (8 < (beB n).length) = false by simp; omega, bytesR_app _ _ _ rfl, beN_beB n h]
theorem numR_backI (n : Int) (t : Bytes) : numR (numI n ++ t, false) = ((n % 18446744073709551616).toNat, (t, false)) := numR_back _ (by omega) t
def I64 (n : Int) : Prop := -9223372036854775808 ≤ n ∧ n ≤ 9223372036854775807
def U64 (n : Int) : Prop := 0 ≤ n ∧ n < 18446744073709551616
def U8 (n : Int) : Prop := 0 ≤ n ∧ n < 256
theorem wrapI_back (n : Int) (h : I64 n) : wrapI (n % 18446744073709551616).toNat = n := by
  obtain ⟨h0, h1⟩ := h
  unfold wrapI
  rw [Int.toNat_of_nonneg (by omega)]
  omega
theorem intR_back (n : Int) (h : I64 n) : Back numI intR n := fun t => by
  unfold intR
  rw [numR_backI, wrapI_back n h]
theorem u64R_back (n : Int) (h : U64 n) : Back numI u64R n := fun t => by
  obtain ⟨h0, h1⟩ := h
  unfold u64R
  rw [numR_backI]
  simp only [Prod.mk.injEq, and_true]
  omega
theorem u8R_back (n : Int) (h : U8 n) : Back numI u8R n := fun t => by
  obtain ⟨h0, h1⟩ := h
  unfold u8R
  rw [numR_backI]
  simp only [Prod.mk.injEq, and_true]
  omega
structure OkRct (x : Rct) : Prop where
  c1 : I64 x.c1
  r1 : I64 x.r1
  c2 : I64 x.c2
  r2 : I64 x.r2
structure OkRef (x : Ref) : Prop where
  col : I64 x.col
  row : I64 x.row
structure OkRts (x : Rts) : Prop where
  rd : U64 x.rd
  wr : U64 x.wr
  ow : U64 x.ow
def OkStr (s : Bytes) : Prop := s.length ≤ 9223372036854775807
structure OkEnt (x : Ent) : Prop where
  at_ : OkRef x.at_
  input : OkStr x.input
structure OkRul (x : Rul) : Prop where
  rect : OkRct x.rect
  rights : OkRts x.rights
structure OkGrt (x : Grt) : Prop where
  rect : OkRct x.rect
  fns : U8 x.fns
  to_ : U64 x.to_
  by_ : I64 x.by_
structure OkEvt (x : Evt) : Prop where
  step : I64 x.step
  user : I64 x.user
  kind : U8 x.kind
  rect : OkRct x.rect
  to_ : U64 x.to_
structure OkRls (x : Rls) : Prop where
  step : I64 x.step
  at_ : OkRef x.at_
  node : I64 x.node
  fn : U8 x.fn
  rect : OkRct x.rect
  grant : I64 x.grant
  to_ : U64 x.to_
structure OkOpr (x : Opr) : Prop where
  kind : U8 x.kind
  user : I64 x.user
  rect : OkRct x.rect
  input : OkStr x.input
  rights : OkRts x.rights
  fns : U8 x.fns
  to_ : U64 x.to_
  index : I64 x.index
structure OkBok (b : Bok) : Prop where
  users : I64 b.users
  entries : ∀ x ∈ b.entries, OkEnt x
  rules : ∀ x ∈ b.rules, OkRul x
  grants : ∀ x ∈ b.grants, OkGrt x
  log : ∀ x ∈ b.log, OkEvt x
  releases : ∀ x ∈ b.releases, OkRls x
  step : I64 b.step
  lens : b.entries.length ≤ 9223372036854775807 ∧ b.rules.length ≤ 9223372036854775807 ∧ b.grants.length ≤ 9223372036854775807 ∧ b.log.length ≤ 9223372036854775807 ∧ b.releases.length ≤ 9223372036854775807
structure OkScp (s : Scp) : Prop where
  book : OkBok s.book
  ops : ∀ x ∈ s.ops, OkOpr x
  len : s.ops.length ≤ 9223372036854775807
theorem cornR_back (x : Rct) (h : OkRct x) : Back cornB cornR x := fun t => by
  unfold cornR cornB
  simp only [List.append_assoc]
  rw [intR_back _ h.c1, intR_back _ h.r1, intR_back _ h.c2, intR_back _ h.r2]
theorem placeR_back (x : Ref) (h : OkRef x) : Back placeB placeR x := fun t => by
  unfold placeR placeB
  simp only [List.append_assoc]
  rw [intR_back _ h.col, intR_back _ h.row]
theorem setsR_back (x : Rts) (h : OkRts x) : Back setsB setsR x := fun t => by
  unfold setsR setsB
  simp only [List.append_assoc]
  rw [u64R_back _ h.rd, u64R_back _ h.wr, u64R_back _ h.ow]
theorem textR_back (s : Bytes) (h : OkStr s) : Back textB textR s := fun t => by
  unfold textR textB
  simp only [List.append_assoc]
  rw [intR_back _ ⟨by omega, by unfold OkStr at h; omega⟩, bytesR_app _ _ _ rfl]
theorem oneR_back (b : Bool) : Back flagB oneR b := fun t => by
  unfold oneR flagB
  rw [intR_back _ ⟨by split <;> omega, by split <;> omega⟩]
  cases b <;> simp
theorem entR_back (x : Ent) (h : OkEnt x) : Back entB entR x := fun t => by
  unfold entR entB
  simp only [List.append_assoc]
  rw [placeR_back _ h.at_, textR_back _ h.input]
theorem rulR_back (x : Rul) (h : OkRul x) : Back rulB rulR x := fun t => by
  unfold rulR rulB
  simp only [List.append_assoc]
  rw [cornR_back _ h.rect, setsR_back _ h.rights]
theorem grtR_back (x : Grt) (h : OkGrt x) : Back grtB grtR x := fun t => by
  unfold grtR grtB
  simp only [List.append_assoc]
  rw [cornR_back _ h.rect, u8R_back _ h.fns, u64R_back _ h.to_, intR_back _ h.by_, oneR_back]
theorem evtR_back (x : Evt) (h : OkEvt x) : Back evtB evtR x := fun t => by
  unfold evtR evtB
  simp only [List.append_assoc]
  rw [intR_back _ h.step, intR_back _ h.user, u8R_back _ h.kind, cornR_back _ h.rect, oneR_back, u64R_back _ h.to_]
theorem rlsR_back (x : Rls) (h : OkRls x) : Back rlsB rlsR x := fun t => by
  unfold rlsR rlsB
  simp only [List.append_assoc]
  rw [intR_back _ h.step, placeR_back _ h.at_, intR_back _ h.node, u8R_back _ h.fn, cornR_back _ h.rect, intR_back _ h.grant, u64R_back _ h.to_]
theorem numI_ne (n : Int) : 1 ≤ (numI n).length := by unfold numI numB; simp
theorem flat_ge {α : Type} (f : α → Bytes) (hf : ∀ x, 1 ≤ (f x).length) : ∀ (l : List α), l.length ≤ (l.flatMap f).length
  | [] => by simp
  | x :: l => by
    have := flat_ge f hf l
    have := hf x
    rw [List.flatMap_cons, List.length_append, List.length_cons]
    omega
theorem manyR_back {α : Type} (f : α → Bytes) (g : Rd → α × Rd) : ∀ (l : List α) (t : Bytes), (∀ x ∈ l, Back f g x) → manyR g l.length (l.flatMap f ++ t, false) = (l, (t, false))
  | [], t, _ => rfl
  | x :: l, t, h => by
    rw [List.length_cons, List.flatMap_cons, List.append_assoc]
    unfold manyR
    rw [if_neg (by simp), h x (by simp) _, manyR_back f g l t (fun y hy => h y (by simp [hy]))]
theorem listR_back {α : Type} (f : α → Bytes) (hf : ∀ x, 1 ≤ (f x).length) (g : Rd → α × Rd) (l : List α) (hl : l.length ≤ 9223372036854775807) (h : ∀ x ∈ l, Back f g x) : Back (listB f) (listR g) l := fun t => by
  have hge := flat_ge f hf l
  have e : lenR (listB f l ++ t, false) = ((l.length : Int), (l.flatMap f ++ t, false)) := by
    unfold lenR listB
    rw [List.append_assoc, intR_back _ ⟨by omega, by omega⟩]
    simp only [Bool.false_or, Prod.mk.injEq, true_and]
    rw [show decide ((l.length : Int) < 0) = false by simp, show decide (((l.flatMap f ++ t).length : Int) < (l.length : Int)) = false by rw [List.length_append]; simp only [decide_eq_false_iff_not]; omega]
    rfl
  unfold listR
  rw [e]
  exact manyR_back f g l t h
theorem entB_ne (x : Ent) : 1 ≤ (entB x).length := by have := numI_ne x.at_.col; unfold entB placeB; simp only [List.length_append]; omega
theorem rulB_ne (x : Rul) : 1 ≤ (rulB x).length := by have := numI_ne x.rect.c1; unfold rulB cornB; simp only [List.length_append]; omega
theorem grtB_ne (x : Grt) : 1 ≤ (grtB x).length := by have := numI_ne x.rect.c1; unfold grtB cornB; simp only [List.length_append]; omega
theorem evtB_ne (x : Evt) : 1 ≤ (evtB x).length := by have := numI_ne x.step; unfold evtB; simp only [List.length_append]; omega
theorem rlsB_ne (x : Rls) : 1 ≤ (rlsB x).length := by have := numI_ne x.step; unfold rlsB; simp only [List.length_append]; omega
theorem oprB_ne (x : Opr) : 1 ≤ (oprB x).length := by have := numI_ne x.kind; unfold oprB; simp only [List.length_append]; omega
theorem ifR_back {α : Type} (f : α → Bytes) (g : Rd → α × Rd) (x z : α) (b : Bool) (hz : b = false → x = z) (h : Back f g x) (t : Bytes) : ifR b z g ((if b = true then f x else []) ++ t, false) = (x, (t, false)) := by
  unfold ifR
  cases b with
  | false => simp [hz rfl]
  | true => simpa using h t
/-- The mask of seven flags, and its bits. -/
def mask7 (a b c d e f g : Bool) : Nat := a.toNat + 2 * (b.toNat + 2 * (c.toNat + 2 * (d.toNat + 2 * (e.toNat + 2 * (f.toNat + 2 * g.toNat)))))
theorem mask7_bits : ∀ a b c d e f g : Bool, bitR (mask7 a b c d e f g) 0 = a ∧ bitR (mask7 a b c d e f g) 1 = b ∧ bitR (mask7 a b c d e f g) 2 = c ∧ bitR (mask7 a b c d e f g) 3 = d ∧ bitR (mask7 a b c d e f g) 4 = e ∧ bitR (mask7 a b c d e f g) 5 = f ∧ bitR (mask7 a b c d e f g) 6 = g ∧ mask7 a b c d e f g < 128 := by decide
theorem oprR_back (x : Opr) (h : OkOpr x) : Back oprB oprR x := fun t => by
  have hm : ∀ a b c d e f g : Bool, ∀ A B C D E F G : Bytes, maskN [(a, A), (b, B), (c, C), (d, D), (e, E), (f, F), (g, G)] = (mask7 a b c d e f g : Nat) := by
    intro a b c d e f g A B C D E F G
    simp only [maskN, mask7]
    cases a <;> cases b <;> cases c <;> cases d <;> cases e <;> cases f <;> cases g <;> rfl
  unfold oprR oprB oprF
  rw [hm]
  obtain ⟨b0, b1, b2, b3, b4, b5, b6, hlt⟩ := mask7_bits (decide (x.user ≠ 0)) (decide (x.rect ≠ ⟨0, 0, 0, 0⟩)) (decide (x.input ≠ [])) (decide (x.rights ≠ ⟨0, 0, 0⟩)) (decide (x.fns ≠ 0)) (decide (x.to_ ≠ 0)) (decide (x.index ≠ 0))
  generalize mask7 (decide (x.user ≠ 0)) (decide (x.rect ≠ ⟨0, 0, 0, 0⟩)) (decide (x.input ≠ [])) (decide (x.rights ≠ ⟨0, 0, 0⟩)) (decide (x.fns ≠ 0)) (decide (x.to_ ≠ 0)) (decide (x.index ≠ 0)) = m at b0 b1 b2 b3 b4 b5 b6 hlt ⊢
  simp only [List.append_assoc, List.flatMap_cons, List.flatMap_nil, List.nil_append]
  rw [u8R_back _ h.kind]
  simp only
  rw [numR_backI]
  rw [show ((m : Int) % 18446744073709551616).toNat = m by omega]
  simp only [b0, b1, b2, b3, b4, b5, b6]
  rw [ifR_back numI intR x.user 0 _ (by simp) (intR_back _ h.user), ifR_back cornB cornR x.rect _ _ (by simp) (cornR_back _ h.rect), ifR_back textB textR x.input _ _ (by simp) (textR_back _ h.input), ifR_back setsB setsR x.rights _ _ (by simp) (setsR_back _ h.rights), ifR_back numI u8R x.fns 0 _ (by simp) (u8R_back _ h.fns), ifR_back numI u64R x.to_ 0 _ (by simp) (u64R_back _ h.to_), ifR_back numI intR x.index 0 _ (by simp) (intR_back _ h.index)]
theorem scpR_back (s : Scp) (h : OkScp s) : Back scpB scpR s := fun t => by
  have hl := h.book.lens
  unfold scpR scpB
  simp only [List.append_assoc]
  rw [intR_back _ h.book.users, listR_back entB entB_ne entR _ hl.1 (fun x hx => entR_back x (h.book.entries x hx)), listR_back rulB rulB_ne rulR _ hl.2.1 (fun x hx => rulR_back x (h.book.rules x hx)),
    listR_back grtB grtB_ne grtR _ hl.2.2.1 (fun x hx => grtR_back x (h.book.grants x hx)), listR_back evtB evtB_ne evtR _ hl.2.2.2.1 (fun x hx => evtR_back x (h.book.log x hx)),
    listR_back rlsB rlsB_ne rlsR _ hl.2.2.2.2 (fun x hx => rlsR_back x (h.book.releases x hx)), intR_back _ h.book.step, listR_back oprB oprB_ne oprR _ h.len (fun x hx => oprR_back x (h.ops x hx))]
/-- No script's bytes are the beginning of another one's. -/
theorem scpB_prefix (a b : Scp) (ha : OkScp a) (hb : OkScp b) (t : Bytes) (h : scpB b = scpB a ++ t) : a = b := by
  have h1 := scpR_back a ha t
  have h2 := scpR_back b hb []
  rw [List.append_nil, h] at h2
  rw [h1] at h2
  exact congrArg Prod.fst h2
def ub (s : Bytes) (i : Nat) : Nat := (s.getD i 0).toNat
def digB (c : UInt8) : Bool := decide (48 ≤ c.toNat) && decide (c.toNat ≤ 57)
def letB (c : UInt8) : Bool := (decide (65 ≤ c.toNat) && decide (c.toNat ≤ 90)) || (decide (97 ≤ c.toNat) && decide (c.toNat ≤ 122))
def alnB (c : UInt8) : Bool := letB c || digB c
/-- How many bytes from i on a test accepts. -/
def lenB (p : UInt8 → Bool) (s : Bytes) (i : Nat) : Nat := ((s.drop i).takeWhile p).length
/-! ### Layer 1: a decimal number -/
def mostN : Nat := 9223372036854775807
def natB : Nat → Bytes → Nat
  | v, [] => v
  | v, c :: s => natB (10 * v + (c.toNat - 48)) s
def negB (s : Bytes) : Bool := s.head? == some 45
def unsB (s : Bytes) : Bytes := if negB s then s.tail else s
/-- The places in what stands behind a number's whole part; none: that is no number. -/
def placesB : Bytes → Option Bytes
  | [] => some []
  | c :: t => if c = 46 ∧ t ≠ [] ∧ t.all digB = true then some t else none
def fiveB (p : Bytes) : Bytes := p ++ [48, 48, 48, 48, 48]
/-- The number's size times 10000, rounded. -/
def sizeD (whole p : Bytes) : Nat := natB 0 (whole ++ (fiveB p).take 4) + if 53 ≤ ub (fiveB p) 4 then 1 else 0
def parseD (s : Bytes) : Int × Int :=
  match placesB ((unsB s).drop (lenB digB (unsB s) 0)) with
  | none => (0, 4)
  | some p =>
    if lenB digB (unsB s) 0 = 0 then (0, 4)
    else if mostN < sizeD ((unsB s).take (lenB digB (unsB s) 0)) p then (0, 3)
    else (if negB s then -(sizeD ((unsB s).take (lenB digB (unsB s) 0)) p : Int) else sizeD ((unsB s).take (lenB digB (unsB s) 0)) p, 0)
/-! ### Layer 2: an address -/
structure Pcs where
  m0 : Int
  m1 : Int
  v0 : Int
  v1 : Int
  ok : Bool
/-- A letter in capitals, or a digit, is put behind what was read. -/
def addP (p : Pcs) (c : Nat) (letter : Bool) : Pcs :=
  if letter then { p with ok := p.ok && decide (p.m1 = 0), m0 := p.m0 + 1, v0 := min (26 * p.v0 + ((c : Int) - 65) + 1) 1025 }
  else { p with ok := p.ok && (decide (c ≠ 48) || decide (0 < p.m1)), m1 := p.m1 + 1, v1 := min (10 * p.v1 + ((c : Int) - 48)) 1025 }
def stepP (p : Pcs) (c : UInt8) : Pcs :=
  if 97 ≤ c.toNat ∧ c.toNat ≤ 122 then addP p (c.toNat - 32) true
  else if 65 ≤ c.toNat ∧ c.toNat ≤ 90 then addP p c.toNat true
  else if digB c then addP p c.toNat false
  else { p with ok := false }
def readPc (s : Bytes) : Pcs := s.foldl stepP ⟨0, 0, 0, 0, true⟩
def parA (s : Bytes) : Ref × Int :=
  if (readPc s).ok = false ∨ (readPc s).m0 = 0 ∨ (readPc s).m1 = 0 then (⟨0, 0⟩, 4)
  else if validB (readPc s).v0 (readPc s).v1 then (⟨(readPc s).v0, (readPc s).v1⟩, 0) else (⟨0, 0⟩, 3)
/-! ### Layer 4: a text literal -/
def unqL : Bytes → Option Bytes
  | [] => some []
  | [c] => if c = 34 then none else some [c]
  | c :: d :: t => if c = 34 then (if d = 34 then (unqL t).map (34 :: ·) else none) else (unqL (d :: t)).map (c :: ·)
/-- All bytes can be printed. -/
def pltB (s : Bytes) : Bool := s.all fun c => decide (32 ≤ c.toNat) && decide (c.toNat ≤ 126)
def unqB (s : Bytes) : Bytes × Int :=
  if s.length < 2 ∨ ub s 0 ≠ 34 ∨ ub s (s.length - 1) ≠ 34 ∨ pltB s = false then ([], 4)
  else match unqL ((s.drop 1).take (s.length - 2)) with
    | none => ([], 4)
    | some o => if 256 < o.length then ([], 5) else (o, 0)
def upU (c : UInt8) : UInt8 := if 97 ≤ c.toNat ∧ c.toNat ≤ 122 then UInt8.ofNat (c.toNat - 32) else c
/-! ### Layer 7: tokens -/
structure Tok where
  kind : Int
  num : Int
  text : Bytes
  rect : Rct
  at_ : Int
  deriving DecidableEq
def z4 : Rct := ⟨0, 0, 0, 0⟩
def tok0 : Tok := ⟨0, 0, [], z4, 0⟩
def dotB (s : Bytes) (p : Nat) : Bool := decide (p + 1 < s.length) && decide (ub s p = 46) && digB (s.getD (p + 1) 0)
def numberN (s : Bytes) (i : Nat) : Nat :=
  if dotB s (i + lenB digB s i) then lenB digB s i + 1 + lenB digB s (i + lenB digB s i + 1) else lenB digB s i
def numberS (s : Bytes) (i : Nat) : Tok × Nat :=
  if lenB digB s i = 0 then (tok0, 0)
  else if dotB s (i + lenB digB s i) = true ∧ 4 < lenB digB s (i + lenB digB s i + 1) then (tok0, 0)
  else if (parseD ((s.drop i).take (numberN s i))).2 ≠ 0 then (tok0, 0)
  else (⟨1, (parseD ((s.drop i).take (numberN s i))).1, [], z4, i⟩, numberN s i)
/-- Where the literal ends whose bytes from k on are still to be read. -/
def endQ (s : Bytes) : Nat → Nat → Option Nat
  | 0, _ => none
  | f + 1, k => if s.length ≤ k then none else if ub s k ≠ 34 then endQ s f (k + 1) else if k + 1 < s.length ∧ ub s (k + 1) = 34 then endQ s f (k + 2) else some k
def textS (s : Bytes) (i : Nat) : Tok × Nat :=
  if ub s i ≠ 34 then (tok0, 0) else
  match endQ s s.length (i + 1) with
  | none => (tok0, 0)
  | some k => if (unqB ((s.drop i).take (k + 1 - i))).2 ≠ 0 then (tok0, 0) else (⟨3 - 1, 0, (unqB ((s.drop i).take (k + 1 - i))).1, z4, i⟩, k + 1 - i)
def plainS (s : Bytes) (i : Nat) : Bytes := ((s.drop i).take (lenB alnB s i)).map upU
def hullR (a b : Ref) : Rct := ⟨min a.col b.col, min a.row b.row, max a.col b.col, max a.row b.row⟩
def trueB : Bytes := [84, 82, 85, 69]
def falseB : Bytes := [70, 65, 76, 83, 69]
/-- Behind the word that ends before p: a colon and a word that is an address. -/
def twoB (s : Bytes) (p : Nat) : Bool := decide (ub s p = 58) && letB (s.getD (p + 1) 0) && decide ((parA (plainS s (p + 1))).2 = 0) && decide (ub s (p + 1 + (plainS s (p + 1)).length) ≠ 40)
def wordS (s : Bytes) (i : Nat) : Tok × Nat :=
  if letB (s.getD i 0) = false then (tok0, 0)
  else if ub s (i + (plainS s i).length) = 40 then (⟨7, 0, plainS s i, z4, i⟩, (plainS s i).length)
  else if plainS s i = trueB then (⟨3, 1, [], z4, i⟩, (plainS s i).length)
  else if plainS s i = falseB then (⟨3, 0, [], z4, i⟩, (plainS s i).length)
  else if (parA (plainS s i)).2 ≠ 0 then (tok0, 0)
  else if twoB s (i + (plainS s i).length) then
    (⟨if (parA (plainS s i)).1 = (parA (plainS s (i + (plainS s i).length + 1))).1 then 5 else 6, 0, [], hullR (parA (plainS s i)).1 (parA (plainS s (i + (plainS s i).length + 1))).1, i⟩, (plainS s i).length + 1 + (plainS s (i + (plainS s i).length + 1)).length)
  else (⟨5, 0, [], ⟨(parA (plainS s i)).1.col, (parA (plainS s i)).1.row, (parA (plainS s i)).1.col, (parA (plainS s i)).1.row⟩, i⟩, (plainS s i).length)
/-- The names of the errors that may be written. -/
def failW : List Bytes := [[35, 68, 73, 86, 47, 48, 33], [35, 86, 65, 76, 85, 69, 33], [35, 78, 85, 77, 33], [35, 78, 47, 65], [35, 82, 69, 70, 33]]
def failL (s : Bytes) (i : Nat) : Int → List Bytes → Tok × Nat
  | _, [] => (tok0, 0)
  | code, x :: l => if i + x.length ≤ s.length ∧ ((s.drop i).take x.length).map upU = x then (⟨4, code, [], z4, i⟩, x.length) else failL s i (code + 1) l
def failS (s : Bytes) (i : Nat) : Tok × Nat := failL s i 1 failW
def opsW : List (Bytes × Int) := [([60, 62], 8), ([60, 61], 10), ([62, 61], 12), ([43], 1), ([45], 2), ([42], 3), ([47], 4), ([94], 5), ([38], 6), ([61], 7), ([60], 9), ([62], 11), ([37], 13)]
def opsL (s : Bytes) (i : Nat) : List (Bytes × Int) → Option (Tok × Nat)
  | [] => none
  | (x, n) :: l => if x.isPrefixOf (s.drop i) then some (⟨8, n, [], z4, i⟩, x.length) else opsL s i l
def signS (s : Bytes) (i : Nat) : Tok × Nat :=
  match opsL s i opsW with
  | some r => r
  | none => if ub s i = 40 then (⟨9, 0, [], z4, i⟩, 1) else if ub s i = 41 then (⟨10, 0, [], z4, i⟩, 1) else if ub s i = 44 then (⟨11, 0, [], z4, i⟩, 1) else (tok0, 0)
/-- The first rule that reads something. -/
def ruleS (s : Bytes) (i : Nat) : Tok × Nat :=
  if 0 < (numberS s i).2 then numberS s i else if 0 < (textS s i).2 then textS s i else if 0 < (wordS s i).2 then wordS s i else if 0 < (failS s i).2 then failS s i else signS s i
/-- The tokens from i on. -/
def toksL (s : Bytes) : Nat → Nat → Option (List Tok)
  | 0, _ => none
  | f + 1, i => if s.length ≤ i then some [] else if ub s i = 32 then toksL s f (i + 1) else if (ruleS s i).2 = 0 then none else (toksL s f (i + (ruleS s i).2)).map ((ruleS s i).1 :: ·)
def tokensS (s : Bytes) : List Tok × Int :=
  if 256 < s.length then ([], 5) else if pltB s = false then ([], 4) else match toksL s (s.length + 1) 0 with
    | none => ([], 4)
    | some l => (l, 0)
theorem tw_len {p : UInt8 → Bool} : ∀ (l : Bytes) (k : Nat), k ≤ l.length → (l.take k).all p = true → (∀ c, l[k]? = some c → p c = false) → (l.takeWhile p).length = k
  | l, 0, _, _, h => by
    cases l with
    | nil => rfl
    | cons c l => rw [List.takeWhile_cons_of_neg (by rw [h c rfl]; simp)]; rfl
  | [], k + 1, hk, _, _ => by simp at hk
  | c :: l, k + 1, hk, ha, h => by
    simp only [List.take_succ_cons, List.all_cons, Bool.and_eq_true] at ha
    rw [List.takeWhile_cons_of_pos ha.1, List.length_cons, tw_len l k (by simpa using hk) ha.2 (fun c hc => h c (by simpa using hc))]
theorem all_snoc {p : UInt8 → Bool} (s : ByteArray) (k : Nat) (h : k < s.size) (ha : (s.data.toList.take k).all p = true) (hc : p s[k] = true) : (s.data.toList.take (k + 1)).all p = true := by
  have hk : k < s.data.toList.length := by simpa using h
  rw [List.take_succ_eq_append_getElem hk, List.all_append, ha]
  simp only [List.all_cons, List.all_nil, Bool.and_true, Bool.true_and]
  exact hc
theorem at_get (s : ByteArray) (k : Nat) (h : k < s.size) : s.data.toList[k]? = some s[k] := by
  have hk : k < s.data.toList.length := by simpa using h
  rw [List.getElem?_eq_getElem hk]
  rfl
theorem digits_any (s : ByteArray) (w : World) (hl : s.size ≤ 1000000000) :
    Calls Tryz.prog 244 #[.string s] w fun u w' => u = .returned (.int .i64 (lenB digB s.data.toList 0)) ∧ w = w' := by
  go_enter Tryz.func244, Tryz.ntmps244
  go_wp2
  go_loopw [6] (fun i wr => ∃ k : Nat, k ≤ s.size ∧ i = .int .i64 k ∧ (s.data.toList.take k).all digB = true ∧ w = wr) (fun i _ => s.size - (intOf i).toNat)
  case atStart => exact ⟨0, by omega, rfl, by simp, rfl⟩
  case round =>
    obtain ⟨k, hk, rfl, ha, rfl⟩ := hrel
    have HA := Lib.hid ha
    clear ha
    by_cases hlt : k < s.size
    · have hi0 : (0 : Int) ≤ (k : Int) := Int.natCast_nonneg _
      have hi1 : (k : Int) < (s.size : Int) := by omega
      have hd := all_snoc s k hlt HA.out
      have HG := Lib.hid (at_get s k hlt)
      by_cases hdig : digB s[k] = true
      · have HD := Lib.hid (hd hdig)
        have d1 : ¬ ((s[k].toNat : Int) < 48) := by simp [digB] at hdig; omega
        have d2 : ¬ (57 < (s[k].toNat : Int)) := by simp [digB] at hdig; omega
        clear hd hdig
        go_wp2
        exact ⟨⟨k + 1, by omega, by go_num, HD.out, trivial⟩, by simp [intOf]; omega⟩
      · have HN := Lib.hid (show digB s[k] = false by simpa using hdig)
        have dd : ((s[k].toNat : Int) < 48) ∨ (57 < (s[k].toNat : Int)) := by simp [digB] at hdig; omega
        have HE := Lib.hid (show lenB digB s.data.toList 0 = k from tw_len _ k (by simp; omega) HA.out (fun c hc => by rw [List.drop_zero, HG.out] at hc; cases hc; exact HN.out))
        clear hd hdig
        rcases dd with dd | dd
        · go_wp2
          go_ret
          exact ⟨by rw [HE.out]; rfl, rfl⟩
        · have dd2 : ¬ ((s[k].toNat : Int) < 48) := by omega
          go_wp2
          go_ret
          exact ⟨by rw [HE.out]; rfl, rfl⟩
    · have hk2 : k = s.size := by omega
      have HE := Lib.hid (show lenB digB s.data.toList 0 = s.size from tw_len _ _ (by simp) (by have := HA.out; rw [hk2] at this; exact this) (fun c hc => by simp at hc))
      clear hk2
      go_wp2
      go_ret
      exact ⟨by rw [HE.out]; rfl, rfl⟩
theorem signed_is (lo : Int) (n : Bool) (w : World) (h0 : 0 ≤ lo) (h1 : lo ≤ 9223372036854775807) :
    Calls Tryz.prog 245 #[.int .u64 0, .int .u64 lo, .bool n] w fun u w' => u = .returned (.tuple #[.int .i64 (if n = true then -lo else lo), .bool true]) ∧ w = w' := by
  have hn : ¬ 9223372036854775807 < lo := by omega
  cases n with
  | true =>
    go_enter Tryz.func245, Tryz.ntmps245
    go_wp2
    go_ret2
    exact ⟨rfl, rfl⟩
  | false =>
    go_enter Tryz.func245, Tryz.ntmps245
    go_wp2
    go_ret2
    exact ⟨rfl, rfl⟩
theorem addr_valid (c r : Int) (w : World) :
    Calls Tryz.prog 168 #[.agg #[.int .i64 c, .int .i64 r]] w fun e w' => e = .returned (.bool (validB c r)) ∧ Below w.heap.size w w' := by
  rcases chain4 (1 ≤ c) (c ≤ 1024) (1 ≤ r) (r ≤ 1024) with ⟨h1, h2, h3, h4⟩ | h1 | ⟨h1, h2⟩ | ⟨h1, h2, h3⟩ | ⟨h1, h2, h3, h4⟩
  all_goals
    go_enter Tryz.func168, Tryz.ntmps168
    go_wp2
    go_ret
    exact ⟨by simp [validB, *]; try omega, by go_grown⟩
theorem less_cases (r r' c c' : Int) : r < r' ∨ (¬ r < r' ∧ (r == r') = true ∧ (c < c' ∨ ¬ c < c')) ∨ (¬ r < r' ∧ (r == r') = false ∧ ¬ r = r') := by
  by_cases h : r < r'
  · exact .inl h
  · by_cases e : r = r'
    · exact .inr (.inl ⟨h, by simp [e], by omega⟩)
    · exact .inr (.inr ⟨h, by simp [e], e⟩)
theorem addr_less (c r c' r' : Int) (w : World) :
    Calls Tryz.prog 126 #[.agg #[.int .i64 c, .int .i64 r], .agg #[.int .i64 c', .int .i64 r']] w fun e w' => e = .returned (.bool (lessB ⟨c, r⟩ ⟨c', r'⟩)) ∧ Below w.heap.size w w' := by
  rcases less_cases r r' c c' with h | ⟨h, e, h2 | h2⟩ | ⟨h, e, h2⟩
  all_goals
    go_enter Tryz.func126, Tryz.ntmps126
    go_wp2
    go_ret
    exact ⟨by simp [lessB, *]; try simp_all; try omega, by go_grown⟩
theorem rect_one (c r : Int) (w : World) :
    Calls Tryz.prog 123 #[.agg #[.int .i64 c, .int .i64 r]] w fun e w' => e = .returned (.agg #[.int .i64 c, .int .i64 r, .int .i64 c, .int .i64 r]) ∧ Below w.heap.size w w' := by
  go_enter Tryz.func123, Tryz.ntmps123
  go_wp2
  go_returns
  exact ⟨rfl, by go_grown⟩
theorem acl_sheet (w : World) :
    Calls Tryz.prog 171 #[] w fun e w' => e = .returned (.agg #[.int .i64 1, .int .i64 1, .int .i64 1024, .int .i64 1024]) ∧ Below w.heap.size w w' := by
  go_enter Tryz.func171, Tryz.ntmps171
  go_wp2
  go_returns
  exact ⟨rfl, by go_grown⟩
theorem bytes_tail (c : UInt8) (t : Bytes) : (⟨(c :: t).toArray⟩ : ByteArray).extract 1 (t.length + 1) = ⟨t.toArray⟩ := by
  apply ByteArray.ext
  simp
theorem take_num (c : UInt8) (t : Bytes) (n : Int) : (wrap64 ((⟨(c :: t).toArray⟩ : ByteArray)[0]'(by show 0 < ((c :: t).toArray).size; simp)).toNat).tmod n = (take n (c :: t)).1 := by
  have e : ((⟨(c :: t).toArray⟩ : ByteArray)[0]'(by show 0 < ((c :: t).toArray).size; simp)) = c := rfl
  rw [e]
  have hc : c.toNat < 256 := c.toNat_lt
  have hw : wrap64 (c.toNat : Int) = (c.toNat : Int) := by unfold wrap64; omega
  rw [hw]
  show _ = ((c.toNat : Int) % n)
  exact Int.tmod_eq_emod_of_nonneg (by omega)
theorem take_any (g : Nat) (s : Bytes) (n : Int) (w : World) (h0 : 0 < n) (hg : Blk w g 74 #[str s]) :
    Calls Tryz.prog 35 #[.pointer (some ⟨g, 0, none⟩), .int .i64 n] w fun e w' => e = .returned (.int .i64 (take n s).1) ∧ Blk w' g 74 #[str (take n s).2] ∧ Chg (fun k => k = g) w w' := by
  have HG := Lib.hid hg
  cases s with
  | nil =>
    have hc : w.cell? ⟨g, 0, none⟩ = some (str []) := hg.cell 0
    clear hg
    go_enter Tryz.func35, Tryz.ntmps35
    go_wp2
    go_ret
    exact ⟨rfl, HG.out, Chg.refl _ _⟩
  | cons c t =>
    have hc : w.cell? ⟨g, 0, none⟩ = some (str (c :: t)) := hg.cell 0
    have hf : w.frozen? ⟨g, 0, none⟩ = false := hg.frozen 0
    clear hg
    go_enter Tryz.func35, Tryz.ntmps35
    go_wp2
    go_ret
    refine ⟨ret_int (take_num c t n), ?_, ?_⟩
    · rw [bytes_tail]
      exact HG.out.set_ 0 (str t)
    · exact (Chg.refl (fun k => k = g) _).setCell (p := ⟨g, 0, none⟩) (.inl rfl) _
end Go.Proofs.YtamcgggmfghljaaGreatDoor
