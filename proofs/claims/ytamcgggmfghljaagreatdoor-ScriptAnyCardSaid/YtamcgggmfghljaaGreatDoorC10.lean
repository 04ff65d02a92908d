/- Layers 1, 2, 4, 7: decimal numbers, addresses, literals and tokens, as the program reads t · Layers 5, 8, 9, 11: values, syntax trees, formulas and inputs, as the program judges them. · Layer 41: what bytes are read as is a valid script (plain, first part): the inputs that Re · Layer 1 (program): numbers read: digits, signs. · Layer 7 (program): how many bytes a test accepts (printed by tools/gen_len.py). -/
import Derived.BigQuiet
import Derived.Deep.QuietTactic
import Derived.Laws.IdiomStrings
import Derived.RangeFuncFrom
import Derived.RangeFuncNested
import Derived.RangeFuncBound
import Derived.RangeFuncCalls
import Derived.RangeFuncLeaves
import Derived.Shelf.Abstract
import Derived.Shelf.RegionOpen
import Derived.WalkKit
import Derived.OwnWalkIn
import Derived.TacticsInMore
import Derived.LoopNIn
import Derived.LoopIn
import Derived.Test.YtamcgggmfghljaaGreatDoorC5
set_option maxRecDepth 100000
set_option maxHeartbeats 8000000
namespace Go.Proofs.YtamcgggmfghljaaGreatDoor
open Go.RowKit
open Go.RowKit Go.Shelf
def ub (s : Bytes) (i : Nat) : Nat := (s.getD i 0).toNat
def digB (c : UInt8) : Bool := decide (48 ≤ c.toNat) && decide (c.toNat ≤ 57)
def letB (c : UInt8) : Bool := (decide (65 ≤ c.toNat) && decide (c.toNat ≤ 90)) || (decide (97 ≤ c.toNat) && decide (c.toNat ≤ 122))
def alnB (c : UInt8) : Bool := letB c || digB c
/-- How many bytes from i on a test accepts. -/
def lenB (p : UInt8 → Bool) (s : Bytes) (i : Nat) : Nat := ((s.drop i).takeWhile p).length
/-! ### Layer 1: a decimal number -/
def mostN : Nat := 9223372036854775807
def natB : Nat → Bytes → Nat
  | v, [] => v
  | v, c :: s => natB (10 * v + (c.toNat - 48)) s
def negB (s : Bytes) : Bool := s.head? == some 45
def unsB (s : Bytes) : Bytes := if negB s then s.tail else s
/-- The places in what stands behind a number's whole part; none: that is no number. -/
def placesB : Bytes → Option Bytes
  | [] => some []
  | c :: t => if c = 46 ∧ t ≠ [] ∧ t.all digB = true then some t else none
def fiveB (p : Bytes) : Bytes := p ++ [48, 48, 48, 48, 48]
/-- The number's size times 10000, rounded. -/
def sizeD (whole p : Bytes) : Nat := natB 0 (whole ++ (fiveB p).take 4) + if 53 ≤ ub (fiveB p) 4 then 1 else 0
def parseD (s : Bytes) : Int × Int :=
  match placesB ((unsB s).drop (lenB digB (unsB s) 0)) with
  | none => (0, 4)
  | some p =>
    if lenB digB (unsB s) 0 = 0 then (0, 4)
    else if mostN < sizeD ((unsB s).take (lenB digB (unsB s) 0)) p then (0, 3)
    else (if negB s then -(sizeD ((unsB s).take (lenB digB (unsB s) 0)) p : Int) else sizeD ((unsB s).take (lenB digB (unsB s) 0)) p, 0)
/-! ### Layer 2: an address -/
structure Pcs where
  m0 : Int
  m1 : Int
  v0 : Int
  v1 : Int
  ok : Bool
/-- A letter in capitals, or a digit, is put behind what was read. -/
def addP (p : Pcs) (c : Nat) (letter : Bool) : Pcs :=
  if letter then { p with ok := p.ok && decide (p.m1 = 0), m0 := p.m0 + 1, v0 := min (26 * p.v0 + ((c : Int) - 65) + 1) 1025 }
  else { p with ok := p.ok && (decide (c ≠ 48) || decide (0 < p.m1)), m1 := p.m1 + 1, v1 := min (10 * p.v1 + ((c : Int) - 48)) 1025 }
def stepP (p : Pcs) (c : UInt8) : Pcs :=
  if 97 ≤ c.toNat ∧ c.toNat ≤ 122 then addP p (c.toNat - 32) true
  else if 65 ≤ c.toNat ∧ c.toNat ≤ 90 then addP p c.toNat true
  else if digB c then addP p c.toNat false
  else { p with ok := false }
def readPc (s : Bytes) : Pcs := s.foldl stepP ⟨0, 0, 0, 0, true⟩
def parA (s : Bytes) : Ref × Int :=
  if (readPc s).ok = false ∨ (readPc s).m0 = 0 ∨ (readPc s).m1 = 0 then (⟨0, 0⟩, 4)
  else if validB (readPc s).v0 (readPc s).v1 then (⟨(readPc s).v0, (readPc s).v1⟩, 0) else (⟨0, 0⟩, 3)
/-! ### Layer 4: a text literal -/
def unqL : Bytes → Option Bytes
  | [] => some []
  | [c] => if c = 34 then none else some [c]
  | c :: d :: t => if c = 34 then (if d = 34 then (unqL t).map (34 :: ·) else none) else (unqL (d :: t)).map (c :: ·)
/-- All bytes can be printed. -/
def pltB (s : Bytes) : Bool := s.all fun c => decide (32 ≤ c.toNat) && decide (c.toNat ≤ 126)
def unqB (s : Bytes) : Bytes × Int :=
  if s.length < 2 ∨ ub s 0 ≠ 34 ∨ ub s (s.length - 1) ≠ 34 ∨ pltB s = false then ([], 4)
  else match unqL ((s.drop 1).take (s.length - 2)) with
    | none => ([], 4)
    | some o => if 256 < o.length then ([], 5) else (o, 0)
def upU (c : UInt8) : UInt8 := if 97 ≤ c.toNat ∧ c.toNat ≤ 122 then UInt8.ofNat (c.toNat - 32) else c
/-! ### Layer 7: tokens -/
structure Tok where
  kind : Int
  num : Int
  text : Bytes
  rect : Rct
  at_ : Int
  deriving DecidableEq
def z4 : Rct := ⟨0, 0, 0, 0⟩
def tok0 : Tok := ⟨0, 0, [], z4, 0⟩
def dotB (s : Bytes) (p : Nat) : Bool := decide (p + 1 < s.length) && decide (ub s p = 46) && digB (s.getD (p + 1) 0)
def numberN (s : Bytes) (i : Nat) : Nat :=
  if dotB s (i + lenB digB s i) then lenB digB s i + 1 + lenB digB s (i + lenB digB s i + 1) else lenB digB s i
def numberS (s : Bytes) (i : Nat) : Tok × Nat :=
  if lenB digB s i = 0 then (tok0, 0)
  else if dotB s (i + lenB digB s i) = true ∧ 4 < lenB digB s (i + lenB digB s i + 1) then (tok0, 0)
  else if (parseD ((s.drop i).take (numberN s i))).2 ≠ 0 then (tok0, 0)
  else (⟨1, (parseD ((s.drop i).take (numberN s i))).1, [], z4, i⟩, numberN s i)
/-- Where the literal ends whose bytes from k on are still to be read. -/
def endQ (s : Bytes) : Nat → Nat → Option Nat
  | 0, _ => none
  | f + 1, k => if s.length ≤ k then none else if ub s k ≠ 34 then endQ s f (k + 1) else if k + 1 < s.length ∧ ub s (k + 1) = 34 then endQ s f (k + 2) else some k
def textS (s : Bytes) (i : Nat) : Tok × Nat :=
  if ub s i ≠ 34 then (tok0, 0) else
  match endQ s s.length (i + 1) with
  | none => (tok0, 0)
  | some k => if (unqB ((s.drop i).take (k + 1 - i))).2 ≠ 0 then (tok0, 0) else (⟨3 - 1, 0, (unqB ((s.drop i).take (k + 1 - i))).1, z4, i⟩, k + 1 - i)
def plainS (s : Bytes) (i : Nat) : Bytes := ((s.drop i).take (lenB alnB s i)).map upU
def hullR (a b : Ref) : Rct := ⟨min a.col b.col, min a.row b.row, max a.col b.col, max a.row b.row⟩
def trueB : Bytes := [84, 82, 85, 69]
def falseB : Bytes := [70, 65, 76, 83, 69]
/-- Behind the word that ends before p: a colon and a word that is an address. -/
def twoB (s : Bytes) (p : Nat) : Bool := decide (ub s p = 58) && letB (s.getD (p + 1) 0) && decide ((parA (plainS s (p + 1))).2 = 0) && decide (ub s (p + 1 + (plainS s (p + 1)).length) ≠ 40)
def wordS (s : Bytes) (i : Nat) : Tok × Nat :=
  if letB (s.getD i 0) = false then (tok0, 0)
  else if ub s (i + (plainS s i).length) = 40 then (⟨7, 0, plainS s i, z4, i⟩, (plainS s i).length)
  else if plainS s i = trueB then (⟨3, 1, [], z4, i⟩, (plainS s i).length)
  else if plainS s i = falseB then (⟨3, 0, [], z4, i⟩, (plainS s i).length)
  else if (parA (plainS s i)).2 ≠ 0 then (tok0, 0)
  else if twoB s (i + (plainS s i).length) then
    (⟨if (parA (plainS s i)).1 = (parA (plainS s (i + (plainS s i).length + 1))).1 then 5 else 6, 0, [], hullR (parA (plainS s i)).1 (parA (plainS s (i + (plainS s i).length + 1))).1, i⟩, (plainS s i).length + 1 + (plainS s (i + (plainS s i).length + 1)).length)
  else (⟨5, 0, [], ⟨(parA (plainS s i)).1.col, (parA (plainS s i)).1.row, (parA (plainS s i)).1.col, (parA (plainS s i)).1.row⟩, i⟩, (plainS s i).length)
/-- The names of the errors that may be written. -/
def failW : List Bytes := [[35, 68, 73, 86, 47, 48, 33], [35, 86, 65, 76, 85, 69, 33], [35, 78, 85, 77, 33], [35, 78, 47, 65], [35, 82, 69, 70, 33]]
def failL (s : Bytes) (i : Nat) : Int → List Bytes → Tok × Nat
  | _, [] => (tok0, 0)
  | code, x :: l => if i + x.length ≤ s.length ∧ ((s.drop i).take x.length).map upU = x then (⟨4, code, [], z4, i⟩, x.length) else failL s i (code + 1) l
def failS (s : Bytes) (i : Nat) : Tok × Nat := failL s i 1 failW
def opsW : List (Bytes × Int) := [([60, 62], 8), ([60, 61], 10), ([62, 61], 12), ([43], 1), ([45], 2), ([42], 3), ([47], 4), ([94], 5), ([38], 6), ([61], 7), ([60], 9), ([62], 11), ([37], 13)]
def opsL (s : Bytes) (i : Nat) : List (Bytes × Int) → Option (Tok × Nat)
  | [] => none
  | (x, n) :: l => if x.isPrefixOf (s.drop i) then some (⟨8, n, [], z4, i⟩, x.length) else opsL s i l
def signS (s : Bytes) (i : Nat) : Tok × Nat :=
  match opsL s i opsW with
  | some r => r
  | none => if ub s i = 40 then (⟨9, 0, [], z4, i⟩, 1) else if ub s i = 41 then (⟨10, 0, [], z4, i⟩, 1) else if ub s i = 44 then (⟨11, 0, [], z4, i⟩, 1) else (tok0, 0)
/-- The first rule that reads something. -/
def ruleS (s : Bytes) (i : Nat) : Tok × Nat :=
  if 0 < (numberS s i).2 then numberS s i else if 0 < (textS s i).2 then textS s i else if 0 < (wordS s i).2 then wordS s i else if 0 < (failS s i).2 then failS s i else signS s i
/-- The tokens from i on. -/
def toksL (s : Bytes) : Nat → Nat → Option (List Tok)
  | 0, _ => none
  | f + 1, i => if s.length ≤ i then some [] else if ub s i = 32 then toksL s f (i + 1) else if (ruleS s i).2 = 0 then none else (toksL s f (i + (ruleS s i).2)).map ((ruleS s i).1 :: ·)
def tokensS (s : Bytes) : List Tok × Int :=
  if 256 < s.length then ([], 5) else if pltB s = false then ([], 4) else match toksL s (s.length + 1) 0 with
    | none => ([], 4)
    | some l => (l, 0)
structure Nod where
  kind : Int
  vk : Int
  vn : Int
  vt : Bytes
  rect : Rct
  op : Int
  fn : Int
  n : Int
  deriving DecidableEq
def nod0 (k : Int) : Nod := ⟨k, 0, 0, [], z4, 0, 0, 0⟩
/-! ### Layer 5: a value -/
def valE (k n : Int) (t : Bytes) : Int :=
  if (if k = 0 then decide (n = 0) && decide (t = []) else if k = 1 then decide (t = []) && decide (n ≠ -9223372036854775808)
    else if k = 2 then decide (t = []) && (decide (n = 0) || decide (n = 1)) else if k = 3 then decide (n = 0) && decide (t.length ≤ 256) && pltB t
    else if k = 4 then decide (t = []) && decide (1 ≤ n) && decide (n ≤ 6) else false) then 0 else 2
/-! ### Layer 8: functions, trees -/
def fnNames : List Bytes := [[65, 66, 83], [83, 73, 71, 78], [73, 78, 84], [84, 82, 85, 78, 67], [82, 79, 85, 78, 68], [77, 79, 68], [80, 79, 87, 69, 82], [83, 81, 82, 84], [83, 85, 77], [80, 82, 79, 68, 85, 67, 84], [67, 79, 85, 78, 84], [67, 79, 85, 78, 84, 65], [67, 79, 85, 78, 84, 66, 76, 65, 78, 75], [65, 86, 69, 82, 65, 71, 69], [77, 73, 78], [77, 65, 88], [77, 69, 68, 73, 65, 78], [76, 65, 82, 71, 69], [83, 77, 65, 76, 76], [73, 70], [65, 78, 68], [79, 82], [88, 79, 82], [78, 79, 84], [73, 70, 69, 82, 82, 79, 82], [73, 83, 69, 82, 82, 79, 82], [73, 83, 66, 76, 65, 78, 75], [73, 83, 78, 85, 77, 66, 69, 82], [73, 83, 84, 69, 88, 84], [67, 72, 79, 79, 83, 69], [76, 69, 78], [76, 69, 70, 84], [82, 73, 71, 72, 84], [77, 73, 68], [85, 80, 80, 69, 82], [76, 79, 87, 69, 82], [84, 82, 73, 77], [67, 79, 78, 67, 65, 84], [82, 69, 80, 84], [69, 88, 65, 67, 84], [70, 73, 78, 68], [86, 65, 76, 85, 69], [73, 78, 68, 69, 88], [77, 65, 84, 67, 72], [67, 79, 85, 78, 84, 73, 70], [68, 83, 85, 77], [68, 67, 79, 85, 78, 84], [68, 65, 86, 71], [68, 77, 73, 78], [68, 77, 65, 88]]
/-- The function with a name, from 1 on; 0: there is none. -/
def fnOf (s : Bytes) : Nat := if fnNames.contains s then fnNames.idxOf s + 1 else 0
/-- The least and the greatest number of arguments, and the error. -/
def arityS (fn : Int) : Int × Int × Int :=
  if fn = 5 ∨ fn = 6 ∨ fn = 7 ∨ fn = 25 ∨ fn = 39 ∨ fn = 40 ∨ fn = 18 ∨ fn = 19 ∨ fn = 45 ∨ fn = 44 then (2, 2, 0)
  else if fn = 20 ∨ fn = 41 ∨ fn = 43 then (2, 3, 0)
  else if fn = 32 ∨ fn = 33 then (1, 2, 0)
  else if fn = 34 then (3, 3, 0)
  else if fn = 21 ∨ fn = 22 ∨ fn = 23 ∨ fn = 38 ∨ fn = 9 ∨ fn = 10 ∨ fn = 11 ∨ fn = 12 ∨ fn = 14 ∨ fn = 15 ∨ fn = 16 ∨ fn = 17 then (1, 16, 0)
  else if fn = 30 then (2, 16, 0)
  else if 1 ≤ fn ∧ fn ≤ 50 then (1, 1, 0) else (0, 0, 10)
def relB (fn : Int) : Bool := decide (46 ≤ fn) && decide (fn ≤ 50)
def wideS (fn i : Int) : Bool × Int :=
  if (arityS fn).2.2 ≠ 0 then (false, (arityS fn).2.2)
  else if i < 0 ∨ (arityS fn).2.1 ≤ i then (false, 3)
  else if fn = 9 ∨ fn = 10 ∨ fn = 11 ∨ fn = 12 ∨ fn = 14 ∨ fn = 15 ∨ fn = 16 ∨ fn = 17 then (true, 0)
  else if fn = 44 then (decide (i = 1), 0)
  else if fn = 18 ∨ fn = 19 ∨ fn = 45 ∨ fn = 43 ∨ fn = 13 then (decide (i = 0), 0)
  else (relB fn, 0)
/-- A node is plain: the fields that its kind does not use are zero. -/
def wantS (n : Nod) : Nod :=
  if n.kind = 1 then { nod0 1 with vk := n.vk, vn := n.vn, vt := n.vt } else if n.kind = 2 ∨ n.kind = 3 then { nod0 n.kind with rect := n.rect }
  else if n.kind = 6 then { nod0 6 with op := n.op } else if n.kind = 7 then { nod0 7 with fn := n.fn, n := n.n } else nod0 n.kind
def oneRB (r : Rct) : Bool := decide (r.c1 = r.c2) && decide (r.r1 = r.r2)
def nodOk (n : Nod) : Bool :=
  if n.kind = 1 then (if n.vk = 0 then false else if n.vk = 1 then decide (0 ≤ n.vn) else if n.vk = 4 then decide (1 ≤ n.vn) && decide (n.vn ≤ 5) else true) && decide (valE n.vk n.vn n.vt = 0)
  else if n.kind = 2 ∨ n.kind = 3 then rctB n.rect && (oneRB n.rect == decide (n.kind = 2))
  else if n.kind = 4 ∨ n.kind = 5 then true
  else if n.kind = 6 then decide (1 ≤ n.op) && decide (n.op ≤ 12)
  else if n.kind = 7 then decide (0 ≤ n.n) else false
def fieldsE (n : Nod) : Int :=
  if nodOk n = false ∨ n ≠ wantS n then 2
  else if n.kind ≠ 7 then 0
  else if (arityS n.fn).2.2 ≠ 0 then (arityS n.fn).2.2
  else if n.n < (arityS n.fn).1 ∨ (arityS n.fn).2.1 < n.n then 11 else 0
def belowS (n : Nod) : Int := if n.kind = 4 ∨ n.kind = 5 then 1 else if n.kind = 6 then 2 else if n.kind = 7 then n.n else 0
structure Part where
  root : Nat
  depth : Int
  wide : Bool
def fitsS (t : List Nod) (n : Nod) : Nat → List Part → Bool
  | _, [] => true
  | i, p :: l => if p.wide && !(decide (n.kind = 7) && (wideS n.fn i).1) then false
    else if decide (n.kind = 7) && relB n.fn && decide (((t.getD p.root (nod0 0)).kind) ≠ 2) && decide (((t.getD p.root (nod0 0)).kind) ≠ 3) then false
    else fitsS t n (i + 1) l
def depthS (l : List Part) : Int := l.foldl (fun d x => max d (x.depth + 1)) 1
/-- The stack behind a node. -/
def nodeS (t : List Nod) (i : Nat) (n : Nod) (st : List Part) : Except Int (List Part) :=
  if fieldsE n ≠ 0 then .error (fieldsE n)
  else if (st.length : Int) < belowS n ∨ fitsS t n 0 (st.drop (st.length - (belowS n).toNat)) = false then .error 4
  else if 32 < depthS (st.drop (st.length - (belowS n).toNat)) then .error 9
  else .ok (st.take (st.length - (belowS n).toNat) ++ [⟨i, depthS (st.drop (st.length - (belowS n).toNat)), decide (n.kind = 3)⟩])
def walkS (t : List Nod) : Nat → List Nod → List Part → Int
  | _, [], st => if st.length = 1 then 0 else 4
  | i, n :: l, st => match nodeS t i n st with
    | .error e => e
    | .ok st => walkS t (i + 1) l st
def treeE (t : List Nod) : Int :=
  if 256 < t.length then 5 else if t = [] then 4 else if walkS t 0 t [] ≠ 0 then walkS t 0 t [] else if (t.getLast?.map (·.kind)) = some 3 then 4 else 0
/-! ### Layer 9: a formula -/
def bindsS (op : Int) : Int := if 7 ≤ op ∧ op ≤ 12 then 1 else if op = 6 then 2 else if op = 1 ∨ op = 2 then 3 else if op = 3 ∨ op = 4 then 4 else if op = 5 then 6 else if op = 13 then 7 else 0
abbrev PSt := List Tok × List Nod
def headS (e : Int) (st : PSt) : Tok := st.1.head?.getD { tok0 with at_ := e }
def skipS (st : PSt) : PSt := (st.1.tail, st.2)
def putS (n : Nod) (st : PSt) : PSt := (st.1, st.2 ++ [n])
def isOpS (e : Int) (st : PSt) (op : Int) : Bool := decide ((headS e st).kind = 8) && decide ((headS e st).num = op)
/-- What is being read. -/
inductive Stg where
  | level (k : Nat)
  | loop (k : Nat)
  | sign
  | pct
  | pctl
  | prim
  | call (name : Tok)
  | args (name : Tok) (fn n : Nat)
  | arg (fn n : Nat)
abbrev PRes := Except (Int × Int) PSt
def thenS (r : PRes) (f : PSt → PRes) : PRes := match r with
  | .error e => .error e
  | .ok st => f st
def wantK (e : Int) (kind : Int) (st : PSt) : PRes := if (headS e st).kind ≠ kind then .error ((headS e st).at_, 4) else .ok (skipS st)
/-- The end of a call: n arguments. -/
def doneS (e : Int) (name : Tok) (fn n : Nat) (st : PSt) : PRes :=
  if (headS e st).kind ≠ 10 then .error ((headS e st).at_, 4)
  else if (n : Int) < (arityS fn).1 ∨ (arityS fn).2.1 < (n : Int) then .error (name.at_, 11)
  else if 46 ≤ fn ∧ (st.2.getLast?.map (·.kind)) ≠ some 2 ∧ (st.2.getLast?.map (·.kind)) ≠ some 3 then .error (name.at_, 4)
  else .ok (putS { nod0 7 with fn := fn, n := n } (skipS st))
def parS (e : Int) : Nat → Stg → PSt → PRes
  | 0, _, _ => .error (0, -1)
  | f + 1, .level k, st => thenS (parS e f (if k < 4 then .level (k + 1) else .sign) st) (parS e f (.loop k))
  | f + 1, .loop k, st => if (headS e st).kind ≠ 8 ∨ bindsS (headS e st).num ≠ k then .ok st
    else thenS (parS e f (if k < 4 then .level (k + 1) else .sign) (skipS st)) fun st' => parS e f (.loop k) (putS { nod0 6 with op := (headS e st).num } st')
  | f + 1, .sign, st => if isOpS e st 2 then thenS (parS e f .sign (skipS st)) fun st => .ok (putS (nod0 4) st)
    else thenS (parS e f .pct st) fun st => if isOpS e st 5 then thenS (parS e f .sign (skipS st)) fun st => .ok (putS { nod0 6 with op := 5 } st) else .ok st
  | f + 1, .pct, st => thenS (parS e f .prim st) (parS e f .pctl)
  | f + 1, .pctl, st => if isOpS e st 13 then parS e f .pctl (putS (nod0 5) (skipS st)) else .ok st
  | f + 1, .prim, st =>
    let t := headS e st
    if t.kind = 1 then .ok (putS { nod0 1 with vk := 1, vn := t.num } (skipS st))
    else if t.kind = 2 then .ok (putS { nod0 1 with vk := 3, vt := t.text } (skipS st))
    else if t.kind = 3 then .ok (putS { nod0 1 with vk := 2, vn := t.num } (skipS st))
    else if t.kind = 4 then .ok (putS { nod0 1 with vk := 4, vn := t.num } (skipS st))
    else if t.kind = 5 then .ok (putS { nod0 2 with rect := t.rect } (skipS st))
    else if t.kind = 9 then thenS (parS e f (.level 1) (skipS st)) (wantK e 10)
    else if t.kind = 7 then parS e f (.call t) st
    else .error (t.at_, 4)
  | f + 1, .call name, st =>
    if fnOf name.text = 0 then .error (name.at_, 10) else
    thenS (wantK e 9 (skipS st)) fun st => if (headS e st).kind = 10 then doneS e name (fnOf name.text) 0 st else parS e f (.args name (fnOf name.text) 0) st
  | f + 1, .args name fn n, st =>
    thenS (parS e f (.arg fn n) st) fun st => if (headS e st).kind = 11 then parS e f (.args name fn (n + 1)) (skipS st) else doneS e name fn (n + 1) st
  | f + 1, .arg fn n, st =>
    if (headS e st).kind ≠ 6 then parS e f (.level 1) st
    else if (wideS fn n).1 = false ∨ (wideS fn n).2 ≠ 0 then .error ((headS e st).at_, 4)
    else .ok (putS { nod0 3 with rect := (headS e st).rect } (skipS st))
def formulaS (s : Bytes) : List Nod × Int :=
  if (tokensS s).2 ≠ 0 then ([], (tokensS s).2) else
  match parS s.length (10 * (tokensS s).1.length + 20) (.level 1) ((tokensS s).1, []) with
  | .error e => ([], e.2)
  | .ok st => if st.1 ≠ [] then ([], 4) else if treeE st.2 ≠ 0 then ([], treeE st.2) else (st.2, 0)
/-! ### Layer 11: an input -/
def ofE (s : Bytes) : Int :=
  if 256 < s.length then 5 else if pltB s = false then 4 else if s.head? = some 61 then (formulaS s.tail).2 else 0
def spotsL : List Bytes := [65, 66, 67].flatMap fun c => [49, 50, 51, 52].map fun r => [c, r]
def fieldsL : List Bytes := [65, 66, 67].flatMap fun c => [49, 50, 51, 52].flatMap fun r => [0, 1].flatMap fun (x : UInt8) => [0, 1, 2].map fun (y : UInt8) => if x = 0 ∧ y = 0 then [c, r] else [c, r, 58, c + x, r + y]
def inputsL : List Bytes :=
  [[120], [84, 82, 85, 69], [35, 78, 47, 65]] ++ [48, 49, 50, 51, 52, 53, 54, 55, 56, 57].map (fun d => [d])
  ++ spotsL.map (fun s => 61 :: s) ++ spotsL.flatMap (fun s => spotsL.map fun t => 61 :: s ++ 43 :: t)
  ++ fieldsL.map (fun s => [61, 83, 85, 77, 40] ++ s ++ [41]) ++ fieldsL.map (fun s => [61, 68, 83, 85, 77, 40] ++ s ++ [41]) ++ fieldsL.map (fun s => [61, 68, 67, 79, 85, 78, 84, 40] ++ s ++ [41])
  ++ spotsL.map (fun s => [61, 73, 70, 69, 82, 82, 79, 82, 40] ++ s ++ [44, 48, 41]) ++ spotsL.map (fun s => [61, 49, 47] ++ s)
theorem inputs_of : inputsL.all (fun s => decide (ofE s = 0)) = true := by decide +kernel
theorem inputs_text : inputsL.all (fun s => decide (s ≠ []) && decide (s.length ≤ 256) && pltB s) = true := by decide +kernel
theorem letters_one {n : Nat} (h2 : n < 26) : letters (n + 1) = [UInt8.ofNat (65 + n)] := by
  have e1 : n / 26 = 0 := by omega
  have e2 : n % 26 = n := by omega
  rw [letters, e1, e2, letters]
  rfl
theorem fmt_cell (a b : Nat) (ha : a < 26) (hb : b < 9) : fmtRef ⟨1 + a, 1 + b⟩ = [UInt8.ofNat (65 + a), UInt8.ofNat (49 + b)] := by
  unfold fmtRef
  have hv : validB (1 + (a : Int)) (1 + (b : Int)) = true := by simp [validB]; omega
  rw [if_pos hv, show (1 + (a : Int)).toNat = a + 1 by omega, show (1 + (b : Int)).toNat = 1 + b by omega, letters_one ha, digits, dif_pos (by omega)]
  unfold dig
  rw [show 48 + (1 + b) % 10 = 49 + b by omega]
  rfl
theorem take_nat (n : Nat) (hn : 0 < n) (s : Bytes) : ∃ k : Nat, k < n ∧ (take n s).1 = k := by
  have h := take_bd n (by omega) s
  exact ⟨(take n s).1.toNat, by omega, by omega⟩
theorem spot_nat (s : Bytes) : ∃ a b : Nat, a < 3 ∧ b < 4 ∧ (spot s).1 = ⟨1 + a, 1 + b⟩ := by
  obtain ⟨a, ha, ea⟩ := take_nat 3 (by omega) s
  obtain ⟨b, hb, eb⟩ := take_nat 4 (by omega) (take 3 s).2
  exact ⟨a, b, ha, hb, by unfold spot; rw [show (take 3 s).1 = a from ea, show (take 4 (take 3 s).2).1 = b from eb]⟩
theorem field_nat (s : Bytes) : ∃ a b x y : Nat, a < 3 ∧ b < 4 ∧ x < 2 ∧ y < 3 ∧ (field s).1 = ⟨1 + a, 1 + b, 1 + a + x, 1 + b + y⟩ := by
  obtain ⟨a, b, ha, hb, e⟩ := spot_nat s
  obtain ⟨x, hx, ex⟩ := take_nat 2 (by omega) (spot s).2
  obtain ⟨y, hy, ey⟩ := take_nat 3 (by omega) (take 2 (spot s).2).2
  refine ⟨a, b, x, y, ha, hb, hx, hy, ?_⟩
  unfold field
  simp only [e]
  rw [show (take 2 (spot s).2).1 = x from ex, show (take 3 (take 2 (spot s).2).2).1 = y from ey]
theorem spots_mem : ∀ (a : Fin 3) (b : Fin 4), [UInt8.ofNat (65 + a.val), UInt8.ofNat (49 + b.val)] ∈ spotsL := by decide +kernel
theorem spot_mem (s : Bytes) : (spotText s).1 ∈ spotsL := by
  obtain ⟨a, b, ha, hb, e⟩ := spot_nat s
  unfold spotText
  rw [e, fmt_cell a b (by omega) (by omega)]
  exact spots_mem ⟨a, ha⟩ ⟨b, hb⟩
theorem fields_mem : ∀ (a : Fin 3) (b : Fin 4) (x : Fin 2) (y : Fin 3),
    (if x.val = 0 ∧ y.val = 0 then [UInt8.ofNat (65 + a.val), UInt8.ofNat (49 + b.val)] else [UInt8.ofNat (65 + a.val), UInt8.ofNat (49 + b.val)] ++ 58 :: [UInt8.ofNat (65 + (a.val + x.val)), UInt8.ofNat (49 + (b.val + y.val))]) ∈ fieldsL := by decide +kernel
theorem field_B {a b x y : Nat} (ha : a < 3) (hb : b < 4) (hx : x < 2) (hy : y < 3) : rctB ⟨1 + a, 1 + b, 1 + a + x, 1 + b + y⟩ = true := by
  simp [rctB, validB]
  omega
theorem field_mem (s : Bytes) : (fieldText s).1 ∈ fieldsL := by
  obtain ⟨a, b, x, y, ha, hb, hx, hy, e⟩ := field_nat s
  unfold fieldText fmtRct
  simp only [e]
  rw [if_pos (field_B ha hb hx hy)]
  have h1 := fmt_cell a b (by omega) (by omega)
  have h2 := fmt_cell (a + x) (b + y) (by omega) (by omega)
  have e1 : (1 : Int) + (a : Int) + (x : Int) = 1 + ((a + x : Nat) : Int) := by omega
  have e2 : (1 : Int) + (b : Int) + (y : Int) = 1 + ((b + y : Nat) : Int) := by omega
  have key := fields_mem ⟨a, ha⟩ ⟨b, hb⟩ ⟨x, hx⟩ ⟨y, hy⟩
  simp only at key
  rw [e1, e2, h1, h2]
  by_cases q : x = 0 ∧ y = 0
  · rw [if_pos q] at key
    rw [if_pos (by omega)]
    exact key
  · rw [if_neg q] at key
    rw [if_neg (by omega)]
    exact key
theorem digs_mem : ∀ k : Fin 10, [dig k.val] ∈ inputsL := by decide +kernel
theorem mem_l {x : Bytes} {a b : List Bytes} (h : x ∈ a) : x ∈ a ++ b := List.mem_append.2 (.inl h)
theorem mem_r {x : Bytes} {a b : List Bytes} (h : x ∈ b) : x ∈ a ++ b := List.mem_append.2 (.inr h)
theorem mem_0 : [120] ∈ inputsL ∧ [84, 82, 85, 69] ∈ inputsL ∧ [35, 78, 47, 65] ∈ inputsL := by decide +kernel
theorem mem_1 {s : Bytes} (h : s ∈ spotsL) : 61 :: s ∈ inputsL := mem_l (mem_l (mem_l (mem_l (mem_l (mem_l (mem_r (List.mem_map.2 ⟨_, h, rfl⟩)))))))
theorem mem_2 {s t : Bytes} (h : s ∈ spotsL) (k : t ∈ spotsL) : 61 :: s ++ 43 :: t ∈ inputsL := mem_l (mem_l (mem_l (mem_l (mem_l (mem_r (List.mem_flatMap.2 ⟨_, h, List.mem_map.2 ⟨_, k, rfl⟩⟩))))))
theorem mem_3 {s : Bytes} (h : s ∈ fieldsL) : [61, 83, 85, 77, 40] ++ s ++ [41] ∈ inputsL := mem_l (mem_l (mem_l (mem_l (mem_r (List.mem_map.2 ⟨_, h, rfl⟩)))))
theorem mem_4 {s : Bytes} (h : s ∈ fieldsL) : [61, 68, 83, 85, 77, 40] ++ s ++ [41] ∈ inputsL := mem_l (mem_l (mem_l (mem_r (List.mem_map.2 ⟨_, h, rfl⟩))))
theorem mem_5 {s : Bytes} (h : s ∈ fieldsL) : [61, 68, 67, 79, 85, 78, 84, 40] ++ s ++ [41] ∈ inputsL := mem_l (mem_l (mem_r (List.mem_map.2 ⟨_, h, rfl⟩)))
theorem mem_6 {s : Bytes} (h : s ∈ spotsL) : [61, 73, 70, 69, 82, 82, 79, 82, 40] ++ s ++ [44, 48, 41] ∈ inputsL := mem_l (mem_r (List.mem_map.2 ⟨_, h, rfl⟩))
theorem mem_7 {s : Bytes} (h : s ∈ spotsL) : [61, 49, 47] ++ s ∈ inputsL := mem_r (List.mem_map.2 ⟨_, h, rfl⟩)
theorem content_mem (s : Bytes) : (content s).1 = [] ∨ (content s).1 ∈ inputsL := by
  have S1 := spot_mem (take 12 s).2
  have S2 := spot_mem (spotText (take 12 s).2).2
  have F1 := field_mem (take 12 s).2
  unfold content
  dsimp only
  by_cases c0 : (take 12 s).1 = 0
  · rw [if_pos c0]
    exact .inl rfl
  rw [if_neg c0]
  refine .inr ?_
  by_cases c1 : (take 12 s).1 = 1
  · rw [if_pos c1]
    obtain ⟨k, hk, e⟩ := take_nat 10 (by omega) (take 12 s).2
    have e' : (take 10 (take 12 s).2).1 = k := e
    dsimp only
    rw [e', Int.toNat_natCast, digits, dif_pos hk]
    exact digs_mem ⟨k, hk⟩
  rw [if_neg c1]
  by_cases c2 : (take 12 s).1 = 2
  · rw [if_pos c2]
    exact mem_0.1
  rw [if_neg c2]
  by_cases c3 : (take 12 s).1 = 3
  · rw [if_pos c3]
    exact mem_0.2.1
  rw [if_neg c3]
  by_cases c4 : (take 12 s).1 = 4
  · rw [if_pos c4]
    exact mem_0.2.2
  rw [if_neg c4]
  by_cases c5 : (take 12 s).1 = 5
  · rw [if_pos c5]
    exact mem_1 S1
  rw [if_neg c5]
  by_cases c6 : (take 12 s).1 = 6
  · rw [if_pos c6]
    exact mem_2 S1 S2
  rw [if_neg c6]
  by_cases c7 : (take 12 s).1 = 7
  · rw [if_pos c7]
    exact mem_3 F1
  rw [if_neg c7]
  by_cases c8 : (take 12 s).1 = 8
  · rw [if_pos c8]
    exact mem_4 F1
  rw [if_neg c8]
  by_cases c9 : (take 12 s).1 = 9
  · rw [if_pos c9]
    exact mem_5 F1
  rw [if_neg c9]
  by_cases c10 : (take 12 s).1 = 10
  · rw [if_pos c10]
    exact mem_6 S1
  rw [if_neg c10]
  exact mem_7 S1
theorem content_of (s : Bytes) (h : (content s).1 ≠ []) : ofE (content s).1 = 0 := by
  rcases content_mem s with k | k
  · exact absurd k h
  · simpa using List.all_eq_true.1 inputs_of _ k
theorem content_text (s : Bytes) : (content s).1.length ≤ 256 ∧ pltB (content s).1 = true := by
  rcases content_mem s with k | k
  · rw [k]; exact ⟨by decide, rfl⟩
  · have := List.all_eq_true.1 inputs_text _ k
    simp only [Bool.and_eq_true, decide_eq_true_eq] at this
    exact ⟨this.1.2, this.2⟩
theorem tw_len {p : UInt8 → Bool} : ∀ (l : Bytes) (k : Nat), k ≤ l.length → (l.take k).all p = true → (∀ c, l[k]? = some c → p c = false) → (l.takeWhile p).length = k
  | l, 0, _, _, h => by
    cases l with
    | nil => rfl
    | cons c l => rw [List.takeWhile_cons_of_neg (by rw [h c rfl]; simp)]; rfl
  | [], k + 1, hk, _, _ => by simp at hk
  | c :: l, k + 1, hk, ha, h => by
    simp only [List.take_succ_cons, List.all_cons, Bool.and_eq_true] at ha
    rw [List.takeWhile_cons_of_pos ha.1, List.length_cons, tw_len l k (by simpa using hk) ha.2 (fun c hc => h c (by simpa using hc))]
theorem all_snoc {p : UInt8 → Bool} (s : ByteArray) (k : Nat) (h : k < s.size) (ha : (s.data.toList.take k).all p = true) (hc : p s[k] = true) : (s.data.toList.take (k + 1)).all p = true := by
  have hk : k < s.data.toList.length := by simpa using h
  rw [List.take_succ_eq_append_getElem hk, List.all_append, ha]
  simp only [List.all_cons, List.all_nil, Bool.and_true, Bool.true_and]
  exact hc
theorem at_get (s : ByteArray) (k : Nat) (h : k < s.size) : s.data.toList[k]? = some s[k] := by
  have hk : k < s.data.toList.length := by simpa using h
  rw [List.getElem?_eq_getElem hk]
  rfl
theorem digits_any (s : ByteArray) (w : World) (hl : s.size ≤ 1000000000) :
    Calls Tryz.prog 244 #[.string s] w fun u w' => u = .returned (.int .i64 (lenB digB s.data.toList 0)) ∧ w = w' := by
  go_enter Tryz.func244, Tryz.ntmps244
  go_wp2
  go_loopw [6] (fun i wr => ∃ k : Nat, k ≤ s.size ∧ i = .int .i64 k ∧ (s.data.toList.take k).all digB = true ∧ w = wr) (fun i _ => s.size - (intOf i).toNat)
  case atStart => exact ⟨0, by omega, rfl, by simp, rfl⟩
  case round =>
    obtain ⟨k, hk, rfl, ha, rfl⟩ := hrel
    have HA := Lib.hid ha
    clear ha
    by_cases hlt : k < s.size
    · have hi0 : (0 : Int) ≤ (k : Int) := Int.natCast_nonneg _
      have hi1 : (k : Int) < (s.size : Int) := by omega
      have hd := all_snoc s k hlt HA.out
      have HG := Lib.hid (at_get s k hlt)
      by_cases hdig : digB s[k] = true
      · have HD := Lib.hid (hd hdig)
        have d1 : ¬ ((s[k].toNat : Int) < 48) := by simp [digB] at hdig; omega
        have d2 : ¬ (57 < (s[k].toNat : Int)) := by simp [digB] at hdig; omega
        clear hd hdig
        go_wp2
        exact ⟨⟨k + 1, by omega, by go_num, HD.out, trivial⟩, by simp [intOf]; omega⟩
      · have HN := Lib.hid (show digB s[k] = false by simpa using hdig)
        have dd : ((s[k].toNat : Int) < 48) ∨ (57 < (s[k].toNat : Int)) := by simp [digB] at hdig; omega
        have HE := Lib.hid (show lenB digB s.data.toList 0 = k from tw_len _ k (by simp; omega) HA.out (fun c hc => by rw [List.drop_zero, HG.out] at hc; cases hc; exact HN.out))
        clear hd hdig
        rcases dd with dd | dd
        · go_wp2
          go_ret
          exact ⟨by rw [HE.out]; rfl, rfl⟩
        · have dd2 : ¬ ((s[k].toNat : Int) < 48) := by omega
          go_wp2
          go_ret
          exact ⟨by rw [HE.out]; rfl, rfl⟩
    · have hk2 : k = s.size := by omega
      have HE := Lib.hid (show lenB digB s.data.toList 0 = s.size from tw_len _ _ (by simp) (by have := HA.out; rw [hk2] at this; exact this) (fun c hc => by simp at hc))
      clear hk2
      go_wp2
      go_ret
      exact ⟨by rw [HE.out]; rfl, rfl⟩
theorem signed_is (lo : Int) (n : Bool) (w : World) (h0 : 0 ≤ lo) (h1 : lo ≤ 9223372036854775807) :
    Calls Tryz.prog 245 #[.int .u64 0, .int .u64 lo, .bool n] w fun u w' => u = .returned (.tuple #[.int .i64 (if n = true then -lo else lo), .bool true]) ∧ w = w' := by
  have hn : ¬ 9223372036854775807 < lo := by omega
  cases n with
  | true =>
    go_enter Tryz.func245, Tryz.ntmps245
    go_wp2
    go_ret2
    exact ⟨rfl, rfl⟩
  | false =>
    go_enter Tryz.func245, Tryz.ntmps245
    go_wp2
    go_ret2
    exact ⟨rfl, rfl⟩
theorem lex_digit (c : UInt8) (w : World) :
    Calls Tryz.prog 274 #[.int .u8 c.toNat] w fun u w' => u = .returned (.bool (digB c)) ∧ w = w' := by
  rcases chain2 (48 ≤ (c.toNat : Int)) ((c.toNat : Int) ≤ 57) with ⟨h1, h2⟩ | h1 | ⟨h1, h2⟩
  · have e : digB c = true := by simp [digB]; omega
    go_enter Tryz.func274, Tryz.ntmps274
    go_wp2
    go_ret
    exact ⟨by first | rfl | (rw [e]; rfl), rfl⟩
  · have e : digB c = false := by simp [digB]; omega
    go_enter Tryz.func274, Tryz.ntmps274
    go_wp2
    go_ret
    exact ⟨by first | rfl | (rw [e]; rfl), rfl⟩
  · have e : digB c = false := by simp [digB]; omega
    go_enter Tryz.func274, Tryz.ntmps274
    go_wp2
    go_ret
    exact ⟨by first | rfl | (rw [e]; rfl), rfl⟩
theorem lex_letter (c : UInt8) (w : World) :
    Calls Tryz.prog 276 #[.int .u8 c.toNat] w fun u w' => u = .returned (.bool (letB c)) ∧ w = w' := by
  have hc : (c.toNat : Int) < 65 ∨ (65 ≤ (c.toNat : Int) ∧ (c.toNat : Int) ≤ 90) ∨ (90 < (c.toNat : Int) ∧ (c.toNat : Int) < 97) ∨ (97 ≤ (c.toNat : Int) ∧ (c.toNat : Int) ≤ 122) ∨ 122 < (c.toNat : Int) := by omega
  rcases hc with h | ⟨h, h'⟩ | ⟨h, h'⟩ | ⟨h, h'⟩ | h
  · have e : letB c = false := by simp [letB]; omega
    have q1 : ¬ 65 ≤ (c.toNat : Int) := by omega
    have q2 : ¬ 97 ≤ (c.toNat : Int) := by omega
    go_enter Tryz.func276, Tryz.ntmps276
    go_wp2
    go_ret
    exact ⟨by first | rfl | (rw [e]; rfl), rfl⟩
  · have e : letB c = true := by simp [letB]; omega
    go_enter Tryz.func276, Tryz.ntmps276
    go_wp2
    go_ret
    exact ⟨by first | rfl | (rw [e]; rfl), rfl⟩
  · have e : letB c = false := by simp [letB]; omega
    have q1 : 65 ≤ (c.toNat : Int) := by omega
    have q2 : ¬ (c.toNat : Int) ≤ 90 := by omega
    have q3 : ¬ 97 ≤ (c.toNat : Int) := by omega
    go_enter Tryz.func276, Tryz.ntmps276
    go_wp2
    go_ret
    exact ⟨by first | rfl | (rw [e]; rfl), rfl⟩
  · have e : letB c = true := by simp [letB]; omega
    have q1 : 65 ≤ (c.toNat : Int) := by omega
    have q2 : ¬ (c.toNat : Int) ≤ 90 := by omega
    go_enter Tryz.func276, Tryz.ntmps276
    go_wp2
    go_ret
    exact ⟨by first | rfl | (rw [e]; rfl), rfl⟩
  · have e : letB c = false := by simp [letB]; omega
    have q1 : 65 ≤ (c.toNat : Int) := by omega
    have q2 : ¬ (c.toNat : Int) ≤ 90 := by omega
    have q3 : 97 ≤ (c.toNat : Int) := by omega
    have q4 : ¬ (c.toNat : Int) ≤ 122 := by omega
    go_enter Tryz.func276, Tryz.ntmps276
    go_wp2
    go_ret
    exact ⟨by first | rfl | (rw [e]; rfl), rfl⟩
theorem lex_plain1 (c : UInt8) (w : World) :
    Calls Tryz.prog 303 #[.int .u8 c.toNat] w fun u w' => u = .returned (.bool (alnB c)) ∧ w = w' := by
  by_cases h : letB c = true
  · have e : alnB c = true := by simp [alnB, h]
    go_enter Tryz.func303, Tryz.ntmps303
    go_wp2_with fail
    refine (lex_letter c _).mono ?_
    rintro u w1 ⟨rfl, rfl⟩
    rw [h]
    go_wp2
    go_ret
    exact ⟨by first | rfl | (rw [e]; rfl), rfl⟩
  · have h' : letB c = false := by simpa using h
    have e : alnB c = digB c := by simp [alnB, h']
    go_enter Tryz.func303, Tryz.ntmps303
    go_wp2_with fail
    refine (lex_letter c _).mono ?_
    rintro u w1 ⟨rfl, rfl⟩
    rw [h']
    go_wp2_with fail
    refine (lex_digit c _).mono ?_
    rintro u w1 ⟨rfl, rfl⟩
    go_wp2
    go_ret
    exact ⟨by first | rfl | (rw [e]; rfl), rfl⟩
theorem lex_piece (s : ByteArray) (i : Int) (f : Value) (w : World) (hf : f.oneCell' = true) :
    Calls Tryz.prog 302 #[.string s, .int .i64 i, f] w fun u w' => u = .returned (.func (.func 320) #[] #[.pointer (some ⟨w.heap.size + 1, 0, none⟩), .pointer (some ⟨w.heap.size, 0, none⟩), .pointer (some ⟨w.heap.size + 1 + 1, 0, none⟩)]) ∧ w' = ((w.alloc (.cells #[.string s] 9)).alloc (.cells #[.int .i64 i] 3)).alloc (.cells #[f] 219) := by
  have hmf : ∀ (fn : Fn) (first cap : Array Value) (w : World), (Instr.makeFunc fn first cap).run Tryz.prog w = .ok (.func fn first cap) w := fun _ _ _ _ => rfl
  go_enter Tryz.func302, Tryz.ntmps302
  go_wp2
  go_ret
  exact ⟨rfl, rfl⟩
end Go.Proofs.YtamcgggmfghljaaGreatDoor
