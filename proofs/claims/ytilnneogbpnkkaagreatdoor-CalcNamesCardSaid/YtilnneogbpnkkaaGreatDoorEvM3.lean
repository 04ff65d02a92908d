/- Our own machine: what an operation, a region, a piece of code, a call does. -/
import Derived.Test.YtilnneogbpnkkaaGreatDoorEvM1
import Derived.Test.YtilnneogbpnkkaaGreatDoorEvM2
import Derived.Laws.Tables
set_option maxRecDepth 10000
namespace Go.Proofs.YtilnneogbpnkkaaGreatDoor
namespace Ev
noncomputable section
/-- A model's operation that looks at no memory. -/
def pureR (P : Program) {α : Type} : Sem α → Option α
  | .pure a => some a
  | .program k => pureR P (k P)
  | .mark _ k => pureR P k
  | _ => none
/-- A list's element, by recursors. -/
def nthL {α : Type} (l : List α) : Nat → Option α := List.rec (motive := fun _ => Nat → Option α) (fun _ => none) (fun a _ ih i => Nat.rec (motive := fun _ => Option α) (some a) (fun j _ => ih j) i) l
theorem nthL_eq {α : Type} : ∀ (l : List α) (i : Nat), nthL l i = l[i]? := by
  intro l
  induction l with
  | nil => intro i; rfl
  | cons a l ih =>
    intro i
    cases i with
    | zero => rfl
    | succ i => exact ih i
/-- The program's types, looked up quickly. -/
def inf (P : Program) (t : TypeId) : Option TypeInfo :=
  match nthL P.types.toList t with
  | some i => some i
  | none => P.info? t
def und (P : Program) (t : TypeId) : Option TypeDesc :=
  match inf P t with
  | some { desc := .named _ u, .. } => (inf P u).map (·.desc)
  | some i => some i.desc
  | none => none
theorem inf_eq (P : Program) (t : TypeId) : inf P t = P.info? t := by
  unfold inf
  rw [nthL_eq, Array.getElem?_toList]
  split
  · rename_i i hi
    have hlt : t < P.types.size := (Array.getElem?_eq_some_iff.1 hi).1
    simp only [Tables.info?, hlt, if_true, hi]
  · rfl
theorem und_eq (P : Program) (t : TypeId) : und P t = P.underlying t := by
  unfold und Program.underlying
  rw [inf_eq]
  split <;> simp_all [inf_eq]
/-- An operand; a constant is known to be plain where it is used. -/
def evT (t : T Value) : Operand → Value
  | .tmp i => (t.get (i + 1)).getD undef
  | .const v => v
  | .global g => .pointer (some ⟨2 * g, 0, none⟩)
  | .func f => .func (.func f) #[] #[]
def tmpO (v : Value) : Option Value := bif isJ v then none else some v
def evO (g : Nat) (t : T Value) : Operand → Option Value
  | .tmp i => tmpO ((t.get (i + 1)).getD undef)
  | .const v => bif plain v then some v else none
  | .global i => bif Nat.blt i g then some (.pointer (some ⟨2 * i, 0, none⟩)) else none
  | .func f => some (.func (.func f) #[] #[])
def evL (g : Nat) (t : T Value) : List Operand → Option (List Value)
  | [] => some []
  | x :: l => match evO g t x with
    | some v => match evL g t l with
      | some r => some (v :: r)
      | none => none
    | none => none
def allPlain (t : T Value) : List Operand → Bool
  | [] => true
  | x :: l => plain (evT t x) && allPlain t l
/-- An operation over plain values: the model's own. -/
def gen (P : Program) (t : T Value) (o : Oper) : Option Value :=
  bif allPlain t o.op.operands.toList then
    match pureR P (execOp (evT t) o) with
    | some (.value v) => bif plain v then some v else none
    | _ => none
  else none
/-- n cells from cell k on. -/
def ldN (c : T Value) (d : List Value) : Nat → Nat → Option (List Value)
  | 0, _ => some []
  | n + 1, k => match cg c d k with
    | some v => match ldN c d n (k + 1) with
      | some l => some (v :: l)
      | none => none
    | none => none
def stN (c : T Value) : List Value → Nat → T Value
  | [], _ => c
  | v :: l, k => stN (c.set v (k + 1)) l (k + 1)
def isAgg (P : Program) (ty : TypeId) : Option Bool :=
  match und P ty with
  | some (.struct _) | some (.array _ _) => some true
  | some _ => some false
  | none => none
/-- A variable of type ty at (b, f). -/
def ldv (P : Program) (h : H) (ty : TypeId) (b f : Nat) : Option Value :=
  match h.get b with
  | some (.cells n c d _) => match isAgg P ty with
    | some true => match inf P ty with
      | some i => bif Nat.ble (f + i.size) n then match ldN c d i.size f with
          | some l => some (.agg ⟨l⟩)
          | none => none
        else none
      | none => none
    | some false => bif Nat.blt f n then cg c d f else none
    | none => none
  | _ => none
/-- A part of a value. -/
def part (P : Program) (ty : TypeId) (l : List Value) (off : Nat) : Option Value :=
  match isAgg P ty with
  | some true => match inf P ty with
    | some i => some (.agg ⟨(l.drop off).take i.size⟩)
    | none => none
  | some false => l[off]?
  | none => none
/-- A comparison with nil, at a type. -/
def nilEq : TypeDesc → Value → Value → Option Bool
  | .pointer _, .pointer none, .pointer b => some b.isNone
  | .pointer _, .pointer (some _), .pointer none => some false
  | .slice _, .slice none _ _, .slice b _ _ => some b.isNone
  | .slice _, .slice (some _) _ _, .slice none _ _ => some false
  | .map _ _, .map none, .map b => some b.isNone
  | .map _ _, .map (some _), .map none => some false
  | .func _ _ _, .nilFunc, .nilFunc => some true
  | .func _ _ _, .nilFunc, .func _ _ _ => some false
  | .func _ _ _, .func _ _ _, .nilFunc => some false
  | .interface _, .nilIface, .iface _ _ => some false
  | .interface _, .iface _ _, .nilIface => some false
  | _, _, _ => none
/-- The place of a key among a map's entries (its keys are plain). -/
def askAt (P : Program) (kt : TypeId) (k : Value) : List MapEntry → Nat → Option (Option (Nat × Value))
  | [], _ => some none
  | e :: l, i => match pureR P (Op.equal kt k e.key) with
    | some true => some (some (i, e.val))
    | some false => askAt P kt k l (i + 1)
    | none => none
def keyAt (P : Program) (kt : TypeId) (k : Value) (es : List MapEntry) : Option (Option (Nat × Value)) :=
  match und P kt with
  | some kd => match Instr.findNow kd k es 0 with
    | some x => some x
    | none => askAt P kt k es 0
  | none => none
def int? : Value → Option Int
  | .int _ n => some n
  | _ => none
/-- The bounds of a slice expression: low, high (no max), within the length; the capacity of a block known whole. -/
def nat? (g : Nat) (t : T Value) (d : Nat) : Option Operand → Option Nat
  | none => some d
  | some x => match evO g t x with
    | some (.int _ n) => match n with
      | .ofNat k => some k
      | _ => none
    | _ => none
/-- Bytes. -/
def u8s : List Value → Option (List Int)
  | [] => some []
  | .int .u8 n :: l => match u8s l with
    | some r => some (n :: r)
    | none => none
  | _ => none
/-- Operations that look and do not touch: the rest. -/
def rd0 (P : Program) (h : H) (t : T Value) (o : Oper) : Option Value :=
  match o.op with
  | .move x | .assign x => evO h.g t x
  | .pick c a b => match evO h.g t c with
    | some (.bool q) => evO h.g t (bif q then a else b)
    | _ => none
  | .extract x i => match evO h.g t x with
    | some (.tuple ⟨l⟩) => l[i]?
    | _ => none
  | .load ty x => match evO h.g t x with
    | some (.pointer (some ⟨b, f, none⟩)) => ldv P h ty b f
    | _ => none
  | .fieldAddr s x f => match und P s with
    | some (.struct fs) => match fs[f]? with
      | some fd => match inf P fd.type with
        | some i => bif Nat.beq i.size 0 then none else match evO h.g t x with
          | some (.pointer (some ⟨b, o, none⟩)) => some (.pointer (some ⟨b, o + fd.offset, none⟩))
          | _ => none
        | none => none
      | none => none
    | _ => none
  | .indexAddr ty x ix => match evO h.g t ix with
    | some (.int _ (.ofNat i)) => match und P ty with
      | some (.slice e) => match inf P e with
        | some ti => match evO h.g t x with
          | some (.slice (some ⟨b, o, none⟩) l _) => bif Nat.blt i l then some (.pointer (some ⟨b, o + i * ti.size, none⟩)) else none
          | _ => none
        | none => none
      | some (.array n e) => match inf P e with
        | some ti => match evO h.g t x with
          | some (.pointer (some ⟨b, o, none⟩)) => bif Nat.blt i n then some (.pointer (some ⟨b, o + i * ti.size, none⟩)) else none
          | _ => none
        | none => none
      | _ => none
    | _ => none
  | .field ty x f => match und P ty with
    | some (.struct fs) => match fs[f]? with
      | some fd => match evO h.g t x with
        | some (.agg ⟨l⟩) => part P fd.type l fd.offset
        | _ => none
      | none => none
    | _ => none
  | .index ty x ix => match und P ty with
    | some (.array n e) => match evO h.g t ix with
      | some (.int _ (.ofNat i)) => match inf P e with
        | some ti => match evO h.g t x with
          | some (.agg ⟨l⟩) => bif Nat.blt i n then part P e l (i * ti.size) else none
          | _ => none
        | none => none
      | _ => none
    | _ => gen P t o
  | .nilCheck x => match evO h.g t x with
    | some (.pointer (some a)) => some (.pointer (some a))
    | some (.func (.func f) a b) => some (.func (.func f) a b)
    | some (.func (.yield f) a b) => some (.func (.yield f) a b)
    | _ => none
  | .binOp op ty x y _ => match gen P t o with
    | some v => some v
    | none => match evO h.g t x, evO h.g t y with
      | some a, some b => match und P ty with
        | some d => match nilEq d a b with
          | some q => match op with
            | .eql => some (.bool q)
            | .neq => some (.bool !q)
            | _ => none
          | none => none
        | none => none
      | _, _ => none
  | .makeFunc (.func f) first cap => match evL h.g t first.toList, evL h.g t cap.toList with
    | some a, some b => some (.func (.func f) ⟨a⟩ ⟨b⟩)
    | _, _ => none
  | .slice ty x lo hi none => match evO h.g t x with
    | some (.slice (some ⟨b, o, none⟩) l c) => match und P ty with
      | some (.slice e) => match inf P e with
        | some ti => match nat? h.g t 0 lo, nat? h.g t l hi with
          | some i, some j => bif Nat.ble i j && Nat.ble j l then
              (bif Nat.beq (b % 2) 0 then bif Nat.ble l c then some (.slice (some ⟨b, bif Nat.beq c i then o else o + i * ti.size, none⟩) (j - i) (c - i)) else none
               else match h.get b with
                | some (.cells _ _ _ s) => bif Nat.beq s ti.size then some (.slice (some ⟨b, o + i * ti.size, none⟩) (j - i) (c - i)) else none
                | _ => none) else none
          | _, _ => none
        | none => none
      | _ => none
    | _ => gen P t o
  | .slice ty x lo (some y) (some mx) => match evO h.g t x with
    | some (.slice (some ⟨b, o, none⟩) l c) => match und P ty with
      | some (.slice e) => match inf P e with
        | some ti => match nat? h.g t 0 lo, nat? h.g t 0 (some y), nat? h.g t 0 (some mx) with
          | some i, some j, some m => bif Nat.ble i j && Nat.ble j m then
              (bif Nat.beq (b % 2) 0 then bif Nat.ble m c then some (.slice (some ⟨b, bif Nat.beq m i then o else o + i * ti.size, none⟩) (j - i) (m - i)) else none
               else match h.get b with
                | some (.cells _ _ _ s) => bif Nat.beq s ti.size && (Nat.ble m l || Nat.ble (m + 1) c) then some (.slice (some ⟨b, o + i * ti.size, none⟩) (j - i) (m - i + 1)) else none
                | _ => none) else none
          | _, _, _ => none
        | none => none
      | _ => none
    | _ => none
  | .lookup ty x k ok => match und P ty with
    | some (.map kt et) => match inf P et with
      | some ti => match ti.zero with
        | some z => match evO h.g t k with
          | some kv => bif plain kv then
              match (match evO h.g t x with
                | some (.map none) => some []
                | some (.map (some m)) => match h.get m with
                  | some (.map es _) => some es
                  | _ => none
                | _ => none) with
              | some es => match pureR P (Instr.checkKey es.isEmpty 10000 kt kv) with
                | some _ => match keyAt P kt kv es with
                  | some (some (_, v)) => some (bif ok then .tuple #[v, .bool true] else v)
                  | some none => bif plain z then some (bif ok then .tuple #[z, .bool false] else z) else none
                  | none => none
                | none => none
              | none => none
            else none
          | none => none
        | none => none
      | none => none
    | _ => none
  | .call { callee := .builtin .len, args, argTypes } => match argTypes[0]?, args[0]? with
    | some ty, some x => match evO h.g t x with
      | some (.slice _ l _) => match und P ty with
        | some (.slice _) => some (goInt l)
        | _ => none
      | some (.map (some m)) => match h.get m, und P ty with
        | some (.map es _), some (.map _ _) => some (goInt es.length)
        | _, _ => none
      | _ => gen P t o
    | _, _ => none
  | .makeInterface ty x => match und P ty with
    | some (.interface _) => none
    | some _ => match evO h.g t x with
      | some v => some (.iface ty v)
      | none => none
    | none => none
  | .convert s d x => match evO h.g t x with
    | some (.slice (some ⟨b, o, none⟩) l _) => match und P s, und P d with
      | some (.slice e), some .string => match und P e with
        | some (.int .u8) => match h.get b with
          | some (.cells n c dz _) => bif Nat.ble (o + l) n then match ldN c dz l o with
              | some vs => match u8s vs with
                | some ns => some (.string ⟨⟨ns.map fun n => UInt8.ofNat n.toNat⟩⟩)
                | none => none
              | none => none
            else none
          | _ => none
        | _ => none
      | _, _ => none
    | _ => gen P t o
  | .build ty parts => match evL h.g t (parts.toList.map (·.2)), inf P ty with
    | some vs, some it => match it.zero with
      | some z => bif plainL z.cells.toList then match P.built ty ((parts.toList.map (·.1)).zip vs) with
          | some cs => some (.agg cs)
          | none => none
        else none
      | none => none
    | _, _ => none
  | .select .. => none
  | _ => gen P t o
/-! Numbers and texts, by recursors. -/
/-- Numbers that a kind holds (from 0). -/
def lim (k : IntKind) : Nat := IntKind.rec (motive := fun _ => Nat) 128 32768 2147483648 9223372036854775808 256 65536 4294967296 18446744073709551616 k
def wrapF (k : IntKind) (n : Int) : Int := Int.rec (motive := fun _ => Int) (fun a => Bool.rec (motive := fun _ => Int) (k.wrap n) (.ofNat a) (Nat.blt a (lim k))) (fun _ => k.wrap n) n
def addF (x y : Int) : Int := Int.rec (motive := fun _ => Int) (fun a => Int.rec (motive := fun _ => Int) (fun b => .ofNat (Nat.add a b)) (fun _ => x + y) y) (fun _ => x + y) x
def subF (x y : Int) : Int := Int.rec (motive := fun _ => Int) (fun a => Int.rec (motive := fun _ => Int) (fun b => Bool.rec (motive := fun _ => Int) (x - y) (.ofNat (Nat.sub a b)) (Nat.ble b a)) (fun _ => x - y) y) (fun _ => x - y) x
def mulF (x y : Int) : Int := Int.rec (motive := fun _ => Int) (fun a => Int.rec (motive := fun _ => Int) (fun b => .ofNat (Nat.mul a b)) (fun _ => x * y) y) (fun _ => x * y) x
def eqF (x y : Int) : Bool := Int.rec (motive := fun _ => Bool) (fun a => Int.rec (motive := fun _ => Bool) (fun b => Nat.beq a b) (fun _ => false) y) (fun a => Int.rec (motive := fun _ => Bool) (fun _ => false) (fun b => Nat.beq a b) y) x
def ltF (x y : Int) : Bool := Int.rec (motive := fun _ => Bool) (fun a => Int.rec (motive := fun _ => Bool) (fun b => Nat.blt a b) (fun _ => false) y) (fun a => Int.rec (motive := fun _ => Bool) (fun _ => true) (fun b => Nat.blt b a) y) x
def kindF (k : IntKind) : Nat := IntKind.rec (motive := fun _ => Nat) 0 1 2 3 4 5 6 7 k
def lenL {α : Type} (l : List α) : Nat := List.rec (motive := fun _ => Nat) 0 (fun _ _ ih => Nat.succ ih) l
def dropL {α : Type} (n : Nat) : List α → List α := Nat.rec (motive := fun _ => List α → List α) (fun l => l) (fun _ ih l => List.rec (motive := fun _ => List α) [] (fun _ m _ => ih m) l) n
def takeL {α : Type} (n : Nat) : List α → List α := Nat.rec (motive := fun _ => List α → List α) (fun _ => []) (fun _ ih l => List.rec (motive := fun _ => List α) [] (fun a m _ => a :: ih m) l) n
def appL {α : Type} (l m : List α) : List α := List.rec (motive := fun _ => List α) m (fun a _ ih => a :: ih) l
def eqL (x : List UInt8) : List UInt8 → Bool :=
  List.rec (motive := fun _ => List UInt8 → Bool) (fun y => List.rec (motive := fun _ => Bool) true (fun _ _ _ => false) y) (fun a _ ih y => List.rec (motive := fun _ => Bool) false (fun b m _ => Bool.rec (motive := fun _ => Bool) false (ih m) (Nat.beq a.toNat b.toNat)) y) x
inductive BO where
  | eq | ne | lt | le | gt | ge | add | sub | mul
def bo : BinOp → Option BO
  | .eql => some .eq
  | .neq => some .ne
  | .lss => some .lt
  | .leq => some .le
  | .gtr => some .gt
  | .geq => some .ge
  | .add => some .add
  | .sub => some .sub
  | .mul => some .mul
  | _ => none
/-- Two numbers, one operation. -/
def binV (b : BO) (k : IntKind) (x y : Int) : Value :=
  BO.rec (motive := fun _ => Value) (.bool (eqF x y)) (.bool (!eqF x y)) (.bool (ltF x y)) (.bool (!ltF y x)) (.bool (ltF y x)) (.bool (!ltF x y)) (.int k (wrapF k (addF x y))) (.int k (wrapF k (subF x y))) (.int k (wrapF k (mulF x y))) b
/-- Two texts, one operation. -/
def strV (b : BO) (x y : ByteArray) : Option Value :=
  match b with
  | .eq => some (.bool (eqL x.data.toList y.data.toList))
  | .ne => some (.bool (!eqL x.data.toList y.data.toList))
  | .add => bif Nat.ble (lenL x.data.toList + lenL y.data.toList) 1152921504606846976 then some (.string ⟨⟨appL x.data.toList y.data.toList⟩⟩) else none
  | _ => none
/-- Operations on numbers and texts. -/
def quick (P : Program) (g : Nat) (t : T Value) (o : Oper) : Option Value :=
  match o.op with
  | .binOp op _ x y _ => match bo op with
    | some b => match evO g t x with
      | some (.int k m) => match evO g t y with
        | some (.int k' n) => bif Nat.beq (kindF k) (kindF k') then some (binV b k m n) else none
        | _ => none
      | some (.string s) => match evO g t y with
        | some (.string u) => strV b s u
        | _ => none
      | _ => none
    | none => none
  | .convert s d x => match evO g t x with
    | some (.int _ n) => match und P s, und P d with
      | some _, some (.int kd) => some (.int kd (wrapF kd n))
      | _, _ => none
    | _ => none
  | .index ty x ix => match evO g t x with
    | some (.string s) => match evO g t ix with
      | some (.int _ (.ofNat i)) => match und P ty with
        | some .string => match nthL s.data.toList i with
          | some b => some (.int .u8 b.toNat)
          | none => none
        | _ => none
      | _ => none
    | _ => none
  | .slice ty x lo hi none => match evO g t x with
    | some (.string s) => match und P ty with
      | some .string => match nat? g t 0 lo, nat? g t (lenL s.data.toList) hi with
        | some i, some j => bif Nat.ble i j && Nat.ble j (lenL s.data.toList) then some (.string ⟨⟨takeL (j - i) (dropL i s.data.toList)⟩⟩) else none
        | _, _ => none
      | _ => none
    | _ => none
  | .call { callee := .builtin .len, args, argTypes } => match argTypes[0]?, args[0]? with
    | some ty, some x => match evO g t x with
      | some (.string s) => match und P ty with
        | some .string => some (goInt (lenL s.data.toList))
        | _ => none
      | _ => none
    | _, _ => none
  | .unOp .not _ x => match evO g t x with
    | some (.bool q) => some (.bool (!q))
    | _ => none
  | _ => none
/-- Where a walk over a map stands: the map, the entry, the map's clock then. -/
def curOf : Blk → Option (Nat × Nat × Nat)
  | .mit (some m) _ seen last => match seen.getLast? with
    | some s => some (m, s, last)
    | none => none
  | .mis m _ _ _ (some s) last _ => some (m, s, last)
  | _ => none
/-- Looks of other kinds: rows out of arrays; the entry to which a walk over a map has come; a row's capacity (of an open row: no less than what is known), a number that is no greater. -/
def rd2 (P : Program) (h : H) (t : T Value) (o : Oper) : Option Value :=
  match o.op with
  | .slice ty x lo hi none => match evO h.g t x with
    | some (.pointer (some ⟨b, k, none⟩)) => match und P ty with
      | some (.array n e) => match inf P e with
        | some ti => match nat? h.g t 0 lo, nat? h.g t n hi with
          | some i, some j => bif Nat.ble i j && Nat.ble j n && Nat.beq (b % 2) 0 then some (.slice (some ⟨b, bif Nat.beq n i then k else k + i * ti.size, none⟩) (j - i) (n - i)) else none
          | _, _ => none
        | none => none
      | _ => none
    | some (.slice (some ⟨b, o, none⟩) l 0) => match und P ty with
      | some (.slice e) => match inf P e with
        | some ti => match nat? h.g t 0 lo, nat? h.g t l hi with
          | some i, some j => match h.get b with
            | some (.cells m _ _ s) => bif Nat.beq (b % 2) 1 && Nat.ble i j && Nat.beq s ti.size && Nat.ble (o + j * ti.size) m && !(Nat.beq ti.size 0) then some (.slice (some ⟨b, o + i * ti.size, none⟩) (j - i) 0) else none
            | _ => none
          | _, _ => none
        | none => none
      | _ => none
    | _ => none
  | .entry it => match evO h.g t it with
    | some (.pointer (some ⟨b, 0, none⟩)) => match h.get b with
      | some b => match curOf b with
        | some (m, s, last) => match h.get m with
          | some (.map es clock) => bif Nat.beq clock last then match es.find? fun e => Nat.beq e.born s with
              | some e => some (.tuple #[e.key, e.val])
              | none => none
            else none
          | _ => none
        | none => none
      | none => none
    | _ => none
  | .call { callee := .builtin .cap, args, argTypes } => match argTypes[0]?, args[0]? with
    | some ty, some x => match evO h.g t x with
      | some (.slice (some ⟨b, k, none⟩) _ c) => match und P ty with
        | some (.slice e) => bif Nat.beq (b % 2) 0 then some (goInt c) else match c with
          | c + 1 => some (goInt c)
          | 0 => match inf P e, h.get b with
            | some ti, some (.cells m _ _ s) => bif Nat.beq s ti.size && !(Nat.beq ti.size 0) then some (.chan (some ((m - k) / ti.size + 1))) else none
            | _, _ => none
        | _ => none
      | _ => none
    | _, _ => none
  | .binOp .gtr _ x y _ => match evO h.g t x, evO h.g t y with
    | some (.int .i64 (.ofNat m)), some (.chan (some (c + 1))) => bif Nat.ble m c then some (.bool false) else none
    | _, _ => none
  | _ => none
/-- Operations that look and do not touch. -/
def rd (P : Program) (h : H) (t : T Value) (o : Oper) : Option Value :=
  match quick P h.g t o with
  | some v => some v
  | none => match rd0 P h t o with
    | some v => some v
    | none => rd2 P h t o
/-- An operation that makes a block: the block, whether it is open, the value. -/
def al (P : Program) (h : H) (t : T Value) (o : Oper) : Option (Blk × Bool × (Nat → Value)) :=
  match o.op with
  | .alloc e => match inf P e with
    | some i => match i.zero with
      | some z => bif plainL z.cells.toList then some (.cells z.cells.toList.length .e z.cells.toList 0, false, fun x => .pointer (some ⟨x, 0, none⟩)) else none
      | none => none
    | none => none
  | .box _ x => match evO h.g t x with
    | some v => some (.cells v.cells.toList.length .e v.cells.toList 0, false, fun x => .pointer (some ⟨x, 0, none⟩))
    | none => none
  | .buildSlice ty len parts => match und P ty with
    | some (.slice e) => match inf P e with
      | some i => bif Nat.beq len 0 then (match parts.toList with
          | [] => some (.cells 0 .e [] 0, false, fun x => .slice (some ⟨x, 0, none⟩) 0 0)
          | _ => none) else match i.zero with
        | some z => match evL h.g t (parts.toList.map (·.2)) with
          | some vs => bif plainL z.cells.toList && Nat.beq z.cells.toList.length i.size && Nat.ble (len * i.size) 16777216 && !(Nat.beq (len * i.size) 0) then
              match Instr.fill (fun x => some (x * i.size, i.size)) ((Array.range (len * i.size)).map (z.cells[· % z.cells.size]!)) ((parts.toList.map (·.1)).zip vs) with
              | some cs => some (.cells (len * i.size) .e cs.toList 0, false, fun x => .slice (some ⟨x, 0, none⟩) len len)
              | none => none
            else none
          | none => none
        | none => none
      | none => none
    | _ => none
  | .makeSlice ty l c => match evO h.g t l, evO h.g t c with
    | some (.int _ (.ofNat l)), some (.int _ (.ofNat c)) => match und P ty with
      | some (.slice e) => match inf P e with
        | some i => match i.zero with
          | some z => bif plainL z.cells.toList && Nat.beq z.cells.toList.length i.size && Nat.ble l c && Nat.ble (i.bytes * c) 1048576 && Nat.ble c 1048576 && !(Nat.beq i.size 0) then
              some (.cells (c * i.size) .e z.cells.toList 0, false, fun x => .slice (some ⟨x, 0, none⟩) l c) else none
          | none => none
        | none => none
      | _ => none
    | _, _ => none
  | .makeMap _ none => some (.map [] 0, false, fun x => .map (some x))
  | .convert sr d x => match evO h.g t x with
    | some (.string s) => match und P sr, und P d with
      | some .string, some (.slice e) => match und P e with
        | some (.int .u8) => some (.cells s.data.toList.length .e (s.data.toList.map fun b => .int .u8 b.toNat) 1, true, fun x => .slice (some ⟨x, 0, none⟩) s.data.toList.length 0)
        | _ => none
      | _, _ => none
    | _ => none
  | .range ty x => match und P ty, evO h.g t x with
    | some .string, some (.string s) => some (.sit s 0, false, fun x => .pointer (some ⟨x, 0, none⟩))
    | _, _ => none
  | _ => none
/-- Which kind: 0 looks, 1 makes a block, 2 does more. -/
def kind (P : Program) (o : Oper) : Nat :=
  match o.op with
  | .alloc _ | .box _ _ | .buildSlice .. | .makeSlice .. | .makeMap .. => 1
  | .range ty _ => match und P ty with
    | some (.map _ _) => 2
    | _ => 1
  | .convert _ d _ => match und P d with
    | some (.slice _) => 1
    | _ => 0
  | .store .. | .mapUpdate .. | .insert .. | .next .. => 2
  | .call { callee := .builtin .len, .. } | .call { callee := .builtin .cap, .. } | .call { callee := .builtin .min, .. } | .call { callee := .builtin .max, .. } => 0
  | .call _ => 2
  | _ => 0
/-- Cells are written into a block of ours. -/
def putC (h : H) (b f : Nat) (vs : List Value) : Option H :=
  bif Nat.ble h.lo b && vs.all one then
    match h.get b with
    | some (.cells n c d s) => bif Nat.ble (f + vs.length) n && wrt s b then some (h.set b (.cells n (stN c vs f) d s)) else none
    | _ => none
  else none
/-- The cells of a slice or a string, n elements of sz cells. -/
def cellsOf (h : H) (sz : Nat) : Value → Option (Nat × List Value)
  | .slice none _ _ => some (0, [])
  | .slice (some ⟨b, o, none⟩) l _ => match h.get b with
    | some (.cells n c d _) => bif Nat.ble (o + l * sz) n then match ldN c d (l * sz) o with
        | some vs => some (l, vs)
        | none => none
      else none
    | _ => none
  | .string s => bif Nat.beq sz 1 then some (s.data.toList.length, s.data.toList.map fun b => .int .u8 b.toNat) else none
  | _ => none
/-- A row that is nil has no length. -/
def nil0 : Value → Bool
  | .slice none l _ => Nat.beq l 0
  | _ => true
/-- Does a value fit an append's second operand? -/
def okSrc : TypeDesc → Value → Bool
  | .slice _, .slice none l _ => Nat.beq l 0
  | .slice _, .slice (some _) _ _ => true
  | .string, .string _ => true
  | _, _ => false
/-- append, where a row of ours is written no further than it is known, and the known part is kept as it stands. -/
def share (P : Program) (ty tx : TypeId) (s x : Value) (h : H) : Option (Value × H) :=
  match s with
  | .slice (some ⟨b, 0, none⟩) l c => match h.get b with
    | some (.cells m cs dz q) => match und P ty, und P tx with
      | some (.slice e), some d => match inf P e with
        | some i => match i.zero with
          | some z => match cellsOf h i.size x with
            | some (n, vs) =>
              bif Nat.beq (l * i.size) m && !(Nat.beq (b % 2) 0) && Nat.beq q i.size && !(Nat.ble (0 + (l + n) * i.size) m) && okSrc d x && !(Nat.beq i.size 0) && !(Nat.beq i.bytes 0) && Nat.ble i.bytes 1048576 && Nat.beq z.cells.toList.length i.size && vs.all one &&
                  Nat.ble ((l + n) * i.bytes) 1099511627776 && Nat.ble h.lo b && Nat.beq c 0 then
                some (.slice (some ⟨2 * h.k + 1, 0, none⟩) (l + n) 0, { ((h.del b).set (2 * h.k + 1) (.cells (m + vs.length) (stN cs vs m) dz i.size)) with k := h.k + 1 })
              else none
            | none => none
          | none => none
        | none => none
      | _, _ => none
    | _ => none
  | _ => none
/-- append. -/
def app0 (P : Program) (ty tx : TypeId) (s x : Value) (h : H) : Option (Value × H) :=
  match und P ty, und P tx with
  | some (.slice e), some d => match inf P e with
    | some i => match i.zero with
      | some z => match cellsOf h i.size x with
        | some (n, vs) =>
          bif okSrc d x && !(Nat.beq i.size 0) && !(Nat.beq i.bytes 0) && Nat.ble i.bytes 1048576 && Nat.beq z.cells.toList.length i.size && vs.all one then
            match s with
            | .slice none 0 0 => bif Nat.beq n 0 then some (.slice none 0 0, h)
                else bif Nat.ble (n * i.bytes) 1099511627776 then some (.slice (some ⟨2 * h.k + 1, 0, none⟩) n 0, { (h.set (2 * h.k + 1) (.cells vs.length .e vs i.size)) with k := h.k + 1 }) else none
            | .slice (some ⟨b, o, none⟩) l c => match h.get b with
              | some (.cells m cs dz q) =>
                bif Nat.beq (b % 2) 0 then
                  bif Nat.ble (l + n) c then match putC h b (o + l * i.size) vs with
                    | some h' => some (.slice (some ⟨b, o, none⟩) (l + n) c, h')
                    | none => none
                  else bif Nat.ble (o + l * i.size) m && Nat.ble ((l + n) * i.bytes) 1099511627776 then match ldN cs dz (l * i.size) o with
                    | some old => some (.slice (some ⟨2 * h.k + 1, 0, none⟩) (l + n) 0, { (h.set (2 * h.k + 1) (.cells (old ++ vs).length .e (old ++ vs) i.size)) with k := h.k + 1 })
                    | none => none
                  else none
                else bif Nat.beq q i.size then
                  (bif Nat.beq c 0 then
                  (bif Nat.ble (o + (l + n) * i.size) m then match putC h b (o + l * i.size) vs with
                    | some h' => some (.slice (some ⟨b, o, none⟩) (l + n) c, h')
                    | none => none
                  else bif Nat.ble (o + l * i.size) m && Nat.ble ((l + n) * i.bytes) 1099511627776 && Nat.ble h.lo b then match ldN cs dz (l * i.size) o with
                    | some old => some (.slice (some ⟨2 * h.k + 1, 0, none⟩) (l + n) 0, { ((h.del b).set (2 * h.k + 1) (.cells (old ++ vs).length .e (old ++ vs) i.size)) with k := h.k + 1 })
                    | none => none
                  else none)
                  else bif Nat.ble (l + n + 1) c then
                    (bif Nat.ble (o + (l + n) * i.size) m then match putC h b (o + l * i.size) vs with
                      | some h' => some (.slice (some ⟨b, o, none⟩) (l + n) c, h')
                      | none => none
                    else none)
                  else bif Nat.ble (o + l * i.size) m && Nat.ble ((l + n) * i.bytes) 1099511627776 then match ldN cs dz (l * i.size) o with
                    | some old => some (.slice (some ⟨2 * h.k + 1, 0, none⟩) (l + n) 0, { (h.set (2 * h.k + 1) (.cells (old ++ vs).length .e (old ++ vs) i.size)) with k := h.k + 1 })
                    | none => none
                  else none)
                else none
              | _ => none
            | _ => none
          else none
        | none => none
      | none => none
    | none => none
  | _, _ => none
/-- append of n zero elements (what make made) to a row whose room is known and too small. -/
def appZ (P : Program) (ty tx : TypeId) (s x : Value) (h : H) : Option (Value × H) :=
  match s, x with
  | .slice (some ⟨b, o, none⟩) l (c + 1), .int .i64 (.ofNat n) => match h.get b with
    | some (.cells m cs dz q) => match und P ty, und P tx with
      | some (.slice e), some (.int _) => match inf P e with
        | some i => match i.zero with
          | some z =>
            bif !(Nat.beq (b % 2) 0) && Nat.beq q i.size && Nat.blt 0 n && Nat.blt c (l + n) && Nat.ble (o + l * i.size) m && !(Nat.beq i.size 0) && !(Nat.beq i.bytes 0) && Nat.ble i.bytes 1048576 && Nat.beq z.cells.toList.length i.size &&
                plainL (Builtin.zeroCells z.cells n).toList && Nat.ble ((l + n) * i.bytes) 1099511627776 then
              match ldN cs dz (l * i.size) o with
              | some old => some (.slice (some ⟨2 * h.k + 1, 0, none⟩) (l + n) 0, { (h.set (2 * h.k + 1) (.cells (old ++ (Builtin.zeroCells z.cells n).toList).length .e (old ++ (Builtin.zeroCells z.cells n).toList) i.size)) with k := h.k + 1 })
              | none => none
            else none
          | none => none
        | none => none
      | _, _ => none
    | _ => none
  | _, _ => none
def app (P : Program) (ty tx : TypeId) (s x : Value) (h : H) : Option (Value × H) :=
  match share P ty tx s x h with
  | some y => some y
  | none => match app0 P ty tx s x h with
    | some y => some y
    | none => appZ P ty tx s x h
def setAt (es : List MapEntry) (i : Nat) (v : Value) : List MapEntry := es.modify i fun e => { e with val := v }
/-- A map is written. -/
def mapPut (P : Program) (ty : TypeId) (m k v : Value) (h : H) : Option H :=
  match und P ty, m with
  | some (.map kt _), .map (some b) => bif plain k && Nat.ble h.lo b then
      match h.get b with
      | some (.map es clock) => match pureR P (Instr.checkKey false 10000 kt k), keyAt P kt k es with
        | some _, some (some (i, _)) => match (es[i]?).map (·.key) with
          | some old => bif Instr.sameBits 10000 old k then some (h.set b (.map (es.modify i fun e => { e with key := k, val := v }) clock)) else none
          | none => none
        | some _, some none => some (h.set b (.map (es ++ [{ key := k, val := v, born := clock }]) (clock + 1)))
        | _, _ => none
      | _ => none
    else none
  | _, _ => none
/-- An entry of a map is taken away. -/
def mapDel (P : Program) (ty : TypeId) (m k : Value) (h : H) : Option (Value × H) :=
  match und P ty, m with
  | some (.map kt _), .map (some b) => bif plain k && Nat.ble h.lo b then
      match h.get b with
      | some (.map es clock) => match pureR P (Instr.checkKey es.isEmpty 10000 kt k), keyAt P kt k es with
        | some _, some (some (i, _)) => some (undef, h.set b (.map (es.eraseIdx i) clock))
        | some _, some none => some (undef, h.set b (.map es clock))
        | _, _ => none
      | _ => none
    else none
  | _, _ => none
/-- What a call does: the function, its arguments, memory. -/
abbrev CallF := Nat → List Value → H → Option (Value × H)
/-- Operations that do more: stores, appends, calls ('cf': a function; 'yf': the next round of a range over a function). -/
def ef0 (P : Program) (cf yf : CallF) (t : T Value) (o : Oper) (h : H) : Option (Value × H) :=
  match o.op with
  | .store ty x v => match evO h.g t x, evO h.g t v, inf P ty with
    | some (.pointer (some ⟨b, f, none⟩)), some v, some i => bif Nat.beq v.cells.toList.length i.size then
        match putC h b f v.cells.toList with
        | some h' => some (undef, h')
        | none => none
      else none
    | _, _, _ => none
  | .mapUpdate ty m k v | .insert ty m k v => match evO h.g t m, evO h.g t k, evO h.g t v with
    | some m, some k, some v => match mapPut P ty m k v h with
      | some h' => some (undef, h')
      | none => none
    | _, _, _ => none
  | .range ty x => match und P ty, evO h.g t x with
    | some (.map _ _), some (.map none) => some (.pointer (some ⟨2 * h.k, 0, none⟩), { (h.set (2 * h.k) (.mit none 0 [] 0)) with k := h.k + 1 })
    | some (.map _ _), some (.map (some m)) => match h.get m with
      | some (.map _ clock) => some (.pointer (some ⟨2 * h.k, 0, none⟩), { (h.set (2 * h.k) (.mit (some m) clock [] clock)) with k := h.k + 1 })
      | _ => none
    | _, _ => none
  | .next it false => match evO h.g t it with
    | some (.pointer (some ⟨b, 0, none⟩)) => match h.get b with
      | some (.mit none _ _ _) => some (.tuple #[.bool false], h)
      | some (.mit (some m) since seen last) => match h.get m with
        | some (.map es clock) =>
          bif Nat.ble h.lo b && (seen.isEmpty || es.isEmpty || !(es.all fun e => Nat.ble last e.born)) then
            match (es.filter fun e => !(seen.contains e.born)) with
            | [] => some (.tuple #[.bool false], h)
            | [e] => bif Nat.blt e.born since then some (.tuple #[.bool true, e.key, e.val], h.set b (.mit (some m) since (seen ++ [e.born]) clock)) else none
            | _ => none
          else none
        | _ => none
      | _ => none
    | _ => none
  | .call { callee := .builtin .delete, args, argTypes } => match argTypes.toList, evL h.g t args.toList with
    | ty :: _, some [m, k] => mapDel P ty m k h
    | _, _ => none
  | .next it true => match evO h.g t it with
    | some (.pointer (some ⟨b, 0, none⟩)) => match h.get b with
      | some (.sit s pos) => bif Nat.ble h.lo b then
          (bif Nat.blt pos s.size then
            some (.tuple #[.bool true, goInt pos, .int .i32 (Utf8.decode s pos).1], h.set b (.sit s (pos + (Utf8.decode s pos).2)))
          else some (.tuple #[.bool false], h)) else none
      | _ => none
    | _ => none
  | .call { callee := .builtin .append, args, argTypes } => match argTypes.toList, evL h.g t args.toList with
    | [ty, tx], some [s, x] => app P ty tx s x h
    | _, _ => none
  | .call { callee := .builtin .copy, args, argTypes } => match argTypes.toList, evL h.g t args.toList with
    | ty :: _, some [.slice (some ⟨b, f, none⟩) l _, x] => match und P ty with
      | some (.slice e) => match inf P e with
        | some i => match bif nil0 x then cellsOf h i.size x else none with
          | some (n, vs) => match putC h b f (vs.take (Nat.min n l * i.size)) with
            | some h' => some (goInt (Nat.min n l), h')
            | none => none
          | none => none
        | none => none
      | _ => none
    | _, _ => none
  | .call { callee := .value f, args, .. } => match evO h.g t f, evL h.g t args.toList with
    | some (.func (.func g) ⟨fi⟩ ⟨ca⟩), some vs => cf g (fi ++ vs ++ ca) h
    | some (.func (.yield l) ⟨[]⟩ ⟨[]⟩), some vs => yf l vs h
    | _, _ => none
  | _ => none
/-- The function that a method is, and its receiver (methods of the type itself). -/
def meth (P : Program) (h : H) (ty : TypeId) (v : Value) (name : String) : Option (Nat × Value) :=
  match inf P ty with
  | some ti => match ti.methods.find? (·.name == name) with
    | some m => bif m.path.isEmpty then match m.func with
        | some (f, ptr) => match und P ty with
          | some (.pointer el) => bif ptr then some (f, v) else match v with
            | .pointer (some ⟨b, o, none⟩) => match ldv P h el b o with
              | some u => some (f, u)
              | none => none
            | _ => none
          | some _ => bif ptr then none else some (f, v)
          | none => none
        | none => none
      else none
    | none => none
  | none => none
/-- Is this slices.overlaps at some type (which the model answers itself)? -/
def apartF (P : Program) (g : Nat) : Bool := match nthL P.funcs.toList g with
  | some fn => fn.body.isNone && !(fn.name == "runtime.NumGoroutine") && fn.origin == "slices.overlaps" && (Extern.allGenericRows.lookup fn.name).isNone && (Extern.allTypedRows.lookup fn.name).isNone && (Extern.allRows.lookup fn.name).isNone && (Extern.allNextRows.lookup fn.name).isNone && (match fn.params.toList with
    | [ty, ty'] => Nat.beq ty ty' && (match und P ty with
      | some (.slice e) => (inf P e).isSome
      | _ => false)
    | _ => false) && (match fn.resultTypes.toList with
    | [_] => true
    | _ => false)
  | none => false
/-- Two blocks apart, the first of which is known whole (and no string's bytes), the second of which has cells. -/
def apart (h : H) (b o b2 : Nat) : Bool := match h.get b, h.get b2 with
  | some (.cells m _ _ 0), some (.cells n _ _ _) => Nat.beq (b % 2) 0 && Nat.ble o m && Nat.blt 0 n && !(Nat.beq b b2) && (Nat.ble h.lo b || Nat.ble h.lo b2)
  | _, _ => false
/-- What does more, of other kinds: methods of a value in an interface, clear, functions that the model itself answers. -/
def ef2 (P : Program) (cf : CallF) (t : T Value) (o : Oper) (h : H) : Option (Value × H) :=
  match o.op with
  | .call { callee := .invoke r name, args, .. } => match evO h.g t r, evL h.g t args.toList with
    | some (.iface ty v), some vs => match meth P h ty v name with
      | some (f, u) => cf f (u :: vs) h
      | none => none
    | _, _ => none
  | .call { callee := .builtin .clear, args, argTypes } => match argTypes.toList, evL h.g t args.toList with
    | ty :: _, some [.slice (some ⟨b, f, none⟩) l _] => match und P ty with
      | some (.slice e) => match inf P e with
        | some i => match i.zero with
          | some z => bif plainL (Builtin.zeroCells z.cells l).toList && Nat.ble 1 l then
              match putC h b f (Builtin.zeroCells z.cells l).toList with
              | some h' => some (.tuple #[], h')
              | none => none
            else bif Nat.beq l 0 then some (.tuple #[], h) else none
          | none => none
        | none => none
      | _ => none
    | _, _ => none
  | .call { callee := .value f, args, .. } => match gen P t o with
    | some v => some (v, h)
    | none => (match evO h.g t f, evL h.g t args.toList with
      | some (.func (.func g) ⟨[]⟩ ⟨[]⟩), some [.slice (some ⟨b, o, none⟩) _ _, .slice (some ⟨b2, _, none⟩) _ _] => bif apartF P g && apart h b o b2 then some (.bool false, h) else none
      | _, _ => none)
  | _ => none
def ef (P : Program) (cf yf : CallF) (t : T Value) (o : Oper) (h : H) : Option (Value × H) :=
  match ef0 P cf yf t o h with
  | some x => some x
  | none => ef2 P cf t o h
inductive R where
  | ok (x : Ex) (t : T Value) (D : List Nat) (h : H)
  | bad
/-- The round in which the code stands, if any; the number of temporaries; the code; the temporaries; the marks of ranges over functions; memory. -/
abbrev CodeF := Option Nat → Nat → Code → T Value → List Nat → H → R
def put (n : Nat) (d : Option Tmp) (v : Value) (t : T Value) : T Value :=
  match d with
  | none => t
  | some d => bif Nat.blt d n then t.set v (d + 1) else t
/-- Has the temporary of an operation's guard been forgotten? -/
def jg (all : List Oper) (t : T Value) (o : Oper) : Bool :=
  match o.guard with
  | none => false
  | some (j, _) => match all[j]? with
    | some oj => match oj.dst with
      | some d => isJ ((t.get (d + 1)).getD undef)
      | none => false
    | none => false
def wants (all : List Oper) (t : T Value) (o : Oper) : Bool :=
  match o.guard with
  | none => true
  | some (j, want) => match all[j]? with
    | some oj => match oj.dst with
      | some d => match t.get (d + 1) with
        | some (.bool b) => b == want
        | _ => false
      | none => false
    | none => false
/-- One operation. -/
def step1 (P : Program) (cf yf : CallF) (o : Oper) (t : T Value) (h : H) : Option (Value × H) :=
  match kind P o with
  | 0 => match rd P h t o with
    | some v => some (v, h)
    | none => none
  | 1 => match al P h t o with
    | some (b, q, mk) => some (mk (bif q then 2 * h.k + 1 else 2 * h.k), { (h.set (bif q then 2 * h.k + 1 else 2 * h.k) b) with k := h.k + 1 })
    | none => none
  | _ => ef P cf yf t o h
/-- A region in the order in which it stands. -/
def runOps (P : Program) (cf yf : CallF) (n : Nat) (all : List Oper) (D : List Nat) : List Oper → T Value → H → R
  | [], t, h => .ok .normal t D h
  | o :: l, t, h => bif jg all t o then .bad else bif wants all t o then
      match step1 P cf yf o t h with
      | some (v, h') => runOps P cf yf n all D l (put n o.dst v t) h'
      | none => .bad
    else runOps P cf yf n all D l (put n o.dst undef t) h
/-- The marks of a call's ranges over functions are taken away. -/
def undefer : List Nat → H → Option H
  | [], h => some h
  | d :: D, h => match h.get d with
    | some .dfr => bif Nat.ble h.lo d then undefer D (h.del d) else none
    | _ => none
def resL (P : Program) (t : T Value) (h : H) : List ResultVar → Option (List Value)
  | [] => some []
  | .tmp i :: l => match tmpO ((t.get (i + 1)).getD undef), resL P t h l with
    | some v, some r => some (v :: r)
    | _, _ => none
  | .cell a ty :: l => match (t.get (a + 1)).getD undef with
    | .pointer (some ⟨b, f, none⟩) => match ldv P h ty b f, resL P t h l with
      | some v, some r => some (v :: r)
      | _, _ => none
    | _ => none
def argsT : List Value → Nat → T Value → T Value
  | [], _, t => t
  | v :: l, k, t => argsT l (k + 1) (t.set v k)
/-- A call. -/
def callF (P : Program) (ex : CodeF) : CallF := fun f args h =>
  match P.funcs[f]? with
  | some fn => match fn.body with
    | some c => match ex none (args.length + (fn.ntmps - args.length)) c (argsT args 1 .e) [] h with
      | .ok x t D h1 => match x with
        | .exit _ => none
        | _ => match undefer D h1 with
          | some h2 => match resL P t h2 fn.results.toList with
            | some [v] => some (v, h2)
            | some vs => some (.tuple ⟨vs⟩, h2)
            | none => none
          | none => none
      | .bad => none
    | none => none
  | none => none
/-- The next round of the range over a function whose record is block l. -/
def yieldF (ex : CodeF) : CallF := fun l args h =>
  match h.get l with
  | some (.loop r t0) => match r.state with
    | .ready => bif Nat.beq args.length r.params.toList.length && Nat.ble h.lo l then
        match ex (some l) r.tmps.size r.assign ((r.params.toList.zip args).foldl (fun t p => put r.tmps.size (some p.1) p.2 t) t0) [] h with
        | .ok .normal t1 [] h1 => match h1.get l with
          | some (.loop r1 t01) => match r1.state with
            | .ready => match ex (some l) r.tmps.size r.body t1 [] (h1.set l (.loop { r1 with state := .busy } t01)) with
              | .ok x _ [] h2 => match h2.get l with
                | some (.loop r2 t02) => match x with
                  | .normal => some (.bool true, h2.set l (.loop { r2 with state := .ready, pending := none } t02))
                  | .ret => some (.bool false, h2.set l (.loop { r2 with state := .done, pending := some .ret } t02))
                  | .exit id => some (.bool false, h2.set l (.loop { r2 with state := .done, pending := some (.exit id) } t02))
                | _ => none
              | _ => none
            | _ => none
          | _ => none
        | _ => none
      else none
    | _ => none
  | _ => none
/-! Regions that draw their order. -/
mutual
def veq : Value → Value → Bool
  | .bool a, .bool b => a == b
  | .int j a, .int k b => (j == k) && (a == b)
  | .string a, .string b => a.data.toList == b.data.toList
  | .pointer none, .pointer none => true
  | .pointer (some ⟨a, b, none⟩), .pointer (some ⟨c, d, none⟩) => Nat.beq a c && Nat.beq b d
  | .slice none a b, .slice none c d => Nat.beq a c && Nat.beq b d
  | .slice (some ⟨a, b, none⟩) l m, .slice (some ⟨c, d, none⟩) j k => Nat.beq a c && Nat.beq b d && Nat.beq l j && Nat.beq m k
  | .map none, .map none => true
  | .map (some a), .map (some b) => Nat.beq a b
  | .func (.func f) a b, .func (.func g) c d => Nat.beq f g && veqA a c && veqA b d
  | .func (.yield f) ⟨[]⟩ ⟨[]⟩, .func (.yield g) ⟨[]⟩ ⟨[]⟩ => Nat.beq f g
  | .nilFunc, .nilFunc => true
  | .nilIface, .nilIface => true
  | .iface t a, .iface u b => Nat.beq t u && veq a b
  | .agg a, .agg b => veqA a b
  | .tuple a, .tuple b => veqA a b
  | _, _ => false
def veqA : Array Value → Array Value → Bool
  | ⟨a⟩, ⟨b⟩ => veqL a b
def veqL : List Value → List Value → Bool
  | [], [] => true
  | a :: x, b :: y => veq a b && veqL x y
  | _, _ => false
end
/-- What must come ahead of each operation (a bit for each). -/
def befGo (acc : List Nat) : List Oper → List Nat
  | [] => acc
  | o :: l => befGo (acc ++ [o.after.toList.foldl (fun m e => bif Region.binds .any e then m ||| 2 ^ e.on ||| acc.getD e.on 0 else m) 0]) l
def bef (ops : List Oper) : List Nat := befGo [] ops
def isE (P : Program) (o : Oper) : Bool := Nat.beq (kind P o) 2
def looks (all : List Oper) (o : Oper) : List Tmp :=
  (o.op.operands.toList.filterMap fun | .tmp t => some t | _ => none) ++
  (match o.guard with
   | some (g, _) => ((all[g]?).bind (·.dst)).toList
   | none => [])
/-- The order in which we take a region that draws: ahead of each operation that does more, what it waits for and no more; the rest at the end. -/
def ordGo (P : Program) (ops : List Oper) (b : List Nat) (all : List Nat) : List Nat → Nat → List Nat → List Nat
  | [], M, acc => acc ++ all.filter fun i => !Nat.testBit M i
  | j :: js, M, acc => match ops[j]? with
    | some o => bif isE P o then
        ordGo P ops b all js (M ||| b.getD j 0 ||| 2 ^ j) (acc ++ (all.filter fun i => !Nat.testBit M i && Nat.testBit (b.getD j 0) i) ++ [j])
      else ordGo P ops b all js M acc
    | none => ordGo P ops b all js M acc
def ord (P : Program) (ops : List Oper) : List Nat := ordGo P ops (bef ops) (List.range ops.length) (List.range ops.length) 0 []
/-- An order will do: each number once; behind what it waits for; what does more waits for all that stand ahead of it. -/
def ordOk (P : Program) (ops : List Oper) (b : List Nat) : List Nat → Nat → Bool
  | [], M => Nat.beq M (2 ^ ops.length - 1)
  | i :: l, M => match ops[i]? with
    | some o => !Nat.testBit M i && Nat.beq (b.getD i 0 &&& M) (b.getD i 0) && (!isE P o || Nat.beq (M &&& b.getD i 0) M) && ordOk P ops b l (M ||| 2 ^ i)
    | none => false
/-- Whose temporary is whose. -/
def dstT : List Oper → Nat → T Nat → Option (T Nat)
  | [], _, t => some t
  | o :: l, i, t => match o.dst with
    | none => dstT l (i + 1) t
    | some d => match t.get (d + 1) with
      | some _ => none
      | none => dstT l (i + 1) (t.set i (d + 1))
def lookOk (t : T Nat) (m : Nat) (B : List Nat) (i : Nat) : List Tmp → Bool
  | [] => true
  | d :: l => (match t.get (d + 1) with
    | none => true
    | some j => Nat.testBit m j || Nat.testBit (B.getD j 0) i) && lookOk t m B i l
def looksOk (ops : List Oper) (t : T Nat) (B : List Nat) : List Oper → Nat → List Nat → Bool
  | [], _, _ => true
  | o :: l, i, b => lookOk t (match b with | m :: _ => m | [] => 0) B i (looks ops o) && looksOk ops t B l (i + 1) (b.drop 1)
/-- The form of a region that draws which we take: each operation's temporary is its own, and is looked at behind it, or by what it waits for. -/
def dstOk (ops : List Oper) (b : List Nat) : Bool :=
  match dstT ops 0 .e with
  | some t => looksOk ops t b ops 0 b
  | none => false
def drawOk (P : Program) (ops : List Oper) : Bool := dstOk ops (bef ops) && ordOk P ops (bef ops) (ord P ops) 0
/-- Does an operation look at memory? -/
def looksMem (o : Oper) : Bool :=
  match o.op with
  | .load .. | .lookup .. | .call _ | .convert .. | .slice .. | .entry _ => true
  | _ => false
/-- The same at the earlier states of memory at which the operation may come up. -/
def sameAt (P : Program) (t : T Value) (o : Oper) (m : Nat) (v : Value) : List (Nat × H) → Bool
  | [] => true
  | (j, h) :: l => (Nat.testBit m j || (match rd P h t o with | some u => veq u v | none => false)) && sameAt P t o m v l
/-- The block that operation i makes. -/
def idAt (k0 i : Nat) (q : Bool) : Nat := bif q then 2 * (k0 + i) + 1 else 2 * (k0 + i)
/-- Memory with those new blocks that an operation waits for. -/
def addB (m : Nat) : List (Nat × Nat × Blk) → H → H
  | [], h => h
  | (j, x, bl) :: l, h => bif Nat.testBit m j then (addB m l h).set x bl else addB m l h
/-- A region that draws, in an order of ours. k0: from where on new blocks are numbered; h0: memory at its start; hs: memory behind the last operation that did more; als: the blocks made since. -/
def runD (P : Program) (cf yf : CallF) (n : Nat) (all : List Oper) (b : List Nat) (k0 : Nat) (h0 : H) : List Nat → T Value → H → H → List (Nat × Nat × Blk) → List (Nat × H) → Option (T Value × H)
  | [], t, h, _, _, _ => some (t, h)
  | i :: l, t, h, hs, als, old => match all[i]? with
    | none => none
    | some o => bif jg all t o then none else
      bif isE P o then
        (bif wants all t o then match ef P cf yf t o h with
            | some (v, h') => runD P cf yf n all b k0 h0 l (put n o.dst v t) h' h' [] ((i, hs) :: old)
            | none => none
          else runD P cf yf n all b k0 h0 l (put n o.dst undef t) h h [] ((i, hs) :: old))
      else bif wants all t o then
        (bif Nat.beq (kind P o) 0 then
          (bif looksMem o then match rd P (addB (b.getD i 0) als hs) t o with
            | some v => bif sameAt P t o (b.getD i 0) v old then runD P cf yf n all b k0 h0 l (put n o.dst v t) h hs als old else none
            | none => none
          else match rd P h0 t o with
            | some v => runD P cf yf n all b k0 h0 l (put n o.dst v t) h hs als old
            | none => none)
        else match al P h0 t o with
          | some (bl, q, mk) => runD P cf yf n all b k0 h0 l (put n o.dst (mk (idAt k0 i q)) t) (h.set (idAt k0 i q) bl) hs ((i, idAt k0 i q, bl) :: als) old
          | none => none)
      else runD P cf yf n all b k0 h0 l (put n o.dst undef t) h hs als old
/-- A piece of code, the pieces in it by 'ex'. -/
def body (P : Program) (ex : CodeF) : CodeF := fun ro n c t D h =>
  match c with
  | .skip | .label _ => .ok .normal t D h
  | .ret => .ok .ret t D h
  | .exit id => .ok (.exit id) t D h
  | .seq a b => match ex ro n a t D h with
    | .ok .normal t1 D1 h1 => ex ro n b t1 D1 h1
    | r => r
  | .cond x a b => match evT t x with
    | .bool q => ex ro n (bif q then a else b) t D h
    | _ => .bad
  | .scope a => ex ro n a t D h
  | .block id a => match ex ro n a t D h with
    | .ok (.exit i) t1 D1 h1 => bif Nat.beq i id then .ok .normal t1 D1 h1 else .ok (.exit i) t1 D1 h1
    | r => r
  | .loop a => match ex ro n a t D h with
    | .ok .normal t1 D1 h1 => ex ro n (.loop a) t1 D1 h1
    | r => r
  | .region _ ops draw => bif draw then
      (bif drawOk P ops.toList then
        match runD P (callF P ex) (yieldF ex) n ops.toList (bef ops.toList) h.k { h with k := h.k + ops.toList.length } (ord P ops.toList) t { h with k := h.k + ops.toList.length } { h with k := h.k + ops.toList.length } [] [] with
        | some (t', h') => .ok .normal t' D h'
        | none => .bad
      else .bad)
    else runOps P (callF P ex) (yieldF ex) n ops.toList D ops.toList t h
  | .rangeFunc g ps assign bd => match evO h.g t g with
    | some (.func (.func f) ⟨fi⟩ ⟨ca⟩) =>
      match (match ro with
        | none => some (2 * h.k, 2 * (h.k + 1), 2 * h.k :: D, { (h.set (2 * h.k) .dfr) with k := h.k + 1 })
        | some l => match h.get l with
          | some (.loop r _) => some (r.defers, 2 * h.k, D, h)
          | _ => none) with
      | some (d, l, D', h0) =>
        match callF P ex f (fi ++ .func (.yield l) #[] #[] :: ca)
          { (h0.set l (.loop { state := .ready, pending := none, fn := 0, tmps := Array.replicate n undef, params := ps, assign, body := bd, defers := d } t)) with k := h0.k + 1 } with
        | some (_, h1) => match h1.get l with
          | some (.loop r t0) => match r.state with
            | .busy => .bad
            | _ => match r.pending with
              | none => .ok .normal t D' (h1.set l (.loop { r with state := .exhausted } t0))
              | some .ret => .ok .ret t D' (h1.set l (.loop { r with state := .exhausted } t0))
              | some (.exit id) => .ok (.exit id) t D' (h1.set l (.loop { r with state := .exhausted } t0))
              | _ => .bad
          | _ => .bad
        | none => .bad
      | none => .bad
    | _ => .bad
  | _ => .bad
/-- The machine, with fuel. -/
def run (P : Program) : Nat → CodeF
  | 0 => fun _ _ _ _ _ _ => .bad
  | k + 1 => body P (run P k)
end
end Ev
end Go.Proofs.YtilnneogbpnkkaaGreatDoor
