/- The fast machine: code made ready, and how it runs. -/
import Derived.Test.YtilnneogbpnkkaaGreatDoorEvM15
set_option maxRecDepth 10000
namespace Go.Proofs.YtilnneogbpnkkaaGreatDoor
namespace Ev
noncomputable section
/-- An operand made ready. -/
inductive FO where
  | t (p : Pth)
  | c (v : Value)
def fo : Operand → Option FO
  | .tmp i => some (.t (pth i))
  | .const v => bif plain v then some (.c v) else none
  | .global _ => none
  | .func f => some (.c (.func (.func f) #[] #[]))
def fev (x : FO) (t : T Value) : Value := FO.rec (motive := fun _ => Value) (fun p => t.at_ p) (fun v => v) x
/-- An operation made ready. -/
inductive CO where
  | mv (x : FO)
  | pick (c a b : FO)
  | ld1 (x : FO)
  | ldN (n : Nat) (x : FO)
  | st1 (x v : FO)
  | fa (off : Nat) (x : FO)
  | ia (sz : Nat) (x ix : FO)
  | ext (i : Nat) (x : FO)
  | nc (x : FO)
  | bin (b : BO) (x y : FO)
  | cvt (k : IntKind) (x : FO)
  | lenS (x : FO)
  | lenT (x : FO)
  | ixs (x ix : FO)
  | notB (x : FO)
  | call (g : Nat) (args : List FO)
  | slow
/-- A guard made ready. -/
inductive Gd where
  | no
  | never
  | on (p : Pth) (want : Bool)
structure CD where
  dst : Option Pth
  gd : Gd
  op : CO
  o : Oper
/-- An operation of a region that draws. kd: 0 looks at no memory, 1 looks at memory, 2 makes a block, 3 does more. -/
structure DD where
  i : Nat
  kd : Nat
  cd : CD
  m : Nat
/-- Code made ready. -/
inductive FC where
  | drawn (l : List DD) (m : Nat)
  | nop
  | ret
  | exit (id : Nat)
  | seq (a b : FC)
  | cond (x : FO) (a b : FC)
  | block (id : Nat) (a : FC)
  | loop (c : Code) (a : FC)
  | ops (l : List CD)
  | slow (c : Code)
def foL : List Operand → Option (List FO)
  | [] => some []
  | x :: l => match fo x, foL l with
    | some a, some r => some (a :: r)
    | _, _ => none
/-- An operation is made ready. -/
def comp1 (P : Program) (o : Oper) : CO :=
  match o.op with
  | .move x | .assign x => match fo x with
    | some x => .mv x
    | none => .slow
  | .pick c a b => match fo c, fo a, fo b with
    | some c, some a, some b => .pick c a b
    | _, _, _ => .slow
  | .load ty x => match fo x, isAgg P ty with
    | some x, some false => .ld1 x
    | some x, some true => match inf P ty with
      | some i => .ldN i.size x
      | none => .slow
    | _, _ => .slow
  | .store ty x v => match fo x, fo v, inf P ty with
    | some x, some v, some i => bif Nat.beq i.size 1 then .st1 x v else .slow
    | _, _, _ => .slow
  | .fieldAddr s x f => match und P s with
    | some (.struct fs) => match fs[f]? with
      | some fd => match inf P fd.type, fo x with
        | some i, some x => bif Nat.beq i.size 0 then .slow else .fa fd.offset x
        | _, _ => .slow
      | none => .slow
    | _ => .slow
  | .indexAddr ty x ix => match und P ty with
    | some (.slice e) => match inf P e, fo x, fo ix with
      | some ti, some x, some ix => .ia ti.size x ix
      | _, _, _ => .slow
    | _ => .slow
  | .extract x i => match fo x with
    | some x => .ext i x
    | none => .slow
  | .nilCheck x => match fo x with
    | some x => .nc x
    | none => .slow
  | .binOp op _ x y _ => match bo op, fo x, fo y with
    | some b, some x, some y => .bin b x y
    | _, _, _ => .slow
  | .convert s d x => match und P s, und P d, fo x with
    | some (.int _), some (.int k), some x => .cvt k x
    | _, _, _ => .slow
  | .call { callee := .builtin .len, args, argTypes } => match argTypes[0]?, args[0]? with
    | some ty, some x => match und P ty, fo x with
      | some (.slice _), some x => .lenS x
      | some .string, some x => .lenT x
      | _, _ => .slow
    | _, _ => .slow
  | .index ty x ix => match und P ty, fo x, fo ix with
    | some .string, some x, some ix => .ixs x ix
    | _, _, _ => .slow
  | .unOp .not _ x => match fo x with
    | some x => .notB x
    | none => .slow
  | .call { callee := .value (.func g), args, .. } => match foL args.toList with
    | some l => .call g l
    | none => .slow
  | _ => .slow
def compG (all : List Oper) (o : Oper) : Gd :=
  match o.guard with
  | none => .no
  | some (j, want) => match all[j]? with
    | some oj => match oj.dst with
      | some d => .on (pth d) want
      | none => .never
    | none => .never
def compD (P : Program) (n : Nat) (all : List Oper) (o : Oper) : CD :=
  ⟨match o.dst with
    | none => none
    | some d => bif Nat.blt d n then some (pth d) else none, compG all o, comp1 P o, o⟩
def compL (P : Program) (n : Nat) (all : List Oper) (l : List Oper) : List CD := List.rec (motive := fun _ => List CD) [] (fun o _ ih => compD P n all o :: ih) l
def compDD (P : Program) (n : Nat) (all : List Oper) (b : List Nat) (l : List Nat) : List DD :=
  List.rec (motive := fun _ => List DD) [] (fun i _ ih => match all[i]? with
    | some o => ⟨i, bif isE P o then 3 else bif Nat.beq (kind P o) 0 then (bif looksMem o then 1 else 0) else 2, compD P n all o, b.getD i 0⟩ :: ih
    | none => ih) l
/-- Code is made ready. -/
def comp (P : Program) (n : Nat) (c : Code) : FC :=
  match c with
  | .skip | .label _ => .nop
  | .ret => .ret
  | .exit id => .exit id
  | .seq a b => .seq (comp P n a) (comp P n b)
  | .cond x a b => match fo x with
    | some x => .cond x (comp P n a) (comp P n b)
    | none => .slow (.cond x a b)
  | .block id a => .block id (comp P n a)
  | .scope a => comp P n a
  | .loop a => .loop a (comp P n a)
  | .region _id ops false => .ops (compL P n ops.toList ops.toList)
  | .region id ops true => bif drawOk P ops.toList then .drawn (compDD P n ops.toList (bef ops.toList) (ord P ops.toList)) ops.toList.length else .slow (.region id ops true)
  | c => .slow c
/-- A number, reckoned now. -/
def nowN {α : Type} (n : Nat) (k : Nat → α) : α := Nat.rec (motive := fun _ => α) (k 0) (fun m _ => k (Nat.succ m)) n
def nowI {α : Type} (n : Int) (k : Int → α) : α := Int.rec (motive := fun _ => α) (fun a => nowN a fun a => k (.ofNat a)) (fun a => nowN a fun a => k (.negSucc a)) n
def ifF {α : Type} (b : Bool) (x y : α) : α := Bool.rec (motive := fun _ => α) y x b
def nowB {α : Type} (b : Bool) (k : Bool → α) : α := Bool.rec (motive := fun _ => α) (k false) (k true) b
/-- Memory, its numbers reckoned. -/
def nowH {α : Type} (h : H) (k : H → α) : α := H.rec (motive := fun _ => α) (fun t m lo g => nowN m fun m => nowN lo fun lo => nowN g fun g => k ⟨t, m, lo, g⟩) h
def oF {α β : Type} (x : Option β) (d : α) (k : β → α) : α := Option.rec (motive := fun _ => α) d k x
/-- An address that is of no part of a cell. -/
def adF {α : Type} (x : Option Addr) (d : α) (k : Nat → Nat → α) : α :=
  Option.rec (motive := fun _ => α) d (fun a => Addr.rec (motive := fun _ => α) (fun b o s => Option.rec (motive := fun _ => α) (k b o) (fun _ => d) s) a) x
def blkF {α : Type} (x : Option Blk) (d : α) (k : Nat → T Value → List Value → Nat → α) : α :=
  Option.rec (motive := fun _ => α) d (fun b => Blk.rec (motive := fun _ => α) k (fun _ _ => d) (fun _ _ => d) d (fun _ _ => d) (fun _ _ _ _ => d) (fun _ _ _ _ _ _ _ => d) b) x
def cgF (c : T Value) (d : List Value) (i : Nat) : Option Value := Option.rec (motive := fun _ => Option Value) (nthL d (Nat.mod i (lenL d))) (fun v => some v) (c.get (Nat.succ i))
def ldNF (c : T Value) (d : List Value) (n : Nat) : Nat → Option (List Value) :=
  Nat.rec (motive := fun _ => Nat → Option (List Value)) (fun _ => some []) (fun _ ih k => oF (cgF c d k) none fun v => oF (ih (Nat.succ k)) none fun l => some (v :: l)) n
def evF {α : Type} (l : List FO) (t : T Value) (d : α) : (List Value → α) → α := List.rec (motive := fun _ => (List Value → α) → α) (fun k => k []) (fun x _ ih k => vJ (fev x t) d fun v => ih fun vs => k (v :: vs)) l
def oneF (v : Value) : Bool :=
  @Value.rec (fun _ => Bool) (fun _ => Unit) (fun _ => Unit) (fun _ => true) (fun _ _ => true) (fun _ _ => true) (fun _ _ _ => true) (fun _ => true) (fun _ => true) (fun _ _ _ => true) (fun _ => true) (fun a => Option.rec (motive := fun _ => Bool) true (fun x => Nat.rec (motive := fun _ => Bool) false (fun _ _ => true) x) a) (fun _ _ _ _ _ => true) true (fun _ _ _ => true) true (fun _ _ => false) (fun _ _ => false) (fun _ _ => ()) () (fun _ _ _ _ => ()) v
/-- Two numbers, one operation. -/
def binF (b : BO) (k : IntKind) (x y : Int) (kk : Value → R) : R :=
  BO.rec (motive := fun _ => R) (nowB (eqF x y) fun q => kk (.bool q)) (nowB (eqF x y) fun q => kk (.bool (!q))) (nowB (ltF x y) fun q => kk (.bool q)) (nowB (ltF y x) fun q => kk (.bool (!q)))
    (nowB (ltF y x) fun q => kk (.bool q)) (nowB (ltF x y) fun q => kk (.bool (!q))) (nowI (wrapF k (addF x y)) fun z => kk (.int k z)) (nowI (wrapF k (subF x y)) fun z => kk (.int k z)) (nowI (wrapF k (mulF x y)) fun z => kk (.int k z)) b
/-- An operation that is ready is carried out. -/
def exO (d : R) (dc : Nat → R) (cf : CallF) (t : T Value) (h : H) (k : Value → H → R) (op : CO) : R :=
  CO.rec (motive := fun _ => R)
    (fun x => vJ (fev x t) d fun v => k v h)
    (fun c a b => vBool (fev c t) d fun q => vJ (ifF q (fev a t) (fev b t)) d fun v => k v h)
    (fun x => vPtr (fev x t) d fun a => adF a d fun b f => blkF (h.t.get (Nat.succ b)) d fun n c e _ => ifF (Nat.blt f n) (oF (cgF c e f) d fun v => k v h) d)
    (fun m x => vPtr (fev x t) d fun a => adF a d fun b f => blkF (h.t.get (Nat.succ b)) d fun n c e _ => ifF (Nat.ble (Nat.add f m) n) (oF (ldNF c e m f) d fun l => k (.agg ⟨l⟩) h) d)
    (fun x v => vPtr (fev x t) d fun a => adF a d fun b f => blkF (h.t.get (Nat.succ b)) d fun n c e s =>
      ifF (Nat.ble h.lo b) (ifF (Nat.blt f n) (ifF (oneF (fev v t)) (ifF (wrt s b) (H.rec (motive := fun _ => R) (fun ht hk lo g => k undef ⟨ht.set (.cells n (c.set (fev v t) (Nat.succ f)) e s) (Nat.succ b), hk, lo, g⟩) h) d) d) d) d)
    (fun off x => vPtr (fev x t) d fun a => adF a d fun b f => nowN (Nat.add f off) fun f => k (.pointer (some ⟨b, f, none⟩)) h)
    (fun sz x ix => vInt (fev ix t) d fun _ i => Int.rec (motive := fun _ => R) (fun i => vSl (fev x t) d fun a l _ => adF a d fun b f => ifF (Nat.blt i l) (nowN (Nat.add f (Nat.mul i sz)) fun f => k (.pointer (some ⟨b, f, none⟩)) h) d) (fun _ => d) i)
    (fun i x => vTup (fev x t) d fun a => oF (nthL a.toList i) d fun v => k v h)
    (fun x => vPtr (fev x t) d fun a => oF a d fun _ => k (fev x t) h)
    (fun b x y => vInt (fev x t) (vStr (fev x t) d fun s => vStr (fev y t) d fun u => oF (strV b s u) d fun v => k v h) fun k1 x => vInt (fev y t) d fun k2 y => ifF (Nat.beq (kindF k1) (kindF k2)) (binF b k1 x y fun v => k v h) d)
    (fun kd x => vInt (fev x t) d fun _ n => nowI (wrapF kd n) fun z => k (.int kd z) h)
    (fun x => vSl (fev x t) d fun _ l _ => k (.int .i64 (.ofNat l)) h)
    (fun x => vStr (fev x t) d fun s => nowN (lenL s.data.toList) fun l => k (.int .i64 (.ofNat l)) h)
    (fun x ix => vStr (fev x t) d fun s => vInt (fev ix t) d fun _ i => Int.rec (motive := fun _ => R) (fun i => oF (nthL s.data.toList i) d fun b => nowN b.toNat fun n => k (.int .u8 (.ofNat n)) h) (fun _ => d) i)
    (fun x => vBool (fev x t) d fun q => nowB q fun q => k (.bool (!q)) h)
    (fun g args => evF args t d fun vs => oF (cf g vs h) (dc g) fun p => Prod.rec (motive := fun _ => R) (fun v h' => nowH h' fun h' => k v h') p)
    d op
/-- The slow way. -/
def exS (P : Program) (cf yf : CallF) (o : Oper) (t : T Value) (h : H) (k : Value → H → R) : R := oF (step1 P cf yf o t h) .bad fun p => Prod.rec (motive := fun _ => R) (fun v h' => nowH h' fun h' => k v h') p
/-- A function without a body? -/
def bare (P : Program) (g : Nat) : Bool := Option.rec (motive := fun _ => Bool) true (fun fn => Option.rec (motive := fun _ => Bool) true (fun _ => false) fn.body) (nthL P.funcs.toList g)
def exOS (P : Program) (cf yf : CallF) (o : Oper) (t : T Value) (h : H) (k : Value → H → R) (op : CO) : R := exO (exS P cf yf o t h k) (fun g => ifF (bare P g) (exS P cf yf o t h k) .bad) cf t h k op
/-- Is an operation wanted? -/
def exG (t : T Value) (gd : Gd) (yes no : R) : R :=
  Gd.rec (motive := fun _ => R) yes no (fun p want => vJ (t.at_ p) .bad fun v => ifF (vBool v false fun b => ifF want b (!b)) yes no) gd
def putF (dst : Option Pth) (v : Value) (t : T Value) : T Value := Option.rec (motive := fun _ => T Value) t (fun p => T.put v p t) dst
/-- A region that is ready. -/
def exL (P : Program) (cf yf : CallF) (D : List Nat) (l : List CD) : T Value → H → R :=
  List.rec (motive := fun _ => T Value → H → R) (fun t h => .ok .normal t D h)
    (fun c _ ih t h => CD.rec (motive := fun _ => R) (fun dst gd op o => exG t gd (exOS P cf yf o t h (fun v h' => ih (putF dst v t) h') op) (ih (putF dst undef t) h)) c) l
/-- A region that draws and is ready. -/
def exDr (P : Program) (cf yf : CallF) (k0 : Nat) (h0 : H) (k : T Value → H → R) (l : List DD) : T Value → H → H → List (Nat × Nat × Blk) → List (Nat × H) → R :=
  List.rec (motive := fun _ => T Value → H → H → List (Nat × Nat × Blk) → List (Nat × H) → R) (fun t h _ _ _ => k t h)
    (fun x _ ih t h hs als old => DD.rec (motive := fun _ => R) (fun i kd cd m => CD.rec (motive := fun _ => R) (fun dst gd op o =>
      Nat.rec (motive := fun _ => R)
        (exG t gd (exOS P cf yf o t h0 (fun v _ => ih (putF dst v t) h hs als old) op) (ih (putF dst undef t) h hs als old))
        (fun kd _ => Nat.rec (motive := fun _ => R)
          (exG t gd (exOS P cf yf o t (addB m als hs) (fun v _ => ifF (sameAt P t o m v old) (ih (putF dst v t) h hs als old) .bad) op) (ih (putF dst undef t) h hs als old))
          (fun kd _ => Nat.rec (motive := fun _ => R)
            (exG t gd (oF (al P h0 t o) .bad fun q => Prod.rec (motive := fun _ => R) (fun bl q => Prod.rec (motive := fun _ => R) (fun q mk => nowN (idAt k0 i q) fun x => ih (putF dst (mk x) t) (h.set x bl) hs ((i, x, bl) :: als) old) q) q) (ih (putF dst undef t) h hs als old))
            (fun _ _ => exG t gd (exOS P cf yf o t h (fun v h' => ih (putF dst v t) h' h' [] ((i, hs) :: old)) op) (ih (putF dst undef t) h h [] ((i, hs) :: old))) kd) kd) kd) cd) x) l
def okF {α : Type} (r : R) (d : α) (k : Ex → T Value → List Nat → H → α) : α := R.rec (motive := fun _ => α) k d r
/-- Code that is ready. -/
def exC (P : Program) (ex : CodeF) (cf yf : CallF) (ro : Option Nat) (n : Nat) (c : FC) : T Value → List Nat → H → R :=
  FC.rec (motive := fun _ => T Value → List Nat → H → R)
    (fun l m t D h => H.rec (motive := fun _ => R) (fun ht hk lo g => nowN (Nat.add hk m) fun k1 => exDr P cf yf hk ⟨ht, k1, lo, g⟩ (fun t h => .ok .normal t D h) l t ⟨ht, k1, lo, g⟩ ⟨ht, k1, lo, g⟩ [] []) h)
    (fun t D h => .ok .normal t D h)
    (fun t D h => .ok .ret t D h)
    (fun id t D h => .ok (.exit id) t D h)
    (fun _ _ fa fb t D h => okF (fa t D h) .bad fun x t1 D1 h1 => Ex.rec (motive := fun _ => R) (fb t1 D1 h1) (fun id => .ok (.exit id) t1 D1 h1) (.ok .ret t1 D1 h1) x)
    (fun x _ _ fa fb t D h => vBool (fev x t) .bad fun q => ifF q (fa t D h) (fb t D h))
    (fun id _ fa t D h => okF (fa t D h) .bad fun x t1 D1 h1 => Ex.rec (motive := fun _ => R) (.ok .normal t1 D1 h1) (fun i => ifF (Nat.beq i id) (.ok .normal t1 D1 h1) (.ok (.exit i) t1 D1 h1)) (.ok .ret t1 D1 h1) x)
    (fun c _ fa t D h => okF (fa t D h) .bad fun x t1 D1 h1 => Ex.rec (motive := fun _ => R) (ex ro n (.loop c) t1 D1 h1) (fun id => .ok (.exit id) t1 D1 h1) (.ok .ret t1 D1 h1) x)
    (fun l t D h => exL P cf yf D l t h)
    (fun c t D h => body P ex ro n c t D h) c
/-- Functions in a tree. -/
def mkT (l : List Func) : Nat → T Func → T Func := List.rec (motive := fun _ => Nat → T Func → T Func) (fun _ t => t) (fun f _ ih i t => ih (Nat.succ i) (t.set f i)) l
def callFF (P : Program) (tab : T Func) (ex : CodeF) : CallF := fun f args h =>
  oF (tab.get (Nat.succ f)) none fun fn => oF fn.body none fun c =>
    okF (nowN (args.length + (fn.ntmps - args.length)) fun n => ex none n c (argsT args 1 .e) [] h) none fun x t D h1 =>
      Ex.rec (motive := fun _ => Option (Value × H)) (oF (undefer D h1) none fun h2 => match resL P t h2 fn.results.toList with
          | some [v] => some (v, h2)
          | some vs => some (.tuple ⟨vs⟩, h2)
          | none => none) (fun _ => none) (oF (undefer D h1) none fun h2 => match resL P t h2 fn.results.toList with
          | some [v] => some (v, h2)
          | some vs => some (.tuple ⟨vs⟩, h2)
          | none => none) x
/-- The fast machine. -/
def fast (P : Program) (tab : T Func) (k : Nat) : CodeF :=
  Nat.rec (motive := fun _ => CodeF) (fun _ _ _ _ _ _ => .bad) (fun _ ih ro n c t D h => exC P ih (callFF P tab ih) (yieldF ih) ro n (comp P n c) t D h) k
end
end Ev
end Go.Proofs.YtilnneogbpnkkaaGreatDoor
