/- Calls that are known, as data: what the call looks at in the memory, what it answers, what stands there behind it. -/
import Derived.Test.YtmemadmjgcpobaaGreatDoorEvM20
set_option maxRecDepth 10000
namespace Go.Proofs.YtmemadmjgcpobaaGreatDoor
namespace Ev
noncomputable section
variable {P : Program}
def oeq : Option Value → Option Value → Bool
  | none, none => true
  | some a, some b => veq a b
  | _, _ => false
def teq : T Value → T Value → Bool
  | .e, .e => true
  | .n l v r, .n l' v' r' => oeq v v' && teq l l' && teq r r'
  | _, _ => false
def meq : List MapEntry → List MapEntry → Bool
  | [], [] => true
  | a :: l, b :: l' => veq a.key b.key && veq a.val b.val && Nat.beq a.born b.born && meq l l'
  | _, _ => false
/-- Is a block the same? (Cells and maps alone.) -/
def beq : Blk → Blk → Bool
  | .cells n c d s, .cells n' c' d' s' => Nat.beq n n' && Nat.beq s s' && veqL d d' && teq c c'
  | .map es k, .map es' k' => Nat.beq k k' && meq es es'
  | _, _ => false
theorem oeq_eq {a b : Option Value} (h : oeq a b = true) : a = b := by
  cases a <;> cases b <;> simp only [oeq] at h
  · rfl
  · cases h
  · cases h
  · rw [veq_eq _ _ h]
theorem teq_eq : ∀ (a b : T Value), teq a b = true → a = b := by
  intro a
  induction a with
  | e => intro b h; cases b with
    | e => rfl
    | n l v r => cases h
  | n l v r ihl ihr => intro b h; cases b with
    | e => cases h
    | n l' v' r' =>
      simp only [teq, Bool.and_eq_true] at h
      rw [oeq_eq h.1.1, ihl _ h.1.2, ihr _ h.2]
theorem meq_eq : ∀ (a b : List MapEntry), meq a b = true → a = b := by
  intro a
  induction a with
  | nil => intro b h; cases b with
    | nil => rfl
    | cons y l => cases h
  | cons x l ih => intro b h; cases b with
    | nil => cases h
    | cons y l' =>
      simp only [meq, Bool.and_eq_true] at h
      obtain ⟨⟨⟨h1, h2⟩, h3⟩, h4⟩ := h
      cases x; cases y
      have h1 := veq_eq _ _ h1
      have h2 := veq_eq _ _ h2
      have h3 := Nat.eq_of_beq_eq_true h3
      simp only at h1 h2 h3
      rw [ih _ h4, h1, h2, h3]
theorem beq_eq {a b : Blk} (h : beq a b = true) : a = b := by
  cases a <;> cases b <;> simp only [beq, Bool.and_eq_true, Bool.false_eq_true] at h
  · obtain ⟨⟨⟨h1, h2⟩, h3⟩, h4⟩ := h
    rw [Nat.eq_of_beq_eq_true h1, Nat.eq_of_beq_eq_true h2, veqL_eq _ _ h3, teq_eq _ _ h4]
  · rw [Nat.eq_of_beq_eq_true h.1, meq_eq _ _ h.2]
/-! Lists of blocks. -/
def look : List (Nat × Blk) → Nat → Option Blk
  | [], _ => none
  | p :: l, y => bif Nat.beq y p.1 then some p.2 else look l y
def setAll : List (Nat × Blk) → T Blk → T Blk
  | [], t => t
  | p :: l, t => (setAll l t).set p.2 (p.1 + 1)
def delAll : List (Nat × Blk) → T Blk → T Blk
  | [], t => t
  | p :: l, t => (delAll l t).del (p.1 + 1)
def mkH (l : List (Nat × Blk)) (k lo g : Nat) : H := ⟨setAll l .e, k, lo, g⟩
theorem setAll_get (l : List (Nat × Blk)) (t : T Blk) (y : Nat) : (setAll l t).get (y + 1) = match look l y with | some b => some b | none => t.get (y + 1) := by
  induction l with
  | nil => rfl
  | cons p l ih =>
    simp only [setAll, look]
    rw [T.set_get _ _ _ _ (by omega)]
    by_cases h : y = p.1
    · rw [beqT h, if_pos (by omega)]; rfl
    · rw [beqF h, if_neg (by omega), ih]; rfl
theorem delAll_get (l : List (Nat × Blk)) (t : T Blk) (y : Nat) : (delAll l t).get (y + 1) = match look l y with | some _ => none | none => t.get (y + 1) := by
  induction l with
  | nil => rfl
  | cons p l ih =>
    simp only [delAll, look]
    rw [T.del_get _ _ _ (by omega) (by omega)]
    by_cases h : y = p.1
    · rw [beqT h, if_pos (by omega)]; rfl
    · rw [beqF h, if_neg (by omega), ih]; rfl
theorem mkH_get (l : List (Nat × Blk)) (k lo g x : Nat) : (mkH l k lo g).get x = look l x := by
  show (setAll l .e).get (x + 1) = _
  rw [setAll_get, T.get_e]
  cases look l x <;> rfl
theorem look_all {p : Nat → Blk → Bool} {l : List (Nat × Blk)} (h : (l.all fun q => p q.1 q.2) = true) {x : Nat} {b : Blk} (hx : look l x = some b) : p x b = true := by
  induction l with
  | nil => cases hx
  | cons q l ih =>
    simp only [List.all_cons, Bool.and_eq_true] at h
    simp only [look] at hx
    by_cases e : x = q.1
    · rw [beqT e] at hx
      cases hx
      rw [e]; exact h.1
    · rw [beqF e] at hx
      exact ih h.2 hx
/-- A known call. -/
structure KC where
  g : Nat
  args : List Value
  k : Nat
  lo : Nat
  gl : Nat
  fp : List (Nat × Blk)
  v : Value
  k' : Nat
  up : List (Nat × Blk)
def KC.s (c : KC) : H := mkH c.fp c.k c.lo c.gl
def KC.s' (c : KC) : H := mkH c.up c.k' c.lo c.gl
/-- Is this the known call? -/
def KC.fits (c : KC) (f : Nat) (args : List Value) (h : H) : Bool :=
  Nat.beq f c.g && Nat.beq h.k c.k && Nat.beq h.lo c.lo && Nat.beq h.g c.gl && veqL args c.args &&
    (c.fp.all fun p => match h.get p.1 with | some b => beq b p.2 | none => false) && (c.up.all fun p => Nat.ble (2 * c.k) p.1 || (look c.fp p.1).isSome)
def KC.then_ (c : KC) (h : H) : H := ⟨setAll c.up (delAll c.fp h.t), c.k', h.lo, h.g⟩
def ovOne (c : KC) : CallF := fun f args h => bif c.fits f args h then some (c.v, c.then_ h) else none
def KC.Ok (P : Program) (c : KC) : Prop := Known P c.g c.args c.s c.v c.s'
theorem fits_ok {c : KC} {f : Nat} {args : List Value} {h : H} (hf : c.fits f args h = true) : f = c.g ∧ args = c.args ∧ Sub c.s h ∧ Whole c.s h c.s' (c.then_ h) := by
  simp only [KC.fits, Bool.and_eq_true] at hf
  obtain ⟨⟨⟨⟨⟨⟨h1, h2⟩, h3⟩, h4⟩, h5⟩, h6⟩, h7⟩ := hf
  have h2 := Nat.eq_of_beq_eq_true h2
  have h3 := Nat.eq_of_beq_eq_true h3
  have h4 := Nat.eq_of_beq_eq_true h4
  refine ⟨Nat.eq_of_beq_eq_true h1, veqL_eq _ _ h5, ⟨h2.symm, h3.symm, h4.symm, fun x b hx => ?_⟩, ⟨rfl, h3, h4, fun x hx ⟨b, hb⟩ => ?_, fun x b hx => ?_⟩⟩
  · rw [KC.s, mkH_get] at hx
    have := look_all (p := fun x b => match h.get x with | some b' => beq b' b | none => false) h6 hx
    split at this
    · rename_i b' hb'; rw [hb', beq_eq this]
    · cases this
  · rw [KC.s', mkH_get] at hb
    have := look_all (p := fun x _ => Nat.ble (2 * c.k) x || (look c.fp x).isSome) h7 hb
    simp only [Bool.or_eq_true] at this
    have hx : x < 2 * c.k := hx
    rcases this with q | q
    · have := Nat.le_of_ble_eq_true q; omega
    · rw [KC.s, mkH_get]
      exact Option.isSome_iff_exists.1 q
  · change (setAll c.up (delAll c.fp h.t)).get (x + 1) = some b at hx
    rw [setAll_get] at hx
    rw [KC.s', KC.s, mkH_get, mkH_get]
    split at hx
    · rename_i b' hb'; cases hx; exact .inl hb'
    · rw [delAll_get] at hx
      split at hx
      · cases hx
      · rename_i q; exact .inr ⟨q, hx⟩
theorem ovOne_ok {c : KC} (hc : c.Ok P) : CfOk P (ovOne c) := by
  intro r h w g args args' v h' hr hl hv
  unfold ovOne at hv
  cases hf : c.fits g args h with
  | false => rw [hf] at hv; cases hv
  | true =>
    rw [hf] at hv
    cases hv
    obtain ⟨rfl, rfl, h1, h2⟩ := fits_ok hf
    exact hc.frame h1 h2 r w args' hr hl
/-- A table of known calls (by the number of the next block). -/
def ovT (t : T KC) : CallF := fun f args h => Option.rec (motive := fun _ => Option (Value × H)) none (fun c => ovOne c f args h) (t.get (Nat.succ h.k))
def mkO : List KC → T KC
  | [] => .e
  | c :: l => (mkO l).set c (c.k + 1)
theorem mkO_ok {l : List KC} (hl : ∀ c ∈ l, c.Ok P) : ∀ k c, (mkO l).get (k + 1) = some c → c.Ok P := by
  induction l with
  | nil => intro k c h; rw [mkO, T.get_e] at h; cases h
  | cons d l ih =>
    intro k c h
    rw [mkO, T.set_get _ _ _ _ (by omega)] at h
    split at h
    · cases h; exact hl _ (List.mem_cons_self ..)
    · exact ih (fun c hc => hl c (List.mem_cons_of_mem _ hc)) k c h
theorem ovT_ok {t : T KC} (ht : ∀ k c, t.get (k + 1) = some c → c.Ok P) : CfOk P (ovT t) := by
  intro r h w g args args' v h' hr hl hv
  unfold ovT at hv
  cases q : t.get (Nat.succ h.k) with
  | none => rw [q] at hv; cases hv
  | some c => rw [q] at hv; exact ovOne_ok (ht _ _ q) r h w g args args' v h' hr hl hv
/-- Is what a call was run to what is said of it? -/
def KC.holds (c : KC) (x : Option (Value × H)) : Bool :=
  match x with
  | some (v, h) => veq v c.v && Nat.beq h.k c.k' && Nat.beq h.lo c.lo && Nat.beq h.g c.gl && c.up.all fun p => match h.get p.1 with | some b => beq b p.2 | none => false
  | none => false
theorem KC.of {c : KC} {cf : CallF} (hcf : CfOk P cf) (h : c.holds (cf c.g c.args c.s) = true) : c.Ok P := by
  unfold KC.holds at h
  split at h
  · rename_i v h' hq
    simp only [Bool.and_eq_true] at h
    obtain ⟨⟨⟨⟨h1, h2⟩, h3⟩, h4⟩, h5⟩ := h
    have hv := veq_eq _ _ h1
    subst hv
    refine (Known.of hcf hq).forget ⟨(Nat.eq_of_beq_eq_true h2).symm, (Nat.eq_of_beq_eq_true h3).symm, (Nat.eq_of_beq_eq_true h4).symm, fun x b hx => ?_⟩
    rw [KC.s', mkH_get] at hx
    have := look_all (p := fun x b => match h'.get x with | some b' => beq b' b | none => false) h5 hx
    split at this
    · rename_i b' hb'; rw [hb', beq_eq this]
    · cases this
  · cases h
end
end Ev
end Go.Proofs.YtmemadmjgcpobaaGreatDoor
/- Known calls that may be moved: other numbers for their blocks. -/
set_option maxRecDepth 10000
namespace Go.Proofs.YtmemadmjgcpobaaGreatDoor
namespace Ev
noncomputable section
/-! Other numbers. -/
mutual
def ren (f : Nat → Nat) : Value → Value
  | .pointer (some ⟨b, o, s⟩) => .pointer (some ⟨f b, o, s⟩)
  | .slice (some ⟨b, o, s⟩) l c => .slice (some ⟨f b, o, s⟩) l c
  | .map (some b) => .map (some (f b))
  | .func (.yield b) a c => .func (.yield (f b)) (renA f a) (renA f c)
  | .func g a c => .func g (renA f a) (renA f c)
  | .iface t v => .iface t (ren f v)
  | .agg a => .agg (renA f a)
  | .tuple a => .tuple (renA f a)
  | v => v
def renA (f : Nat → Nat) : Array Value → Array Value
  | ⟨l⟩ => ⟨renL f l⟩
def renL (f : Nat → Nat) : List Value → List Value
  | [] => []
  | v :: l => ren f v :: renL f l
end
/-! Values that are the same but for the numbers. -/
mutual
def eqR (f : Nat → Nat) : Value → Value → Bool
  | .bool a, .bool b => a == b
  | .int j a, .int k b => (j == k) && (a == b)
  | .string a, .string b => eqL a.data.toList b.data.toList
  | .pointer none, .pointer none => true
  | .pointer (some ⟨a, b, none⟩), .pointer (some ⟨c, d, none⟩) => Nat.beq (f a) c && Nat.beq b d
  | .slice none a b, .slice none c d => Nat.beq a c && Nat.beq b d
  | .slice (some ⟨a, b, none⟩) l m, .slice (some ⟨c, d, none⟩) j k => Nat.beq (f a) c && Nat.beq b d && Nat.beq l j && Nat.beq m k
  | .map none, .map none => true
  | .map (some a), .map (some b) => Nat.beq (f a) b
  | .func (.func g) a b, .func (.func g') c d => Nat.beq g g' && eqRA f a c && eqRA f b d
  | .func (.yield g) ⟨[]⟩ ⟨[]⟩, .func (.yield g') ⟨[]⟩ ⟨[]⟩ => Nat.beq (f g) g'
  | .nilFunc, .nilFunc => true
  | .nilIface, .nilIface => true
  | .iface t a, .iface u b => Nat.beq t u && eqR f a b
  | .agg a, .agg b => eqRA f a b
  | .tuple a, .tuple b => eqRA f a b
  | _, _ => false
def eqRA (f : Nat → Nat) : Array Value → Array Value → Bool
  | ⟨a⟩, ⟨b⟩ => eqRL f a b
def eqRL (f : Nat → Nat) : List Value → List Value → Bool
  | [], [] => true
  | a :: x, b :: y => eqR f a b && eqRL f x y
  | _, _ => false
end
theorem eqL_ok : ∀ (x y : List UInt8), eqL x y = true → x = y := by
  intro x
  induction x with
  | nil => intro y h; cases y with
    | nil => rfl
    | cons b m => cases h
  | cons a x ih => intro y h; cases y with
    | nil => cases h
    | cons b m =>
      change (Bool.rec (motive := fun _ => Bool) false (eqL x m) (Nat.beq a.toNat b.toNat)) = true at h
      cases hq : Nat.beq a.toNat b.toNat with
      | false => rw [hq] at h; cases h
      | true =>
        rw [hq] at h
        rw [ih m h, UInt8.toNat_inj.1 (Nat.eq_of_beq_eq_true hq)]
/-- The parities stay. -/
def Par (f : Nat → Nat) : Prop := ∀ x, f x % 2 = x % 2
def pull (r : Ren) (f : Nat → Nat) : Ren := fun x => r (f x)
mutual
theorem eqR_ok {f : Nat → Nat} (hp : Par f) {r : Ren} : ∀ (v u w : Value), eqR f v u = true → VR r u w → VR (pull r f) v w
  | .bool a, u, w, h, hv => by
    cases u <;> simp only [eqR, Bool.false_eq_true, beq_iff_eq] at h
    subst h; cases hv; exact .bool _
  | .int j a, u, w, h, hv => by
    cases u <;> simp only [eqR, Bool.false_eq_true, Bool.and_eq_true, beq_iff_eq] at h
    obtain ⟨rfl, rfl⟩ := h; cases hv; exact .int _ _
  | .float _ _, u, w, h, hv => by cases u <;> simp [eqR] at h
  | .complex _ _ _, u, w, h, hv => by cases u <;> simp [eqR] at h
  | .string a, u, w, h, hv => by
    cases u <;> simp only [eqR, Bool.false_eq_true] at h
    rename_i b
    have := eqL_ok _ _ h
    obtain ⟨⟨a⟩⟩ := a
    obtain ⟨⟨b⟩⟩ := b
    simp at this
    subst this
    cases hv; exact .string _
  | .pointer none, u, w, h, hv => by
    cases u with
    | pointer a => cases a <;> simp [eqR] at h; cases hv; exact .ptr0
    | _ => simp [eqR] at h
  | .pointer (some ⟨a, b, none⟩), u, w, h, hv => by
    cases u with
    | pointer c =>
      cases c with
      | none => simp [eqR] at h
      | some c =>
        obtain ⟨c, d, e⟩ := c
        cases e with
        | some _ => simp [eqR] at h
        | none =>
          simp only [eqR, Bool.and_eq_true] at h
          have h1 := Nat.eq_of_beq_eq_true h.1
          have h2 := Nat.eq_of_beq_eq_true h.2
          subst h1 h2
          cases hv with
          | ptr he => exact .ptr (r := pull r f) (b := a) he
    | _ => simp [eqR] at h
  | .pointer (some ⟨a, b, some _⟩), u, w, h, hv => by cases u <;> simp [eqR] at h
  | .slice none a b, u, w, h, hv => by
    cases u with
    | slice x c d =>
      cases x with
      | none =>
        simp only [eqR, Bool.and_eq_true] at h
        have h1 := Nat.eq_of_beq_eq_true h.1
        have h2 := Nat.eq_of_beq_eq_true h.2
        subst h1 h2
        cases hv; exact .sl0 _ _
      | some _ => simp [eqR] at h
    | _ => simp [eqR] at h
  | .slice (some ⟨a, b, none⟩) l m, u, w, h, hv => by
    cases u with
    | slice x j k =>
      cases x with
      | none => simp [eqR] at h
      | some c =>
        obtain ⟨c, d, e⟩ := c
        cases e with
        | some _ => simp [eqR] at h
        | none =>
          simp only [eqR, Bool.and_eq_true] at h
          have h1 := Nat.eq_of_beq_eq_true h.1.1.1
          have h2 := Nat.eq_of_beq_eq_true h.1.1.2
          have h3 := Nat.eq_of_beq_eq_true h.1.2
          have h4 := Nat.eq_of_beq_eq_true h.2
          subst h1 h2 h3 h4
          have hpa := hp a
          cases hv with
          | sl he hb => exact .sl (r := pull r f) (b := a) he (by omega)
          | slo he hb hc hl => exact .slo (r := pull r f) (b := a) he (by omega) hc hl
          | slz he hb hc => exact .slz (r := pull r f) (b := a) he (by omega) hc
          | slk he hb hx hc hl => exact .slk (r := pull r f) (b := a) he (by omega) hx hc hl
    | _ => simp [eqR] at h
  | .slice (some ⟨a, b, some _⟩) _ _, u, w, h, hv => by cases u <;> simp [eqR] at h
  | .map none, u, w, h, hv => by
    cases u with
    | map a => cases a <;> simp [eqR] at h; cases hv; exact .map0
    | _ => simp [eqR] at h
  | .map (some a), u, w, h, hv => by
    cases u with
    | map b =>
      cases b with
      | none => simp [eqR] at h
      | some b =>
        simp only [eqR] at h
        have h := Nat.eq_of_beq_eq_true h
        subst h
        cases hv with
        | map he => exact .map (r := pull r f) (b := a) he
    | _ => simp [eqR] at h
  | .chan _, u, w, h, hv => by cases u <;> simp [eqR] at h
  | .func fn a b, u, w, h, hv => by
    cases u with
    | func gn c d =>
      cases fn with
      | func g =>
        cases gn with
        | func g' =>
          obtain ⟨a⟩ := a; obtain ⟨b⟩ := b; obtain ⟨c⟩ := c; obtain ⟨d⟩ := d
          simp only [eqR, eqRA, Bool.and_eq_true] at h
          have h1 := Nat.eq_of_beq_eq_true h.1.1
          subst h1
          cases hv with
          | func hn hf hc => exact .func hn (eqRL_ok hp a c _ h.1.2 hf) (eqRL_ok hp b d _ h.2 hc)
        | _ => simp [eqR] at h
      | yield g =>
        obtain ⟨a⟩ := a; obtain ⟨b⟩ := b; obtain ⟨c⟩ := c; obtain ⟨d⟩ := d
        cases gn with
        | yield g' =>
          cases a <;> cases b <;> cases c <;> cases d <;> simp only [eqR, Bool.false_eq_true] at h
          have h := Nat.eq_of_beq_eq_true h
          subst h
          cases hv with
          | func hn _ _ => exact absurd rfl (hn _)
          | yield he => exact .yield (r := pull r f) (b := g) he
        | _ => simp [eqR] at h
      | _ => simp [eqR] at h
    | _ => simp [eqR] at h
  | .nilFunc, u, w, h, hv => by cases u <;> simp [eqR] at h; cases hv; exact .func0
  | .iface t a, u, w, h, hv => by
    cases u with
    | iface s b =>
      simp only [eqR, Bool.and_eq_true] at h
      have h1 := Nat.eq_of_beq_eq_true h.1
      subst h1
      cases hv with
      | iface hv => exact .iface (eqR_ok hp a b _ h.2 hv)
    | _ => simp [eqR] at h
  | .nilIface, u, w, h, hv => by cases u <;> simp [eqR] at h; cases hv; exact .iface0
  | .agg ⟨a⟩, u, w, h, hv => by
    cases u with
    | agg b =>
      obtain ⟨b⟩ := b
      simp only [eqR, eqRA] at h
      cases hv with
      | agg hv => exact .agg (eqRL_ok hp a b _ h hv)
    | _ => simp [eqR] at h
  | .tuple ⟨a⟩, u, w, h, hv => by
    cases u with
    | tuple b =>
      obtain ⟨b⟩ := b
      simp only [eqR, eqRA] at h
      cases hv with
      | tuple hv => exact .tuple (eqRL_ok hp a b _ h hv)
    | _ => simp [eqR] at h
theorem eqRL_ok {f : Nat → Nat} (hp : Par f) {r : Ren} : ∀ (v u w : List Value), eqRL f v u = true → VRL r u w → VRL (pull r f) v w
  | [], u, w, h, hv => by
    cases u with
    | nil => cases hv; exact .nil
    | cons _ _ => simp [eqRL] at h
  | a :: v, u, w, h, hv => by
    cases u with
    | nil => simp [eqRL] at h
    | cons b u =>
      simp only [eqRL, Bool.and_eq_true] at h
      cases hv with
      | cons h1 h2 => exact .cons (eqR_ok hp a b _ h.1 h1) (eqRL_ok hp v u _ h.2 h2)
end
/-- Numbers in use have their places. -/
def Push (r r' : Ren) (f : Nat → Nat) : Prop := ∀ x e, r x = some e → r' (f x) = some e
mutual
theorem VR.ren {f : Nat → Nat} (hp : Par f) {r r' : Ren} (hx : Push r r' f) : ∀ {v w : Value}, VR r v w → VR r' (ren f v) w
  | _, _, .bool _ => .bool _
  | _, _, .int _ _ => .int _ _
  | _, _, .float _ _ => .float _ _
  | _, _, .complex _ _ _ => .complex _ _ _
  | _, _, .string _ => .string _
  | _, _, .ptr0 => .ptr0
  | _, _, .ptr h => .ptr (hx _ _ h)
  | _, _, .sl0 _ _ => .sl0 _ _
  | _, _, .sl (b := b) h hb => .sl (hx _ _ h) (by rw [hp b]; exact hb)
  | _, _, .slo (b := b) h hb hc hl => .slo (hx _ _ h) (by rw [hp b]; exact hb) hc hl
  | _, _, .slz (b := b) h hb hc => .slz (hx _ _ h) (by rw [hp b]; exact hb) hc
  | _, _, .slk (b := b) h hb hq hc hl => .slk (hx _ _ h) (by rw [hp b]; exact hb) hq hc hl
  | _, _, .map0 => .map0
  | _, _, .map h => .map (hx _ _ h)
  | _, _, .chan0 => .chan0
  | .func fn _ _, _, .func h hf hc => by
    cases fn with
    | yield l => exact absurd rfl (h l)
    | _ => exact .func h (VRL.ren hp hx hf) (VRL.ren hp hx hc)
  | _, _, .yield h => .yield (hx _ _ h)
  | _, _, .func0 => .func0
  | _, _, .iface h => .iface (VR.ren hp hx h)
  | _, _, .iface0 => .iface0
  | _, _, .agg h => .agg (VRL.ren hp hx h)
  | _, _, .tuple h => .tuple (VRL.ren hp hx h)
  | _, _, .any => .any
  | _, _, .atl h => .atl h
theorem VRL.ren {f : Nat → Nat} (hp : Par f) {r r' : Ren} (hx : Push r r' f) : ∀ {v w : List Value}, VRL r v w → VRL r' (renL f v) w
  | _, _, .nil => .nil
  | _, _, .cons h t => .cons (VR.ren hp hx h) (VRL.ren hp hx t)
end
/-! Blocks. -/
def renT (f : Nat → Nat) : T Value → T Value
  | .e => .e
  | .n l v r => .n (renT f l) (v.map (ren f)) (renT f r)
def renM (f : Nat → Nat) : List MapEntry → List MapEntry
  | [] => []
  | e :: l => { e with val := ren f e.val } :: renM f l
def renB (f : Nat → Nat) : Blk → Blk
  | .cells n c d s => .cells n (renT f c) (renL f d) s
  | .map es k => .map (renM f es) k
  | b => b
/-- Cells or a map. -/
def cm : Blk → Bool
  | .cells .. => true
  | .map .. => true
  | _ => false
theorem renT_get (f : Nat → Nat) : ∀ (t : T Value) (m : Nat), (renT f t).get m = (t.get m).map (ren f) := by
  intro t
  induction t with
  | e => intro m; rfl
  | n l v r ihl ihr =>
    intro m
    simp only [renT, T.get_n]
    cases Nat.beq m 1 <;> cases Nat.beq (m % 2) 0 <;> first | rfl | exact ihl _ | exact ihr _
theorem renL_length (f : Nat → Nat) : ∀ (l : List Value), (renL f l).length = l.length := by
  intro l
  induction l with
  | nil => rfl
  | cons v l ih => simp [renL, ih]
theorem renL_get (f : Nat → Nat) : ∀ (l : List Value) (i : Nat), (renL f l)[i]? = l[i]?.map (ren f) := by
  intro l
  induction l with
  | nil => intro i; rfl
  | cons v l ih => intro i; cases i <;> simp [renL, ih]
theorem cg_ren (f : Nat → Nat) (c : T Value) (d : List Value) (i : Nat) : cg (renT f c) (renL f d) i = (cg c d i).map (ren f) := by
  unfold cg
  rw [renT_get, renL_length, renL_get]
  cases c.get (i + 1) <;> rfl
theorem ER.ren {f : Nat → Nat} (hp : Par f) {r r' : Ren} (hx : Push r r' f) : ∀ {l l' : List MapEntry}, ER r l l' → ER r' (renM f l) l' := by
  intro l l' h
  induction h with
  | nil => exact .nil
  | cons hk he hb hv _ ih => exact .cons hk he hb (hv.ren hp hx) ih
theorem wrt_par {f : Nat → Nat} (hp : Par f) (s x : Nat) : wrt s (f x) = wrt s x := by
  unfold wrt
  have : Nat.mod (f x) 2 = Nat.mod x 2 := hp x
  rw [this]
theorem BR.ren {f : Nat → Nat} (hp : Par f) {r r' : Ren} (hx : Push r r' f) {x : Nat} {e : E} {w : World} {b : Blk} (hb : cm b = true) (h : BR r x e w b) : BR r' (f x) e w (renB f b) := by
  cases b with
  | cells n c d s =>
    obtain ⟨C, t, fz, h1, h2, h3, h4, h5⟩ := h
    refine ⟨C, t, fz, h1, h2, fun i hi => ?_, by rw [wrt_par hp, hp x]; exact h4, by rw [hp x]; exact h5⟩
    obtain ⟨v, v', q1, q2, q3⟩ := h3 i hi
    exact ⟨_, v', by rw [cg_ren, q1]; rfl, q2, q3.ren hp hx⟩
  | map es cl =>
    obtain ⟨es', h1, h2⟩ := h
    exact ⟨es', h1, h2.ren hp hx⟩
  | _ => cases hb
/-- Are blocks the same but for the numbers? -/
def eqM (f : Nat → Nat) : List MapEntry → List MapEntry → Bool
  | [], [] => true
  | a :: l, b :: l' => plain a.key && veq a.key b.key && eqR f a.val b.val && Nat.beq a.born b.born && eqM f l l'
  | _, _ => false
def eqB (f : Nat → Nat) : Blk → Blk → Bool
  | .cells n c d s, .cells n' c' d' s' => Nat.beq n n' && Nat.beq s s' && (match ldN c d n 0, ldN c' d' n 0 with
    | some l, some l' => eqRL f l l'
    | _, _ => false)
  | .map es k, .map es' k' => Nat.beq k k' && eqM f es es'
  | _, _ => false
theorem ldN_get {c : T Value} {d : List Value} : ∀ (n k : Nat) {l : List Value}, ldN c d n k = some l → l.length = n ∧ ∀ i, i < n → cg c d (k + i) = l[i]? := by
  intro n
  induction n with
  | zero => intro k l h; simp only [ldN, Option.some.injEq] at h; subst h; exact ⟨rfl, fun i hi => by omega⟩
  | succ n ih =>
    intro k l h
    simp only [ldN] at h
    split at h
    · rename_i v hv
      split at h
      · rename_i l' hl
        simp only [Option.some.injEq] at h
        subst h
        obtain ⟨h1, h2⟩ := ih (k + 1) hl
        refine ⟨by simp [h1], fun i hi => ?_⟩
        cases i with
        | zero => exact hv
        | succ i =>
          rw [show k + (i + 1) = k + 1 + i by omega, h2 i (by omega)]
          rfl
      · cases h
    · cases h
theorem eqRL_get {f : Nat → Nat} : ∀ (l l' : List Value), eqRL f l l' = true → l'.length = l.length ∧ ∀ (i : Nat) (v u : Value), l[i]? = some v → l'[i]? = some u → eqR f v u = true := by
  intro l
  induction l with
  | nil => intro l' h; cases l' with
    | nil => exact ⟨rfl, fun i v u hv => by simp at hv⟩
    | cons b l' => simp [eqRL] at h
  | cons a l ih => intro l' h; cases l' with
    | nil => simp [eqRL] at h
    | cons b l' =>
      simp only [eqRL, Bool.and_eq_true] at h
      obtain ⟨h1, h2⟩ := ih l' h.2
      refine ⟨by simp [h1], fun i v u hv hu => ?_⟩
      cases i with
      | zero => simp at hv hu; subst hv hu; exact h.1
      | succ i => exact h2 i v u (by simpa using hv) (by simpa using hu)
theorem eqM_ok {f : Nat → Nat} (hp : Par f) {r : Ren} : ∀ (l l' : List MapEntry) (L : List MapEntry), eqM f l l' = true → ER r l' L → ER (pull r f) l L := by
  intro l
  induction l with
  | nil => intro l' L h he; cases l' with
    | nil => cases he; exact .nil
    | cons _ _ => simp [eqM] at h
  | cons a l ih => intro l' L h he; cases l' with
    | nil => simp [eqM] at h
    | cons b l' =>
      simp only [eqM, Bool.and_eq_true] at h
      obtain ⟨⟨⟨⟨h0, h1⟩, h2⟩, h3⟩, h4⟩ := h
      have h1 := veq_eq _ _ h1
      have h3 := Nat.eq_of_beq_eq_true h3
      cases he with
      | cons hk hke hb hv ht => exact .cons h0 (hke.trans h1.symm) (hb.trans h3.symm) (eqR_ok hp _ _ _ h2 hv) (ih _ _ h4 ht)
theorem eqB_ok {f : Nat → Nat} (hp : Par f) {r : Ren} {x : Nat} {e : E} {w : World} {b b' : Blk} (h : eqB f b b' = true) (hb : BR r (f x) e w b') : BR (pull r f) x e w b := by
  cases b with
  | cells n c d s =>
    cases b' with
    | cells n' c' d' s' =>
      simp only [eqB, Bool.and_eq_true] at h
      obtain ⟨⟨h1, h2⟩, h3⟩ := h
      have h1 := Nat.eq_of_beq_eq_true h1
      have h2 := Nat.eq_of_beq_eq_true h2
      subst h1 h2
      split at h3
      · rename_i l l' hl hl'
        obtain ⟨C, t, fz, q1, q2, q3, q4, q5⟩ := hb
        refine ⟨C, t, fz, q1, q2, fun i hi => ?_, by rw [← wrt_par hp, ← hp x]; exact q4, by rw [← hp x]; exact q5⟩
        obtain ⟨v', w', p1, p2, p3⟩ := q3 i hi
        obtain ⟨a1, a2⟩ := ldN_get n 0 hl
        obtain ⟨b1, b2⟩ := ldN_get n 0 hl'
        have a3 := a2 i hi
        have b3 := b2 i hi
        rw [Nat.zero_add] at a3 b3
        rw [p1] at b3
        have hlt : i < l.length := by omega
        rw [List.getElem?_eq_getElem hlt] at a3
        exact ⟨l[i], w', a3, p2, eqR_ok hp _ _ _ ((eqRL_get l l' h3).2 i _ _ (List.getElem?_eq_getElem hlt) b3.symm) p3⟩
      · cases h3
    | _ => simp [eqB] at h
  | map es cl =>
    cases b' with
    | map es' cl' =>
      simp only [eqB, Bool.and_eq_true] at h
      have h1 := Nat.eq_of_beq_eq_true h.1
      subst h1
      obtain ⟨L, q1, q2⟩ := hb
      exact ⟨L, q1, eqM_ok hp _ _ _ h.2 q2⟩
    | _ => simp [eqB] at h
  | _ => cases b' <;> simp [eqB] at h
end
end Ev
end Go.Proofs.YtmemadmjgcpobaaGreatDoor
