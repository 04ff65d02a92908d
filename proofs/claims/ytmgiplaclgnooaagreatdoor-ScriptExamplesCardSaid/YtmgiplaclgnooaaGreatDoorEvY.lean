/- Our own machine's appends and copies. -/
import Derived.Test.YtmgiplaclgnooaaGreatDoorEvX
set_option maxRecDepth 10000
namespace Go.Proofs.YtmgiplaclgnooaaGreatDoor
namespace Ev
variable {P : Program} {r : Ren} {h : H} {w : World} {n : Nat} {t : T Value} {a : Act} {o : Oper} {v : Value}
theorem plainL_bytes (l : List UInt8) : plainL (l.map fun b => Value.int .u8 (b.toNat : Int)) = true := by
  induction l with
  | nil => rfl
  | cons n l ih => simpa [plainL, plain] using ih
/-- What an append's or a copy's second operand holds. -/
theorem cellsOf_ok (hr : HR r h w) {sz : Nat} {x x' : Value} (hx : VR r x x') {m : Nat} {vs : List Value} (hc : cellsOf h sz x = some (m, vs)) (h1 : vs.all one = true) {tx : TypeId} {d : TypeDesc} (htx : P.underlying tx = some d) (hd : (∃ e, d = .slice e) ∨ d = .string)
    (hk : ∀ b l c, x = .slice b l c → ∃ e, d = .slice e) (hk2 : ∀ s, x = .string s → d = .string) (h0 : ∀ l c, x = .slice none l c → l = 0) :
    ∃ vs', VRL r vs vs' ∧ Src P sz tx x' m vs' w := by
  have key : ∀ (A : Addr) (l c : Nat), x' = .slice (some A) l c → (∃ e, d = .slice e) → (∃ l', VRL r vs l' ∧ l'.length = l * sz ∧ ∀ j v, l'[j]? = some v → w.cell? (A.add j) = some v) → m = l → ∃ vs', VRL r vs vs' ∧ Src P sz tx x' m vs' w := fun A l c hx' ⟨e, hde⟩ ⟨l', p1, p2, p3⟩ hm => by
    subst hx' hm
    exact ⟨l', p1, Src.ofSlice w (by rw [htx, hde]) A m c l' p2 p3 (p1.all_one h1)⟩
  unfold cellsOf at hc
  split at hc
  · rename_i l c
    simp only [Option.some.injEq, Prod.mk.injEq] at hc
    obtain ⟨rfl, rfl⟩ := hc
    cases hx
    obtain ⟨e, hde⟩ := hk _ _ _ rfl
    have := h0 _ _ rfl
    subst this
    exact ⟨[], .nil, Src.ofNil w (e' := e) (by rw [htx, hde]) _⟩
  · rename_i b k l c
    split at hc
    · rename_i mm cs dz s hb
      obtain ⟨hle, hc⟩ := bif_some hc
      have hle := Nat.le_of_ble_eq_true hle
      split at hc
      · rename_i us hl
        simp only [Option.some.injEq, Prod.mk.injEq] at hc
        obtain ⟨rfl, rfl⟩ := hc
        have hde := hk _ _ _ rfl
        cases hx with
        | sl he _ =>
          obtain ⟨l', p1, p2, p3⟩ := ldN_ok hr hb he _ k hl hle
          exact key _ _ _ rfl hde ⟨l', p1, p2, fun j v hj => by rw [Addr.add_mid]; exact p3 j v hj⟩ rfl
        | slo he _ _ _ =>
          obtain ⟨l', p1, p2, p3⟩ := ldN_ok hr hb he _ k hl hle
          exact key _ _ _ rfl hde ⟨l', p1, p2, fun j v hj => by rw [Addr.add_mid]; exact p3 j v hj⟩ rfl
        | slz he _ _ =>
          simp only [Nat.zero_mul, ldN, Option.some.injEq] at hl
          subst hl
          exact key _ _ _ rfl hde ⟨[], .nil, by simp, fun j v hj => by simp at hj⟩ rfl
      · cases hc
    · cases hc
  · rename_i s
    obtain ⟨hs1, hc⟩ := bif_some hc
    have hs1 := Nat.eq_of_beq_eq_true hs1
    subst hs1
    have hc := Option.some.inj hc
    rw [Prod.mk.injEq] at hc
    obtain ⟨rfl, rfl⟩ := hc
    cases hx
    have hde := hk2 _ rfl
    subst hde
    have hS : s.data.toList.length = s.size := by rw [Array.length_toList]; rfl
    rw [hS]
    exact ⟨byteCells s, VRL.of_plain r _ (plainL_bytes _), Src.ofString w htx s⟩
  · cases hc
theorem nextslicecap_le (need cap : Nat) (h : cap < need) : Builtin.nextslicecap need cap ≤ 4 * need + 4096 := by
  have hg : ∀ (k c : Nat), c ≤ need → Builtin.growBy need k c ≤ 2 * need + 768 := fun k => by
    induction k with
    | zero => intro c hc; simp [Builtin.growBy]; omega
    | succ k ih =>
      intro c hc
      simp only [Builtin.growBy]
      split
      · omega
      · by_cases hq : c + (c + 768) / 4 ≤ need
        · exact ih _ hq
        · have : ∀ (j c' : Nat), need ≤ c' → Builtin.growBy need j c' = c' := fun j c' hc' => by
            cases j with
            | zero => rfl
            | succ j => simp [Builtin.growBy, hc']
          rw [this k _ (by omega)]
          omega
  unfold Builtin.nextslicecap
  split
  · omega
  · split
    · omega
    · have := hg 4 cap (by omega); omega
/-- A block of ours is forgotten. -/
theorem HR.del_ (hr : HR r h w) (b : Nat) : HR r (h.del b) w := by
  have hget : ∀ y c, (h.del b).get y = some c → h.get y = some c := fun y c hy => by
    rw [H.get_del] at hy
    split at hy
    · cases hy
    · exact hy
  exact ⟨fun x c hx => hr.blk x c (hget x c hx), fun x y c d e f hx hy => hr.inj x y c d e f (hget x c hx) (hget y d hy), hr.new, hr.lo, hr.gl, hr.bnd⟩
theorem Step.del (hr : HR r h w) (b : Nat) : Step r h w r (h.del b) w :=
  ⟨Ext.refl r, fun _ _ => rfl, hr.del_ b, Nat.le_refl _, rfl, rfl, Nat.le_refl _, fun k _ ho => ⟨rfl, fun ⟨y, c, f, h1, h2, h3, h4⟩ => by
    rw [H.get_del] at h1
    split at h1
    · cases h1
    · exact ho ⟨y, c, f, h1, h2, h3, h4⟩⟩, rfl, rfl, rfl⟩
/-- A block of the model's goes over from one of ours, b, to a new one. -/
theorem HR.move (hr : HR r h w) {b : Nat} {B : Blk} {e e' : E} {w' : World} {nb : Blk} (hb : h.get b = some B) (he : r b = some e) (hlo : h.lo ≤ b) (heb : e'.blk = e.blk)
    (hsz : w'.heap.size = w.heap.size) (hw : ∀ k, k ≠ e.blk → w'.heap[k]? = w.heap[k]?) (hos : w'.os = w.os ∧ w'.tape = w.tape ∧ w'.output = w.output)
    (hn : BR (r.put (2 * h.k + 1) e') (2 * h.k + 1) e' w' nb) : Step r h w (r.put (2 * h.k + 1) e') { ((h.del b).set (2 * h.k + 1) nb) with k := h.k + 1 } w' := by
  have hext : Ext r (r.put (2 * h.k + 1) e') := Ren.put_ext (hr.new _ (by omega))
  have hget : ∀ y, ({ ((h.del b).set (2 * h.k + 1) nb) with k := h.k + 1 } : H).get y = if y = 2 * h.k + 1 then some nb else if y = b then none else h.get y := fun y => by
    have : ({ ((h.del b).set (2 * h.k + 1) nb) with k := h.k + 1 } : H).get y = ((h.del b).set (2 * h.k + 1) nb).get y := rfl
    rw [this, H.get_set, H.get_del]
  have hlt : e.blk < w.heap.size := by obtain ⟨f, h1, h2, _⟩ := hr.blk b B hb; rw [he] at h1; cases h1; exact h2
  have hfar : ∀ y c f, y ≠ b → h.get y = some c → r y = some f → f.blk ≠ e.blk := fun y c f hy hc hf q => hr.inj b y B c e f hb hc he hf hlo (fun s => hy s.symm) q.symm
  refine ⟨hext, fun y hy => if_neg (by omega), ⟨?_, ?_, ?_, ?_, fun i hi => by obtain ⟨f, h1, h2⟩ := hr.gl i hi; exact ⟨f, hext _ _ h1, h2⟩, Ren.put_bnd hr.bnd (by omega) (by omega)⟩, Nat.le_succ _, rfl, rfl, by omega, ?_, hos.1, hos.2.1, hos.2.2⟩
  · intro y c hy
    rw [hget] at hy
    split at hy
    · rename_i q
      subst q
      simp only [Option.some.injEq] at hy; subst hy
      exact ⟨e', put_self _ _ _, by omega, hn⟩
    · split at hy
      · cases hy
      · rename_i q1 q2
        obtain ⟨f, h1, h2, h3⟩ := hr.blk y c hy
        exact ⟨f, hext _ _ h1, by omega, h3.same hext (hw _ (hfar y c f q2 hy h1))⟩
  · intro y z c d f g hy hz hf hg hl hne
    have cas : ∀ y c f, ({ ((h.del b).set (2 * h.k + 1) nb) with k := h.k + 1 } : H).get y = some c → r.put (2 * h.k + 1) e' y = some f → (y = 2 * h.k + 1 ∧ f.blk = e.blk) ∨ (y ≠ 2 * h.k + 1 ∧ y ≠ b ∧ h.get y = some c ∧ r y = some f) := fun y c f hy hf => by
      rw [hget] at hy
      unfold Ren.put at hf
      split at hy
      · rename_i q
        rw [if_pos q] at hf
        cases hf
        exact .inl ⟨q, heb⟩
      · rename_i q
        rw [if_neg q] at hf
        split at hy
        · cases hy
        · rename_i q2; exact .inr ⟨q, q2, hy, hf⟩
    rcases cas y c f hy hf with ⟨y1, y2⟩ | ⟨y1, y2, y3, y4⟩ <;> rcases cas z d g hz hg with ⟨z1, z2⟩ | ⟨z1, z2, z3, z4⟩
    · exact absurd (y1.trans z1.symm) hne
    · rw [y2]; exact fun q => hfar z d g z2 z3 z4 q.symm
    · rw [z2]; exact hfar y c f y2 y3 y4
    · exact hr.inj y z c d f g y3 z3 y4 z4 hl hne
  · intro y hy
    have : y ≠ 2 * h.k + 1 := by simp at hy; omega
    simp only [Ren.put, if_neg this]
    exact hr.new y (by simp at hy; omega)
  · have := hr.lo
    show h.lo ≤ 2 * (h.k + 1)
    omega
  · intro k hk ho
    have hkB : k ≠ e.blk := fun q => ho ⟨b, B, e, hb, hlo, he, q.symm⟩
    refine ⟨hw k hkB, fun ⟨y, c, f, h1, h2, h3, h4⟩ => ?_⟩
    rw [hget] at h1
    unfold Ren.put at h3
    split at h1
    · rename_i q
      rw [if_pos q] at h3
      cases h3
      exact hkB (by omega)
    · rename_i q
      rw [if_neg q] at h3
      split at h1
      · cases h1
      · exact ho ⟨y, c, f, h1, h2, h3, h4⟩
end Ev
end Go.Proofs.YtmgiplaclgnooaaGreatDoor
