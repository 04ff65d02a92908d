/- Our own machine's regions, in the order in which they stand. -/
import Derived.Test.YtmgiplaclgnooaaGreatDoorEvZF
set_option maxRecDepth 10000
namespace Go.Proofs.YtmgiplaclgnooaaGreatDoor
namespace Ev
variable {P : Program} {r : Ren} {h : H} {w : World} {n : Nat} {t : T Value} {a : Act} {o : Oper}
theorem VR.bool_of {v : Value} {b : Bool} (h : VR r v (.bool b)) : v = .bool b := by cases h <;> rfl
theorem VR.to_bool {v : Value} {b : Bool} (h : VR r (.bool b) v) : v = .bool b := by cases h; rfl
theorem getD_bool {A : Array Value} {d : Nat} {b : Bool} : A.getD d undef = .bool b ↔ A[d]? = some (.bool b) := by
  rw [Array.getD_eq_getD_getElem?]
  cases hq : A[d]? with
  | none => simp [undef]
  | some v => simp
theorem wants_ok (ha : AR r h n t a) (ops : Array Oper) : wants ops.toList t o = Region.wanted o (yielded ops a.tmps) := by
  unfold wants Region.wanted
  cases o.guard with
  | none => rfl
  | some g =>
    obtain ⟨j, want⟩ := g
    simp only [yielded, Array.getElem?_toList]
    cases hj : ops[j]? with
    | none => simp
    | some oj =>
      simp only [Option.bind_some]
      cases hd : oj.dst with
      | none => simp
      | some d =>
        simp only [Option.bind_some]
        have h1 := ha.t d
        split
        · rename_i b hb
          rw [hb] at h1
          have := getD_bool.1 h1.to_bool
          rw [this]
          cases b <;> cases want <;> rfl
        · rename_i hn
          split
          · rename_i b hb
            have h2 := getD_bool.2 hb
            rw [h2] at h1
            have h3 := h1.bool_of
            cases hg : t.get (d + 1) with
            | none => rw [hg] at h3; cases h3
            | some u => rw [hg] at h3; simp only [Option.getD_some] at h3; subst h3; exact absurd hg (hn b)
          · simp
theorem opx_defer {K : Value → World → Prop} {c : Call} (ho : o.op = .defer c) (h : OpX P K ((execOp a.eval o).run P w)) : False := by
  simp only [execOp, ho, Sem.run_bind] at h
  cases hr : (resolve a.eval c o.type).run P w with
  | halt x w' => rw [hr] at h; exact h
  | ok d w' => rw [hr] at h; exact h
variable {b : Frame} {k : List Item} {cs : List Frame}
theorem runOps_normal {cf yf : CallF} {all : List Oper} {D : List Nat} {x : Ex} {t' : T Value} {D' : List Nat} {h' : H} : ∀ (l : List Oper) (t : T Value) (h : H), runOps P cf yf n all D l t h = .ok x t' D' h' → x = .normal ∧ D' = D := by
  intro l
  induction l with
  | nil =>
    intro t h hv
    simp only [runOps, R.ok.injEq] at hv
    exact ⟨hv.1.symm, hv.2.2.1.symm⟩
  | cons o l ih =>
    intro t h hv
    simp only [runOps] at hv
    cases hw : wants all t o with
    | true =>
      rw [hw] at hv
      simp only [cond_true] at hv
      split at hv
      · exact ih _ _ hv
      · cases hv
    | false =>
      rw [hw] at hv
      exact ih _ _ hv
/-- A region's rest, in order. -/
theorem runOps_ok {cf yf : CallF} (hcf : CfOk P cf) (hyf : YfOk P yf) (ops : Array Oper) (D : List Nat) (hb : b.kind = .normal) {x : Ex} {t' : T Value} {D' : List Nat} {h' : H} : ∀ (l : List Oper) (j : Nat) (r : Ren) (h : H) (w : World) (t : T Value) (a : Act),
    ops.toList.drop j = l → HR r h w → AR r h n t a → runOps P cf yf n ops.toList D l t h = .ok x t' D' h' →
    x = .normal ∧ D' = D ∧ (OG P (lone (b.atR a (.inRegion ops (List.range' j l.length) :: k)) cs w) ∨
      ∃ r' a' w', Step r h w r' h' w' ∧ AR r' h' n t' a' ∧ a'.defers = a.defers ∧ Steps P (lone (b.atR a (.inRegion ops (List.range' j l.length) :: k)) cs w) (lone (b.atR a' (.inRegion ops [] :: k)) cs w')) := by
  intro l
  induction l with
  | nil =>
    intro j r h w t a _ hr ha hv
    simp only [runOps, R.ok.injEq] at hv
    obtain ⟨rfl, rfl, rfl, rfl⟩ := hv
    exact ⟨rfl, rfl, .inr ⟨r, a, w, Step.refl hr, ha, rfl, .refl _ _⟩⟩
  | cons o l ih =>
    intro j r h w t a hd hr ha hv
    have hoj : ops[j]? = some o := by
      rw [← Array.getElem?_toList, ← Nat.add_zero j, ← List.getElem?_drop, hd]; rfl
    have hdr : ops.toList.drop (j + 1) = l := by rw [← List.drop_drop, hd]; rfl
    have hrg : List.range' j (o :: l).length = j :: List.range' (j + 1) l.length := by rw [List.length_cons, List.range'_succ]
    rw [hrg]
    simp only [runOps] at hv
    rw [wants_ok ha ops] at hv
    cases hw : Region.wanted o (yielded ops a.tmps) with
    | true =>
      rw [hw] at hv
      simp only [cond_true] at hv
      split at hv
      · rename_i v h1 hs
        have hx := step1_ok hr ha hcf hyf hs
        have hnd : ∀ c, o.op ≠ .defer c := fun c ho => opx_defer ho hx
        rcases op_goes (k := k) (cs := cs) (rest := List.range' (j + 1) l.length) hoj hw hnd hb (.inr hx) with hg | ⟨v', w1, ⟨r1, hs1, hv1⟩, hst⟩
        · obtain ⟨e1, e2⟩ := runOps_normal _ _ _ hv
          exact ⟨e1, e2, .inl hg⟩
        · obtain ⟨e1, e2, e3⟩ := ih (j + 1) r1 h1 w1 _ (a.put o.dst v') hdr hs1.hr ((ha.ext hs1.ext).put o.dst hv1) hv
          refine ⟨e1, e2, ?_⟩
          rcases e3 with e3 | ⟨r2, a2, w2, f1, f2, f3, f4⟩
          · exact .inl (OG.of_steps hst e3)
          · exact .inr ⟨r2, a2, w2, hs1.trans f1, f2, by rw [f3]; cases o.dst <;> rfl, hst.trans f4⟩
      · cases hv
    | false =>
      rw [hw] at hv
      simp only [cond_false] at hv
      have hst : Steps P (lone (b.atR a (.inRegion ops (j :: List.range' (j + 1) l.length) :: k)) cs w) (lone (b.atR (a.put o.dst undef) (.inRegion ops (List.range' (j + 1) l.length) :: k)) cs w) := by
        have := stepR_op_skip (P := P) (b := b) (a := a) (k := k) (cs := cs) (w := w) (ops := ops) (i := j) (rest := List.range' (j + 1) l.length) (by rw [hoj]; simp [hw])
        rw [hoj] at this
        exact .one this
      obtain ⟨e1, e2, e3⟩ := ih (j + 1) r h w _ (a.put o.dst undef) hdr hr (ha.put o.dst (VR.of_plain r _ rfl)) hv
      refine ⟨e1, e2, ?_⟩
      rcases e3 with e3 | ⟨r2, a2, w2, f1, f2, f3, f4⟩
      · exact .inl (OG.of_steps hst e3)
      · exact .inr ⟨r2, a2, w2, f1, f2, by rw [f3]; cases o.dst <;> rfl, hst.trans f4⟩
end Ev
end Go.Proofs.YtmgiplaclgnooaaGreatDoor
