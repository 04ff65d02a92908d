/- The fast machine does what the machine does: one operation, a region. -/
import Derived.Test.YtilnneogbpnkkaaGreatDoorEvM16
set_option maxRecDepth 10000
namespace Go.Proofs.YtilnneogbpnkkaaGreatDoor
namespace Ev
variable {P : Program} {h : H} {t : T Value} {o : Oper} {cf yf : CallF} {n : Nat}
theorem nowN_eq {α : Type} (n : Nat) (k : Nat → α) : nowN n k = k n := by cases n <;> rfl
theorem nowI_eq {α : Type} (n : Int) (k : Int → α) : nowI n k = k n := by
  cases n with
  | ofNat a => exact nowN_eq a fun a => k (.ofNat a)
  | negSucc a => exact nowN_eq a fun a => k (.negSucc a)
theorem nowB_eq {α : Type} (b : Bool) (k : Bool → α) : nowB b k = k b := by cases b <;> rfl
theorem nowH_eq {α : Type} (h : H) (k : H → α) : nowH h k = k h := by
  obtain ⟨t, m, lo, g⟩ := h
  show nowN m (fun m => nowN lo fun lo => nowN g fun g => k ⟨t, m, lo, g⟩) = _
  rw [nowN_eq, nowN_eq, nowN_eq]
theorem ifF_eq {α : Type} (b : Bool) (x y : α) : ifF b x y = bif b then x else y := by cases b <;> rfl
theorem oF_eq {α β : Type} (x : Option β) (d : α) (k : β → α) : oF x d k = (match x with | some a => k a | none => d) := by cases x <;> rfl
theorem adF_eq {α : Type} (x : Option Addr) (d : α) (k : Nat → Nat → α) : adF x d k = (match x with | some ⟨b, f, none⟩ => k b f | _ => d) := by
  cases x with
  | none => rfl
  | some a => obtain ⟨b, f, s⟩ := a; cases s <;> rfl
theorem blkF_eq {α : Type} (x : Option Blk) (d : α) (k : Nat → T Value → List Value → Nat → α) : blkF x d k = (match x with | some (.cells n c e s) => k n c e s | _ => d) := by
  cases x with
  | none => rfl
  | some a => cases a <;> rfl
theorem intF_eq {α : Type} (i : Int) (k : Nat → α) (d : Nat → α) : (Int.rec (motive := fun _ => α) k d i) = (match i with | .ofNat n => k n | .negSucc n => d n) := by cases i <;> rfl
theorem cgF_eq (c : T Value) (d : List Value) (i : Nat) : cgF c d i = cg c d i := by
  unfold cgF cg
  rw [nthL_eq, lenL_eq]
  show (Option.rec (motive := fun _ => Option Value) d[i % d.length]? (fun v => some v) (c.get (i + 1))) = _
  cases c.get (i + 1) <;> rfl
theorem ldNF_eq (c : T Value) (d : List Value) : ∀ (m k : Nat), ldNF c d m k = ldN c d m k := by
  intro m
  induction m with
  | zero => intro k; rfl
  | succ m ih =>
    intro k
    show (oF (cgF c d k) none fun v => oF (ldNF c d m (Nat.succ k)) none fun l => some (v :: l)) = _
    rw [cgF_eq, ih, oF_eq]
    simp only [ldN, oF_eq, Nat.succ_eq_add_one]
    cases cg c d k with
    | none => rfl
    | some v => cases ldN c d m (k + 1) <;> rfl
theorem oneF_eq (v : Value) : oneF v = (one v && !isJ v) := by
  cases v with
  | chan a => cases a with
    | none => rfl
    | some x => cases x <;> rfl
  | _ => rfl
theorem fo_ok {x : Operand} {y : FO} (hx : fo x = some y) (hj : isJ (fev y t) = false) (g : Nat) : evO g t x = some (fev y t) := by
  cases x with
  | tmp i =>
    simp only [fo, Option.some.injEq] at hx
    subst hx
    have e : fev (.t (pth i)) t = (t.get (i + 1)).getD undef := at_pth i t
    rw [e] at hj ⊢
    exact tmpO_of hj
  | const v =>
    simp only [fo] at hx
    cases hp : plain v with
    | true => rw [hp] at hx; simp only [cond_true, Option.some.injEq] at hx; subst hx; simp only [evO, hp, cond_true]; rfl
    | false => rw [hp] at hx; cases hx
  | global g => cases hx
  | func f =>
    simp only [fo, Option.some.injEq] at hx
    subst hx
    rfl
theorem evF_ok {α : Type} {g : Nat} {d y : α} : ∀ {l : List Operand} {r : List FO}, foL l = some r → ∀ {k : List Value → α}, evF r t d k = y → d = y ∨ ∃ vs, evL g t l = some vs ∧ k vs = y
  | [], r, hx, k, hk => by simp only [foL, Option.some.injEq] at hx; subst hx; exact .inr ⟨[], rfl, hk⟩
  | x :: l, r, hx, k, hk => by
    simp only [foL] at hx
    split at hx
    · rename_i a m ha hm
      simp only [Option.some.injEq] at hx
      subst hx
      change vJ (fev a t) d (fun v => evF m t d fun vs => k (v :: vs)) = y at hk
      rw [vJ_eq] at hk
      cases hj : isJ (fev a t) with
      | true => rw [hj] at hk; exact .inl hk
      | false =>
        rw [hj] at hk
        rcases evF_ok (g := g) hm hk with q | ⟨vs, q1, q2⟩
        · exact .inl q
        · exact .inr ⟨_, by simp only [evL, fo_ok ha hj, q1], q2⟩
    · cases hx
variable {x : Ex} {t' : T Value} {D D' : List Nat} {h' : H} {k : Value → H → R}
theorem exS_ok (hv : exS P cf yf o t h k = .ok x t' D' h') : ∃ v h1, step1 P cf yf o t h = some (v, h1) ∧ k v h1 = .ok x t' D' h' := by
  unfold exS at hv
  rw [oF_eq] at hv
  split at hv
  · rename_i p hp
    obtain ⟨v, h1⟩ := p
    refine ⟨v, h1, hp, ?_⟩
    rw [← nowH_eq h1 fun h1 => k v h1]
    exact hv
  · cases hv
theorem binF_eq (b : BO) (kd : IntKind) (m n : Int) (kk : Value → R) : binF b kd m n kk = kk (binV b kd m n) := by
  cases b
  · exact nowB_eq (eqF m n) fun q => kk (.bool q)
  · exact nowB_eq (eqF m n) fun q => kk (.bool (!q))
  · exact nowB_eq (ltF m n) fun q => kk (.bool q)
  · exact nowB_eq (ltF n m) fun q => kk (.bool (!q))
  · exact nowB_eq (ltF n m) fun q => kk (.bool q)
  · exact nowB_eq (ltF m n) fun q => kk (.bool (!q))
  · exact nowI_eq (wrapF kd (addF m n)) fun z => kk (.int kd z)
  · exact nowI_eq (wrapF kd (subF m n)) fun z => kk (.int kd z)
  · exact nowI_eq (wrapF kd (mulF m n)) fun z => kk (.int kd z)
theorem step1_rd (hk : kind P o = 0) {v : Value} (hr : rd P h t o = some v) : step1 P cf yf o t h = some (v, h) := by simp only [step1, hk, hr]
theorem ef_of0 {v : Value} {h1 : H} (h0 : ef0 P cf yf t o h = some (v, h1)) : ef P cf yf t o h = some (v, h1) := by simp only [ef, h0]
theorem rd_of0 (hq : quick P h.g t o = none) {v : Value} (hr : rd0 P h t o = some v) : rd P h t o = some v := by simp only [rd, hq, hr]
theorem rd_ofq {v : Value} (hq : quick P h.g t o = some v) : rd P h t o = some v := by simp only [rd, hq]
/-- One operation. -/
theorem exO_ok (hv : exOS P cf yf o t h k (comp1 P o) = .ok x t' D' h') : ∃ v h1, step1 P cf yf o t h = some (v, h1) ∧ k v h1 = .ok x t' D' h' := by
  unfold exOS at hv
  generalize hd : exS P cf yf o t h k = d at hv
  have hS : d = .ok x t' D' h' → ∃ v h1, step1 P cf yf o t h = some (v, h1) ∧ k v h1 = .ok x t' D' h' := fun q => exS_ok (hd.trans q)
  unfold comp1 at hv
  split at hv
  · rename_i y ho
    split at hv
    · rename_i z hz
      change vJ (fev z t) d (fun v => k v h) = _ at hv
      rw [vJ_eq] at hv
      cases hj : isJ (fev z t) with
      | true => rw [hj] at hv; exact hS hv
      | false =>
        rw [hj] at hv
        exact ⟨fev z t, h, step1_rd (by simp only [kind, ho]) (rd_of0 (by simp only [quick, ho]) (by simp only [rd0, ho]; exact fo_ok hz hj _)), hv⟩
    · exact hS hv
  · rename_i y ho
    split at hv
    · rename_i z hz
      change vJ (fev z t) d (fun v => k v h) = _ at hv
      rw [vJ_eq] at hv
      cases hj : isJ (fev z t) with
      | true => rw [hj] at hv; exact hS hv
      | false =>
        rw [hj] at hv
        exact ⟨fev z t, h, step1_rd (by simp only [kind, ho]) (rd_of0 (by simp only [quick, ho]) (by simp only [rd0, ho]; exact fo_ok hz hj _)), hv⟩
    · exact hS hv
  · rename_i c a b ho
    split at hv
    · rename_i c' a' b' hc ha hb
      change vBool (fev c' t) d (fun q => vJ (ifF q (fev a' t) (fev b' t)) d fun v => k v h) = _ at hv
      rw [vBool_eq] at hv
      split at hv
      · rename_i q hq
        rw [vJ_eq] at hv
        cases hj : isJ (ifF q (fev a' t) (fev b' t)) with
        | true => rw [hj] at hv; exact hS hv
        | false =>
        rw [hj] at hv
        refine ⟨_, h, step1_rd (by simp only [kind, ho]) (rd_of0 (by simp only [quick, ho]) ?_), hv⟩
        rw [ifF_eq] at hj
        simp only [rd0, ho, fo_ok hc (by rw [hq]; rfl), hq, ifF_eq]
        cases q
        · exact fo_ok hb hj _
        · exact fo_ok ha hj _
      · exact hS hv
    · exact hS hv
  · rename_i ty y ho
    split at hv
    · rename_i z hz hg
      change vPtr (fev z t) d (fun a => adF a d fun b f => blkF (h.t.get (Nat.succ b)) d fun n c e _ => ifF (Nat.blt f n) (oF (cgF c e f) d fun v => k v h) d) = _ at hv
      simp only [vPtr_eq, adF_eq, blkF_eq, ifF_eq, oF_eq, cgF_eq] at hv
      split at hv
      · rename_i A hA
        split at hv
        · rename_i b f
          split at hv
          · rename_i n c e s hb
            cases hlt : Nat.blt f n with
            | false => rw [hlt] at hv; exact hS hv
            | true =>
              rw [hlt] at hv
              simp only [cond_true] at hv
              split at hv
              · rename_i v hcg
                refine ⟨v, h, step1_rd (by simp only [kind, ho]) (rd_of0 (by simp only [quick, ho]) ?_), hv⟩
                have hb' : h.get b = some (.cells n c e s) := hb
                simp only [rd0, ho, fo_ok hz (by rw [hA]; rfl), hA, ldv, hb', hg, hlt, cond_true, hcg]
              · exact hS hv
          · exact hS hv
        · exact hS hv
      · exact hS hv
    · rename_i z hz hg
      split at hv
      · rename_i i hi
        change vPtr (fev z t) d (fun a => adF a d fun b f => blkF (h.t.get (Nat.succ b)) d fun n c e _ => ifF (Nat.ble (Nat.add f i.size) n) (oF (ldNF c e i.size f) d fun l => k (.agg ⟨l⟩) h) d) = _ at hv
        simp only [vPtr_eq, adF_eq, blkF_eq, ifF_eq, oF_eq, ldNF_eq] at hv
        split at hv
        · rename_i A hA
          split at hv
          · rename_i b f
            split at hv
            · rename_i n c e s hb
              cases hlt : Nat.ble (Nat.add f i.size) n with
              | false => rw [hlt] at hv; exact hS hv
              | true =>
                rw [hlt] at hv
                simp only [cond_true] at hv
                split at hv
                · rename_i l hl
                  refine ⟨_, h, step1_rd (by simp only [kind, ho]) (rd_of0 (by simp only [quick, ho]) ?_), hv⟩
                  have hb' : h.get b = some (.cells n c e s) := hb
                  have hlt' : Nat.ble (f + i.size) n = true := hlt
                  simp only [rd0, ho, fo_ok hz (by rw [hA]; rfl), hA, ldv, hb', hg, hi, hlt', cond_true, hl]
                · exact hS hv
            · exact hS hv
          · exact hS hv
        · exact hS hv
      · exact hS hv
    · exact hS hv
  · rename_i ty y z ho
    split at hv
    · rename_i y' z' i hy hz hi
      cases h1 : Nat.beq i.size 1 with
      | false => rw [h1] at hv; exact hS hv
      | true =>
        rw [h1] at hv
        change vPtr (fev y' t) d (fun a => adF a d fun b f => blkF (h.t.get (Nat.succ b)) d fun n c e s =>
          ifF (Nat.ble h.lo b) (ifF (Nat.blt f n) (ifF (oneF (fev z' t)) (ifF (wrt s b) (k undef ⟨h.t.set (.cells n (c.set (fev z' t) (Nat.succ f)) e s) (Nat.succ b), h.k, h.lo, h.g⟩) d) d) d) d) = _ at hv
        simp only [vPtr_eq, adF_eq, blkF_eq, ifF_eq, oneF_eq] at hv
        split at hv
        · rename_i A hA
          split at hv
          · rename_i b f
            split at hv
            · rename_i n c e s hb
              cases hlo : Nat.ble h.lo b with
              | false => rw [hlo] at hv; exact hS hv
              | true =>
                rw [hlo] at hv
                simp only [cond_true] at hv
                cases hlt : Nat.blt f n with
                | false => rw [hlt] at hv; exact hS hv
                | true =>
                  rw [hlt] at hv
                  simp only [cond_true] at hv
                  cases hone2 : (one (fev z' t) && !isJ (fev z' t)) with
                  | false => rw [hone2] at hv; exact hS hv
                  | true =>
                    rw [hone2] at hv
                    simp only [cond_true] at hv
                    simp only [Bool.and_eq_true, Bool.not_eq_true'] at hone2
                    obtain ⟨hone, hnj⟩ := hone2
                    cases hwr : wrt s b with
                    | false => rw [hwr] at hv; exact hS hv
                    | true =>
                    rw [hwr] at hv
                    simp only [cond_true] at hv
                    refine ⟨undef, _, ?_, hv⟩
                    have hb' : h.get b = some (.cells n c e s) := hb
                    have hcells : (fev z' t).cells.toList = [fev z' t] := by
                      generalize fev z' t = u at hone
                      cases u <;> first | rfl | (simp [one] at hone)
                    have hle : Nat.ble (f + 1) n = true := hlt
                    have h1' := Nat.eq_of_beq_eq_true h1
                    simp only [step1, kind, ho]
                    refine ef_of0 ?_
                    simp only [ef0, ho, fo_ok hy (by rw [hA]; rfl), fo_ok hz hnj, hi, hA, hcells, List.length_singleton, h1', putC, hlo, List.all_cons, List.all_nil, hone, hwr, Bool.and_true, cond_true, hb', hle, stN, H.set]
                    rfl
            · exact hS hv
          · exact hS hv
        · exact hS hv
    · exact hS hv
  · rename_i s y f ho
    split at hv
    · rename_i fs hu
      split at hv
      · rename_i fd hf
        split at hv
        · rename_i i z hi hz
          cases h0 : Nat.beq i.size 0 with
          | true => rw [h0] at hv; exact hS hv
          | false =>
            rw [h0] at hv
            change vPtr (fev z t) d (fun a => adF a d fun b f => nowN (Nat.add f fd.offset) fun f => k (.pointer (some ⟨b, f, none⟩)) h) = _ at hv
            simp only [vPtr_eq, adF_eq, nowN_eq] at hv
            split at hv
            · rename_i A hA
              split at hv
              · rename_i b f'
                refine ⟨_, h, step1_rd (by simp only [kind, ho]) (rd_of0 (by simp only [quick, ho]) ?_), hv⟩
                simp only [rd0, ho, hu, hf, hi, h0, cond_false, fo_ok hz (by rw [hA]; rfl), hA]
                rfl
              · exact hS hv
            · exact hS hv
        · exact hS hv
      · exact hS hv
    · exact hS hv
  · rename_i ty y ix ho
    split at hv
    · rename_i e hu
      split at hv
      · rename_i ti z zi hi hz hzi
        change vInt (fev zi t) d (fun _ i => Int.rec (motive := fun _ => R) (fun i => vSl (fev z t) d fun a l _ => adF a d fun b f => ifF (Nat.blt i l) (nowN (Nat.add f (Nat.mul i ti.size)) fun f => k (.pointer (some ⟨b, f, none⟩)) h) d) (fun _ => d) i) = _ at hv
        simp only [vInt_eq, intF_eq, vSl_eq, adF_eq, ifF_eq, nowN_eq] at hv
        split at hv
        · rename_i kd i hI
          split at hv
          · rename_i i
            split at hv
            · rename_i A l c hA
              split at hv
              · rename_i b f
                cases hlt : Nat.blt i l with
                | false => rw [hlt] at hv; exact hS hv
                | true =>
                  rw [hlt] at hv
                  simp only [cond_true] at hv
                  refine ⟨_, h, step1_rd (by simp only [kind, ho]) (rd_of0 (by simp only [quick, ho]) ?_), hv⟩
                  simp only [rd0, ho, hu, hi, fo_ok hz (by rw [hA]; rfl), hA, fo_ok hzi (by rw [hI]; rfl), hI, hlt, cond_true]
                  rfl
              · exact hS hv
            · exact hS hv
          · exact hS hv
        · exact hS hv
      · exact hS hv
    · exact hS hv
  · rename_i y i ho
    split at hv
    · rename_i z hz
      change vTup (fev z t) d (fun a => oF (nthL a.toList i) d fun v => k v h) = _ at hv
      simp only [vTup_eq, oF_eq, nthL_eq] at hv
      split at hv
      · rename_i A hA
        split at hv
        · rename_i v hvv
          refine ⟨v, h, step1_rd (by simp only [kind, ho]) (rd_of0 (by simp only [quick, ho]) ?_), hv⟩
          obtain ⟨A⟩ := A
          simp only [rd0, ho, fo_ok hz (by rw [hA]; rfl), hA]
          exact hvv
        · exact hS hv
      · exact hS hv
    · exact hS hv
  · rename_i y ho
    split at hv
    · rename_i z hz
      change vPtr (fev z t) d (fun a => oF a d fun _ => k (fev z t) h) = _ at hv
      simp only [vPtr_eq, oF_eq] at hv
      split at hv
      · rename_i A hA
        split at hv
        · rename_i a
          refine ⟨_, h, step1_rd (by simp only [kind, ho]) (rd_of0 (by simp only [quick, ho]) ?_), hv⟩
          simp only [rd0, ho, fo_ok hz (by rw [hA]; rfl), hA]
        · exact hS hv
      · exact hS hv
    · exact hS hv
  · rename_i op ty y z ty' ho
    split at hv
    · rename_i b y' z' hb hy hz
      change vInt (fev y' t) (vStr (fev y' t) d fun s => vStr (fev z' t) d fun u => oF (strV b s u) d fun v => k v h) (fun k1 x => vInt (fev z' t) d fun k2 y => ifF (Nat.beq (kindF k1) (kindF k2)) (binF b k1 x y fun v => k v h) d) = _ at hv
      simp only [vInt_eq, vStr_eq, oF_eq, ifF_eq, binF_eq] at hv
      split at hv
      · rename_i k1 m hm
        split at hv
        · rename_i k2 m' hm'
          cases hk : Nat.beq (kindF k1) (kindF k2) with
          | false => rw [hk] at hv; exact hS hv
          | true =>
            rw [hk] at hv
            refine ⟨_, h, step1_rd (by simp only [kind, ho]) (rd_ofq ?_), hv⟩
            simp only [quick, ho, hb, fo_ok hy (by rw [hm]; rfl), fo_ok hz (by rw [hm']; rfl), hm, hm', hk, cond_true]
        · exact hS hv
      · split at hv
        · rename_i s hs
          split at hv
          · rename_i u hu
            split at hv
            · rename_i v hvv
              refine ⟨_, h, step1_rd (by simp only [kind, ho]) (rd_ofq ?_), hv⟩
              simp only [quick, ho, hb, fo_ok hy (by rw [hs]; rfl), fo_ok hz (by rw [hu]; rfl), hs, hu, hvv]
            · exact hS hv
          · exact hS hv
        · exact hS hv
    · exact hS hv
  · rename_i s dd y ho
    split at hv
    · rename_i k1 kd z hs hdd hz
      change vInt (fev z t) d (fun _ n => nowI (wrapF kd n) fun z => k (.int kd z) h) = _ at hv
      simp only [vInt_eq, nowI_eq] at hv
      split at hv
      · rename_i k2 m hm
        have hs' : und P s = some (.int k1) := hs
        have hd' : und P dd = some (.int kd) := hdd
        refine ⟨_, h, step1_rd ?_ (rd_ofq ?_), hv⟩
        · simp only [kind, ho, hd']
        · simp only [quick, ho, fo_ok hz (by rw [hm]; rfl), hm, hs', hd']
      · exact hS hv
    · exact hS hv
  · rename_i args tys ho
    split at hv
    · rename_i ty y ht hy0
      split at hv
      · rename_i e z hu hz
        change vSl (fev z t) d (fun _ l _ => k (.int .i64 (.ofNat l)) h) = _ at hv
        rw [vSl_eq] at hv
        split at hv
        · rename_i A l c hA
          refine ⟨_, h, step1_rd (by simp only [kind, ho]) (rd_of0 ?_ ?_), hv⟩
          · simp only [quick, ho, ht, hy0, fo_ok hz (by rw [hA]; rfl), hA]
          · simp only [rd0, ho, ht, hy0, fo_ok hz (by rw [hA]; rfl), hA, hu]
            rfl
        · exact hS hv
      · rename_i z hu hz
        change vStr (fev z t) d (fun s => nowN (lenL s.data.toList) fun l => k (.int .i64 (.ofNat l)) h) = _ at hv
        simp only [vStr_eq, nowN_eq] at hv
        split at hv
        · rename_i s hs
          refine ⟨_, h, step1_rd (by simp only [kind, ho]) (rd_ofq ?_), hv⟩
          simp only [quick, ho, ht, hy0, fo_ok hz (by rw [hs]; rfl), hs, hu]
          rfl
        · exact hS hv
      · exact hS hv
    · exact hS hv
  · rename_i ty y ix ho
    split at hv
    · rename_i z zi hu hz hzi
      change vStr (fev z t) d (fun s => vInt (fev zi t) d fun _ i => Int.rec (motive := fun _ => R) (fun i => oF (nthL s.data.toList i) d fun b => nowN b.toNat fun n => k (.int .u8 (.ofNat n)) h) (fun _ => d) i) = _ at hv
      simp only [vStr_eq, vInt_eq, intF_eq, oF_eq, nowN_eq] at hv
      split at hv
      · rename_i s hs
        split at hv
        · rename_i kd i hI
          split at hv
          · rename_i i
            split at hv
            · rename_i b hb
              refine ⟨_, h, step1_rd (by simp only [kind, ho]) (rd_ofq ?_), hv⟩
              simp only [quick, ho, fo_ok hz (by rw [hs]; rfl), hs, fo_ok hzi (by rw [hI]; rfl), hI, hu, hb]
              rfl
            · exact hS hv
          · exact hS hv
        · exact hS hv
      · exact hS hv
    · exact hS hv
  · rename_i ty y ho
    split at hv
    · rename_i z hz
      change vBool (fev z t) d (fun q => nowB q fun q => k (.bool (!q)) h) = _ at hv
      simp only [vBool_eq, nowB_eq] at hv
      split at hv
      · rename_i q hq
        refine ⟨_, h, step1_rd (by simp only [kind, ho]) (rd_ofq ?_), hv⟩
        simp only [quick, ho, fo_ok hz (by rw [hq]; rfl), hq]
      · exact hS hv
    · exact hS hv
  · rename_i g args tys ho
    split at hv
    · rename_i l hl
      change evF l t d (fun vs => oF (cf g vs h) (ifF (bare P g) d .bad) (fun p => Prod.rec (motive := fun _ => R) (fun v h' => nowH h' fun h' => k v h') p)) = _ at hv
      rcases evF_ok (g := h.g) hl hv with hv | ⟨vs, hvs, hv⟩
      · exact hS hv
      rw [oF_eq] at hv
      split at hv
      · rename_i p hp
        obtain ⟨v, h1⟩ := p
        refine ⟨v, h1, ?_, ?_⟩
        · simp only [step1, kind, ho]
          refine ef_of0 ?_
          simp only [ef0, ho, evO, hvs]
          simpa using hp
        · rw [← nowH_eq h1 fun h1 => k v h1]
          exact hv
      · cases hb : bare P g with
        | true => rw [hb] at hv; exact hS hv
        | false => rw [hb] at hv; cases hv
    · exact hS hv
  · exact hS hv
end Ev
end Go.Proofs.YtilnneogbpnkkaaGreatDoor
