/- What our own machine's operations look at. -/
import Derived.Test.YtmgiplaclgnooaaGreatDoorEvZL
import Derived.Orders
set_option maxRecDepth 10000
namespace Go.Proofs.YtmgiplaclgnooaaGreatDoor
namespace Ev
noncomputable section
variable {P : Program} {h : H} {t t' : T Value} {o : Oper} {g : Nat}
theorem evO_same {x : Operand} (e : evT t x = evT t' x) : evO g t x = evO g t' x := by
  cases x with
  | tmp i => simpa [evO, evT] using e
  | _ => rfl
theorem evL_same : ∀ {l : List Operand}, (∀ x ∈ l, evT t x = evT t' x) → evL g t l = evL g t' l
  | [], _ => rfl
  | x :: l, hs => by
    simp only [evL]
    rw [evO_same (hs x (by simp)), evL_same fun y hy => hs y (by simp [hy])]
theorem allPlain_same : ∀ {l : List Operand}, (∀ x ∈ l, evT t x = evT t' x) → allPlain t l = allPlain t' l
  | [], _ => rfl
  | x :: l, hs => by
    simp only [allPlain]
    rw [hs x (by simp), allPlain_same fun y hy => hs y (by simp [hy])]
theorem nat?_same {d : Nat} {x : Option Operand} (hs : ∀ y, x = some y → evT t y = evT t' y) : nat? g t d x = nat? g t' d x := by
  cases x with
  | none => rfl
  | some y => simp only [nat?]; rw [evO_same (hs y rfl)]
theorem gen_same (hsel : ∀ cs b, o.op ≠ .select cs b) (hs : ∀ x ∈ o.op.operands, evT t x = evT t' x) : gen P t o = gen P t' o := by
  unfold gen
  rw [allPlain_same fun x hx => hs x (by simpa using hx), execOp_congr o hsel hs]
theorem rd0_same (hs : ∀ x ∈ o.op.operands, evT t x = evT t' x) : rd0 P h t o = rd0 P h t' o := by
  by_cases hsel : ∀ cs b, o.op ≠ .select cs b
  · have hg : gen P t o = gen P t' o := gen_same hsel hs
    obtain ⟨dst, op, type, pos, after, guard⟩ := o
    cases op <;> simp only [Op.operands] at hs
    case move x => simp only [rd0]; rw [evO_same (hs x (by simp))]
    case assign x => simp only [rd0]; rw [evO_same (hs x (by simp))]
    case pick c a b =>
      simp only [rd0]
      rw [evO_same (hs c (by simp))]
      have e1 : evO h.g t a = evO h.g t' a := evO_same (hs a (by simp))
      have e2 : evO h.g t b = evO h.g t' b := evO_same (hs b (by simp))
      split
      · rename_i q _
        cases q
        · exact e2
        · exact e1
      · rfl
    case extract x i => simp only [rd0]; rw [evO_same (hs x (by simp))]
    case load ty x => simp only [rd0]; rw [evO_same (hs x (by simp))]
    case fieldAddr s x f => simp only [rd0]; rw [evO_same (hs x (by simp))]
    case indexAddr ty x ix => simp only [rd0]; rw [evO_same (hs x (by simp)), evO_same (hs ix (by simp))]
    case field ty x f => simp only [rd0]; rw [evO_same (hs x (by simp))]
    case index ty x ix => simp only [rd0]; rw [evO_same (hs x (by simp)), evO_same (hs ix (by simp)), hg]
    case nilCheck x => simp only [rd0]; rw [evO_same (hs x (by simp))]
    case binOp op ty x y z => simp only [rd0]; rw [evO_same (hs x (by simp)), evO_same (hs y (by simp)), hg]
    case makeFunc fn first cap =>
      cases fn with
      | func f => simp only [rd0]; rw [evL_same fun x hx => hs x (by simp at hx; simp [hx]), evL_same fun x hx => hs x (by simp at hx; simp [hx])]
      | _ => simp only [rd0]; rw [hg]
    case slice ty x lo hi mx =>
      cases mx with
      | none =>
        simp only [rd0]
        have e1 : ∀ d, nat? h.g t d lo = nat? h.g t' d lo := fun d => nat?_same fun y hy => hs y (by subst hy; simp)
        have e2 : ∀ d, nat? h.g t d hi = nat? h.g t' d hi := fun d => nat?_same fun y hy => hs y (by subst hy; simp)
        simp only [evO_same (hs x (by simp)), e1, e2, hg]
      | some m => simp only [rd0]; rw [hg]
    case lookup ty x k ok => simp only [rd0]; rw [evO_same (hs x (by simp)), evO_same (hs k (by simp))]
    case call c =>
      obtain ⟨callee, args, argTypes⟩ := c
      cases callee with
      | builtin b =>
        cases b <;> first
          | (simp only [rd0]; exact hg)
          | (simp only [rd0]
             split
             · rename_i ty x _ hx
               have hm := Array.mem_of_getElem? hx
               rw [evO_same (hs x (by simpa [Call.operands] using hm)), hg]
             · rfl)
      | _ => simp only [rd0]; exact hg
    case makeInterface ty x => simp only [rd0]; rw [evO_same (hs x (by simp))]
    case convert s d x => simp only [rd0]; rw [evO_same (hs x (by simp)), hg]
    case build ty parts => simp only [rd0]; rw [evL_same fun x hx => hs x (by simpa using hx)]
    all_goals (simp only [rd0]; try first | rfl | exact hg)
  · obtain ⟨dst, op, type, pos, after, guard⟩ := o
    cases op <;> first | rfl | exact absurd (by simp) hsel
theorem quick_same {g : Nat} (hs : ∀ x ∈ o.op.operands, evT t x = evT t' x) : quick P g t o = quick P g t' o := by
  obtain ⟨dst, op, type, pos, after, guard⟩ := o
  cases op <;> simp only [Op.operands] at hs
  case binOp op ty x y z => simp only [quick]; rw [evO_same (hs x (by simp)), evO_same (hs y (by simp))]
  case convert s d x => simp only [quick]; rw [evO_same (hs x (by simp))]
  case index ty x ix => simp only [quick]; rw [evO_same (hs x (by simp)), evO_same (hs ix (by simp))]
  case slice ty x lo hi mx =>
    cases mx with
    | none =>
      simp only [quick]
      have e1 : ∀ d, nat? g t d lo = nat? g t' d lo := fun d => nat?_same fun y hy => hs y (by subst hy; simp)
      have e2 : ∀ d, nat? g t d hi = nat? g t' d hi := fun d => nat?_same fun y hy => hs y (by subst hy; simp)
      simp only [evO_same (hs x (by simp)), e1, e2]
    | some m => rfl
  case unOp op ty x => cases op <;> first | rfl | (simp only [quick]; rw [evO_same (hs x (by simp))])
  case call c =>
    obtain ⟨callee, args, argTypes⟩ := c
    cases callee with
    | builtin b =>
      cases b <;> first
        | rfl
        | (simp only [quick]
           split
           · rename_i ty x _ hx
             have hm := Array.mem_of_getElem? hx
             rw [evO_same (hs x (by simpa [Call.operands] using hm))]
           · rfl)
    | _ => rfl
  all_goals rfl
theorem rd_same (hs : ∀ x ∈ o.op.operands, evT t x = evT t' x) : rd P h t o = rd P h t' o := by
  unfold rd
  rw [quick_same hs, rd0_same hs]
theorem al_same (hs : ∀ x ∈ o.op.operands, evT t x = evT t' x) : al P h t o = al P h t' o := by
  obtain ⟨dst, op, type, pos, after, guard⟩ := o
  cases op <;> simp only [Op.operands] at hs
  case box e x => simp only [al]; rw [evO_same (hs x (by simp))]
  case buildSlice ty len parts => simp only [al]; rw [evL_same fun x hx => hs x (by simpa using hx)]
  case makeSlice ty l c => simp only [al]; rw [evO_same (hs l (by simp)), evO_same (hs c (by simp))]
  case convert s d x => simp only [al]; rw [evO_same (hs x (by simp))]
  case range ty x => simp only [al]; rw [evO_same (hs x (by simp))]
  case makeMap ty x => cases x <;> rfl
  all_goals rfl
theorem ef_same {cf yf : CallF} (hs : ∀ x ∈ o.op.operands, evT t x = evT t' x) : ef P cf yf t o h = ef P cf yf t' o h := by
  obtain ⟨dst, op, type, pos, after, guard⟩ := o
  cases op <;> simp only [Op.operands] at hs
  case store ty x v => simp only [ef]; rw [evO_same (hs x (by simp)), evO_same (hs v (by simp))]
  case mapUpdate ty m k v => simp only [ef]; rw [evO_same (hs m (by simp)), evO_same (hs v (by simp)), evO_same (hs k (by simp))]
  case insert ty m k v => simp only [ef]; rw [evO_same (hs m (by simp)), evO_same (hs v (by simp)), evO_same (hs k (by simp))]
  case next it q => cases q <;> (simp only [ef]; rw [evO_same (hs it (by simp))])
  case range ty x => simp only [ef]; rw [evO_same (hs x (by simp))]
  case call c =>
    obtain ⟨callee, args, argTypes⟩ := c
    have hargs : evL h.g t args.toList = evL h.g t' args.toList := evL_same fun x hx => hs x (by cases callee <;> simp [Call.operands] <;> first | exact .inr (by simpa using hx) | simpa using hx)
    cases callee with
    | builtin b => cases b <;> first | rfl | (simp only [ef]; rw [hargs])
    | value f => simp only [ef]; rw [hargs, evO_same (hs f (by simp [Call.operands]))]
    | _ => rfl
  all_goals rfl
theorem evO_tmp (x : Operand) (hx : ∀ d, x = .tmp d → t.get (d + 1) = t'.get (d + 1)) : evT t x = evT t' x := by
  cases x with
  | tmp d => simp only [evT]; rw [hx d rfl]
  | _ => rfl
/-- Temporaries that are the same where an operation looks. -/
def Agree (all : List Oper) (o : Oper) (t t' : T Value) : Prop := ∀ d ∈ looks all o, t.get (d + 1) = t'.get (d + 1)
theorem Agree.op {all : List Oper} (ha : Agree all o t t') : ∀ x ∈ o.op.operands, evT t x = evT t' x := fun x hx =>
  evO_tmp x fun d hd => ha d (by subst hd; exact List.mem_append_left _ (List.mem_filterMap.2 ⟨.tmp d, by simpa using hx, rfl⟩))
theorem Agree.wants {all : List Oper} (ha : Agree all o t t') : wants all t o = wants all t' o := by
  unfold Ev.wants
  cases hg : o.guard with
  | none => rfl
  | some p =>
    obtain ⟨j, want⟩ := p
    simp only []
    cases hj : all[j]? with
    | none => rfl
    | some oj =>
      simp only []
      cases hd : oj.dst with
      | none => rfl
      | some d =>
        simp only []
        rw [ha d (by simp [looks, hg, hj, hd])]
/-- What looks at no memory is the same at any. -/
theorem rd0_mem {h' : H} (hg : h'.g = h.g) (hm : looksMem o = false) : rd0 P h' t o = rd0 P h t o := by
  obtain ⟨dst, op, type, pos, after, guard⟩ := o
  cases op <;> first
    | (simp [looksMem] at hm; done)
    | rfl
    | (simp only [rd0]; rw [hg])
    | skip
  case makeFunc fn first cap => cases fn <;> first | rfl | (simp only [rd0]; rw [hg])
theorem rd_mem {h' : H} (hg : h'.g = h.g) (hm : looksMem o = false) : rd P h' t o = rd P h t o := by
  unfold rd
  rw [hg, rd0_mem hg hm]
theorem al_mem {h' : H} (hg : h'.g = h.g) : al P h' t o = al P h t o := by
  obtain ⟨dst, op, type, pos, after, guard⟩ := o
  cases op <;> first
    | rfl
    | (simp only [al]; rw [hg])
    | skip
end
end Ev
end Go.Proofs.YtmgiplaclgnooaaGreatDoor
