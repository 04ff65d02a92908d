/- Our own machine's walks over maps, and deletes. -/
import Derived.Test.YtmgiplaclgnooaaGreatDoorEvZC
set_option maxRecDepth 10000
namespace Go.Proofs.YtmgiplaclgnooaaGreatDoor
namespace Ev
variable {P : Program} {r : Ren} {h : H} {w : World} {n : Nat} {t : T Value} {a : Act} {o : Oper}
theorem ef_rangeN (hr : HR r h w) (ha : AR r h n t a) {ty kt et : TypeId} {x : Operand} (ho : o.op = .range ty x) (hu : P.underlying ty = some (.map kt et)) (hx : evO h.g t x = some (.map none)) :
    StOk P r h w o a (.pointer (some ⟨2 * h.k, 0, none⟩)) { (h.set (2 * h.k) (.mit none 0 [] 0)) with k := h.k + 1 } := by
  have h1 := evO_ok hr ha hx
  generalize hq : a.eval x = z at h1
  cases h1
  have hs := new_other (b := .mit none 0 [] 0) (ob := .mapIter none 0 #[] 0) hr ⟨rfl, none, rfl, by simp⟩
  refine ⟨_, _, _, hs, .ptr (put_self _ _ _), .inl ?_⟩
  simp [execOp, ho, hq, Instr.range, run_underlying hu]
theorem ef_rangeM (hr : HR r h w) (ha : AR r h n t a) {ty kt et : TypeId} {x : Operand} (ho : o.op = .range ty x) (hu : P.underlying ty = some (.map kt et)) {m : Nat} (hx : evO h.g t x = some (.map (some m))) {es : List MapEntry} {clock : Nat} (hm : h.get m = some (.map es clock)) :
    StOk P r h w o a (.pointer (some ⟨2 * h.k, 0, none⟩)) { (h.set (2 * h.k) (.mit (some m) clock [] clock)) with k := h.k + 1 } := by
  have h1 := evO_ok hr ha hx
  generalize hq : a.eval x = z at h1
  cases h1 with
  | map he =>
    rename_i e
    obtain ⟨e', p1, hlt, es', p2, p3⟩ := hr.blk m _ hm
    rw [he] at p1; cases p1
    have hs := new_other (b := .mit (some m) clock [] clock) (ob := .mapIter (some e.blk) clock #[] clock) hr ⟨rfl, _, ⟨e, Ren.put_ext (hr.new _ (Nat.le_refl _)) _ _ he, rfl⟩, by simp⟩
    refine ⟨_, _, _, hs, .ptr (put_self _ _ _), .inl ?_⟩
    simp [execOp, ho, hq, Instr.range, run_underlying hu, getObj, Sem.run, p2]
theorem ef_nextN (hr : HR r h w) (ha : AR r h n t a) {it : Operand} (ho : o.op = .next it false) {b : Nat} (hx : evO h.g t it = some (.pointer (some ⟨b, 0, none⟩))) {since last : Nat} {seen : List Nat} (hb : h.get b = some (.mit none since seen last)) :
    StOk P r h w o a (.tuple #[.bool false]) h := by
  have h1 := evO_ok hr ha hx
  generalize hq : a.eval it = z at h1
  cases h1 with
  | ptr he =>
    rename_i e
    obtain ⟨e', p1, hlt, p2, m', p3, p4⟩ := hr.blk b _ hb
    rw [he] at p1; cases p1
    simp only at p3
    subst p3
    refine ⟨r, _, w, Step.refl hr, VR.of_plain r _ rfl, .inl ?_⟩
    simp [execOp, ho, hq, Instr.next, getObj, Sem.run, p2, p4]
theorem ER.filter (p : Nat → Bool) {es es' : List MapEntry} (he : ER r es es') : ER r (es.filter fun e => p e.born) (es'.filter fun e => p e.born) := by
  induction he with
  | nil => exact .nil
  | cons g1 g2 g3 g4 _ ih =>
    rw [List.filter_cons, List.filter_cons, g3]
    split
    · exact .cons g1 g2 g3 g4 ih
    · exact ih
theorem ER.all (p : Nat → Bool) {es es' : List MapEntry} (he : ER r es es') : es'.all (fun e => p e.born) = es.all fun e => p e.born := by
  induction he with
  | nil => rfl
  | cons _ _ g3 _ _ ih => simp [g3, ih]
theorem ER.empty {es es' : List MapEntry} (he : ER r es es') : es'.isEmpty = es.isEmpty := by cases he <;> rfl
theorem run_nextM {ty : TypeId} {c m since last clock : Nat} {seen : List Nat} {es' : Array MapEntry} (hgi : w.heap[c]? = some (.mapIter (some m) since seen.toArray last)) (hg : w.heap[m]? = some (.map es' clock))
    (hcond : ((!seen.toArray.isEmpty && !es'.isEmpty) && es'.all fun x => decide (x.born ≥ last)) = false) {left : Array MapEntry} (hleft : (es'.filter fun x => !(seen.toArray.contains x.born)) = left) :
    (left = #[] → (Instr.next (.pointer (some ⟨c, 0, none⟩)) false ty).run P w = .ok (.tuple #[.bool false]) w) ∧
    (∀ y, left = #[y] → y.born < since → (Instr.next (.pointer (some ⟨c, 0, none⟩)) false ty).run P w = .ok (.tuple #[.bool true, y.key, y.val]) { w with heap := w.heap.setIfInBounds c (.mapIter (some m) since (seen.toArray.push y.born) clock) }) := by
  have h1 : (getObj c).run P w = .ok (.mapIter (some m) since seen.toArray last) w := by simp [getObj, Sem.run, hgi]
  have h2 : (getObj m).run P w = .ok (.map es' clock) w := by simp [getObj, Sem.run, hg]
  constructor
  · intro hl
    rw [hl] at hleft
    unfold Instr.next
    simp only [Sem.run_bind, h1, h2, Result.andThen, hcond, hleft, Bool.false_eq_true, if_false, Sem.run_pure]
    simp [choose, Sem.run, Question.forced, Question.cut, Nat.mod_one, Result.andThen]
  · intro y hl hs
    rw [hl] at hleft
    have hs' : ¬ since ≤ y.born := by omega
    unfold Instr.next
    simp only [Sem.run_bind, h1, h2, Result.andThen, hcond, hleft, Bool.false_eq_true, if_false, Sem.run_pure]
    simp [hs, hs', choose, setObj, hgi, Sem.run, Question.forced, Question.cut, Nat.mod_one, Result.andThen]
theorem ef_nextM (hr : HR r h w) (ha : AR r h n t a) {it : Operand} (ho : o.op = .next it false) {b : Nat} (hx : evO h.g t it = some (.pointer (some ⟨b, 0, none⟩))) {m since last : Nat} {seen : List Nat} (hb : h.get b = some (.mit (some m) since seen last))
    {es : List MapEntry} {clock : Nat} (hm : h.get m = some (.map es clock)) (hlo : h.lo ≤ b) (hc : (seen.isEmpty || es.isEmpty || !(es.all fun e => Nat.ble last e.born)) = true) :
    ((es.filter fun e => !(seen.contains e.born)) = [] → StOk P r h w o a (.tuple #[.bool false]) h) ∧
    (∀ e, (es.filter fun e => !(seen.contains e.born)) = [e] → e.born < since → StOk P r h w o a (.tuple #[.bool true, e.key, e.val]) (h.set b (.mit (some m) since (seen ++ [e.born]) clock))) := by
  have h1 := evO_ok hr ha hx
  generalize hq : a.eval it = z at h1
  cases h1 with
  | ptr he =>
    rename_i e
    obtain ⟨e', p1, hlt, p2, m', p3, p4⟩ := hr.blk b _ hb
    rw [he] at p1; cases p1
    obtain ⟨f, f1, rfl⟩ := p3
    obtain ⟨f', q1, _, es', q2, q3⟩ := hr.blk m _ hm
    rw [f1] at q1; cases q1
    have hg : (getObj f.blk).run P w = .ok (.map es' clock) w := by simp [getObj, Sem.run, q2]
    have hgi : (getObj e.blk).run P w = .ok (.mapIter (some f.blk) since seen.toArray last) w := by simp [getObj, Sem.run, p4]
    have hfl := q3.filter (fun x => !(seen.contains x))
    have hcond : ((!seen.toArray.isEmpty && !es'.isEmpty) && es'.all fun x => decide (x.born ≥ last)) = false := by
      have e1 : es'.isEmpty = es.isEmpty := by have := q3.empty; simpa using this
      have e2 : (es'.all fun x => decide (x.born ≥ last)) = es.all fun e => Nat.ble last e.born := by
        rw [← q3.all (fun x => Nat.ble last x), Array.all_toList]
        congr 1
        funext x
        rw [Bool.eq_iff_iff, decide_eq_true_iff]
        exact ⟨fun q => Nat.ble_eq_true_of_le q, fun q => Nat.le_of_ble_eq_true q⟩
      rw [e1, e2, List.isEmpty_toArray]
      cases hse : seen.isEmpty <;> cases hee : es.isEmpty <;> cases hal : (es.all fun e => Nat.ble last e.born) <;> simp_all
    have hleft : (es'.filter fun x => !(seen.toArray.contains x.born)) = (es'.toList.filter fun x => !(seen.contains x.born)).toArray := by
      rw [← Array.toList_inj, Array.toList_filter]
      congr 1
      funext x
      rw [List.contains_toArray]
    refine ⟨fun hl => ?_, fun en hl hs => ?_⟩
    · rw [hl] at hfl
      cases hq2 : (es'.toList.filter fun x => !(seen.contains x.born)) with
      | cons y l => rw [hq2] at hfl; cases hfl
      | nil =>
        refine ⟨r, _, w, Step.refl hr, VR.of_plain r _ rfl, .inl ?_⟩
        have := (run_nextM (P := P) (ty := o.type) p4 q2 hcond (hleft.trans (by rw [hq2]))).1 rfl
        simp [execOp, ho, hq, p2, this]
    · rw [hl] at hfl
      cases hq2 : (es'.toList.filter fun x => !(seen.contains x.born)) with
      | nil => rw [hq2] at hfl; cases hfl
      | cons y l =>
        rw [hq2] at hfl
        cases hfl with
        | cons g1 g2 g3 g4 g5 =>
          cases g5
          have hs2 : Step r h w r (h.set b (.mit (some m) since (seen ++ [en.born]) clock)) { w with heap := w.heap.setIfInBounds e.blk (.mapIter (some f.blk) since (seen.toArray.push y.born) clock) } :=
            HR.set_ hr hb he hlo (by simp) (fun k hk => by simp [Ne.symm hk]) rfl rfl rfl ⟨p2, _, ⟨f, f1, rfl⟩, by simp [hlt, g3]⟩
          refine ⟨r, _, _, hs2, .tuple (.cons (.bool _) (.cons (VR.of_plain r en.key g1) (.cons g4 .nil))), .inl ?_⟩
          have hs' : y.born < since := by rw [g3]; exact hs
          have := (run_nextM (P := P) (ty := o.type) p4 q2 hcond (hleft.trans (by rw [hq2]))).2 y rfl hs'
          simp [execOp, ho, hq, p2, this, g2]
theorem ER.erase {es es' : List MapEntry} (he : ER r es es') : ∀ i : Nat, ER r (es.eraseIdx i) (es'.eraseIdx i) := by
  induction he with
  | nil => intro i; exact .nil
  | cons g1 g2 g3 g4 g5 ih =>
    intro i
    cases i with
    | zero => exact g5
    | succ i => exact .cons g1 g2 g3 g4 (ih i)
theorem ef_delete (hr : HR r h w) (ha : AR r h n t a) {args : Array Operand} {tys : Array TypeId} (ho : o.op = .call { callee := .builtin .delete, args, argTypes := tys }) {ty : TypeId} {tl : List TypeId} (hty : tys.toList = ty :: tl) {mv kv : Value}
    (hx : evL h.g t args.toList = some [mv, kv]) {v : Value} {h' : H} (hp : mapDel P ty mv kv h = some (v, h')) : StOk P r h w o a v h' := by
  have h1 := evL_ok hr ha hx
  have hargs : args.map a.eval = (args.toList.map a.eval).toArray := by rw [← Array.toList_map, Array.toArray_toList]
  have htys : tys[0]? = some ty := by rw [← Array.getElem?_toList, hty]; rfl
  generalize hq : args.toList.map a.eval = L at h1
  cases h1 with
  | cons hm h1 =>
    cases h1 with
    | cons hk h1 =>
      cases h1
      rename_i m' k'
      rw [hq] at hargs
      unfold mapDel at hp
      simp only [inf_eq, und_eq] at hp
      split at hp
      · rename_i kt et b hu
        obtain ⟨hc, hp⟩ := bif_some hp
        simp only [Bool.and_eq_true] at hc
        have h2 := hk.plain hc.1
        subst h2
        have hlo := Nat.le_of_ble_eq_true hc.2
        split at hp
        · rename_i es clock hb
          cases hm with
          | map he =>
            rename_i e
            obtain ⟨e', p1, hlt, es', p2, p3⟩ := hr.blk b _ hb
            rw [he] at p1; cases p1
            have key : ∀ (es2 : List MapEntry) (es2' : Array MapEntry), ER r es2 es2'.toList →
                ((Builtin.delete_ tys o.type #[.map (some e.blk), k']).run P w = .ok undef { w with heap := w.heap.setIfInBounds e.blk (.map es2' clock) }) → StOk P r h w o a undef (h.set b (.map es2 clock)) := fun es2 es2' q1 q2 => by
              have hs : Step r h w r (h.set b (.map es2 clock)) { w with heap := w.heap.setIfInBounds e.blk (.map es2' clock) } :=
                HR.set_ hr hb he hlo (by simp) (fun k hk => by simp [Ne.symm hk]) rfl rfl rfl ⟨es2', by simp [hlt], q1⟩
              refine ⟨r, _, _, hs, VR.of_plain r _ rfl, .inl ?_⟩
              simp [execOp, ho, resolve, invoke, builtin, hargs, q2]
            have hg : (getObj e.blk).run P w = .ok (.map es' clock) w := by simp [getObj, Sem.run, p2]
            have hemp : es'.isEmpty = es.isEmpty := by have := p3.empty; simpa using this
            split at hp
            · rename_i u i y hck hka
              have hck := pureR_run _ hck
              obtain ⟨y', r1, r2⟩ := keyAt_ok p3 hka
              have hp := Option.some.inj hp
              rw [Prod.mk.injEq] at hp
              obtain ⟨rfl, rfl⟩ := hp
              cases r1 with
              | some hvy =>
                refine key _ (es'.eraseIdxIfInBounds i) (by rw [Array.toList_eraseIdxIfInBounds]; exact p3.erase i) ?_
                simp [Builtin.delete_, htys, Sem.run_bind, run_underlying hu, hg, hemp, hck w, r2 w, setObj, Sem.run, p2, undef]
            · rename_i u hck hka
              have hck := pureR_run _ hck
              obtain ⟨y', r1, r2⟩ := keyAt_ok p3 hka
              have hp := Option.some.inj hp
              rw [Prod.mk.injEq] at hp
              obtain ⟨rfl, rfl⟩ := hp
              cases r1
              refine key _ es' p3 ?_
              simp [Builtin.delete_, htys, Sem.run_bind, run_underlying hu, hg, hemp, hck w, r2 w, setObj, Sem.run, p2, undef]
            · cases hp
        · cases hp
      · cases hp
end Ev
end Go.Proofs.YtmgiplaclgnooaaGreatDoor
