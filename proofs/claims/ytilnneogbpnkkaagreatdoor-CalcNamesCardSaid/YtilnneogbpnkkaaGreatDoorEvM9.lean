/- Our own machine's copy. -/
import Derived.Test.YtilnneogbpnkkaaGreatDoorEvM8
set_option maxRecDepth 10000
namespace Go.Proofs.YtilnneogbpnkkaaGreatDoor
namespace Ev
variable {P : Program} {r : Ren} {h : H} {w : World} {n : Nat} {t : T Value} {a : Act} {o : Oper}
/-- The first k things of a row or a string. -/
theorem cells_first (hr : HR r h w) {sz : Nat} {x x' : Value} (hx : VR r x x') {m : Nat} {vs : List Value} (hc : cellsOf h sz x = some (m, vs)) (h0 : nil0 x = true) :
    ∃ vs', VRL r vs vs' ∧ (∀ w : World, (Builtin.lenOf x').run P w = .ok m w) ∧ ∀ k, k ≤ m → (Builtin.firstCells sz k x').run P w = .ok (vs'.take (k * sz)).toArray w := by
  have key : ∀ (A : Addr) (l c : Nat), x' = .slice (some A) l c → (∃ l', VRL r vs l' ∧ l'.length = l * sz ∧ ∀ j v, l'[j]? = some v → w.cell? (A.add j) = some v) → m = l →
      ∃ vs', VRL r vs vs' ∧ (∀ w : World, (Builtin.lenOf x').run P w = .ok m w) ∧ ∀ k, k ≤ m → (Builtin.firstCells sz k x').run P w = .ok (vs'.take (k * sz)).toArray w := fun A l c hx' ⟨l', p1, p2, p3⟩ hm => by
    subst hx' hm
    refine ⟨l', p1, fun w => by simp [Builtin.lenOf], fun k hk => ?_⟩
    have hle : k * sz ≤ m * sz := Nat.mul_le_mul_right _ hk
    exact run_firstCells_some w sz k A m c (l'.take (k * sz)) (by rw [List.length_take, p2]; omega) (fun j v hj => p3 j v (by
      rw [List.getElem?_take] at hj
      split at hj
      · exact hj
      · cases hj))
  unfold cellsOf at hc
  split at hc
  · rename_i l c
    simp only [Option.some.injEq, Prod.mk.injEq] at hc
    obtain ⟨rfl, rfl⟩ := hc
    cases hx
    have hl := Nat.eq_of_beq_eq_true h0
    subst hl
    exact ⟨[], .nil, fun w => by simp [Builtin.lenOf], fun k _ => by simp [Builtin.firstCells]⟩
  · rename_i b k l c
    split at hc
    · rename_i mm cs dz s hb
      obtain ⟨hle, hc⟩ := bif_some hc
      have hle := Nat.le_of_ble_eq_true hle
      split at hc
      · rename_i us hl
        simp only [Option.some.injEq, Prod.mk.injEq] at hc
        obtain ⟨rfl, rfl⟩ := hc
        cases hx with
        | sl he _ =>
          obtain ⟨l', p1, p2, p3⟩ := ldN_ok hr hb he _ k hl hle
          exact key _ _ _ rfl ⟨l', p1, p2, fun j v hj => by rw [Addr.add_mid]; exact p3 j v hj⟩ rfl
        | slo he _ _ _ =>
          obtain ⟨l', p1, p2, p3⟩ := ldN_ok hr hb he _ k hl hle
          exact key _ _ _ rfl ⟨l', p1, p2, fun j v hj => by rw [Addr.add_mid]; exact p3 j v hj⟩ rfl
        | slk he hodd' hx' hcap' hl' =>
          rename_i c' x' e'
          by_cases hc0 : c' = 0
          · have hl0 : l = 0 := by omega
            subst hl0
            simp only [Nat.zero_mul, ldN, Option.some.injEq] at hl
            subst hl
            exact key _ _ _ rfl ⟨[], .nil, by simp, fun j v hj => by simp at hj⟩ rfl
          · obtain rfl := hx' hc0
            obtain ⟨l', p1, p2, p3⟩ := ldN_ok hr hb he _ k hl hle
            exact key _ _ _ rfl ⟨l', p1, p2, fun j v hj => by rw [Addr.add_mid]; exact p3 j v hj⟩ rfl
        | slz he _ _ =>
          simp only [Nat.zero_mul, ldN, Option.some.injEq] at hl
          subst hl
          exact key _ _ _ rfl ⟨[], .nil, by simp, fun j v hj => by simp at hj⟩ rfl
      · cases hc
    · cases hc
  · rename_i s
    obtain ⟨hs1, hc⟩ := bif_some hc
    have hs1 := Nat.eq_of_beq_eq_true hs1
    subst hs1
    have hc := Option.some.inj hc
    rw [Prod.mk.injEq] at hc
    obtain ⟨rfl, rfl⟩ := hc
    cases hx
    have hS : s.data.toList.length = s.size := by rw [Array.length_toList]; rfl
    refine ⟨byteCells s, VRL.of_plain r _ (plainL_bytes _), fun w => by simp [Builtin.lenOf, hS], fun k hk => ?_⟩
    simp only [Builtin.firstCells, byteCells, Nat.mul_one, ← List.map_take]
    simp [← Array.toList_inj, List.map_take]
  · cases hc
theorem ef_copy (hr : HR r h w) (ha : AR r h n t a) {args : Array Operand} {tys : Array TypeId} (ho : o.op = .call { callee := .builtin .copy, args, argTypes := tys }) {ty : TypeId} {tl : List TypeId} (hty : tys.toList = ty :: tl)
    {b f l c : Nat} {x : Value} (hx : evL h.g t args.toList = some [.slice (some ⟨b, f, none⟩) l c, x]) {e : TypeId} (hu : P.underlying ty = some (.slice e)) {i : TypeInfo} (hi : P.info? e = some i) (h0 : nil0 x = true) {m : Nat} {vs : List Value}
    (hc : cellsOf h i.size x = some (m, vs)) {h' : H} (hp : putC h b f (vs.take (Nat.min m l * i.size)) = some h') : StOk P r h w o a (goInt (Nat.min m l)) h' := by
  have h1 := evL_ok hr ha hx
  have hat : tys[0]? = some ty := by rw [← Array.getElem?_toList, hty]; rfl
  generalize hq : args.toList.map a.eval = z at h1
  cases h1 with
  | cons g1 g2 =>
    rename_i s' z
    cases g2 with
    | cons g3 g4 =>
      rename_i x' z
      cases g4
      have hm : args.map a.eval = #[s', x'] := by rw [← Array.toList_inj, Array.toList_map, hq]
      obtain ⟨vs', p1, p2, p3⟩ := cells_first (P := P) hr g3 hc h0
      have p4 := p3 (Nat.min m l) (Nat.min_le_left _ _)
      have key : ∀ (E' : E) (k : Nat) (c' : Nat), r b = some E' → s' = .slice (some ⟨E'.blk, k, none⟩) l c' → (k = E'.base + f ∨ l = 0) → StOk P r h w o a (goInt (Nat.min m l)) h' := fun E' k c' he hs' hk => by
        obtain ⟨q1, q2, q3⟩ := putC_ok hr he (p1.take (Nat.min m l * i.size)) hp
        have hst : (storeCells ⟨E'.blk, k, none⟩ (vs'.take (Nat.min m l * i.size))).run P w = .ok () (w.setCells E'.blk (E'.base + f) (vs'.take (Nat.min m l * i.size))) := by
          rcases hk with rfl | rfl
          · have := run_storeCells_cells (P := P) E'.blk (E'.base + f) (vs'.take (Nat.min m l * i.size)) 0 w (fun j hj => by simpa using (q2 j hj).1) (fun j hj => by simpa using (q2 j hj).2) q3
            simpa using this
          · simp only [Nat.min_zero, Nat.zero_mul, List.take_zero]; rfl
        refine ⟨r, _, _, q1, .int _ _, .inl ?_⟩
        simp [execOp, ho, resolve, invoke, builtin, Builtin.copy_, hat, hm, hs', run_underlying hu, p2, sizeOf, typeInfo, hi, p4, hst, goInt]
      cases g1 with
      | sl he _ => exact key _ _ _ he rfl (.inl rfl)
      | slo he _ _ _ => exact key _ _ _ he rfl (.inl rfl)
      | slz he _ _ => exact key _ _ _ he rfl (.inr rfl)
      | slk he hodd' hx' hcap' hl' =>
        rename_i c' x' e'
        by_cases hc0 : c' = 0
        · exact key _ _ _ he rfl (.inr (by omega))
        · exact key _ _ _ he rfl (.inl (hx' hc0))
end Ev
end Go.Proofs.YtilnneogbpnkkaaGreatDoor
/- Our own machine's map writes. -/
set_option maxRecDepth 10000
namespace Go.Proofs.YtilnneogbpnkkaaGreatDoor
namespace Ev
variable {P : Program} {r : Ren} {h : H} {w : World} {n : Nat} {t : T Value} {a : Act} {o : Oper}
theorem ER.modify {es es' : List MapEntry} (he : ER r es es') {k v v' : Value} (hk : plain k = true) (hv : VR r v v') : ∀ i : Nat,
    ER r (es.modify i fun e => { e with key := k, val := v }) (es'.modify i fun e => { e with key := k, val := v' }) := by
  induction he with
  | nil => intro i; cases i <;> exact .nil
  | cons g1 g2 g3 g4 g5 ih =>
    intro i
    cases i with
    | zero => simp only [List.modify_zero_cons]; exact .cons hk rfl g3 hv g5
    | succ i => simp only [List.modify_succ_cons]; exact .cons g1 g2 g3 g4 (ih i)
theorem ER.snoc {es es' : List MapEntry} (he : ER r es es') {k v v' : Value} {c : Nat} (hk : plain k = true) (hv : VR r v v') : ER r (es ++ [{ key := k, val := v, born := c }]) (es' ++ [{ key := k, val := v', born := c }]) := by
  induction he with
  | nil => exact .cons hk rfl rfl hv .nil
  | cons g1 g2 g3 g4 _ ih => exact .cons g1 g2 g3 g4 ih
theorem ER.keyAt {es es' : List MapEntry} (he : ER r es es') : ∀ i : Nat, (es'[i]?).map (·.key) = (es[i]?).map (·.key) := by
  induction he with
  | nil => intro i; rfl
  | cons _ g2 _ _ _ ih =>
    intro i
    cases i with
    | zero => simp [g2]
    | succ i => simpa using ih i
theorem ef_map (hr : HR r h w) (ha : AR r h n t a) {ty : TypeId} {m k x : Operand} (ho : o.op = .mapUpdate ty m k x ∨ o.op = .insert ty m k x) {mv kv xv : Value} (hm : evO h.g t m = some mv) (hk : evO h.g t k = some kv) (hx : evO h.g t x = some xv)
    {h' : H} (hp : mapPut P ty mv kv xv h = some h') : StOk P r h w o a undef h' := by
  have h1 := evO_ok hr ha hm
  have h3 := evO_ok hr ha hx
  unfold mapPut at hp
  simp only [und_eq] at hp
  split at hp
  · rename_i kt et b hu
    obtain ⟨hc, hp⟩ := bif_some hp
    simp only [Bool.and_eq_true] at hc
    have h2 := (evO_ok hr ha hk).plain hc.1
    have hlo := Nat.le_of_ble_eq_true hc.2
    split at hp
    · rename_i es clock hb
      generalize hq : a.eval m = m' at h1
      generalize hqx : a.eval x = x' at h3
      cases h1 with
      | map he =>
        rename_i e
        obtain ⟨e', p1, hlt, es', p2, p3⟩ := hr.blk b _ hb
        rw [he] at p1; cases p1
        have key : ∀ (es2 : List MapEntry) (es2' : Array MapEntry) (c2 : Nat), ER r es2 es2'.toList →
            ((Instr.mapUpdate ty (.map (some e.blk)) kv x').run P w = .ok () { w with heap := w.heap.setIfInBounds e.blk (.map es2' c2) }) → StOk P r h w o a undef (h.set b (.map es2 c2)) := fun es2 es2' c2 q1 q2 => by
          have hs : Step r h w r (h.set b (.map es2 c2)) { w with heap := w.heap.setIfInBounds e.blk (.map es2' c2) } :=
            HR.set_ hr hb he hlo (by simp) (fun k hk => by simp [Ne.symm hk]) rfl rfl rfl ⟨es2', by simp [hlt], q1⟩
          refine ⟨r, _, _, hs, VR.of_plain r _ rfl, .inr ⟨?_, rfl⟩⟩
          rcases ho with ho | ho <;> simp [execOp, ho, hq, hqx, h2, q2]
        have hg : (getObj e.blk).run P w = .ok (.map es' clock) w := by simp [getObj, Sem.run, p2]
        split at hp
        · rename_i u i y hck hka
          have hck := pureR_run _ hck
          obtain ⟨y', r1, r2⟩ := keyAt_ok p3 hka
          split at hp
          · rename_i old hold
            obtain ⟨hsb, hp⟩ := bif_some hp
            have hp := Option.some.inj hp
            subst hp
            cases r1 with
            | some hvy =>
              have hk' : (es'[i]?).map (·.key) = some old := by
                have := p3.keyAt i
                rw [Array.getElem?_toList] at this
                rw [this, hold]
              refine key _ (es'.modify i fun e => { e with key := kv, val := x' }) _ (by rw [Array.toList_modify]; exact p3.modify hc.1 h3 i) ?_
              simp [Instr.mapUpdate, Sem.run_bind, run_underlying hu, hg, hck w, r2 w, Instr.keyThatStays, hk', hsb, setObj, Sem.run, p2]
          · cases hp
        · rename_i u hck hka
          have hck := pureR_run _ hck
          obtain ⟨y', r1, r2⟩ := keyAt_ok p3 hka
          have hp := Option.some.inj hp
          subst hp
          cases r1
          refine key _ (es'.push { key := kv, val := x', born := clock }) _ (by rw [Array.toList_push]; exact p3.snoc hc.1 h3) ?_
          simp [Instr.mapUpdate, Sem.run_bind, run_underlying hu, hg, hck w, r2 w, setObj, Sem.run, p2]
        · cases hp
    · cases hp
  · cases hp
end Ev
end Go.Proofs.YtilnneogbpnkkaaGreatDoor
/- Our own machine's walks over maps, and deletes. -/
set_option maxRecDepth 10000
namespace Go.Proofs.YtilnneogbpnkkaaGreatDoor
namespace Ev
variable {P : Program} {r : Ren} {h : H} {w : World} {n : Nat} {t : T Value} {a : Act} {o : Oper}
theorem ef_rangeN (hr : HR r h w) (ha : AR r h n t a) {ty kt et : TypeId} {x : Operand} (ho : o.op = .range ty x) (hu : P.underlying ty = some (.map kt et)) (hx : evO h.g t x = some (.map none)) :
    StOk P r h w o a (.pointer (some ⟨2 * h.k, 0, none⟩)) { (h.set (2 * h.k) (.mit none 0 [] 0)) with k := h.k + 1 } := by
  have h1 := evO_ok hr ha hx
  generalize hq : a.eval x = z at h1
  cases h1
  have hs := new_other (b := .mit none 0 [] 0) (ob := .mapIter none 0 #[] 0) hr ⟨rfl, none, rfl, by simp⟩
  refine ⟨_, _, _, hs, .ptr (put_self _ _ _), .inl ?_⟩
  simp [execOp, ho, hq, Instr.range, run_underlying hu]
theorem ef_rangeM (hr : HR r h w) (ha : AR r h n t a) {ty kt et : TypeId} {x : Operand} (ho : o.op = .range ty x) (hu : P.underlying ty = some (.map kt et)) {m : Nat} (hx : evO h.g t x = some (.map (some m))) {es : List MapEntry} {clock : Nat} (hm : h.get m = some (.map es clock)) :
    StOk P r h w o a (.pointer (some ⟨2 * h.k, 0, none⟩)) { (h.set (2 * h.k) (.mit (some m) clock [] clock)) with k := h.k + 1 } := by
  have h1 := evO_ok hr ha hx
  generalize hq : a.eval x = z at h1
  cases h1 with
  | map he =>
    rename_i e
    obtain ⟨e', p1, hlt, es', p2, p3⟩ := hr.blk m _ hm
    rw [he] at p1; cases p1
    have hs := new_other (b := .mit (some m) clock [] clock) (ob := .mapIter (some e.blk) clock #[] clock) hr ⟨rfl, _, ⟨e, Ren.put_ext (hr.new _ (Nat.le_refl _)) _ _ he, rfl⟩, by simp⟩
    refine ⟨_, _, _, hs, .ptr (put_self _ _ _), .inl ?_⟩
    simp [execOp, ho, hq, Instr.range, run_underlying hu, getObj, Sem.run, p2]
theorem ef_nextN (hr : HR r h w) (ha : AR r h n t a) {it : Operand} (ho : o.op = .next it false) {b : Nat} (hx : evO h.g t it = some (.pointer (some ⟨b, 0, none⟩))) {since last : Nat} {seen : List Nat} (hb : h.get b = some (.mit none since seen last)) :
    StOk P r h w o a (.tuple #[.bool false]) h := by
  have h1 := evO_ok hr ha hx
  generalize hq : a.eval it = z at h1
  cases h1 with
  | ptr he =>
    rename_i e
    obtain ⟨e', p1, hlt, p2, m', p3, p4⟩ := hr.blk b _ hb
    rw [he] at p1; cases p1
    simp only at p3
    subst p3
    refine ⟨r, _, w, Step.refl hr, VR.of_plain r _ rfl, .inl ?_⟩
    simp [execOp, ho, hq, Instr.next, getObj, Sem.run, p2, p4]
theorem ER.filter (p : Nat → Bool) {es es' : List MapEntry} (he : ER r es es') : ER r (es.filter fun e => p e.born) (es'.filter fun e => p e.born) := by
  induction he with
  | nil => exact .nil
  | cons g1 g2 g3 g4 _ ih =>
    rw [List.filter_cons, List.filter_cons, g3]
    split
    · exact .cons g1 g2 g3 g4 ih
    · exact ih
theorem ER.all (p : Nat → Bool) {es es' : List MapEntry} (he : ER r es es') : es'.all (fun e => p e.born) = es.all fun e => p e.born := by
  induction he with
  | nil => rfl
  | cons _ _ g3 _ _ ih => simp [g3, ih]
theorem ER.empty {es es' : List MapEntry} (he : ER r es es') : es'.isEmpty = es.isEmpty := by cases he <;> rfl
theorem run_nextM {ty : TypeId} {c m since last clock : Nat} {seen : List Nat} {es' : Array MapEntry} (hgi : w.heap[c]? = some (.mapIter (some m) since seen.toArray last)) (hg : w.heap[m]? = some (.map es' clock))
    (hcond : ((!seen.toArray.isEmpty && !es'.isEmpty) && es'.all fun x => decide (x.born ≥ last)) = false) {left : Array MapEntry} (hleft : (es'.filter fun x => !(seen.toArray.contains x.born)) = left) :
    (left = #[] → (Instr.next (.pointer (some ⟨c, 0, none⟩)) false ty).run P w = .ok (.tuple #[.bool false]) w) ∧
    (∀ y, left = #[y] → y.born < since → (Instr.next (.pointer (some ⟨c, 0, none⟩)) false ty).run P w = .ok (.tuple #[.bool true, y.key, y.val]) { w with heap := w.heap.setIfInBounds c (.mapIter (some m) since (seen.toArray.push y.born) clock) }) := by
  have h1 : (getObj c).run P w = .ok (.mapIter (some m) since seen.toArray last) w := by simp [getObj, Sem.run, hgi]
  have h2 : (getObj m).run P w = .ok (.map es' clock) w := by simp [getObj, Sem.run, hg]
  constructor
  · intro hl
    rw [hl] at hleft
    unfold Instr.next
    simp only [Sem.run_bind, h1, h2, Result.andThen, hcond, hleft, Bool.false_eq_true, if_false]
    simp [choose, Sem.run, Question.forced]
  · intro y hl hs
    rw [hl] at hleft
    have hs' : ¬ since ≤ y.born := by omega
    unfold Instr.next
    simp only [Sem.run_bind, h1, h2, Result.andThen, hcond, hleft, Bool.false_eq_true, if_false]
    simp [hs, hs', choose, setObj, hgi, Sem.run, Question.forced, Result.andThen]
theorem ef_nextM (hr : HR r h w) (ha : AR r h n t a) {it : Operand} (ho : o.op = .next it false) {b : Nat} (hx : evO h.g t it = some (.pointer (some ⟨b, 0, none⟩))) {m since last : Nat} {seen : List Nat} (hb : h.get b = some (.mit (some m) since seen last))
    {es : List MapEntry} {clock : Nat} (hm : h.get m = some (.map es clock)) (hlo : h.lo ≤ b) (hc : (seen.isEmpty || es.isEmpty || !(es.all fun e => Nat.ble last e.born)) = true) :
    ((es.filter fun e => !(seen.contains e.born)) = [] → StOk P r h w o a (.tuple #[.bool false]) h) ∧
    (∀ e, (es.filter fun e => !(seen.contains e.born)) = [e] → e.born < since → StOk P r h w o a (.tuple #[.bool true, e.key, e.val]) (h.set b (.mit (some m) since (seen ++ [e.born]) clock))) := by
  have h1 := evO_ok hr ha hx
  generalize hq : a.eval it = z at h1
  cases h1 with
  | ptr he =>
    rename_i e
    obtain ⟨e', p1, hlt, p2, m', p3, p4⟩ := hr.blk b _ hb
    rw [he] at p1; cases p1
    obtain ⟨f, f1, rfl⟩ := p3
    obtain ⟨f', q1, _, es', q2, q3⟩ := hr.blk m _ hm
    rw [f1] at q1; cases q1
    have hg : (getObj f.blk).run P w = .ok (.map es' clock) w := by simp [getObj, Sem.run, q2]
    have hgi : (getObj e.blk).run P w = .ok (.mapIter (some f.blk) since seen.toArray last) w := by simp [getObj, Sem.run, p4]
    have hfl := q3.filter (fun x => !(seen.contains x))
    have hcond : ((!seen.toArray.isEmpty && !es'.isEmpty) && es'.all fun x => decide (x.born ≥ last)) = false := by
      have e1 : es'.isEmpty = es.isEmpty := by have := q3.empty; simpa using this
      have e2 : (es'.all fun x => decide (x.born ≥ last)) = es.all fun e => Nat.ble last e.born := by
        rw [← q3.all (fun x => Nat.ble last x), Array.all_toList]
        congr 1
        funext x
        rw [Bool.eq_iff_iff, decide_eq_true_iff]
        exact ⟨fun q => Nat.ble_eq_true_of_le q, fun q => Nat.le_of_ble_eq_true q⟩
      rw [e1, e2, List.isEmpty_toArray]
      cases hse : seen.isEmpty <;> cases hee : es.isEmpty <;> cases hal : (es.all fun e => Nat.ble last e.born) <;> simp_all
    have hleft : (es'.filter fun x => !(seen.toArray.contains x.born)) = (es'.toList.filter fun x => !(seen.contains x.born)).toArray := by
      rw [← Array.toList_inj, Array.toList_filter]
      congr 1
      funext x
      rw [List.contains_toArray]
    refine ⟨fun hl => ?_, fun en hl hs => ?_⟩
    · rw [hl] at hfl
      cases hq2 : (es'.toList.filter fun x => !(seen.contains x.born)) with
      | cons y l => rw [hq2] at hfl; cases hfl
      | nil =>
        refine ⟨r, _, w, Step.refl hr, VR.of_plain r _ rfl, .inl ?_⟩
        have := (run_nextM (P := P) (ty := o.type) p4 q2 hcond (hleft.trans (by rw [hq2]))).1 rfl
        simp [execOp, ho, hq, p2, this]
    · rw [hl] at hfl
      cases hq2 : (es'.toList.filter fun x => !(seen.contains x.born)) with
      | nil => rw [hq2] at hfl; cases hfl
      | cons y l =>
        rw [hq2] at hfl
        cases hfl with
        | cons g1 g2 g3 g4 g5 =>
          cases g5
          have hs2 : Step r h w r (h.set b (.mit (some m) since (seen ++ [en.born]) clock)) { w with heap := w.heap.setIfInBounds e.blk (.mapIter (some f.blk) since (seen.toArray.push y.born) clock) } :=
            HR.set_ hr hb he hlo (by simp) (fun k hk => by simp [Ne.symm hk]) rfl rfl rfl ⟨p2, _, ⟨f, f1, rfl⟩, by simp [hlt, g3]⟩
          refine ⟨r, _, _, hs2, .tuple (.cons (.bool _) (.cons (VR.of_plain r en.key g1) (.cons g4 .nil))), .inl ?_⟩
          have hs' : y.born < since := by rw [g3]; exact hs
          have := (run_nextM (P := P) (ty := o.type) p4 q2 hcond (hleft.trans (by rw [hq2]))).2 y rfl hs'
          simp [execOp, ho, hq, p2, this, g2]
theorem ER.erase {es es' : List MapEntry} (he : ER r es es') : ∀ i : Nat, ER r (es.eraseIdx i) (es'.eraseIdx i) := by
  induction he with
  | nil => intro i; exact .nil
  | cons g1 g2 g3 g4 g5 ih =>
    intro i
    cases i with
    | zero => exact g5
    | succ i => exact .cons g1 g2 g3 g4 (ih i)
theorem ef_delete (hr : HR r h w) (ha : AR r h n t a) {args : Array Operand} {tys : Array TypeId} (ho : o.op = .call { callee := .builtin .delete, args, argTypes := tys }) {ty : TypeId} {tl : List TypeId} (hty : tys.toList = ty :: tl) {mv kv : Value}
    (hx : evL h.g t args.toList = some [mv, kv]) {v : Value} {h' : H} (hp : mapDel P ty mv kv h = some (v, h')) : StOk P r h w o a v h' := by
  have h1 := evL_ok hr ha hx
  have hargs : args.map a.eval = (args.toList.map a.eval).toArray := by rw [← Array.toList_map, Array.toArray_toList]
  have htys : tys[0]? = some ty := by rw [← Array.getElem?_toList, hty]; rfl
  generalize hq : args.toList.map a.eval = L at h1
  cases h1 with
  | cons hm h1 =>
    cases h1 with
    | cons hk h1 =>
      cases h1
      rename_i m' k'
      rw [hq] at hargs
      unfold mapDel at hp
      simp only [und_eq] at hp
      split at hp
      · rename_i kt et b hu
        obtain ⟨hc, hp⟩ := bif_some hp
        simp only [Bool.and_eq_true] at hc
        have h2 := hk.plain hc.1
        subst h2
        have hlo := Nat.le_of_ble_eq_true hc.2
        split at hp
        · rename_i es clock hb
          cases hm with
          | map he =>
            rename_i e
            obtain ⟨e', p1, hlt, es', p2, p3⟩ := hr.blk b _ hb
            rw [he] at p1; cases p1
            have key : ∀ (es2 : List MapEntry) (es2' : Array MapEntry), ER r es2 es2'.toList →
                ((Builtin.delete_ tys o.type #[.map (some e.blk), k']).run P w = .ok undef { w with heap := w.heap.setIfInBounds e.blk (.map es2' clock) }) → StOk P r h w o a undef (h.set b (.map es2 clock)) := fun es2 es2' q1 q2 => by
              have hs : Step r h w r (h.set b (.map es2 clock)) { w with heap := w.heap.setIfInBounds e.blk (.map es2' clock) } :=
                HR.set_ hr hb he hlo (by simp) (fun k hk => by simp [Ne.symm hk]) rfl rfl rfl ⟨es2', by simp [hlt], q1⟩
              refine ⟨r, _, _, hs, VR.of_plain r _ rfl, .inl ?_⟩
              simp [execOp, ho, resolve, invoke, builtin, hargs, q2]
            have hg : (getObj e.blk).run P w = .ok (.map es' clock) w := by simp [getObj, Sem.run, p2]
            have hemp : es'.isEmpty = es.isEmpty := by have := p3.empty; simpa using this
            split at hp
            · rename_i u i y hck hka
              have hck := pureR_run _ hck
              obtain ⟨y', r1, r2⟩ := keyAt_ok p3 hka
              have hp := Option.some.inj hp
              rw [Prod.mk.injEq] at hp
              obtain ⟨rfl, rfl⟩ := hp
              cases r1 with
              | some hvy =>
                refine key _ (es'.eraseIdxIfInBounds i) (by rw [Array.toList_eraseIdxIfInBounds]; exact p3.erase i) ?_
                simp [Builtin.delete_, htys, Sem.run_bind, run_underlying hu, hg, hemp, hck w, r2 w, setObj, Sem.run, p2, undef]
            · rename_i u hck hka
              have hck := pureR_run _ hck
              obtain ⟨y', r1, r2⟩ := keyAt_ok p3 hka
              have hp := Option.some.inj hp
              rw [Prod.mk.injEq] at hp
              obtain ⟨rfl, rfl⟩ := hp
              cases r1
              refine key _ es' p3 ?_
              simp [Builtin.delete_, htys, Sem.run_bind, run_underlying hu, hg, hemp, hck w, r2 w, setObj, Sem.run, p2, undef]
            · cases hp
        · cases hp
      · cases hp
end Ev
end Go.Proofs.YtilnneogbpnkkaaGreatDoor
/- Our own machine's calls, and one operation that does more. -/
set_option maxRecDepth 10000
namespace Go.Proofs.YtilnneogbpnkkaaGreatDoor
namespace Ev
noncomputable section
variable {P : Program} {r : Ren} {h : H} {w : World} {n : Nat} {t : T Value} {a : Act} {o : Oper}
/-- What stands for a value and memory of ours. -/
def Kt (r : Ren) (h : H) (w : World) (v : Value) (h' : H) : Value → World → Prop := fun v' w' => ∃ r', Step r h w r' h' w' ∧ VR r' v v'
def CfOk (P : Program) (cf : CallF) : Prop := ∀ (r : Ren) (h : H) (w : World) (g : Nat) (args args' : List Value) (v : Value) (h' : H), HR r h w → VRL r args args' → cf g args h = some (v, h') →
  (∃ fn, P.funcs[g]? = some fn ∧ fn.body.isNone = false ∧ (fn.name == "runtime.NumGoroutine") = false) ∧ Calls P g args'.toArray w (RC (Kt r h w v h'))
def YfOk (P : Program) (yf : CallF) : Prop := ∀ (r : Ren) (h : H) (w : World) (l : Nat) (e : E) (args args' : List Value) (v : Value) (h' : H), HR r h w → r l = some e → VRL r args args' → yf l args h = some (v, h') →
  OpX P (Kt r h w v h') ((Instr.yield e.blk args'.toArray).run P w)
theorem StOk.op {v : Value} {h' : H} (hs : StOk P r h w o a v h') : OpX P (Kt r h w v h') ((execOp a.eval o).run P w) := by
  obtain ⟨r', v', w', q1, q2, q3 | ⟨q3, q4⟩⟩ := hs
  · rw [q3]; exact ⟨r', q1, q2⟩
  · rw [q3]; subst q4; exact ⟨r', q1, q2⟩
theorem ef_call (hr : HR r h w) (ha : AR r h n t a) {cf : CallF} (hcf : CfOk P cf) {f : Operand} {args : Array Operand} {tys : Array TypeId} (ho : o.op = .call { callee := .value f, args, argTypes := tys }) {g : Nat} {fi ca vs : List Value}
    (hf : evO h.g t f = some (.func (.func g) ⟨fi⟩ ⟨ca⟩)) (hx : evL h.g t args.toList = some vs) {v : Value} {h' : H} (hc : cf g (fi ++ vs ++ ca) h = some (v, h')) : OpX P (Kt r h w v h') ((execOp a.eval o).run P w) := by
  have h1 := evO_ok hr ha hf
  have h2 := evL_ok hr ha hx
  generalize hq : a.eval f = z at h1
  cases h1 with
  | func _ g1 g2 =>
    rename_i f' c' _
    obtain ⟨⟨fn, k1, k2, k3⟩, k4⟩ := hcf r h w g _ _ v h' hr ((g1.append h2).append g2) hc
    have hrun : (execOp a.eval o).run P w = .ok (.enter g (f' ++ args.toList.map a.eval ++ c').toArray) w := by
      have k3' : fn.name ≠ "runtime.NumGoroutine" := by simpa using k3
      have k2' : fn.body ≠ none := by intro e; rw [e] at k2; cases k2
      simp [execOp, ho, resolve, Deferred.ofValue, invoke, callFunc, hq, k1, k2', k3']
    rw [hrun]; exact k4
theorem ef_yield (hr : HR r h w) (ha : AR r h n t a) {yf : CallF} (hyf : YfOk P yf) {f : Operand} {args : Array Operand} {tys : Array TypeId} (ho : o.op = .call { callee := .value f, args, argTypes := tys }) {l : Nat} {vs : List Value}
    (hf : evO h.g t f = some (.func (.yield l) ⟨[]⟩ ⟨[]⟩)) (hx : evL h.g t args.toList = some vs) {v : Value} {h' : H} (hc : yf l vs h = some (v, h')) : OpX P (Kt r h w v h') ((execOp a.eval o).run P w) := by
  have h1 := evO_ok hr ha hf
  have h2 := evL_ok hr ha hx
  generalize hq : a.eval f = z at h1
  cases h1 with
  | func hn _ _ => exact absurd rfl (hn l)
  | yield he =>
    rename_i e
    have k := hyf r h w l e _ _ v h' hr he h2 hc
    have hrun : (execOp a.eval o).run P w = (Instr.yield e.blk (args.toList.map a.eval).toArray).run P w := by
      have : (args.toList.map a.eval).toArray = args.map a.eval := by rw [← Array.toList_map, Array.toArray_toList]
      rw [this]
      simp [execOp, ho, resolve, Deferred.ofValue, invoke, hq]
    rw [hrun]; exact k
end
end Ev
end Go.Proofs.YtilnneogbpnkkaaGreatDoor
