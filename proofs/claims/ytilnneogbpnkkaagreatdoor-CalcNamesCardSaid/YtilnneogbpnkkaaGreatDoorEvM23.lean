/- Walks over maps, whatever order is drawn: all the ways that code may go. -/
import Derived.Test.YtilnneogbpnkkaaGreatDoorEvM22
set_option maxRecDepth 10000
namespace Go.Proofs.YtilnneogbpnkkaaGreatDoor
namespace Ev
noncomputable section
variable {P : Program} {B : List Deferred} {r : Ren} {h : H} {w : World} {n : Nat} {t : T Value} {a : Act} {o : Oper} {ro ro' : Option Nat}
theorem run_nextAny {ty : TypeId} {c m since last clock : Nat} {seen : List Nat} {es' : Array MapEntry} (hgi : w.heap[c]? = some (.mapIter (some m) since seen.toArray last)) (hg : w.heap[m]? = some (.map es' clock))
    (hcond : ((!seen.toArray.isEmpty && !es'.isEmpty) && es'.all fun x => decide (x.born ≥ last)) = false) {left : Array MapEntry} (hleft : (es'.filter fun x => !(seen.toArray.contains x.born)) = left) (hold : ∀ y ∈ left, y.born < since) (hne : left ≠ #[]) :
    ∃ y d, y ∈ left ∧ (Instr.next (.pointer (some ⟨c, 0, none⟩)) false ty).run P w = .ok (.tuple #[.bool true, y.key, y.val]) { w with drawn := d, heap := w.heap.setIfInBounds c (.mapIter (some m) since (seen.toArray.push y.born) clock) } := by
  have h1 : (getObj c).run P w = .ok (.mapIter (some m) since seen.toArray last) w := by simp [getObj, Sem.run, hgi]
  have h2 : (getObj m).run P w = .ok (.map es' clock) w := by simp [getObj, Sem.run, hg]
  have ho : left.filter (fun x => decide (x.born < since)) = left := by
    rw [Array.filter_eq_self]
    intro x hx
    simpa using hold x hx
  have hn : left.filter (fun x => decide (x.born ≥ since)) = #[] := by
    rw [Array.filter_eq_empty_iff]
    intro x hx
    have := hold x hx
    simp; omega
  have hsz : 0 < left.size := by
    rcases Nat.eq_zero_or_pos left.size with q | q
    · exact absurd (Array.eq_empty_of_size_eq_zero q) hne
    · exact q
  have hie : left.isEmpty = false := by
    cases hq : left.isEmpty with
    | false => rfl
    | true => rw [Array.isEmpty_iff] at hq; exact absurd hq hne
  have hcand : ((if left.isEmpty then #[none] else #[]) ++ (left ++ (#[] : Array MapEntry)).map some) = left.map some := by
    rw [hie]; simp
  have hset : ∀ (w2 : World), w2.heap = w.heap → ∀ y : MapEntry, (setObj c (.mapIter (some m) since (seen.toArray.push y.born) clock)).run P w2 = .ok () { w2 with heap := w2.heap.setIfInBounds c (.mapIter (some m) since (seen.toArray.push y.born) clock) } := fun w2 hw y => by
    simp [setObj, Sem.run, hw, hgi]
  unfold Instr.next
  simp only [Sem.run_bind, h1, h2, Result.andThen_ok, hcond, hleft, Bool.false_eq_true, if_false, ho, hn, hcand, Array.size_map]
  by_cases h1s : left.size ≤ 1
  · have hs1 : left.size = 1 := by omega
    have hch : (choose (.mapNext left.size)).run P w = .ok 0 w := by simp [choose, Sem.run, Question.forced, h1s]
    refine ⟨left[0], w.drawn, Array.getElem_mem _, ?_⟩
    have hg0 : (left.map some)[0]? = some (some left[0]) := by simp [hsz]
    simp only [hch, Result.andThen_ok, hg0, Sem.run_bind, hset w rfl, Sem.run_pure]
  · have hch : (choose (.mapNext left.size)).run P w = .ok (w.tape w.drawn (.mapNext left.size) % left.size) { w with drawn := w.drawn + 1 } := by
      simp [choose, Sem.run, Question.forced, h1s, Question.cut]
    have hlt := Nat.mod_lt (w.tape w.drawn (.mapNext left.size)) hsz
    refine ⟨left[w.tape w.drawn (.mapNext left.size) % left.size], w.drawn + 1, Array.getElem_mem _, ?_⟩
    have hg0 : (left.map some)[w.tape w.drawn (.mapNext left.size) % left.size]? = some (some (left[w.tape w.drawn (.mapNext left.size) % left.size])) := by simp [hlt]
    simp only [hch, Result.andThen_ok, hg0, Sem.run_bind, hset { w with drawn := w.drawn + 1 } rfl, Sem.run_pure]
/-- Lists without doubles, and their lengths. -/
theorem nodup_le : ∀ (S L : List Nat), S.Nodup → (∀ x ∈ S, x ∈ L) → S.length ≤ L.length := by
  intro S
  induction S with
  | nil => intro L _ _; simp
  | cons x S ih =>
    intro L hn hs
    rw [List.nodup_cons] at hn
    have hx : x ∈ L := hs x (by simp)
    have := ih (L.erase x) hn.2 fun y hy => by
      have hyx : y ≠ x := fun q => hn.1 (q ▸ hy)
      exact (List.mem_erase_of_ne hyx).2 (hs y (by simp [hy]))
    rw [List.length_erase_of_mem hx] at this
    have hp : 0 < L.length := List.length_pos_of_mem hx
    simp only [List.length_cons]
    omega
theorem nodup_all {S L : List Nat} (hn : S.Nodup) (hs : ∀ x ∈ S, x ∈ L) (hl : L.length ≤ S.length) : ∀ x ∈ L, x ∈ S := by
  intro x hx
  apply Classical.byContradiction
  intro hc
  have := nodup_le S (L.erase x) hn fun y hy => (List.mem_erase_of_ne (fun q : y = x => hc (by rw [← q]; exact hy))).2 (hs y hy)
  rw [List.length_erase_of_mem hx] at this
  have hp : 0 < L.length := List.length_pos_of_mem hx
  omega
def nodupB : List Nat → Bool
  | [] => true
  | x :: l => !(l.any (Nat.beq x)) && nodupB l
theorem nodupB_ok : ∀ l : List Nat, nodupB l = true → l.Nodup := by
  intro l
  induction l with
  | nil => intro _; exact List.nodup_nil
  | cons x l ih =>
    intro h
    simp only [nodupB, Bool.and_eq_true, Bool.not_eq_true'] at h
    refine List.nodup_cons.2 ⟨fun hx => ?_, ih h.2⟩
    have : l.any (Nat.beq x) = true := List.any_eq_true.2 ⟨x, hx, Nat.beq_refl x⟩
    rw [this] at h
    exact absurd h.1 (by simp)
/-- Has a walk seen all that it may have seen? -/
def full (seen may : List Nat) (cnt : Nat) : Bool := Nat.ble (seen.length + may.length) cnt
/-- May it be at its end? -/
def mayEnd (es : List MapEntry) (seen may : List Nat) (cnt : Nat) : Bool :=
  ((es.filter fun e => !(seen.contains e.born)).all fun e => may.contains e.born) && (full seen may cnt || !(nodupB (seen ++ may) && (seen ++ may).all fun x => es.any fun e => Nat.beq x e.born))
/-- The ways in which a walk over a map may go on. -/
def nexts (h : H) (t : T Value) (it : Operand) : Option (List (Value × H)) :=
  match evO h.g t it with
  | some (.pointer (some ⟨b, 0, none⟩)) => match h.get b with
    | some (.mit (some m) since seen last) => match h.get m with
      | some (.map es clock) =>
        bif Nat.ble h.lo b && (seen.isEmpty || es.isEmpty || !(es.all fun e => Nat.ble last e.born)) && (es.filter fun e => !(seen.contains e.born)).all fun e => Nat.blt e.born since then
          match (es.filter fun e => !(seen.contains e.born)) with
          | [] => none
          | e :: l => some ((e :: l).map fun e => (.tuple #[.bool true, e.key, e.val], h.set b (.mit (some m) since (seen ++ [e.born]) clock)))
        else none
      | _ => none
    | some (.mis m since seen may _ last cnt) => match h.get m with
      | some (.map es clock) =>
        bif Nat.ble h.lo b && ((seen.isEmpty && may.isEmpty) || es.isEmpty || !(es.all fun e => Nat.ble last e.born)) && (es.filter fun e => !(seen.contains e.born)).all fun e => Nat.blt e.born since then
          some ((bif mayEnd es seen may cnt then [(.tuple #[.bool false], h)] else []) ++
            (es.filter fun e => !(seen.contains e.born) && !(full seen may cnt && may.contains e.born)).map fun e => (.tuple #[.bool true, e.key, e.val], h.set b (.mis m since (bif may.contains e.born then seen else seen ++ [e.born]) may (some e.born) clock (cnt + 1))))
        else none
      | _ => none
    | _ => none
  | _ => none
theorem ER.mem {es : List MapEntry} {es' : List MapEntry} (he : ER r es es') {y : MapEntry} (hy : y ∈ es') : ∃ e ∈ es, plain e.key = true ∧ y.key = e.key ∧ y.born = e.born ∧ VR r e.val y.val := by
  induction he with
  | nil => cases hy
  | @cons e e' l l' g1 g2 g3 g4 _ ih =>
    cases hy with
    | head => exact ⟨e, by simp, g1, g2, g3, g4⟩
    | tail _ hy =>
      obtain ⟨x, q1, q2⟩ := ih hy
      exact ⟨x, by simp [q1], q2⟩
theorem next_all (hr : HR r h w) {it : Operand} (ho : o.op = .next it false) {b m since last clock : Nat} {L : List Nat} {e f : E} {B0 : Blk} {es : List MapEntry} (hq : a.eval it = .pointer (some ⟨e.blk, 0, none⟩)) (he : r b = some e) (hb : h.get b = some B0)
    (hlt : e.blk < w.heap.size) (p4 : w.heap[e.blk]? = some (.mapIter (some f.blk) since L.toArray last)) (f1 : r m = some f) (hm : h.get m = some (.map es clock)) (hlo : h.lo ≤ b)
    (hc : (L.isEmpty || es.isEmpty || !(es.all fun e => Nat.ble last e.born)) = true) (hold : ((es.filter fun e => !(L.contains e.born)).all fun e => Nat.blt e.born since) = true) (nb : Nat → Blk)
    (hnb : ∀ (x : Nat), ¬ x ∈ L → ∀ (w' : World), w'.heap[e.blk]? = some (.mapIter (some f.blk) since (L.toArray.push x) clock) → BR r b e w' (nb x)) :
    (es.filter (fun e => !(L.contains e.born)) = [] → (execOp a.eval o).run P w = .ok (.value (.tuple #[.bool false])) w) ∧
    (es.filter (fun e => !(L.contains e.born)) ≠ [] → OpX P (fun v' w' => ∃ x ∈ es.filter (fun e => !(L.contains e.born)), Kt r h w (.tuple #[.bool true, x.key, x.val]) (h.set b (nb x.born)) v' w') ((execOp a.eval o).run P w)) := by
  obtain ⟨f', q1, _, es', q2, q3⟩ := hr.blk m _ hm
  rw [f1] at q1; cases q1
  have hfl := q3.filter (fun x => !(L.contains x))
  have hcond : ((!L.toArray.isEmpty && !es'.isEmpty) && es'.all fun x => decide (x.born ≥ last)) = false := by
    have e1 : es'.isEmpty = es.isEmpty := by have := q3.empty; simpa using this
    have e2 : (es'.all fun x => decide (x.born ≥ last)) = es.all fun e => Nat.ble last e.born := by
      rw [← q3.all (fun x => Nat.ble last x), Array.all_toList]
      congr 1
      funext x
      rw [Bool.eq_iff_iff, decide_eq_true_iff]
      exact ⟨fun q => Nat.ble_eq_true_of_le q, fun q => Nat.le_of_ble_eq_true q⟩
    rw [e1, e2, List.isEmpty_toArray]
    cases hse : L.isEmpty <;> cases hee : es.isEmpty <;> cases hal : (es.all fun e => Nat.ble last e.born) <;> simp_all
  have hleft : (es'.filter fun x => !(L.toArray.contains x.born)) = (es'.toList.filter fun x => !(L.contains x.born)).toArray := by
    rw [← Array.toList_inj, Array.toList_filter]
    congr 1
    funext x
    rw [List.contains_toArray]
  refine ⟨fun hl => ?_, fun hl => ?_⟩
  · rw [hl] at hfl
    cases hq2 : (es'.toList.filter fun x => !(L.contains x.born)) with
    | cons y l => rw [hq2] at hfl; cases hfl
    | nil =>
      have := (run_nextM (P := P) (ty := o.type) p4 q2 hcond (hleft.trans (by rw [hq2]))).1 rfl
      simp [execOp, ho, hq, this]
  · have hne : (es'.toList.filter fun x => !(L.contains x.born)).toArray ≠ #[] := fun q => by
      have : (es'.toList.filter fun x => !(L.contains x.born)) = [] := by simpa using q
      rw [this] at hfl
      cases hq3 : es.filter fun e => !(L.contains e.born) with
      | nil => exact hl hq3
      | cons x l => rw [hq3] at hfl; cases hfl
    have hob : ∀ y ∈ (es'.toList.filter fun x => !(L.contains x.born)).toArray, y.born < since := fun y hy => by
      obtain ⟨x, x1, _, _, x4, _⟩ := hfl.mem (by simpa using hy)
      rw [List.all_eq_true] at hold
      have := hold x x1
      rw [x4]; exact blt_lt this
    obtain ⟨y, d, y1, hrun⟩ := run_nextAny (P := P) (ty := o.type) p4 q2 hcond hleft hob hne
    obtain ⟨x, x1, x2, x3, x4, x5⟩ := hfl.mem (r := r) (y := y) (by simpa using y1)
    have hs2 : Step r h w r (h.set b (nb x.born)) { w with drawn := d, heap := w.heap.setIfInBounds e.blk (.mapIter (some f.blk) since (L.toArray.push y.born) clock) } :=
      HR.set_ hr hb he hlo (by simp) (fun k hk => by simp [Ne.symm hk]) rfl rfl rfl (hnb _ (fun q => by have := (List.mem_filter.1 x1).2; simp [q] at this) _ (by rw [x4]; simp [hlt]))
    have hex : (execOp a.eval o).run P w = .ok (.value (.tuple #[.bool true, y.key, y.val])) { w with drawn := d, heap := w.heap.setIfInBounds e.blk (.mapIter (some f.blk) since (L.toArray.push y.born) clock) } := by
      simp [execOp, ho, hq, hrun]
    rw [hex]
    exact ⟨x, x1, r, hs2, .tuple (.cons (.bool _) (.cons (by rw [x3]; exact VR.of_plain r x.key x2) (.cons x5 .nil)))⟩
theorem nexts_ok (hr : HR r h w) (ha : AR r h n t a) {it : Operand} (ho : o.op = .next it false) {outs : List (Value × H)} (hv : nexts h t it = some outs) :
    OpX P (fun v' w' => ∃ p ∈ outs, Kt r h w p.1 p.2 v' w') ((execOp a.eval o).run P w) := by
  unfold nexts at hv
  split at hv
  · rename_i b hx
    have h1 := evO_ok hr ha hx
    generalize hq : a.eval it = z at h1
    split at hv
    · rename_i m since seen last hb
      split at hv
      · rename_i es clock hm
        obtain ⟨hc, hv⟩ := bif_some hv
        simp only [Bool.and_eq_true] at hc
        obtain ⟨⟨hlo, hc⟩, hold⟩ := hc
        have hlo := Nat.le_of_ble_eq_true hlo
        split at hv
        · cases hv
        · rename_i e0 l0 hl
          simp only [Option.some.injEq] at hv
          subst hv
          cases h1 with
          | ptr he =>
            rename_i e
            obtain ⟨e', p1, hlt, p2, m', p3, p4⟩ := hr.blk b _ hb
            rw [he] at p1; cases p1
            obtain ⟨f, f1, rfl⟩ := p3
            have hq' : a.eval it = .pointer (some ⟨e.blk, 0, none⟩) := by rw [hq, p2]
            have := (next_all (P := P) hr ho hq' he hb hlt p4 f1 hm hlo hc hold (fun x => .mit (some m) since (seen ++ [x]) clock) (fun x _ w' hw => ⟨p2, _, ⟨f, f1, rfl⟩, by rw [hw]; simp⟩)).2 (by rw [hl]; simp)
            rw [hl] at this
            exact OpX.mono (fun v' w' ⟨x, x1, x2⟩ => ⟨_, List.mem_map.2 ⟨x, x1, rfl⟩, x2⟩) this
      · cases hv
    · rename_i m since seen may cur last cnt hb
      split at hv
      · rename_i es clock hm
        obtain ⟨hc, hv⟩ := bif_some hv
        simp only [Bool.and_eq_true] at hc
        obtain ⟨⟨hlo, hc⟩, hold⟩ := hc
        have hlo := Nat.le_of_ble_eq_true hlo
        cases h1 with
        | ptr he =>
          rename_i e
          obtain ⟨e', p1, hlt, p2, f, S, f1, p4, p5, p6⟩ := hr.blk b _ hb
          rw [he] at p1; cases p1
          have hq' : a.eval it = .pointer (some ⟨e.blk, 0, none⟩) := by rw [hq, p2]
          obtain ⟨L, rfl⟩ : ∃ L : List Nat, S = L.toArray := ⟨S.toList, by simp⟩
          have p5a : ∀ x ∈ seen, x ∈ L := fun x hx => by have := p5.1 x hx; simpa using this
          have p5b : ∀ x ∈ L, x ∈ seen ∨ x ∈ may := fun x hx => p5.2.1 x (by simpa using hx)
          have p5c : L.length = cnt := by have := p5.2.2.1; simpa using this
          have p5d : L.Nodup := by have := p5.2.2.2; simpa using this
          have p5e : ∀ x ∈ L, x ∈ seen ++ may := fun x hx => List.mem_append.2 (p5b x hx)
          have hfull : full seen may cnt = true → ∀ x ∈ may, x ∈ L := fun hf x hx => nodup_all p5d p5e (by have := Nat.le_of_ble_eq_true hf; simp only [List.length_append]; omega) x (by simp [hx])
          have hfm : ∀ x ∈ es.filter (fun e => !(L.contains e.born)), x ∈ es.filter (fun e => !(seen.contains e.born)) := fun x hx => by
            simp only [List.mem_filter, Bool.not_eq_true', List.contains_eq_mem, decide_eq_false_iff_not] at hx ⊢
            exact ⟨hx.1, fun q => hx.2 (p5a _ q)⟩
          have hfn : ∀ x ∈ es.filter (fun e => !(L.contains e.born)), x ∈ es.filter (fun e => !(seen.contains e.born) && !(full seen may cnt && may.contains e.born)) := fun x hx => by
            have h2 := hfm x hx
            simp only [List.mem_filter, Bool.not_eq_true', List.contains_eq_mem, decide_eq_false_iff_not, Bool.and_eq_true, Bool.and_eq_false_imp] at hx h2 ⊢
            exact ⟨h2.1, h2.2, fun hf q => hx.2 (hfull hf _ q)⟩
          have hc' : (L.isEmpty || es.isEmpty || !(es.all fun e => Nat.ble last e.born)) = true := by
            cases L with
            | nil => rfl
            | cons y l =>
              have hn : (seen.isEmpty && may.isEmpty) = false := by
                rcases p5b y (by simp) with q | q
                · cases seen with
                  | nil => cases q
                  | cons _ _ => rfl
                · cases may with
                  | nil => cases q
                  | cons _ _ => simp
              rw [hn] at hc
              simpa using hc
          have hold' : ((es.filter fun e => !(L.contains e.born)).all fun e => Nat.blt e.born since) = true := by
            rw [List.all_eq_true] at hold ⊢
            exact fun x hx => hold x (hfm x hx)
          have key := next_all (P := P) hr ho hq' he hb hlt p4 f1 hm hlo hc' hold' (fun x => .mis m since (bif may.contains x then seen else seen ++ [x]) may (some x) clock (cnt + 1)) (fun x hx w' hw => ⟨p2, f, _, f1, hw, ⟨fun y hy => by
            cases hmx : may.contains x with
            | true => rw [hmx] at hy; simp [p5a y hy]
            | false =>
              rw [hmx] at hy
              simp only [cond_false, List.mem_append, List.mem_singleton] at hy
              rcases hy with hy | rfl
              · simp [p5a y hy]
              · simp, fun y hy => by
            simp only [List.push_toArray, List.mem_toArray, List.mem_append, List.mem_singleton] at hy
            cases hmx : may.contains x with
            | true =>
              simp only [cond_true]
              rcases hy with hy | rfl
              · exact p5b y hy
              · exact .inr (by simpa using hmx)
            | false =>
              simp only [cond_false]
              rcases hy with hy | rfl
              · rcases p5b y hy with q | q
                · exact .inl (by simp [q])
                · exact .inr q
              · exact .inl (by simp), by simp [p5c], by
            simp only [List.push_toArray]
            refine List.nodup_append.2 ⟨p5d, by simp, fun a ha b hb => ?_⟩
            simp only [List.mem_singleton] at hb
            subst hb
            exact fun q => hx (q ▸ ha)⟩, fun c hc => by cases hc; simp⟩)
          simp only [Option.some.injEq] at hv
          subst hv
          by_cases hl : es.filter (fun e => !(L.contains e.born)) = []
          · rw [key.1 hl]
            have hin : ∀ x ∈ es, x.born ∈ L := fun x hx => by
              apply Classical.byContradiction
              intro hn
              have : x ∈ es.filter (fun e => !(L.contains e.born)) := by simp [hx, hn]
              rw [hl] at this
              cases this
            have hall : mayEnd es seen may cnt = true := by
              simp only [mayEnd, Bool.and_eq_true, List.all_eq_true, Bool.or_eq_true, Bool.not_eq_true']
              refine ⟨fun x hx => ?_, ?_⟩
              · simp only [List.mem_filter, Bool.not_eq_true', List.contains_eq_mem, decide_eq_false_iff_not] at hx
                rcases p5b _ (hin x hx.1) with q | q
                · exact absurd q hx.2
                · simpa using q
              · apply Classical.byContradiction
                intro hn
                simp only [not_or, Bool.not_eq_true, Bool.not_eq_false, Bool.and_eq_true, List.all_eq_true, List.any_eq_true] at hn
                obtain ⟨n1, n2, n3⟩ := hn
                have hle := nodup_le (seen ++ may) L (nodupB_ok _ n2) fun x hx => by
                  obtain ⟨e, e1, e2⟩ := n3 x hx
                  rw [Nat.eq_of_beq_eq_true e2]; exact hin e e1
                have : full seen may cnt = true := by
                  unfold full
                  apply Nat.ble_eq_true_of_le
                  simp only [List.length_append] at hle
                  omega
                rw [this] at n1; cases n1
            rw [hall]
            exact ⟨_, List.mem_append_left _ (List.mem_singleton.2 rfl), r, Step.refl hr, VR.of_plain r _ rfl⟩
          · exact OpX.mono (fun v' w' ⟨x, x1, x2⟩ => ⟨_, List.mem_append_right _ (List.mem_map.2 ⟨x, hfn x x1, rfl⟩), x2⟩) (key.2 hl)
      · cases hv
    · cases hv
  · cases hv
/-! All the ways. -/
structure St where
  t : T Value
  D : List Nat
  h : H
structure Out where
  x : Ex
  s : St
def bindO {α β : Type} (f : α → Option (List β)) : List α → Option (List β)
  | [] => some []
  | a :: l => match f a, bindO f l with
    | some x, some y => some (x ++ y)
    | _, _ => none
theorem bindO_mem {α β : Type} {f : α → Option (List β)} : ∀ {l : List α} {ys : List β}, bindO f l = some ys → ∀ x ∈ l, ∃ zs, f x = some zs ∧ ∀ z ∈ zs, z ∈ ys := by
  intro l
  induction l with
  | nil => intro ys _ x hx; cases hx
  | cons y l ih =>
    intro ys h x hx
    simp only [bindO] at h
    split at h
    · rename_i u v hu hv
      cases h
      cases hx with
      | head => exact ⟨u, hu, fun z hz => List.mem_append_left _ hz⟩
      | tail _ hx =>
        obtain ⟨zs, q1, q2⟩ := ih hv x hx
        exact ⟨zs, q1, fun z hz => List.mem_append_right _ (q2 z hz)⟩
    · cases h
abbrev LmF := Option Nat → Nat → Code → St → Option (List Out)
def lmOps (P : Program) (cf yf : CallF) (n : Nat) (all : List Oper) : List Oper → T Value → H → Option (List (T Value × H))
  | [], t, h => some [(t, h)]
  | o :: l, t, h => bif jg all t o then none else bif wants all t o then
      match step1 P cf yf o t h with
      | some (v, h') => lmOps P cf yf n all l (put n o.dst v t) h'
      | none => match (match o.op with
          | .next it false => nexts h t it
          | _ => none) with
        | some outs => bindO (fun p => lmOps P cf yf n all l (put n o.dst p.1 t) p.2) outs
        | none => none
    else lmOps P cf yf n all l (put n o.dst undef t) h
def isNormal : Ex → Bool
  | .normal => true
  | _ => false
/-- Rounds of a loop, breadth first; 'mg' (from which number on blocks are the loop's own; states) puts states together. -/
def lmLoop (lx : St → Option (List Out)) (mg : Nat → List St → List St) (k0 : Nat) : Nat → List St → Option (List Out)
  | 0, _ => none
  | f + 1, fr => match fr with
    | [] => some []
    | _ => match bindO lx fr with
      | some outs => match lmLoop lx mg k0 f (mg k0 ((outs.filter fun o => isNormal o.x).map (·.s))) with
        | some rest => some ((outs.filter fun o => !isNormal o.x) ++ rest)
        | none => none
      | none => none
def outB (id : Nat) (o : Out) : Out := match o.x with
  | .exit i => bif Nat.beq i id then ⟨.normal, o.s⟩ else o
  | _ => o
def lmBody (P : Program) (ex : CodeF) (cf yf : CallF) (mg : Nat → List St → List St) (lx : LmF) : LmF := fun ro n c s =>
  match ex ro n c s.t s.D s.h with
  | .ok x t' D' h' => some [⟨x, t', D', h'⟩]
  | .bad => match c with
    | .seq x y => match lx ro n x s with
      | some outs => bindO (fun o => match o.x with
        | .normal => lx ro n y o.s
        | _ => some [o]) outs
      | none => none
    | .cond x y z => match evT s.t x with
      | .bool q => lx ro n (bif q then y else z) s
      | _ => none
    | .scope x => lx ro n x s
    | .block id x => match lx ro n x s with
      | some outs => some (outs.map (outB id))
      | none => none
    | .loop x => lmLoop (lx ro n x) mg s.h.k 1000 [s]
    | .region _ ops false => match lmOps P cf yf n ops.toList ops.toList s.t s.h with
      | some outs => some (outs.map fun p => ⟨.normal, p.1, s.D, p.2⟩)
      | none => none
    | _ => none
def lmRun (P : Program) (ex : CodeF) (cf yf : CallF) (mg : Nat → List St → List St) : Nat → LmF
  | 0 => fun _ _ _ _ => none
  | k + 1 => lmBody P ex cf yf mg (lmRun P ex cf yf mg k)
/-- One of these ways. -/
def AtL (B : List Deferred) (r : Ren) (h : H) (w : World) (n : Nat) (outs : List Out) (x' : Ex) (a' : Act) (w' : World) : Prop := ∃ o ∈ outs, At B r h w n o.x o.s.t o.s.D o.s.h x' a' w'
def LxOk (P : Program) (lx : LmF) : Prop := ∀ (ro : Option Nat) (n : Nat) (c : Code) (s : St) (outs : List Out), lx ro n c s = some outs →
  ∀ {B : List Deferred} (r : Ren) (w : World) (a : Act) (ro' : Option Nat), HR r s.h w → AR r s.h n s.t a → DR r B s.D a.defers → RoR r ro ro' → RunsX P ro' c a w (AtL B r s.h w n outs)
/-- A state stands for where the model is (seen from the start of the loop). -/
def Here (B : List Deferred) (r : Ren) (h : H) (w : World) (n : Nat) (s : St) (a' : Act) (w' : World) : Prop := ∃ r', Step r h w r' s.h w' ∧ AR r' s.h n s.t a' ∧ DR r' B s.D a'.defers
def MgOk (mg : Nat → List St → List St) : Prop := ∀ (fr : List St) (s : St), s ∈ fr → ∀ (B : List Deferred) (r : Ren) (h : H) (w : World) (n : Nat) (a' : Act) (w' : World), HR r h w → Here B r h w n s a' w' →
  ∃ s' ∈ mg h.k fr, Here B r h w n s' a' w'
variable {b : Frame} {k : List Item} {cs : List Frame}
theorem lmOps_ok {cf yf : CallF} (hcf : CfOk P cf) (hyf : YfOk P yf) (ops : Array Oper) (hb : FrK b) : ∀ (l : List Oper) (j : Nat) (r : Ren) (h : H) (w : World) (t : T Value) (a : Act) (outs : List (T Value × H)),
    ops.toList.drop j = l → HR r h w → AR r h n t a → lmOps P cf yf n ops.toList l t h = some outs →
    ∃ p ∈ outs, ∃ r' a' w', Step r h w r' p.2 w' ∧ AR r' p.2 n p.1 a' ∧ a'.defers = a.defers ∧ Steps P (lone (b.atR a (.inRegion ops (List.range' j l.length) :: k)) cs w) (lone (b.atR a' (.inRegion ops [] :: k)) cs w') := by
  intro l
  induction l with
  | nil =>
    intro j r h w t a outs _ hr ha hv
    simp only [lmOps, Option.some.injEq] at hv
    subst hv
    exact ⟨(t, h), by simp, r, a, w, Step.refl hr, ha, rfl, .refl _ _⟩
  | cons o l ih =>
    intro j r h w t a outs hd hr ha hv
    have hoj : ops[j]? = some o := by
      rw [← Array.getElem?_toList, ← Nat.add_zero j, ← List.getElem?_drop, hd]; rfl
    have hdr : ops.toList.drop (j + 1) = l := by rw [← List.drop_drop, hd]; rfl
    have hrg : List.range' j (o :: l).length = j :: List.range' (j + 1) l.length := by rw [List.length_cons, List.range'_succ]
    rw [hrg]
    simp only [lmOps] at hv
    cases hjg : jg ops.toList t o with
    | true => rw [hjg] at hv; cases hv
    | false =>
    rw [hjg] at hv
    simp only [cond_false] at hv
    rw [wants_ok ha ops hjg] at hv
    cases hw : Region.wanted o (yielded ops a.tmps) with
    | true =>
      rw [hw] at hv
      simp only [cond_true] at hv
      have key : ∀ (ps : List (Value × H)) , OpX P (fun v' w' => ∃ p ∈ ps, Kt r h w p.1 p.2 v' w') ((execOp a.eval o).run P w) → (∀ p ∈ ps, ∃ zs, lmOps P cf yf n ops.toList l (put n o.dst p.1 t) p.2 = some zs ∧ ∀ z ∈ zs, z ∈ outs) →
          ∃ p ∈ outs, ∃ r' a' w', Step r h w r' p.2 w' ∧ AR r' p.2 n p.1 a' ∧ a'.defers = a.defers ∧ Steps P (lone (b.atR a (.inRegion ops (j :: List.range' (j + 1) l.length) :: k)) cs w) (lone (b.atR a' (.inRegion ops [] :: k)) cs w') := by
        intro ps hx hz
        have hnd : ∀ c, o.op ≠ .defer c := fun c ho => opx_defer ho hx
        rcases op_goes (k := k) (cs := cs) (rest := List.range' (j + 1) l.length) hoj hw hnd hb (.inr hx) with hg | ⟨v', w1, ⟨p, hp, r1, hs1, hv1⟩, hst⟩
        · exact hg.elim
        · obtain ⟨zs, z1, z2⟩ := hz p hp
          obtain ⟨q, q1, r2, a2, w2, f1, f2, f3, f4⟩ := ih (j + 1) r1 p.2 w1 _ (a.put o.dst v') zs hdr hs1.hr ((ha.ext hs1.ext).put o.dst hv1) z1
          exact ⟨q, z2 q q1, r2, a2, w2, hs1.trans f1, f2, by rw [f3]; cases o.dst <;> rfl, hst.trans f4⟩
      split at hv
      · rename_i v h1 hs
        have hx := step1_ok hr ha hcf hyf hs
        exact key [(v, h1)] (OpX.mono (fun v' w' q => ⟨(v, h1), by simp, q⟩) hx) (fun p hp => by simp at hp; subst hp; exact ⟨outs, hv, fun z hz => hz⟩)
      · split at hv
        · rename_i ps hps
          split at hps
          · rename_i it hop
            exact key ps (nexts_ok hr ha hop hps) (fun p hp => bindO_mem hv p hp)
          · cases hps
        · cases hv
    | false =>
      rw [hw] at hv
      simp only [cond_false] at hv
      have hst : Steps P (lone (b.atR a (.inRegion ops (j :: List.range' (j + 1) l.length) :: k)) cs w) (lone (b.atR (a.put o.dst undef) (.inRegion ops (List.range' (j + 1) l.length) :: k)) cs w) := by
        have := stepR_op_skip (P := P) (b := b) (a := a) (k := k) (cs := cs) (w := w) (ops := ops) (i := j) (rest := List.range' (j + 1) l.length) (by rw [hoj]; simp [hw])
        rw [hoj] at this
        exact .one this
      obtain ⟨q, q1, r2, a2, w2, f1, f2, f3, f4⟩ := ih (j + 1) r h w _ (a.put o.dst undef) outs hdr hr (ha.put o.dst (VR.of_plain r _ rfl)) hv
      exact ⟨q, q1, r2, a2, w2, f1, f2, by rw [f3]; cases o.dst <;> rfl, hst.trans f4⟩
theorem lmLoop_ok {lx : LmF} (hlx : LxOk P lx) {mg : Nat → List St → List St} (hmg : MgOk mg) {c : Code} {h0 : H} {w0 : World} {r0 : Ren} (hr0 : HR r0 h0 w0) (ho : RoR r0 ro ro') : ∀ (f : Nat) (fr : List St) (outs : List Out), lmLoop (lx ro n c) mg h0.k f fr = some outs →
    ∀ (s : St), s ∈ fr → ∀ (a : Act) (w : World), Here B r0 h0 w0 n s a w → LoopRuns P ro' c a w (AtL B r0 h0 w0 n outs) := by
  intro f
  induction f with
  | zero => intro fr outs hv; cases hv
  | succ f ih =>
    intro fr outs hv s hs a w hh
    simp only [lmLoop] at hv
    split at hv
    · cases hs
    · split at hv
      · rename_i os hos
        split at hv
        · rename_i rest hrest
          cases hv
          obtain ⟨zs, z1, z2⟩ := bindO_mem hos s hs
          obtain ⟨r1, st, ar, dr⟩ := hh
          refine loop_round ?_
          refine (hlx _ _ _ _ _ z1 r1 w a ro' st.hr ar dr (ho.ext st.ext)).runs.mono fun x a1 w1 hx => ?_
          obtain ⟨o, q1, hat⟩ := hx
          have hat' := hat.step st
          obtain ⟨ex, r2, st2, ar2, dr2⟩ := hat'
          cases x with
          | normal =>
            have hin : o.s ∈ ((os.filter fun o => isNormal o.x).map (·.s)) := List.mem_map.2 ⟨o, List.mem_filter.2 ⟨z2 o q1, by rw [← ex]; rfl⟩, rfl⟩
            obtain ⟨s', hs', hh'⟩ := hmg _ _ hin B r0 h0 w0 n a1 w1 hr0 ⟨r2, st2, ar2, dr2⟩
            have := ih _ _ hrest s' hs' a1 w1 hh'
            exact fun b k cs hk hro => (this b k cs hk hro).imp id fun ⟨x, a', w', ⟨o', p1, p2⟩, g⟩ => ⟨x, a', w', ⟨o', List.mem_append_right _ p1, p2⟩, g⟩
          | exit i => exact ⟨o, List.mem_append_left _ (List.mem_filter.2 ⟨z2 o q1, by rw [← ex]; rfl⟩), ex, r2, st2, ar2, dr2⟩
          | ret => exact ⟨o, List.mem_append_left _ (List.mem_filter.2 ⟨z2 o q1, by rw [← ex]; rfl⟩), ex, r2, st2, ar2, dr2⟩
        · cases hv
      · cases hv
theorem lmBody_ok {ex : CodeF} (hex : ExOk P ex) {cf yf : CallF} (hcf : CfOk P cf) (hyf : YfOk P yf) {mg : Nat → List St → List St} (hmg : MgOk mg) {lx : LmF} (hlx : LxOk P lx) : LxOk P (lmBody P ex cf yf mg lx) := by
  intro ro n c s outs hv B r w a ro' hr ha hd ho
  unfold lmBody at hv
  split at hv
  · rename_i x t' D' h' hq
    cases hv
    have := hex _ _ _ _ _ _ _ _ _ _ hq (B := B) r w a ro' hr ha hd ho
    cases c with
    | loop c => exact fun b k cs hk hro => (this b k cs hk hro).imp id fun ⟨y, a', w', q, g⟩ => ⟨y, a', w', ⟨⟨x, t', D', h'⟩, by simp, q⟩, g⟩
    | _ => exact (this.runs).mono fun y a1 w1 q => ⟨⟨x, t', D', h'⟩, by simp, q⟩
  · rename_i hbad
    clear hbad
    split at hv
    · rename_i x y
      split at hv
      · rename_i os hos
        refine runs_seq ((hlx _ _ _ _ _ hos r w a ro' hr ha hd ho).runs.mono fun z a1 w1 hz => ?_)
        obtain ⟨o, q1, hat⟩ := hz
        obtain ⟨zs, z1, z2⟩ := bindO_mem hv o q1
        have hat' := hat
        obtain ⟨rfl, r1, s1, ar1, d1⟩ := hat
        cases hox : o.x with
        | normal =>
          rw [hox] at z1 hat'
          exact ((hlx _ _ _ _ _ z1 r1 w1 a1 ro' s1.hr ar1 d1 (ho.ext s1.ext)).runs).mono fun y a2 w2 ⟨o2, p1, p2⟩ => ⟨o2, z2 o2 p1, p2.step s1⟩
        | exit i => rw [hox] at z1 hat'; cases z1; exact ⟨o, z2 o (by simp), by rw [hox]; exact hat'⟩
        | ret => rw [hox] at z1 hat'; cases z1; exact ⟨o, z2 o (by simp), by rw [hox]; exact hat'⟩
      · cases hv
    · rename_i x y z
      split at hv
      · rename_i q hq
        have hc : a.eval x = .bool q := by
          cases x with
          | tmp i =>
            have := ha.t i
            simp only [evT] at hq
            rw [hq] at this
            exact (this.vr rfl).to_bool
          | const u => exact hq
          | global g => simp [evT] at hq
          | func g => simp [evT] at hq
        refine runs_cond hc ?_
        cases q with
        | true => exact (hlx _ _ _ _ _ hv r w a ro' hr ha hd ho).runs
        | false => exact (hlx _ _ _ _ _ hv r w a ro' hr ha hd ho).runs
      · cases hv
    · exact runs_scope (hlx _ _ _ _ _ hv r w a ro' hr ha hd ho).runs
    · rename_i id x
      split at hv
      · rename_i os hos
        cases hv
        refine runs_block ((hlx _ _ _ _ _ hos r w a ro' hr ha hd ho).runs.mono fun z a1 w1 hz => ?_)
        obtain ⟨o, q1, hat⟩ := hz
        have hin := List.mem_map_of_mem (f := outB id) q1
        unfold outB at hin
        obtain ⟨rfl, r1, s1, ar1, d1⟩ := hat
        cases hox : o.x with
        | exit i =>
          simp only [hox] at hin
          simp only [Ex.inBlock]
          cases hi : Nat.beq i id with
          | true =>
            rw [hi] at hin
            rw [if_pos (Nat.eq_of_beq_eq_true hi)]
            exact ⟨⟨.normal, o.s⟩, hin, rfl, r1, s1, ar1, d1⟩
          | false =>
            rw [hi] at hin
            rw [if_neg (ne_of_beq hi)]
            exact ⟨o, hin, hox.symm, r1, s1, ar1, d1⟩
        | normal => simp only [hox] at hin; exact ⟨o, hin, hox.symm, r1, s1, ar1, d1⟩
        | ret => simp only [hox] at hin; exact ⟨o, hin, hox.symm, r1, s1, ar1, d1⟩
      · cases hv
    · rename_i x
      exact lmLoop_ok hlx hmg hr ho _ _ _ hv s (by simp) a w ⟨r, Step.refl hr, ha, hd⟩
    · rename_i id ops
      split at hv
      · rename_i os hos
        cases hv
        intro b k cs hk hro
        obtain ⟨p, p1, r2, a2, w2, f1, f2, f3, f4⟩ := lmOps_ok (b := b) (k := k) (cs := cs) hcf hyf ops hk ops.toList 0 r s.h w s.t a os rfl hr ha hos
        have hrg : List.range ops.size = List.range' 0 ops.toList.length := by rw [List.range_eq_range', Array.length_toList]
        have hst : Steps P (lone (b.atR a (.code (.region id ops false) :: k)) cs w) (lone (b.atR a (.inRegion ops (List.range' 0 ops.toList.length) :: k)) cs w) := by
          have := stepR_region (P := P) (b := b) (a := a) (k := k) (cs := cs) (w := w) (ops := ops) (id := id)
          rw [hrg] at this
          exact .one this
        exact .inr ⟨.normal, a2, w2, ⟨_, List.mem_map.2 ⟨p, p1, rfl⟩, rfl, r2, f1, f2, by rw [f3]; exact hd.ext f1.ext⟩, hst.trans (f4.trans (.one stepR_region_end))⟩
      · cases hv
    · cases hv
theorem lmRun_ok {ex : CodeF} (hex : ExOk P ex) {cf yf : CallF} (hcf : CfOk P cf) (hyf : YfOk P yf) {mg : Nat → List St → List St} (hmg : MgOk mg) : ∀ k, LxOk P (lmRun P ex cf yf mg k) := by
  intro k
  induction k with
  | zero => intro ro n c s outs hv; cases hv
  | succ k ih => exact lmBody_ok hex hcf hyf hmg ih
end
end Ev
end Go.Proofs.YtilnneogbpnkkaaGreatDoor
