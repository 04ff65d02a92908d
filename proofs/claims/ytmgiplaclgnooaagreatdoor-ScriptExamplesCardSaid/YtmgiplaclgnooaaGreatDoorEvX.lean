/- Our own machine's stores. -/
import Derived.Test.YtmgiplaclgnooaaGreatDoorEvW
import Derived.Deep.AppendSrc
set_option maxRecDepth 10000
namespace Go.Proofs.YtmgiplaclgnooaaGreatDoor
namespace Ev
noncomputable section
variable {P : Program} {r : Ren} {h : H} {w : World} {n : Nat} {t : T Value} {a : Act} {o : Oper} {v : Value}
theorem stN_cg (d : List Value) : ∀ (vs : List Value) (c : T Value) (f i : Nat), cg (stN c vs f) d i = if f ≤ i ∧ i < f + vs.length then vs[i - f]? else cg c d i
  | [], c, f, i => by rw [if_neg (by simp)]; rfl
  | v :: l, c, f, i => by
    simp only [stN]
    rw [stN_cg d l]
    by_cases h1 : f + 1 ≤ i ∧ i < f + 1 + l.length
    · rw [if_pos h1, if_pos (by simp; omega)]
      obtain ⟨k, rfl⟩ : ∃ k, i = f + 1 + k := ⟨i - (f + 1), by omega⟩
      rw [show f + 1 + k - (f + 1) = k by omega, show f + 1 + k - f = k + 1 by omega]
      rfl
    · rw [if_neg h1]
      by_cases h2 : i = f
      · subst h2
        rw [if_pos (by simp)]
        simp [cg, T.set_get v c (i + 1) (i + 1) (by omega)]
      · rw [if_neg (by simp; omega)]
        simp only [cg, T.set_get v c (f + 1) (i + 1) (by omega)]
        rw [if_neg (by omega)]
def wr (C : Array Value) (o : Nat) : List Value → Array Value
  | [] => C
  | v :: l => wr (C.setIfInBounds o v) (o + 1) l
theorem wr_size : ∀ (l : List Value) (C : Array Value) (o : Nat), (wr C o l).size = C.size
  | [], _, _ => rfl
  | v :: l, C, o => by simp only [wr]; rw [wr_size l]; simp
theorem wr_get : ∀ (l : List Value) (C : Array Value) (o i : Nat), o + l.length ≤ C.size → (wr C o l)[i]? = if o ≤ i ∧ i < o + l.length then l[i - o]? else C[i]?
  | [], C, o, i, _ => by rw [if_neg (by simp)]; rfl
  | v :: l, C, o, i, hs => by
    simp only [wr]
    rw [wr_get l _ _ _ (by simp at hs ⊢; omega)]
    by_cases h1 : o + 1 ≤ i ∧ i < o + 1 + l.length
    · rw [if_pos h1, if_pos (by simp; omega)]
      obtain ⟨k, rfl⟩ : ∃ k, i = o + 1 + k := ⟨i - (o + 1), by omega⟩
      rw [show o + 1 + k - (o + 1) = k by omega, show o + 1 + k - o = k + 1 by omega]
      rfl
    · rw [if_neg h1]
      by_cases h2 : i = o
      · subst h2
        rw [if_pos (by simp)]
        simp only [Nat.sub_self, List.getElem?_cons_zero]
        rw [Array.getElem?_setIfInBounds_self_of_lt (by simp at hs; omega)]
      · rw [if_neg (by simp; omega), Array.getElem?_setIfInBounds_ne (by omega)]
theorem setCell_heap {b o : Nat} {v : Value} {C : Array Value} {ty : TypeId} {f : Nat × Nat} (hb : w.heap[b]? = some (.cells C ty f)) : (w.setCell ⟨b, o, none⟩ v).heap[b]? = some (.cells (C.setIfInBounds o v) ty f) := by
  obtain ⟨hlt, he⟩ := Array.getElem?_eq_some_iff.1 hb
  show (w.heap.modify b _)[b]? = _
  rw [Array.getElem?_eq_getElem (by rw [Array.size_modify]; exact hlt), Array.getElem_modify_self, he]
  rfl
theorem setCell_heap_ne {b o k : Nat} {v : Value} (hk : k ≠ b) : (w.setCell ⟨b, o, none⟩ v).heap[k]? = w.heap[k]? := by
  show (w.heap.modify b _)[k]? = _
  by_cases hlt : k < w.heap.size
  · rw [Array.getElem?_eq_getElem (by rw [Array.size_modify]; exact hlt), Array.getElem?_eq_getElem hlt, Array.getElem_modify_of_ne (fun e => hk e.symm)]
  · rw [Array.getElem?_eq_none (by rw [Array.size_modify]; omega), Array.getElem?_eq_none (by omega)]
theorem setCells_heap {b : Nat} {ty : TypeId} {f : Nat × Nat} : ∀ (l : List Value) (o : Nat) (w : World) (C : Array Value), w.heap[b]? = some (.cells C ty f) → (w.setCells b o l).heap[b]? = some (.cells (wr C o l) ty f)
  | [], _, _, _, hb => hb
  | v :: l, o, w, C, hb => setCells_heap l (o + 1) _ _ (setCell_heap hb)
theorem setCells_heap_ne {b k : Nat} (hk : k ≠ b) : ∀ (l : List Value) (o : Nat) (w : World), (w.setCells b o l).heap[k]? = w.heap[k]?
  | [], _, _ => rfl
  | v :: l, o, w => (setCells_heap_ne hk l (o + 1) _).trans (setCell_heap_ne hk)
theorem setCells_size {b : Nat} : ∀ (l : List Value) (o : Nat) (w : World), (w.setCells b o l).heap.size = w.heap.size
  | [], _, _ => rfl
  | v :: l, o, w => (setCells_size l (o + 1) _).trans (by show (w.heap.modify b _).size = _; simp)
theorem setCells_os {b : Nat} : ∀ (l : List Value) (o : Nat) (w : World), (w.setCells b o l).os = w.os ∧ (w.setCells b o l).tape = w.tape ∧ (w.setCells b o l).output = w.output
  | [], _, _ => ⟨rfl, rfl, rfl⟩
  | v :: l, o, w => setCells_os l (o + 1) (w.setCell ⟨b, o, none⟩ v)
theorem one_cell (v : Value) : v.oneCell' = one v := by cases v <;> rfl
theorem VRL.all_one {l l' : List Value} (h : VRL r l l') (h1 : l.all one = true) : ∀ v ∈ l', v.oneCell' = true := by
  induction l generalizing l' with
  | nil => cases h; intro v hv; cases hv
  | cons x l ih =>
    cases h with
    | cons hx ht =>
      simp only [List.all_cons, Bool.and_eq_true] at h1
      intro v hv
      cases hv with
      | head => rw [one_cell, hx.one]; exact h1.1
      | tail _ hv => exact ih ht h1.2 v hv
/-- What a store into a block of ours promises. -/
theorem putC_ok (hr : HR r h w) {b f : Nat} {e : E} (he : r b = some e) {vs vs' : List Value} (hvs : VRL r vs vs') {h' : H} (hp : putC h b f vs = some h') :
    Step r h w r h' (w.setCells e.blk (e.base + f) vs') ∧ w.there e.blk (e.base + f) vs'.length ∧ ∀ v ∈ vs', v.oneCell' = true := by
  unfold putC at hp
  obtain ⟨hc, hp⟩ := bif_some hp
  simp only [Bool.and_eq_true] at hc
  have hlo := Nat.le_of_ble_eq_true hc.1
  split at hp
  · rename_i m c d s hb
    obtain ⟨hle, hp⟩ := bif_some hp
    simp only [Bool.and_eq_true] at hle
    have hwr := hle.2
    have hle := Nat.le_of_ble_eq_true hle.1
    simp only [Option.some.injEq] at hp
    subst hp
    obtain ⟨e', p1, hlt, C, ty, fz, p2, p3, p4, p5, p6⟩ := hr.blk b _ hb
    rw [he] at p1; cases p1
    have hlen := hvs.length
    have hbase : e.base + m ≤ C.size := by
      rw [p3]
      split at p6
      · omega
      · exact p6.1
    refine ⟨?_, fun j hj => ?_, hvs.all_one hc.2⟩
    · obtain ⟨o1, o2, o3⟩ := setCells_os (b := e.blk) vs' (e.base + f) w
      refine hr.set_ hb he hlo (setCells_size _ _ _) (fun k hk => setCells_heap_ne hk _ _ _) o1 o2 o3 ⟨wr C (e.base + f) vs', ty, fz, setCells_heap _ _ _ _ p2, by rw [wr_size]; exact p3, fun i hi => ?_, fun hw i hi => p5 hw i (by rw [wr_size] at hi; exact hi), p6⟩
      rw [stN_cg, wr_get _ _ _ _ (by omega)]
      by_cases hin : f ≤ i ∧ i < f + vs.length
      · rw [if_pos hin, if_pos (by omega)]
        obtain ⟨v', q1, q2⟩ := hvs.get (List.getElem?_eq_getElem (l := vs) (i := i - f) (by omega))
        exact ⟨_, v', List.getElem?_eq_getElem (by omega), by rw [show e.base + i - (e.base + f) = i - f by omega]; exact q1, q2⟩
      · rw [if_neg hin, if_neg (by omega)]
        exact p4 i hi
    · have hj' : e.base + f + j < C.size := by omega
      refine ⟨by simp [World.cell?, p2, hj'], ?_⟩
      simp only [World.frozen?, p2]
      have := p5 hwr _ hj'
      simp only [Bool.and_eq_false_iff, decide_eq_false_iff_not]
      omega
  · cases hp
theorem ef_store (hr : HR r h w) (ha : AR r h n t a) {ty : TypeId} {x y : Operand} (ho : o.op = .store ty x y) {b f : Nat} (hx : evO h.g t x = some (.pointer (some ⟨b, f, none⟩))) {u : Value} (hy : evO h.g t y = some u) {i : TypeInfo} (hi : P.info? ty = some i) (hl : u.cells.toList.length = i.size)
    {h' : H} (hp : putC h b f u.cells.toList = some h') : StOk P r h w o a undef h' := by
  have h1 := evO_ok hr ha hx
  have h2 := evO_ok hr ha hy
  generalize hq : a.eval x = z at h1
  generalize hqy : a.eval y = u' at h2
  cases h1 with
  | ptr he =>
    rename_i e
    obtain ⟨hs, hth, hone⟩ := putC_ok hr he h2.cells hp
    have hsz : u'.cells.size = i.size := by have := h2.cells.length; simp at this hl; omega
    have hst := run_storeCells_cells (P := P) e.blk (e.base + f) u'.cells.toList 0 w (fun j hj => by simpa using (hth j hj).1) (fun j hj => by simpa using (hth j hj).2) hone
    simp only [Nat.add_zero] at hst
    refine ⟨r, undef, _, hs, VR.of_plain r _ rfl, .inr ⟨?_, rfl⟩⟩
    simp [execOp, ho, hq, hqy, Instr.storeAt, Instr.sureAddr, storeVar, sizeOf, typeInfo, hi, hsz, hst]
end
end Ev
end Go.Proofs.YtmgiplaclgnooaaGreatDoor
