/- Lists that grow: slices of structs in memory of the call's own. · copy, append in place, clear: elements of k cells. No program in sight. · Builtins by their run's equation; lists of k cells: take, drop, splice. No program in sigh · Go's slices.Delete of one entry. · Regions that draw, load, call, and store into what they loaded: one step. And what Read ha · Books and scripts as values; equal or not. · Scripts as values; equal or not. -/
import Derived.Laws.CopyOwn
import Derived.Lib.AppendZerosOnto
import Derived.Deep.RegionHeld3
import Derived.Deep.MidRow
import Derived.Deep.QuietTactic
import Derived.BigQuiet
import Derived.Test.YtamcgggmfghljaaGreatDoorC2
set_option maxRecDepth 100000
set_option maxHeartbeats 8000000
namespace Go.Proofs.YtamcgggmfghljaaGreatDoor
open Go.RowKit
/-- The slice v is the call's own and reads as a list of elements of k cells each. -/
def Own {α : Type} (c : α → List Value) (e : TypeId) (k : Nat) (w : World) (v : Value) (l : List α) : Prop := w.ownsRow 0 e k v l.length (l.flatMap c)
section
variable {α : Type} {c : α → List Value} {e : TypeId} {k : Nat} {w w' : World} {v : Value} {l : List α}
theorem Own.nil (c : α → List Value) (e : TypeId) (k : Nat) (w : World) : Own c e k w (.slice none 0 0) [] := World.ownsRow_nil w 0 _ _
theorem Own.lt (h : Own c e k w v l) (q : Nat) (hq : v.ownBlock = some q) : q < w.heap.size := (World.ownsRow.lt h q hq).2
theorem Own.alloc (h : Own c e k w v l) (o : Obj) : Own c e k (w.alloc o) v l := World.ownsRow.alloc h o
theorem Own.drew (h : Own c e k w v l) : Own c e k w.drew v l := h
theorem Own.drewN (h : Own c e k w v l) (n : Nat) : Own c e k (w.drewN n) v l := h
theorem Own.chg {S : Nat → Prop} (h : Own c e k w v l) (hb : Chg S w w') (hv : ∀ q, v.ownBlock = some q → ¬ S q) : Own c e k w' v l := by
  rcases hq : v.ownBlock with _ | q
  · rcases h.2 with ⟨rfl, he⟩ | ⟨g, cap, cur, rfl, _⟩
    · exact ⟨h.1, .inl ⟨rfl, he⟩⟩
    · simp [Value.ownBlock] at hq
  · obtain ⟨h1, h2⟩ := h
    refine ⟨h1, ?_⟩
    rcases h2 with ⟨rfl, he⟩ | ⟨g, cap, cur, rfl, hb0, hg, hr⟩
    · exact .inl ⟨rfl, he⟩
    · have e1 : g = q := by simpa [Value.ownBlock] using hq
      have hlt : g < w.heap.size := (World.ownsRow.lt (v := .slice (some ⟨g, 0, none⟩) l.length cap) ⟨h1, .inr ⟨g, cap, cur, rfl, hb0, hg, hr⟩⟩ g rfl).2
      exact .inr ⟨g, cap, cur, rfl, hb0, (hb.block g hlt (hv g (by simp [Value.ownBlock]))).trans hg, hr⟩
theorem Own.below (h : Own c e k w v l) (hb : Below w.heap.size w w') : Own c e k w' v l := h.chg (S := fun _ => False) ⟨hb.os, hb.tape, hb.output, hb.size, fun q hq _ => hb.block q hq⟩ (fun _ _ h => h)
theorem Own.outTo {u u' : Value} (h : Own c e k w v l) (hb : OutTo w u w' u') (hv : ∀ q, v.ownBlock = some q → u.ownBlock ≠ some q) : Own c e k w' v l := h.chg hb.chg hv
theorem Own.sls (h : Own c e k w v l) (hm : l.length ≤ maxLen) : Sls c w w.heap.size v l := Sls.of_own h hm
end
section
variable {P : Program} {α : Type}
/-- A list more. -/
theorem run_more (w : World) (c : α → List Value) (t ty e : TypeId) (i : TypeInfo) (z : Value) (size bytes : Nat) (ht : P.underlying t = some (.slice e)) (hi : P.info? e = some i) (hz : i.zero = some z)
    (hsize : i.size = size) (hby : i.bytes = bytes) (hzs : z.cells.size = size) (hsz : 0 < size) (v : Value) (l : List α) (hown : Own c e size w v l) (B : Nat) (v2 : Value) (l2 : List α) (hl : Sls c w B v2 l2)
    (hk : ∀ x, (c x).length = size) (h1 : ∀ x, ∀ u ∈ c x, u.oneCell' = true) (hn : l.length + l2.length ≤ 1000000) (hb : bytes ≤ 1000000) :
    ∃ v' w', (Builtin.append_ #[t, t] ty #[v, v2]).run P w = .ok v' w' ∧ Own c e size w' v' (l ++ l2) ∧ OutTo w v w' v' := by
  obtain ⟨A, cap, rfl, hc, hm, hr⟩ := hl
  rcases A with _ | ad
  · have h0 : l2.length = 0 := by
      rcases Nat.eq_zero_or_pos l2.length with h0 | h0
      · exact h0
      · obtain ⟨b, o, h, _⟩ := hr h0
        cases h
    have hn : l2 = [] := List.eq_nil_of_length_eq_zero h0
    subst hn
    rw [List.append_nil]
    refine ⟨v, w, ?_, hown, OutTo.refl _ _⟩
    rcases hown.2 with ⟨rfl, he⟩ | ⟨g, cp, cur, rfl, hb0, hg, hnc, hcm, hcs, htake⟩
    · simp [Builtin.append_, run_underlying ht, sizeOf, typeInfo, hi, Builtin.lenOf, Builtin.firstCells]
    · simp [Builtin.append_, run_underlying ht, sizeOf, typeInfo, hi, Builtin.lenOf, Builtin.firstCells, hnc, storeCells]
  · have hcells : ∀ j u, (l2.flatMap c)[j]? = some u → w.cell? (ad.add j) = some u := by
      intro j u hu
      rcases Nat.eq_zero_or_pos l2.length with h0 | h0
      · have hn : l2 = [] := List.eq_nil_of_length_eq_zero h0
        subst hn
        simp at hu
      · obtain ⟨b, o, h, _, hg⟩ := hr h0
        injection h with h
        subst h
        rw [Addr.add_mid]
        exact hg j u hu
    have hmul : (l.length + l2.length) * bytes ≤ 1000000 * 1000000 := Nat.mul_le_mul hn hb
    obtain ⟨v', w', hrun, h2, h3, h4, h5⟩ := run_append_own_at (P := P) w 0 t ty e i z size bytes ht hi hz hsize hby hzs hsz v l.length (l.flatMap c) hown ad l2.length cap (l2.flatMap c) (flatMap_length c size hk l2) hcells
      (by intro u hu; obtain ⟨x, _, hx⟩ := List.mem_flatMap.1 hu; exact h1 x u hx) (by unfold maxLen; omega) (by omega) (Nat.zero_le _)
    refine ⟨v', w', hrun, ?_, ⟨⟨h3.os, h3.tape, h3.output, h3.size, fun k hk hs => h3.block k hk (fun e => hs e.symm)⟩, fun k hk => ?_⟩⟩
    · show w'.ownsRow 0 e size v' (l ++ l2).length ((l ++ l2).flatMap c)
      rw [List.length_append, List.flatMap_append]
      exact h2
    · rcases h5 with h5 | h5
      · exact .inl (h5 ▸ hk)
      · rw [h5] at hk
        exact .inr (by simp at hk; omega)
theorem wpList_more {w : World} (c : α → List Value) {ops : Array Oper} {rest : List Oper} {o : Oper} {a : Act} {Q : Exit → Act → World → Prop} (hgd : o.guard = none) (s x : Operand) (t : TypeId)
    (ho : o.op = .call { callee := .builtin .append, args := #[s, x], argTypes := #[t, t] })
    (e : TypeId) (i : TypeInfo) (z : Value) (size bytes : Nat) (ht : P.underlying t = some (.slice e)) (hi : P.info? e = some i) (hz : i.zero = some z)
    (hsize : i.size = size) (hby : i.bytes = bytes) (hzs : z.cells.size = size) (hsz : 0 < size) (v : Value) (l : List α) (hs : a.eval s = v) (hown : Own c e size w v l) (B : Nat) (v2 : Value) (l2 : List α) (hx : a.eval x = v2) (hl : Sls c w B v2 l2)
    (hk : ∀ x, (c x).length = size) (h1 : ∀ x, ∀ u ∈ c x, u.oneCell' = true) (hn : l.length + l2.length ≤ 1000000) (hb : bytes ≤ 1000000)
    (h : ∀ v' w', Own c e size w' v' (l ++ l2) → OutTo w v w' v' → wpList P ops Q rest (a.put o.dst v') w') : wpList P ops Q (o :: rest) a w := by
  obtain ⟨v', w', hrun, h2, h3⟩ := run_more (P := P) w c t o.type e i z size bytes ht hi hz hsize hby hzs hsz v l hown B v2 l2 hl hk h1 hn hb
  refine wpList_plain hgd fun K hK => ?_
  unfold Oper.wp execOp
  simp only [ho, resolve, invoke, builtin, Sem.run_bind, Sem.run_pure, Result.andThen_ok, List.map_toArray, List.map_cons, List.map_nil, hs, hx, hrun]
  exact hK _ _ (h v' w' h2 h3)
end
section
variable {P : Program} {w : World}
theorem addr_at (g o j : Nat) : (⟨g, o, none⟩ : Addr).add j = ⟨g, o + j, none⟩ := by unfold Addr.add; split <;> simp_all
theorem run_copy_k (dT sT ty elem : TypeId) (i : TypeInfo) (size g o dLen dCap : Nat) (a : Addr) (sLen sCap : Nat) (cur : Array Value) (t : TypeId) (cs : List Value)
    (hu : P.underlying dT = some (.slice elem)) (hi : P.info? elem = some i) (hs : i.size = size) (hg : w.heap[g]? = some (.cells cur t (0, 0))) (hn : cs.length = Nat.min sLen dLen * size)
    (hsrc : ∀ j v, cs[j]? = some v → w.cell? (a.add j) = some v) (hfit : o + cs.length ≤ cur.size) (h1 : ∀ v ∈ cs, v.oneCell' = true) :
    (Builtin.copy_ #[dT, sT] ty #[.slice (some ⟨g, o, none⟩) dLen dCap, .slice (some a) sLen sCap]).run P w =
      .ok (goInt (Nat.min sLen dLen)) (w.setRow g (splice cur.toList o cs).toArray) := by
  have hl := run_loadCells_list (P := P) w a cs hsrc
  have hst := run_storeCells_at P g o t cs 0 cur w hg (by simpa using hfit) h1
  simp [Builtin.copy_, run_underlying hu, Builtin.lenOf, Builtin.firstCells, sizeOf, typeInfo, hi, hs, ← hn, hl, hst, splice]
theorem run_room_k (t ty elem : TypeId) (i : TypeInfo) (size g o n cap : Nat) (a : Addr) (m c : Nat) (cur : Array Value) (tt : TypeId) (cs : List Value)
    (ht : P.underlying t = some (.slice elem)) (hi : P.info? elem = some i) (hs : i.size = size) (hg : w.heap[g]? = some (.cells cur tt (0, 0))) (hn : cs.length = m * size) (hroom : n + m ≤ cap)
    (hsrc : ∀ j v, cs[j]? = some v → w.cell? (a.add j) = some v) (hfit : o + n * size + cs.length ≤ cur.size) (h1 : ∀ v ∈ cs, v.oneCell' = true) :
    (Builtin.append_ #[t, t] ty #[.slice (some ⟨g, o, none⟩) n cap, .slice (some a) m c]).run P w =
      .ok (.slice (some ⟨g, o, none⟩) (n + m) cap) (w.setRow g (splice cur.toList (o + n * size) cs).toArray) := by
  have hl := run_loadCells_list (P := P) w a cs hsrc
  have hst := run_storeCells_at P g (o + n * size) tt cs 0 cur w hg (by simpa using hfit) h1
  simp [Builtin.append_, run_underlying ht, Builtin.lenOf, Builtin.firstCells, sizeOf, typeInfo, hi, hs, hroom, ← hn, hl, addr_at, hst, splice]
theorem run_room_k0 (t ty elem : TypeId) (i : TypeInfo) (g o n cap : Nat) (A : Option Addr) (c : Nat)
    (ht : P.underlying t = some (.slice elem)) (hi : P.info? elem = some i) (hroom : n ≤ cap) :
    (Builtin.append_ #[t, t] ty #[.slice (some ⟨g, o, none⟩) n cap, .slice A 0 c]).run P w = .ok (.slice (some ⟨g, o, none⟩) n cap) w := by
  rcases A with _ | a <;> simp [Builtin.append_, run_underlying ht, Builtin.lenOf, Builtin.firstCells, sizeOf, typeInfo, hi, hroom, storeCells, loadCells, loadCellsFrom]
theorem run_clear_k (t ty elem : TypeId) (z : Value) (g o n c : Nat) (cur : Array Value) (tt : TypeId)
    (ht : P.underlying t = some (.slice elem)) (hz : ∀ w, (zeroValue elem).run P w = .ok z w) (hn : 0 < n) (hg : w.heap[g]? = some (.cells cur tt (0, 0)))
    (hfit : o + n * z.cells.size ≤ cur.size) (h1 : ∀ v ∈ z.cells.toList, v.oneCell' = true) :
    (Builtin.clear_ #[t] ty #[.slice (some ⟨g, o, none⟩) n c]).run P w = .ok (.tuple #[]) (w.setRow g (splice cur.toList o (Builtin.zeroCells z.cells n).toList).toArray) := by
  have hlen : (Builtin.zeroCells z.cells n).toList.length = n * z.cells.size := by simp [Builtin.zeroCells]
  have hst := run_storeCells_at P g o tt (Builtin.zeroCells z.cells n).toList 0 cur w hg (by rw [hlen]; simpa using hfit) (by
    intro v hv
    simp only [Builtin.zeroCells, Array.toList_map, Array.toList_range, List.mem_map, List.mem_range] at hv
    obtain ⟨j, hj, rfl⟩ := hv
    have hp : 0 < z.cells.size := by
      rcases Nat.eq_zero_or_pos z.cells.size with h0 | h0
      · rw [h0] at hj; simp at hj
      · exact h0
    have hm := Nat.mod_lt j hp
    rw [getElem!_pos z.cells (j % z.cells.size) hm]
    exact h1 _ (by simp))
  obtain ⟨n, rfl⟩ : ∃ m, n = m + 1 := ⟨n - 1, by omega⟩
  simp [Builtin.clear_, run_underlying ht, hz, hst, splice]
end
section
variable {P : Program} {ops : Array Oper} {o : Oper} {a : Act} {w : World} {K : Act → World → Prop} {Q : Exit → Act → World → Prop} {E : Prop}
theorem step_append_eq (hgd : o.guard = none) (s x : Operand) (t t2 : TypeId) (ho : o.op = .call { callee := .builtin .append, args := #[s, x], argTypes := #[t, t2] })
    (sv xv v : Value) (w' : World) (hs : a.eval s = sv) (hx : a.eval x = xv) (hrun : (Builtin.append_ #[t, t2] o.type #[sv, xv]).run P w = .ok v w') (h : K (a.put o.dst v) w') :
    if Region.wanted o (yielded ops a.tmps) = true then Oper.wp P o a w K Q else E := by
  have hw : Region.wanted o (yielded ops a.tmps) = true := by simp [Region.wanted, hgd]
  rw [if_pos hw]
  unfold Oper.wp
  simp [execOp, ho, resolve, invoke, builtin, hs, hx, hrun, Result.andThen]
  exact h
theorem step_copy_eq (hgd : o.guard = none) (s x : Operand) (t t2 : TypeId) (ho : o.op = .call { callee := .builtin .copy, args := #[s, x], argTypes := #[t, t2] })
    (sv xv v : Value) (w' : World) (hs : a.eval s = sv) (hx : a.eval x = xv) (hrun : (Builtin.copy_ #[t, t2] o.type #[sv, xv]).run P w = .ok v w') (h : K (a.put o.dst v) w') :
    if Region.wanted o (yielded ops a.tmps) = true then Oper.wp P o a w K Q else E := by
  have hw : Region.wanted o (yielded ops a.tmps) = true := by simp [Region.wanted, hgd]
  rw [if_pos hw]
  unfold Oper.wp
  simp [execOp, ho, resolve, invoke, builtin, hs, hx, hrun, Result.andThen]
  exact h
variable {rest : List Oper}
theorem wpList_append_eq (hgd : o.guard = none) (s x : Operand) (t t2 : TypeId) (ho : o.op = .call { callee := .builtin .append, args := #[s, x], argTypes := #[t, t2] })
    (sv xv v : Value) (w' : World) (hs : a.eval s = sv) (hx : a.eval x = xv) (hrun : (Builtin.append_ #[t, t2] o.type #[sv, xv]).run P w = .ok v w') (h : wpList P ops Q rest (a.put o.dst v) w') : wpList P ops Q (o :: rest) a w := by
  refine wpList_plain hgd fun K hK => ?_
  unfold Oper.wp execOp
  simp only [ho, resolve, invoke, builtin, Sem.run_bind, Sem.run_pure, Result.andThen_ok, List.map_toArray, List.map_cons, List.map_nil, hs, hx, hrun]
  exact hK _ _ h
end
section
variable {α : Type} {c : α → List Value} {k : Nat} (hk : ∀ x, (c x).length = k)
include hk
theorem flat_take : ∀ (l : List α) (j : Nat), (l.flatMap c).take (j * k) = (l.take j).flatMap c
  | [], j => by simp
  | x :: l, 0 => by simp
  | x :: l, j + 1 => by
    rw [List.flatMap_cons, List.take_succ_cons, List.flatMap_cons, ← flat_take l j, List.take_append, hk, List.take_of_length_le (by rw [hk, Nat.add_mul]; omega)]
    congr 2
    rw [Nat.add_mul]
    omega
theorem flat_drop : ∀ (l : List α) (j : Nat), (l.flatMap c).drop (j * k) = (l.drop j).flatMap c
  | [], j => by simp
  | x :: l, 0 => by simp
  | x :: l, j + 1 => by
    rw [List.flatMap_cons, List.drop_succ_cons, ← flat_drop l j, List.drop_append, hk, List.drop_of_length_le (by rw [hk, Nat.add_mul]; omega)]
    rw [List.nil_append]
    congr 1
    rw [Nat.add_mul]
    omega
end
theorem ins_take_drop {β : Type} : ∀ (l : List β) (i : Nat) (x : β), i ≤ l.length → l.insertIdx i x = l.take i ++ x :: l.drop i
  | l, 0, x, _ => by simp
  | [], i + 1, x, h => by simp at h
  | y :: l, i + 1, x, h => by
    rw [List.insertIdx_succ_cons, ins_take_drop l i x (by simpa using h)]
    rfl
theorem take_splice_end {L cs : List Value} {off : Nat} (h : off ≤ L.length) : (splice L off cs).take (off + cs.length) = L.take off ++ cs := by
  unfold splice
  rw [← List.append_assoc, List.take_append_of_le_length (by simp; omega), List.take_of_length_le (by simp; omega)]
theorem take_splice_before {L cs : List Value} {off n : Nat} (hn : n ≤ off) (h : off ≤ L.length) : (splice L off cs).take n = L.take n := by
  unfold splice
  rw [List.take_append_of_le_length (by simp; omega), List.take_take, Nat.min_eq_left hn]
section
variable {α : Type} {c : α → List Value} {k : Nat} (hk : ∀ x, (c x).length = k)
include hk
/-- A row whose first cells are l's, and what elements i to the end have become. -/
theorem row_take {cur : List Value} {l : List α} (h : cur.take (l.length * k) = l.flatMap c) {j : Nat} (hj : j ≤ l.length) : cur.take (j * k) = (l.take j).flatMap c := by
  rw [← flat_take hk, ← h, List.take_take]
  congr 1
  exact (Nat.min_eq_left (Nat.mul_le_mul_right k hj)).symm
theorem row_at {cur : List Value} {l : List α} (h : cur.take (l.length * k) = l.flatMap c) (i : Nat) : ∀ (j : Nat) (v : Value), ((l.drop i).flatMap c)[j]? = some v → cur[i * k + j]? = some v := by
  intro j v hv
  rw [← flat_drop hk, List.getElem?_drop, ← h] at hv
  rw [List.getElem?_take] at hv
  split at hv
  · exact hv
  · cases hv
/-- Element i struck. -/
theorem row_del {cur : List Value} {l : List α} (h : cur.take (l.length * k) = l.flatMap c) (hs : l.length * k ≤ cur.length) {i : Nat} (hi : i < l.length) (z : List Value) :
    (splice (splice cur (i * k) ((l.drop (i + 1)).flatMap c)) ((l.length - 1) * k) z).take ((l.length - 1) * k) = (l.eraseIdx i).flatMap c := by
  have e1 : (l.length - 1) * k = i * k + ((l.drop (i + 1)).flatMap c).length := by
    rw [flatMap_length c k hk, List.length_drop, ← Nat.add_mul]
    congr 1
    omega
  have hik : i * k ≤ l.length * k := Nat.mul_le_mul_right k (by omega)
  have hlen : (splice cur (i * k) ((l.drop (i + 1)).flatMap c)).length = cur.length := by
    refine length_splice _ _ _ ?_
    rw [← e1]
    exact Nat.le_trans (Nat.mul_le_mul_right k (by omega)) hs
  rw [take_splice_before (Nat.le_refl _) (by rw [hlen]; exact Nat.le_trans (Nat.mul_le_mul_right k (by omega)) hs), e1, take_splice_end (by omega), row_take hk h (by omega), ← List.flatMap_append, List.eraseIdx_eq_take_drop_succ]
/-- Element x put at place i. -/
theorem row_ins {cur : List Value} {l : List α} (h : cur.take (l.length * k) = l.flatMap c) (hs : (l.length + 1) * k ≤ cur.length) {i : Nat} (hi : i ≤ l.length) (x : α) :
    (splice (splice cur ((i + 1) * k) ((l.drop i).flatMap c)) (i * k) (c x)).take ((l.length + 1) * k) = (l.insertIdx i x).flatMap c := by
  have hD : ((l.drop i).flatMap c).length = (l.length - i) * k := by rw [flatMap_length c k hk, List.length_drop]
  have e1 : (i + 1) * k + ((l.drop i).flatMap c).length = (l.length + 1) * k := by
    rw [hD, ← Nat.add_mul]
    congr 1
    omega
  have hi1 : (i + 1) * k ≤ (l.length + 1) * k := Nat.mul_le_mul_right k (by omega)
  have e2 : i * k + k = (i + 1) * k := by rw [Nat.add_mul]; omega
  rw [ins_take_drop _ _ _ hi, List.flatMap_append, List.flatMap_cons, ← row_take hk h hi]
  have a1 : (splice cur ((i + 1) * k) ((l.drop i).flatMap c)).take (i * k) = cur.take (i * k) := take_splice_before (by omega) (by omega)
  have a2 : (splice cur ((i + 1) * k) ((l.drop i).flatMap c)).drop ((i + 1) * k) = (l.drop i).flatMap c ++ cur.drop ((l.length + 1) * k) := by
    unfold splice
    rw [e1, List.drop_append, List.drop_of_length_le (by simp; omega), List.nil_append]
    rw [show (i + 1) * k - (cur.take ((i + 1) * k)).length = 0 by simp; omega]
    rfl
  generalize splice cur ((i + 1) * k) ((l.drop i).flatMap c) = S at a1 a2 ⊢
  unfold splice
  rw [a1, hk, e2, a2, ← List.append_assoc, ← List.append_assoc, List.append_assoc (cur.take (i * k))]
  rw [List.take_append_of_le_length (by simp [hk, hD]; omega), List.take_of_length_le (by simp [hk, hD]; omega)]
end
/-- The row of a list of the call's own, written out. -/
theorem Own.row {α : Type} {c : α → List Value} {e : TypeId} {k : Nat} (_hk : ∀ x, (c x).length = k) {w : World} {v : Value} {l : List α} (h : Own c e k w v l) (hl : 0 < l.length) :
    ∃ g cap cur, v = .slice (some ⟨g, 0, none⟩) l.length cap ∧ w.heap[g]? = some (.cells cur e (0, 0)) ∧ l.length ≤ cap ∧ cap ≤ maxLen ∧ cur.size = cap * k ∧ cur.toList.take (l.length * k) = l.flatMap c := by
  obtain ⟨h1, h2⟩ := h
  rcases h2 with ⟨he, e2⟩ | ⟨g, cap, cur, rfl, hb0, hg, hnc, hcm, hcs, htake⟩
  · omega
  · exact ⟨g, cap, cur, rfl, hg, hnc, hcm, hcs, htake⟩
theorem Own.of_row {α : Type} {c : α → List Value} {e : TypeId} {k : Nat} (hk : ∀ x, (c x).length = k) {w : World} {l : List α} {g cap : Nat} {cur : Array Value} (hg : w.heap[g]? = some (.cells cur e (0, 0))) (hnc : l.length ≤ cap) (hcm : cap ≤ maxLen) (hcs : cur.size = cap * k)
    (ht : cur.toList.take (l.length * k) = l.flatMap c) : Own c e k w (.slice (some ⟨g, 0, none⟩) l.length cap) l :=
  ⟨flatMap_length c k hk l, .inr ⟨g, cap, cur, rfl, Nat.zero_le _, hg, hnc, hcm, hcs, ht⟩⟩
theorem NoPanic.put {Q : Exit → Act → World → Prop} {c : _} {a : Act} {d : Option Tmp} {v : Value} {w : World} (h : NoPanic Q (.panic c) (a.put d v) w) : NoPanic Q (.panic c) a w := (h : False).elim
theorem zero_ent (w : World) : (zeroValue 58).run Tryz.prog w = .ok (.agg #[.int .i64 0, .int .i64 0, .string ⟨#[]⟩]) w := by
  have : Tryz.prog.info? 58 = Tryz.prog.info? 58 := rfl
  obtain ⟨i0, hi0, hz0, hz1, hz2⟩ := info_parts (show (Tryz.prog.info? 58).map (fun i => (i.zero, i.size, i.bytes)) = some (some (.agg #[.int .i64 0, .int .i64 0, .string ⟨#[]⟩]), 3, 32) by kernel_rfl)
  simp [zeroValue, typeInfo, hi0, hz0]
theorem run_del {l : List Ent} {i g cap : Nat} {cur : Array Value} {W : World} {A : Option Addr} (hi : i < l.length) (hnc : l.length ≤ cap) (hcs : cur.size = cap * 3) (ht : cur.toList.take (l.length * 3) = l.flatMap cEnt)
    (hA : (if cap = i + 1 then some (⟨g, 0, none⟩ : Addr) else some ⟨g, (i + 1) * 3, none⟩) = A) (hg : W.heap[g]? = some (.cells cur 58 (0, 0))) :
    (Builtin.append_ #[22, 22] 22 #[.slice (some ⟨g, 0, none⟩) i cap, .slice A (l.length - (i + 1)) (cap - (i + 1))]).run Tryz.prog W =
      .ok (.slice (some ⟨g, 0, none⟩) (l.length - 1) cap) (W.setRow g (splice cur.toList (i * 3) ((l.drop (i + 1)).flatMap cEnt)).toArray) := by
  obtain ⟨i0, hi0, hz0, hz1, hz2⟩ := info_parts (show (Tryz.prog.info? 58).map (fun i => (i.zero, i.size, i.bytes)) = some (some (.agg #[.int .i64 0, .int .i64 0, .string ⟨#[]⟩]), 3, 32) by kernel_rfl)
  by_cases h1 : i + 1 < l.length
  · rw [if_neg (by omega)] at hA
    subst hA
    have h := run_room_k (P := Tryz.prog) (w := W) 22 22 58 i0 3 g 0 i cap ⟨g, (i + 1) * 3, none⟩ (l.length - (i + 1)) (cap - (i + 1)) cur 58 ((l.drop (i + 1)).flatMap cEnt) Tryz.underlying22 hi0 hz1 hg
      (by rw [flatMap_length cEnt 3 cEnt_len, List.length_drop]) (by omega) (fun j v hj => by rw [addr_at]; exact (cell_of_row W g _ cur 58 (0, 0) hg).trans (by have := row_at cEnt_len ht (i + 1) j v hj; rwa [Array.getElem?_toList] at this))
      (by rw [flatMap_length cEnt 3 cEnt_len, List.length_drop, hcs]; omega) (by intro u hu; obtain ⟨x, _, hx⟩ := List.mem_flatMap.1 hu; exact cEnt_one x u hx)
    rw [show i + (l.length - (i + 1)) = l.length - 1 by omega, Nat.zero_add] at h
    exact h
  · have e : l.length = i + 1 := by omega
    have h := run_room_k0 (P := Tryz.prog) (w := W) 22 22 58 i0 g 0 i cap A (cap - (i + 1)) Tryz.underlying22 hi0 (by omega)
    rw [show l.length - (i + 1) = 0 by omega, h, show l.length - 1 = i by omega, List.drop_of_length_le (by omega), List.flatMap_nil]
    rw [show splice cur.toList (i * 3) ([] : List Value) = cur.toList by simp [splice], Array.toArray_toList, setRow_self W g cur _ _ hg]
theorem delete_any (v : Value) (l : List Ent) (i : Nat) (w : World) (hown : Own cEnt 58 3 w v l) (hi : i < l.length) (hl : l.length ≤ 1000) :
    Calls Tryz.prog 127 #[v, .int .i64 i, .int .i64 ((i : Int) + 1)] w fun e w' => ∃ v', e = .returned v' ∧ Own cEnt 58 3 w' v' (l.eraseIdx i) ∧ OutTo w v w' v' := by
  obtain ⟨g, cap, cur, rfl, hg, hnc, hcm, hcs, ht⟩ := hown.row cEnt_len (by omega)
  unfold maxLen at hcm
  obtain ⟨A, hA⟩ : ∃ A, (if cap = i + 1 then some (⟨g, 0, none⟩ : Addr) else some ⟨g, (i + 1) * 3, none⟩) = A := ⟨_, rfl⟩
  have HR := Lib.hid (fun (W : World) (hgW : W.heap[g]? = some (.cells cur 58 (0, 0))) => run_del (g := g) hi hnc hcs ht hA hgW)
  have HG := Lib.hid hg
  have HT := Lib.hid ht
  have HC := Lib.hid hcs
  have HA := Lib.hid hA
  clear hown hg ht hcs hA
  have i1 : (i : Int) < (l.length : Int) := by omega
  have i2 : (l.length : Int) ≤ (cap : Int) := by omega
  go_enter Tryz.func127, Tryz.ntmps127
  go_wp2_with fail
  refine wp_region_noPanic ?_
  refine wp_region_held_drew (S := fun W => True) (by kernel_rfl) trivial (fun hHeld => ?_)
  refine wpAnyH_take (i := 0) (oi := ⟨some 20, .move (.tmp 0), 22, _, _, none⟩) (v := .slice (some ⟨g, 0, none⟩) l.length cap) rfl (by kernel_rfl) (by kernel_rfl) (by kernel_rfl) (fun c d e h => NoPanic.put h) (Or.inl ⟨by rfl, by intro W hW; go_simp⟩) hHeld ?_
  try simp only [Act.put, List.setIfInBounds_toArray, List.set_cons_zero, List.set_cons_succ]
  refine wpAnyH_take (i := 1) (oi := ⟨some 21, .move (.tmp 1), 3, _, _, none⟩) (v := .int .i64 i) rfl (by kernel_rfl) (by kernel_rfl) (by kernel_rfl) (fun c d e h => NoPanic.put h) (Or.inl ⟨by rfl, by intro W hW; go_simp⟩) hHeld ?_
  try simp only [Act.put, List.setIfInBounds_toArray, List.set_cons_zero, List.set_cons_succ]
  refine wpAnyH_take (i := 3) (oi := ⟨some 23, .move (.tmp 0), 22, _, _, none⟩) (v := .slice (some ⟨g, 0, none⟩) l.length cap) rfl (by kernel_rfl) (by kernel_rfl) (by kernel_rfl) (fun c d e h => NoPanic.put h) (Or.inl ⟨by rfl, by intro W hW; go_simp⟩) hHeld ?_
  try simp only [Act.put, List.setIfInBounds_toArray, List.set_cons_zero, List.set_cons_succ]
  refine wpAnyH_take (i := 4) (oi := ⟨some 24, .move (.tmp 2), 3, _, _, none⟩) (v := .int .i64 ((i : Int) + 1)) rfl (by kernel_rfl) (by kernel_rfl) (by kernel_rfl) (fun c d e h => NoPanic.put h) (Or.inl ⟨by rfl, by intro W hW; go_simp⟩) hHeld ?_
  try simp only [Act.put, List.setIfInBounds_toArray, List.set_cons_zero, List.set_cons_succ]
  refine wpAnyH_take (i := 2) (oi := ⟨some 22, .slice 22 (.tmp 20) none (some (.tmp 21)) none, 22, _, _, none⟩) (v := .slice (some ⟨g, 0, none⟩) i cap) rfl (by kernel_rfl) (by kernel_rfl) (by kernel_rfl) (fun c d e h => NoPanic.put h) (Or.inl ⟨by rfl, by intro W hW; go_simp; (intro h; omega)⟩) hHeld ?_
  try simp only [Act.put, List.setIfInBounds_toArray, List.set_cons_zero, List.set_cons_succ]
  refine wpAnyH_take (i := 5) (oi := ⟨some 25, .slice 22 (.tmp 23) (some (.tmp 24)) none none, 22, _, _, none⟩) (v := .slice A (l.length - (i + 1)) (cap - (i + 1))) rfl (by kernel_rfl) (by kernel_rfl) (by kernel_rfl) (fun c d e h => NoPanic.put h) (Or.inl ⟨by rfl, by intro W hW; go_simp; rw [if_pos ⟨by omega, by omega⟩, HA.out]⟩) hHeld ?_
  try simp only [Act.put, List.setIfInBounds_toArray, List.set_cons_zero, List.set_cons_succ]
  refine wpAnyH_ready (rs := [6]) (by kernel_rfl) (by simp) ?_
  refine AllReadyH.cons (o := ⟨some 26, .call { callee := .builtin .append, args := #[.tmp 22, .tmp 25], argTypes := #[22, 22] }, 22, _, _, none⟩) rfl (fun K hK => ?_) AllReadyH.nil
  refine step_append_eq rfl (.tmp 22) (.tmp 25) _ _ rfl _ _ _ _ rfl rfl (HR.out _ HG.out) ?_
  refine hK.out _ _ trivial (fun hHeld => ?_)
  clear hK K
  try simp only [Act.put, List.setIfInBounds_toArray, List.set_cons_zero, List.set_cons_succ]
  refine wpAnyH_take (i := 7) (oi := ⟨some 0, .assign (.tmp 26), 22, _, _, none⟩) (v := .slice (some ⟨g, 0, none⟩) (l.length - 1) cap) rfl (by kernel_rfl) (by kernel_rfl) (by kernel_rfl) (fun c d e h => NoPanic.put h) (Or.inl ⟨by rfl, by intro W hW; go_simp⟩) hHeld ?_
  try simp only [Act.put, List.setIfInBounds_toArray, List.set_cons_zero]
  refine wpAnyH_done (by kernel_rfl) ?_ _
  refine NoPanic.normal ?_
  obtain ⟨cur2, hcur2⟩ : ∃ c2, c2 = (splice cur.toList (i * 3) ((l.drop (i + 1)).flatMap cEnt)).toArray := ⟨_, rfl⟩
  rw [← hcur2]
  have HU := Lib.hid hcur2
  clear hcur2 hHeld HR
  have HG2 := Lib.hid (setRow_heap w.drew g cur cur2 58 (0, 0) HG.out)
  have hlen2 : cur2.size = cur.size := by
    rw [HU.out]
    simp only [List.size_toArray]
    refine (length_splice _ _ _ ?_).trans (by simp)
    rw [flatMap_length cEnt 3 cEnt_len, List.length_drop]
    have := HC.out
    simp
    omega
  have HQ := run_clear_k (P := Tryz.prog) (w := w.drew.setRow g cur2) 22 0 58 _ g ((l.length - 1) * 3) (l.length - (l.length - 1)) (cap - (l.length - 1)) cur2 58 Tryz.underlying22 zero_ent (by omega) HG2.out (by
    rw [hlen2, HC.out]
    show _ + (l.length - (l.length - 1)) * 3 ≤ _
    omega) (by intro v hv; simp [Value.cells] at hv; rcases hv with rfl | rfl | rfl <;> rfl)
  obtain ⟨z3, hz3⟩ : ∃ z, z = (Builtin.zeroCells (Value.agg #[.int .i64 0, .int .i64 0, .string ⟨#[]⟩]).cells (l.length - (l.length - 1))).toList := ⟨_, rfl⟩
  rw [← hz3] at HQ
  obtain ⟨cur3, hcur3⟩ : ∃ c3, c3 = (splice cur2.toList ((l.length - 1) * 3) z3).toArray := ⟨_, rfl⟩
  rw [← hcur3] at HQ
  have HZ := Lib.hid hz3
  have HV := Lib.hid hcur3
  have HL2 := Lib.hid hlen2
  clear hz3 hcur3 hlen2
  have HG3 := Lib.hid (setRow_heap (w.drew.setRow g cur2) g cur2 cur3 58 (0, 0) HG2.out)
  go_wp2_with fail
  go_ret
  have hz : z3.length = 3 := by
    rw [HZ.out, show l.length - (l.length - 1) = 1 by omega]
    simp [Builtin.zeroCells, Value.cells]
  have q1 := HL2.out
  have q2 := HC.out
  have q3 : cur2.toList.length = cur2.size := Array.length_toList
  have q4 : cur.toList.length = cur.size := Array.length_toList
  have hn1 : (l.eraseIdx i).length = l.length - 1 := by rw [List.length_eraseIdx]; simp [hi]
  have hsz : cur3.size = cap * 3 := by
    rw [HV.out, List.size_toArray, length_splice _ _ _ (by rw [hz]; omega), q3, q1, q2]
  have htk : cur3.toList.take ((l.eraseIdx i).length * 3) = (l.eraseIdx i).flatMap cEnt := by
    rw [hn1, HV.out, HU.out]
    exact row_del cEnt_len HT.out (by omega) hi z3
  have hO := Own.of_row cEnt_len HG3.out (by rw [hn1]; omega) (by unfold maxLen; omega) hsz htk
  rw [hn1] at hO
  refine ⟨_, rfl, hO, ⟨rfl, rfl, rfl, by simp [World.setRow], fun k _ hk => ?_⟩, fun k hk => .inl hk⟩
  have hkg : k ≠ g := fun e => hk (by rw [e]; rfl)
  rw [setRow_other _ _ _ _ hkg, setRow_other _ _ _ _ hkg]
  rfl
theorem wpAnyU_step {P : Program} {md : Region.Mode} {ops : Array Oper} {Q : Exit → Act → World → Prop} {S : World → Prop} {s : Nat} (i : Nat) {o : Oper} {fuel : Nat} {listed : Array Bool} {a : Act} {w : World} (hr : Region.ready md ops listed = [i]) (ho : ops[i]? = some o) (hg : o.guard = none)
    (h : ∀ K' : Act → World → Prop, Shut (∀ a' w', ((listed.setIfInBounds i true).getD s true = false → S w') → wpAnyU P md ops Q S s fuel (listed.setIfInBounds i true) a' w' → K' a' w') → o.wp P a w K' Q) : wpAnyU P md ops Q S s (fuel + 1) listed a w :=
  wpAnyU_one i hr ho hg (h _ (fun _ _ h1 h2 => ⟨h1, h2⟩))
section
variable {P : Program} {o : Oper} {a : Act} {w : World} {K : Act → World → Prop} {Q : Exit → Act → World → Prop}
theorem wp_append_eq (s x : Operand) (t t2 : TypeId) (ho : o.op = .call { callee := .builtin .append, args := #[s, x], argTypes := #[t, t2] })
    (sv xv v : Value) (w' : World) (hs : a.eval s = sv) (hx : a.eval x = xv) (hrun : (Builtin.append_ #[t, t2] o.type #[sv, xv]).run P w = .ok v w') (h : K (a.put o.dst v) w') : Oper.wp P o a w K Q := by
  unfold Oper.wp
  simp [execOp, ho, resolve, invoke, builtin, hs, hx, hrun, Result.andThen]
  exact h
end
/-- The four lists that Read makes: each of the call's own, in blocks from B on, no two in one. -/
structure L4 (B : Nat) (W : World) (e r g o : Value) (le : List Ent) (lr : List Rul) (lg : List Grt) (lo : List Opr) : Prop where
  oe : Own cEnt 58 3 W e le
  oru : Own cRul 79 7 W r lr
  og : Own cGrt 85 8 W g lg
  oo : Own cOpr 48 13 W o lo
  be : ∀ q, e.ownBlock = some q → B ≤ q
  br : ∀ q, r.ownBlock = some q → B ≤ q
  bg : ∀ q, g.ownBlock = some q → B ≤ q
  bo : ∀ q, o.ownBlock = some q → B ≤ q
  er : ∀ q, e.ownBlock = some q → r.ownBlock ≠ some q
  eg : ∀ q, e.ownBlock = some q → g.ownBlock ≠ some q
  eo : ∀ q, e.ownBlock = some q → o.ownBlock ≠ some q
  rg : ∀ q, r.ownBlock = some q → g.ownBlock ≠ some q
  ro : ∀ q, r.ownBlock = some q → o.ownBlock ≠ some q
  go' : ∀ q, g.ownBlock = some q → o.ownBlock ≠ some q
section
variable {B : Nat} {W W' : World} {e r g o : Value} {le : List Ent} {lr : List Rul} {lg : List Grt} {lo : List Opr}
theorem L4.chg {S : Nat → Prop} (h : L4 B W e r g o le lr lg lo) (hb : Chg S W W') (hS : ∀ k, S k → e.ownBlock ≠ some k ∧ r.ownBlock ≠ some k ∧ g.ownBlock ≠ some k ∧ o.ownBlock ≠ some k) : L4 B W' e r g o le lr lg lo :=
  { h with
    oe := h.oe.chg hb fun q hq hs => (hS q hs).1 hq
    oru := h.oru.chg hb fun q hq hs => (hS q hs).2.1 hq
    og := h.og.chg hb fun q hq hs => (hS q hs).2.2.1 hq
    oo := h.oo.chg hb fun q hq hs => (hS q hs).2.2.2 hq }
theorem L4.away (h : L4 B W e r g o le lr lg lo) {k : Nat} (hk : k < B) : e.ownBlock ≠ some k ∧ r.ownBlock ≠ some k ∧ g.ownBlock ≠ some k ∧ o.ownBlock ≠ some k :=
  ⟨fun e => by have := h.be k e; omega, fun e => by have := h.br k e; omega, fun e => by have := h.bg k e; omega, fun e => by have := h.bo k e; omega⟩
theorem L4.fresh (h : L4 B W e r g o le lr lg lo) {k : Nat} (hk : W.heap.size ≤ k) : e.ownBlock ≠ some k ∧ r.ownBlock ≠ some k ∧ g.ownBlock ≠ some k ∧ o.ownBlock ≠ some k :=
  ⟨fun e => by have := h.oe.lt k e; omega, fun e => by have := h.oru.lt k e; omega, fun e => by have := h.og.lt k e; omega, fun e => by have := h.oo.lt k e; omega⟩
theorem L4.below (h : L4 B W e r g o le lr lg lo) (hb : Below W.heap.size W W') : L4 B W' e r g o le lr lg lo := h.chg (S := fun _ => False) ⟨hb.os, hb.tape, hb.output, hb.size, fun q hq _ => hb.block q hq⟩ (fun _ h => h.elim)
theorem L4.set (h : L4 B W e r g o le lr lg lo) {p : Addr} (hp : e.ownBlock ≠ some p.block ∧ r.ownBlock ≠ some p.block ∧ g.ownBlock ≠ some p.block ∧ o.ownBlock ≠ some p.block) (u : Value) : L4 B (W.setCell p u) e r g o le lr lg lo :=
  h.chg (S := fun k => k = p.block) ((Chg.refl (fun k => k = p.block) W).setCell (p := p) (.inl rfl) u) (fun k hk => by subst hk; exact hp)
theorem L4.setE (h : L4 B W e r g o le lr lg lo) (hB : B ≤ W.heap.size) {e' : Value} {le' : List Ent} (ho : Own cEnt 58 3 W' e' le') (ht : OutTo W e W' e') : L4 B W' e' r g o le' lr lg lo where
  oe := ho
  oru := h.oru.outTo ht fun q hq he => h.er q he hq
  og := h.og.outTo ht fun q hq he => h.eg q he hq
  oo := h.oo.outTo ht fun q hq he => h.eo q he hq
  be := fun q hq => (ht.own q hq).elim (h.be q) (fun k => by omega)
  br := h.br
  bg := h.bg
  bo := h.bo
  er := fun q hq hr => (ht.own q hq).elim (fun k => h.er q k hr) (fun k => by have := h.oru.lt q hr; omega)
  eg := fun q hq hr => (ht.own q hq).elim (fun k => h.eg q k hr) (fun k => by have := h.og.lt q hr; omega)
  eo := fun q hq hr => (ht.own q hq).elim (fun k => h.eo q k hr) (fun k => by have := h.oo.lt q hr; omega)
  rg := h.rg
  ro := h.ro
  go' := h.go'
theorem L4.setR (h : L4 B W e r g o le lr lg lo) (hB : B ≤ W.heap.size) {r' : Value} {lr' : List Rul} (ho : Own cRul 79 7 W' r' lr') (ht : OutTo W r W' r') : L4 B W' e r' g o le lr' lg lo where
  oe := h.oe.outTo ht fun q hq he => h.er q hq he
  oru := ho
  og := h.og.outTo ht fun q hq he => h.rg q he hq
  oo := h.oo.outTo ht fun q hq he => h.ro q he hq
  be := h.be
  br := fun q hq => (ht.own q hq).elim (h.br q) (fun k => by omega)
  bg := h.bg
  bo := h.bo
  er := fun q hq hr => (ht.own q hr).elim (fun k => h.er q hq k) (fun k => by have := h.oe.lt q hq; omega)
  eg := h.eg
  eo := h.eo
  rg := fun q hq hr => (ht.own q hq).elim (fun k => h.rg q k hr) (fun k => by have := h.og.lt q hr; omega)
  ro := fun q hq hr => (ht.own q hq).elim (fun k => h.ro q k hr) (fun k => by have := h.oo.lt q hr; omega)
  go' := h.go'
theorem L4.setG (h : L4 B W e r g o le lr lg lo) (hB : B ≤ W.heap.size) {g' : Value} {lg' : List Grt} (ho : Own cGrt 85 8 W' g' lg') (ht : OutTo W g W' g') : L4 B W' e r g' o le lr lg' lo where
  oe := h.oe.outTo ht fun q hq he => h.eg q hq he
  oru := h.oru.outTo ht fun q hq he => h.rg q hq he
  og := ho
  oo := h.oo.outTo ht fun q hq he => h.go' q he hq
  be := h.be
  br := h.br
  bg := fun q hq => (ht.own q hq).elim (h.bg q) (fun k => by omega)
  bo := h.bo
  er := h.er
  eg := fun q hq hr => (ht.own q hr).elim (fun k => h.eg q hq k) (fun k => by have := h.oe.lt q hq; omega)
  eo := h.eo
  rg := fun q hq hr => (ht.own q hr).elim (fun k => h.rg q hq k) (fun k => by have := h.oru.lt q hq; omega)
  ro := h.ro
  go' := fun q hq hr => (ht.own q hq).elim (fun k => h.go' q k hr) (fun k => by have := h.oo.lt q hr; omega)
theorem L4.setO (h : L4 B W e r g o le lr lg lo) (hB : B ≤ W.heap.size) {o' : Value} {lo' : List Opr} (ho : Own cOpr 48 13 W' o' lo') (ht : OutTo W o W' o') : L4 B W' e r g o' le lr lg lo' where
  oe := h.oe.outTo ht fun q hq he => h.eo q hq he
  oru := h.oru.outTo ht fun q hq he => h.ro q hq he
  og := h.og.outTo ht fun q hq he => h.go' q hq he
  oo := ho
  be := h.be
  br := h.br
  bg := h.bg
  bo := fun q hq => (ht.own q hq).elim (h.bo q) (fun k => by omega)
  er := h.er
  eg := h.eg
  eo := fun q hq hr => (ht.own q hr).elim (fun k => h.eo q hq k) (fun k => by have := h.oe.lt q hq; omega)
  rg := h.rg
  ro := fun q hq hr => (ht.own q hr).elim (fun k => h.ro q hq k) (fun k => by have := h.oru.lt q hq; omega)
  go' := fun q hq hr => (ht.own q hr).elim (fun k => h.go' q hq k) (fun k => by have := h.og.lt q hq; omega)
end
/-- A book's five lists, in memory below block B. -/
structure RdBok (w : World) (B : Nat) (b : Bok) (e r g l x : Value) : Prop where
  ents : Sls cEnt w B e b.entries
  ruls : Sls cRul w B r b.rules
  grts : Sls cGrt w B g b.grants
  evts : Sls cEvt w B l b.log
  rlss : Sls cRls w B x b.releases
theorem RdBok.below {w w' : World} {B : Nat} {b : Bok} {e r g l x : Value} (h : RdBok w B b e r g l x) (hb : Below B w w') : RdBok w' B b e r g l x :=
  ⟨h.ents.below hb, h.ruls.below hb, h.grts.below hb, h.evts.below hb, h.rlss.below hb⟩
/-- A book as one value. -/
abbrev vBok (b : Bok) (e r g l x : Value) : Value := .agg #[.int .i64 b.users, e, r, g, l, x, .int .i64 b.step]
/-- A script as one value. -/
abbrev vScp (s : Scp) (e r g l x o : Value) : Value := .agg #[.int .i64 s.book.users, e, r, g, l, x, .int .i64 s.book.step, o]
structure RdScp (w : World) (B : Nat) (s : Scp) (e r g l x o : Value) : Prop where
  book : RdBok w B s.book e r g l x
  ops : Sls cOpr w B o s.ops
theorem RdScp.below {w w' : World} {B : Nat} {s : Scp} {e r g l x o : Value} (h : RdScp w B s e r g l x o) (hb : Below B w w') : RdScp w' B s e r g l x o := ⟨h.book.below hb, h.ops.below hb⟩
end Go.Proofs.YtamcgggmfghljaaGreatDoor
