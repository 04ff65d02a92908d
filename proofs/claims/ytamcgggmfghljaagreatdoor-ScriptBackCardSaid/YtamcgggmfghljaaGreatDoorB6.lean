/- Bytes that grow: 'out = append(out, ..)': the law for one byte, and for a string. -/
import Derived.Maps.AppendAt
import Derived.OwnWalk
import Derived.Lib.AppendStr
import Derived.Test.YtamcgggmfghljaaGreatDoorB1
set_option maxRecDepth 100000
set_option maxHeartbeats 8000000
namespace Go.Proofs.YtamcgggmfghljaaGreatDoor
open Go.RowKit
def u8s (l : Bytes) : List Value := l.map fun b => .int .u8 b.toNat
theorem u8s_len (l : Bytes) : (u8s l).length = l.length := by simp [u8s]
theorem u8s_app (a b : Bytes) : u8s (a ++ b) = u8s a ++ u8s b := by simp [u8s]
theorem u8s_one (l : Bytes) : ∀ u ∈ u8s l, u.oneCell' = true := by
  intro u hu
  simp only [u8s, List.mem_map] at hu
  obtain ⟨b, _, rfl⟩ := hu
  rfl
/-- The slice v is the call's own and reads as these bytes. -/
def Out (w : World) (v : Value) (l : Bytes) : Prop := w.ownsRow 0 5 1 v l.length (u8s l)
theorem Out.nil (w : World) : Out w (.slice none 0 0) [] := World.ownsRow_nil w 0 _ 1
theorem Out.lt {w : World} {v : Value} {l : Bytes} (h : Out w v l) (k : Nat) (hk : v.ownBlock = some k) : k < w.heap.size := (World.ownsRow.lt h k hk).2
theorem Out.alloc {w : World} {v : Value} {l : Bytes} (h : Out w v l) (o : Obj) : Out (w.alloc o) v l := World.ownsRow.alloc h o
theorem Out.drew {w : World} {v : Value} {l : Bytes} (h : Out w v l) : Out w.drew v l := h
theorem Out.drewN {w : World} {v : Value} {l : Bytes} (h : Out w v l) (n : Nat) : Out (w.drewN n) v l := h
theorem Out.below {w w' : World} {v : Value} {l : Bytes} (h : Out w v l) (hb : Below w.heap.size w w') : Out w' v l := by
  refine World.ownsRow.kept (row := none) h ⟨hb.os, hb.tape, hb.output, hb.size, fun k hk _ => hb.block k hk⟩ ?_
  rcases hv : v.ownBlock with _ | k
  · exact .inl rfl
  · exact .inr (by simp)
theorem Out.far {w : World} {v : Value} {l : Bytes} (h : Out w v l) {p : Addr} (hp : v.ownBlock ≠ some p.block) (u : Value) : Out (w.setCell p u) v l := by
  refine World.ownsRow.kept (row := some p.block) h ⟨rfl, rfl, rfl, by simp [World.setCell], fun k _ hk => Below.heap_setCell _ _ _ _ (fun e => hk (by rw [e]))⟩ (.inr hp)
/-- v in w has become v' in w': nothing but v's own row has turned, and v' lies there or in new memory. -/
structure OutTo (w : World) (v : Value) (w' : World) (v' : Value) : Prop where
  chg : Chg (fun k => v.ownBlock = some k) w w'
  own : ∀ k, v'.ownBlock = some k → v.ownBlock = some k ∨ w.heap.size ≤ k
theorem OutTo.refl (w : World) (v : Value) : OutTo w v w v := ⟨Chg.refl _ _, fun _ h => .inl h⟩
theorem OutTo.trans {w w1 w2 : World} {v v1 v2 : Value} (h : OutTo w v w1 v1) (k : OutTo w1 v1 w2 v2) : OutTo w v w2 v2 := by
  refine ⟨⟨k.chg.os.trans h.chg.os, k.chg.tape.trans h.chg.tape, k.chg.output.trans h.chg.output, Nat.le_trans h.chg.size k.chg.size, fun i hi hs => ?_⟩, fun i hi => ?_⟩
  · refine (k.chg.block i (Nat.lt_of_lt_of_le hi h.chg.size) fun e => ?_).trans (h.chg.block i hi hs)
    rcases h.own i e with e | e
    · exact hs e
    · omega
  · rcases k.own i hi with e | e
    · exact h.own i e
    · exact .inr (Nat.le_trans h.chg.size e)
theorem OutTo.below {w w1 w2 : World} {v v1 : Value} (h : OutTo w v w1 v1) (k : Below w1.heap.size w1 w2) : OutTo w v w2 v1 := ⟨h.chg.below k, h.own⟩
theorem OutTo.alloc {w w1 : World} {v v1 : Value} (h : OutTo w v w1 v1) (o : Obj) : OutTo w v (w1.alloc o) v1 := ⟨h.chg.alloc o, h.own⟩
theorem OutTo.drew {w w1 : World} {v v1 : Value} (h : OutTo w v w1 v1) : OutTo w v w1.drew v1 := ⟨h.chg.drew, h.own⟩
theorem OutTo.drewN {w w1 : World} {v v1 : Value} (h : OutTo w v w1 v1) (n : Nat) : OutTo w v (w1.drewN n) v1 := ⟨h.chg.drewN n, h.own⟩
/-- What is no part of v's own row reads as before. -/
theorem OutTo.cell {w w' : World} {v v' : Value} (h : OutTo w v w' v') {p : Addr} (hp : p.block < w.heap.size) (hs : v.ownBlock ≠ some p.block) : w'.cell? p = w.cell? p := h.chg.cell hp hs
theorem OutTo.frozen {w w' : World} {v v' : Value} (h : OutTo w v w' v') {p : Addr} (hp : p.block < w.heap.size) (hs : v.ownBlock ≠ some p.block) : w'.frozen? p = w.frozen? p := h.chg.frozen hp hs
theorem OutTo.ne {w w' : World} {v v' : Value} (h : OutTo w v w' v') {g : Nat} (hg : g < w.heap.size) (hv : v.ownBlock ≠ some g) : v'.ownBlock ≠ some g := fun e => by
  rcases h.own g e with e | e
  · exact hv e
  · omega
theorem Blk.outTo {w w' : World} {v v' : Value} {g : Nat} {t : TypeId} {cs : Array Value} (h : Blk w g t cs) (ho : OutTo w v w' v') (hg : v.ownBlock ≠ some g) : Blk w' g t cs := h.chg ho.chg hg
/-- .. and v lies in memory that is newer than B, all below B stays. -/
theorem OutTo.old {w w' : World} {v v' : Value} (h : OutTo w v w' v') {B : Nat} (hB : B ≤ w.heap.size) (hv : ∀ k, v.ownBlock = some k → B ≤ k) : Below B w w' := h.chg.to_below hB fun k hk e => by have := hv k e; omega
theorem OutTo.newer {w w' : World} {v v' : Value} (h : OutTo w v w' v') {B : Nat} (hB : B ≤ w.heap.size) (hv : ∀ k, v.ownBlock = some k → B ≤ k) : ∀ k, v'.ownBlock = some k → B ≤ k := fun k e => by
  rcases h.own k e with e | e
  · exact hv k e
  · omega
section
variable {P : Program} {w : World}
/-- One byte more. -/
theorem run_push (t ty : TypeId) (i : TypeInfo) (ht : P.underlying t = some (.slice 5)) (hi : P.info? 5 = some i) (hz : i.zero = some (.int .u8 0)) (hsize : i.size = 1) (hby : i.bytes = 1)
    (v : Value) (l : Bytes) (hown : Out w v l) (g : Nat) (b : Int) (hb0 : 0 ≤ b) (hb1 : b < 256) (hc : w.cell? ⟨g, 0, none⟩ = some (.int .u8 b)) (hl : l.length ≤ 1000000000000) :
    ∃ v' w', (Builtin.append_ #[t, t] ty #[v, .slice (some ⟨g, 0, none⟩) 1 1]).run P w = .ok v' w' ∧ Out w' v' (l ++ [UInt8.ofNat b.toNat]) ∧ OutTo w v w' v' := by
  obtain ⟨v', w', hr, h2, h3, _, h5⟩ := run_append_own_at (P := P) w 0 t ty 5 i (.int .u8 0) 1 1 ht hi hz hsize hby rfl (by omega) v l.length (u8s l) hown ⟨g, 0, none⟩ 1 1 [.int .u8 b] rfl
    (fun j u hj => by
      match j, hj with
      | 0, hj => simp at hj; subst hj; exact hc)
    (fun u hu => by simp at hu; subst hu; rfl) (by unfold maxLen; omega) (by omega) (by omega)
  refine ⟨v', w', hr, ?_, ⟨⟨h3.os, h3.tape, h3.output, h3.size, fun k hk hs => h3.block k hk (fun e => hs e.symm)⟩, fun k hk => ?_⟩⟩
  · have e : u8s (l ++ [UInt8.ofNat b.toNat]) = u8s l ++ [.int .u8 b] := by
      rw [u8s_app]
      have e2 : ((UInt8.ofNat b.toNat).toNat : Int) = b := by
        rw [UInt8.toNat_ofNat']
        omega
      show u8s l ++ [Value.int .u8 ((UInt8.ofNat b.toNat).toNat : Int)] = _
      rw [e2]
    show w'.ownsRow 0 5 1 v' (l ++ [UInt8.ofNat b.toNat]).length _
    rw [e, List.length_append]
    exact h2
  · rcases h5 with h5 | h5
    · exact .inl (h5 ▸ hk)
    · rw [h5] at hk
      exact .inr (by simp at hk; omega)
theorem wpList_push {ops : Array Oper} {rest : List Oper} {o : Oper} {a : Act} {Q : Exit → Act → World → Prop} (hgd : o.guard = none) (s x : Operand) (t : TypeId)
    (ho : o.op = .call { callee := .builtin .append, args := #[s, x], argTypes := #[t, t] })
    (i : TypeInfo) (ht : P.underlying t = some (.slice 5)) (hi : P.info? 5 = some i) (hz : i.zero = some (.int .u8 0)) (hsize : i.size = 1) (hby : i.bytes = 1)
    (v : Value) (l : Bytes) (hs : a.eval s = v) (hown : Out w v l) (g : Nat) (b : Int) (hx : a.eval x = .slice (some ⟨g, 0, none⟩) 1 1) (hb0 : 0 ≤ b) (hb1 : b < 256) (hc : w.cell? ⟨g, 0, none⟩ = some (.int .u8 b)) (hl : l.length ≤ 1000000000000)
    (h : ∀ v' w', Out w' v' (l ++ [UInt8.ofNat b.toNat]) → OutTo w v w' v' → wpList P ops Q rest (a.put o.dst v') w') : wpList P ops Q (o :: rest) a w := by
  obtain ⟨v', w', hrun, h2, h3⟩ := run_push (P := P) t o.type i ht hi hz hsize hby v l hown g b hb0 hb1 hc hl
  refine wpList_plain hgd fun K hK => ?_
  unfold Oper.wp execOp
  simp only [ho, resolve, invoke, builtin, Sem.run_bind, Sem.run_pure, Result.andThen_ok, List.map_toArray, List.map_cons, List.map_nil, hs, hx, hrun]
  exact hK _ _ (h v' w' h2 h3)
theorem strCells_u8s (s : Bytes) : Lib.strCells ⟨s.toArray⟩ = u8s s := by simp [Lib.strCells, u8s]
theorem str_size (s : Bytes) : (⟨s.toArray⟩ : ByteArray).size = s.length := by show s.toArray.size = _; simp
/-- A string more. -/
theorem run_push_str (t u ty : TypeId) (i : TypeInfo) (ht : P.underlying t = some (.slice 5)) (hu : P.underlying u = some .string) (hi : P.info? 5 = some i) (hz : i.zero = some (.int .u8 0)) (hsize : i.size = 1) (hby : i.bytes = 1)
    (v : Value) (l s : Bytes) (hown : Out w v l) (hl : l.length ≤ 1000000000000) (hl2 : s.length ≤ 1000000000000) :
    ∃ v' w', (Builtin.append_ #[t, u] ty #[v, str s]).run P w = .ok v' w' ∧ Out w' v' (l ++ s) ∧ OutTo w v w' v' := by
  have hss := str_size s
  obtain ⟨v', w', hr, h2, h3, _⟩ := Lib.run_append_own_string (P := P) w 0 t u ty 5 i ht hu hi hz hsize hby v l.length (u8s l) hown ⟨s.toArray⟩ (by rw [hss]; unfold maxLen; omega) (by rw [hss]; omega) (by omega)
  refine ⟨v', w', hr, ?_, ⟨⟨h3.os, h3.tape, h3.output, h3.size, fun k hk hs => h3.block k hk (fun e => hs e.symm)⟩, fun k hk => ?_⟩⟩
  · rw [strCells_u8s, hss] at h2
    show w'.ownsRow 0 5 1 v' (l ++ s).length _
    rw [u8s_app, List.length_append]
    exact h2
  · have hown' := hown
    rcases hown'.2 with ⟨rfl, he⟩ | ⟨g, cap, cur, rfl, _, hg, hnc, hcm, hcs, htake⟩
    · have hown0 : w.ownsRow w.heap.size 5 1 (.slice none 0 0) l.length (u8s l) := ⟨hown.1, .inl ⟨rfl, he⟩⟩
      obtain ⟨v2, w2, hr2, k2, k3, _⟩ := Lib.run_append_own_string (P := P) w w.heap.size t u ty 5 i ht hu hi hz hsize hby (.slice none 0 0) l.length (u8s l) hown0 ⟨s.toArray⟩ (by rw [hss]; unfold maxLen; omega) (by rw [hss]; omega) (by omega)
      rw [hr] at hr2
      obtain ⟨rfl, rfl⟩ : v' = v2 ∧ w' = w2 := by injection hr2 with e1 e2; exact ⟨e1, e2⟩
      exact .inr (k2.lt k hk).1
    · by_cases hroom : l.length + s.length ≤ cap
      · have hr2 := Lib.run_append_room_string (P := P) w t u ty 5 i ht hu hi hsize g l.length cap cur hg ⟨s.toArray⟩ (by rw [hss]; exact hroom) (by rw [hss]; simpa [hcs] using hroom)
        rw [hr] at hr2
        obtain ⟨rfl, rfl⟩ : v' = _ ∧ w' = _ := by injection hr2 with e1 e2; exact ⟨e1, e2⟩
        exact .inl hk
      · have hcl : ∀ j u, (u8s l)[j]? = some u → w.cell? ((⟨g, 0, none⟩ : Addr).add j) = some u := World.ownsRow.cells hown (g := g) rfl
        have hr2 := Lib.run_append_grow_string (P := P) w t u ty 5 i (.int .u8 0) ht hu hi hz ⟨g, 0, none⟩ l.length cap (u8s l) (by rw [hsize, u8s_len]; simp) hcl ⟨s.toArray⟩ (by rw [hss]; omega) (by rw [hss]; omega) (by rw [hby, hss]; exact growslice_fits (by omega) (by omega))
        rw [hr] at hr2
        obtain ⟨rfl, rfl⟩ : v' = _ ∧ w' = _ := by injection hr2 with e1 e2; exact ⟨e1, e2⟩
        exact .inr (by simp [Value.ownBlock] at hk; omega)
theorem wpList_push_str {ops : Array Oper} {rest : List Oper} {o : Oper} {a : Act} {Q : Exit → Act → World → Prop} (hgd : o.guard = none) (sl x : Operand) (t u : TypeId)
    (ho : o.op = .call { callee := .builtin .append, args := #[sl, x], argTypes := #[t, u] })
    (i : TypeInfo) (ht : P.underlying t = some (.slice 5)) (hu : P.underlying u = some .string) (hi : P.info? 5 = some i) (hz : i.zero = some (.int .u8 0)) (hsize : i.size = 1) (hby : i.bytes = 1)
    (v : Value) (l s : Bytes) (hs : a.eval sl = v) (hown : Out w v l) (hx : a.eval x = str s) (hl : l.length ≤ 1000000000000) (hl2 : s.length ≤ 1000000000000)
    (h : ∀ v' w', Out w' v' (l ++ s) → OutTo w v w' v' → wpList P ops Q rest (a.put o.dst v') w') : wpList P ops Q (o :: rest) a w := by
  obtain ⟨v', w', hrun, h2, h3⟩ := run_push_str (P := P) t u o.type i ht hu hi hz hsize hby v l s hown hl hl2
  refine wpList_plain hgd fun K hK => ?_
  unfold Oper.wp execOp
  simp only [ho, resolve, invoke, builtin, Sem.run_bind, Sem.run_pure, Result.andThen_ok, List.map_toArray, List.map_cons, List.map_nil, hs, hx, hrun]
  exact hK _ _ (h v' w' h2 h3)
end
end Go.Proofs.YtamcgggmfghljaaGreatDoor
