/- Bytes that grow: 'out = append(out, ..)': the law for one byte, and for a string. · Layer 41: what a script's bytes are. No program in sight. · Layer 41 (program): a number's bytes. -/
import Derived.Maps.AppendAt
import Derived.OwnWalk
import Derived.Lib.AppendStr
import Derived.Laws.ShiftsVarLaws
import Derived.Test.YtamcgggmfghljaaGreatDoorM2
namespace Go.Proofs.YtamcgggmfghljaaGreatDoor
open Go.RowKit

def u8s (l : Bytes) : List Value := l.map fun b => .int .u8 b.toNat
theorem u8s_len (l : Bytes) : (u8s l).length = l.length := by simp [u8s]
theorem u8s_app (a b : Bytes) : u8s (a ++ b) = u8s a ++ u8s b := by simp [u8s]
theorem u8s_one (l : Bytes) : ∀ u ∈ u8s l, u.oneCell' = true := by
  intro u hu
  simp only [u8s, List.mem_map] at hu
  obtain ⟨b, _, rfl⟩ := hu
  rfl

/-- The slice v is the call's own and reads as these bytes. -/
def Out (w : World) (v : Value) (l : Bytes) : Prop := w.ownsRow 0 5 1 v l.length (u8s l)
theorem Out.nil (w : World) : Out w (.slice none 0 0) [] := World.ownsRow_nil w 0 _ 1
theorem Out.lt {w : World} {v : Value} {l : Bytes} (h : Out w v l) (k : Nat) (hk : v.ownBlock = some k) : k < w.heap.size := (World.ownsRow.lt h k hk).2
theorem Out.alloc {w : World} {v : Value} {l : Bytes} (h : Out w v l) (o : Obj) : Out (w.alloc o) v l := World.ownsRow.alloc h o
theorem Out.drew {w : World} {v : Value} {l : Bytes} (h : Out w v l) : Out w.drew v l := h
theorem Out.drewN {w : World} {v : Value} {l : Bytes} (h : Out w v l) (n : Nat) : Out (w.drewN n) v l := h
theorem Out.below {w w' : World} {v : Value} {l : Bytes} (h : Out w v l) (hb : Below w.heap.size w w') : Out w' v l := by
  refine World.ownsRow.kept (row := none) h ⟨hb.os, hb.tape, hb.output, hb.size, fun k hk _ => hb.block k hk⟩ ?_
  rcases hv : v.ownBlock with _ | k
  · exact .inl rfl
  · exact .inr (by simp)
theorem Out.far {w : World} {v : Value} {l : Bytes} (h : Out w v l) {p : Addr} (hp : v.ownBlock ≠ some p.block) (u : Value) : Out (w.setCell p u) v l := by
  refine World.ownsRow.kept (row := some p.block) h ⟨rfl, rfl, rfl, by simp [World.setCell], fun k _ hk => Below.heap_setCell _ _ _ _ (fun e => hk (by rw [e]))⟩ (.inr hp)

/-- v in w has become v' in w': nothing but v's own row has turned, and v' lies there or in new memory. -/
structure OutTo (w : World) (v : Value) (w' : World) (v' : Value) : Prop where
  chg : Chg (fun k => v.ownBlock = some k) w w'
  own : ∀ k, v'.ownBlock = some k → v.ownBlock = some k ∨ w.heap.size ≤ k
theorem OutTo.refl (w : World) (v : Value) : OutTo w v w v := ⟨Chg.refl _ _, fun _ h => .inl h⟩
theorem OutTo.trans {w w1 w2 : World} {v v1 v2 : Value} (h : OutTo w v w1 v1) (k : OutTo w1 v1 w2 v2) : OutTo w v w2 v2 := by
  refine ⟨⟨k.chg.os.trans h.chg.os, k.chg.tape.trans h.chg.tape, k.chg.output.trans h.chg.output, Nat.le_trans h.chg.size k.chg.size, fun i hi hs => ?_⟩, fun i hi => ?_⟩
  · refine (k.chg.block i (Nat.lt_of_lt_of_le hi h.chg.size) fun e => ?_).trans (h.chg.block i hi hs)
    rcases h.own i e with e | e
    · exact hs e
    · omega
  · rcases k.own i hi with e | e
    · exact h.own i e
    · exact .inr (Nat.le_trans h.chg.size e)
theorem OutTo.below {w w1 w2 : World} {v v1 : Value} (h : OutTo w v w1 v1) (k : Below w1.heap.size w1 w2) : OutTo w v w2 v1 := ⟨h.chg.below k, h.own⟩
theorem OutTo.alloc {w w1 : World} {v v1 : Value} (h : OutTo w v w1 v1) (o : Obj) : OutTo w v (w1.alloc o) v1 := ⟨h.chg.alloc o, h.own⟩
theorem OutTo.drew {w w1 : World} {v v1 : Value} (h : OutTo w v w1 v1) : OutTo w v w1.drew v1 := ⟨h.chg.drew, h.own⟩
theorem OutTo.drewN {w w1 : World} {v v1 : Value} (h : OutTo w v w1 v1) (n : Nat) : OutTo w v (w1.drewN n) v1 := ⟨h.chg.drewN n, h.own⟩
/-- What is no part of v's own row reads as before. -/
theorem OutTo.cell {w w' : World} {v v' : Value} (h : OutTo w v w' v') {p : Addr} (hp : p.block < w.heap.size) (hs : v.ownBlock ≠ some p.block) : w'.cell? p = w.cell? p := h.chg.cell hp hs
theorem OutTo.frozen {w w' : World} {v v' : Value} (h : OutTo w v w' v') {p : Addr} (hp : p.block < w.heap.size) (hs : v.ownBlock ≠ some p.block) : w'.frozen? p = w.frozen? p := h.chg.frozen hp hs
theorem OutTo.ne {w w' : World} {v v' : Value} (h : OutTo w v w' v') {g : Nat} (hg : g < w.heap.size) (hv : v.ownBlock ≠ some g) : v'.ownBlock ≠ some g := fun e => by
  rcases h.own g e with e | e
  · exact hv e
  · omega
theorem Blk.outTo {w w' : World} {v v' : Value} {g : Nat} {t : TypeId} {cs : Array Value} (h : Blk w g t cs) (ho : OutTo w v w' v') (hg : v.ownBlock ≠ some g) : Blk w' g t cs := h.chg ho.chg hg
/-- .. and v lies in memory that is newer than B, all below B stays. -/
theorem OutTo.old {w w' : World} {v v' : Value} (h : OutTo w v w' v') {B : Nat} (hB : B ≤ w.heap.size) (hv : ∀ k, v.ownBlock = some k → B ≤ k) : Below B w w' := h.chg.to_below hB fun k hk e => by have := hv k e; omega
theorem OutTo.newer {w w' : World} {v v' : Value} (h : OutTo w v w' v') {B : Nat} (hB : B ≤ w.heap.size) (hv : ∀ k, v.ownBlock = some k → B ≤ k) : ∀ k, v'.ownBlock = some k → B ≤ k := fun k e => by
  rcases h.own k e with e | e
  · exact hv k e
  · omega

section
variable {P : Program} {w : World}
/-- One byte more. -/
theorem run_push (t ty : TypeId) (i : TypeInfo) (ht : P.underlying t = some (.slice 5)) (hi : P.info? 5 = some i) (hz : i.zero = some (.int .u8 0)) (hsize : i.size = 1) (hby : i.bytes = 1)
    (v : Value) (l : Bytes) (hown : Out w v l) (g : Nat) (b : Int) (hb0 : 0 ≤ b) (hb1 : b < 256) (hc : w.cell? ⟨g, 0, none⟩ = some (.int .u8 b)) (hl : l.length ≤ 1000000000000) :
    ∃ v' w', (Builtin.append_ #[t, t] ty #[v, .slice (some ⟨g, 0, none⟩) 1 1]).run P w = .ok v' w' ∧ Out w' v' (l ++ [UInt8.ofNat b.toNat]) ∧ OutTo w v w' v' := by
  obtain ⟨v', w', hr, h2, h3, _, h5⟩ := run_append_own_at (P := P) w 0 t ty 5 i (.int .u8 0) 1 1 ht hi hz hsize hby rfl (by omega) v l.length (u8s l) hown ⟨g, 0, none⟩ 1 1 [.int .u8 b] rfl
    (fun j u hj => by
      match j, hj with
      | 0, hj => simp at hj; subst hj; exact hc)
    (fun u hu => by simp at hu; subst hu; rfl) (by unfold maxLen; omega) (by omega) (by omega)
  refine ⟨v', w', hr, ?_, ⟨⟨h3.os, h3.tape, h3.output, h3.size, fun k hk hs => h3.block k hk (fun e => hs e.symm)⟩, fun k hk => ?_⟩⟩
  · have e : u8s (l ++ [UInt8.ofNat b.toNat]) = u8s l ++ [.int .u8 b] := by
      rw [u8s_app]
      have e2 : ((UInt8.ofNat b.toNat).toNat : Int) = b := by
        rw [UInt8.toNat_ofNat']
        omega
      show u8s l ++ [Value.int .u8 ((UInt8.ofNat b.toNat).toNat : Int)] = _
      rw [e2]
    show w'.ownsRow 0 5 1 v' (l ++ [UInt8.ofNat b.toNat]).length _
    rw [e, List.length_append]
    exact h2
  · rcases h5 with h5 | h5
    · exact .inl (h5 ▸ hk)
    · rw [h5] at hk
      exact .inr (by simp at hk; omega)

theorem wpList_push {ops : Array Oper} {rest : List Oper} {o : Oper} {a : Act} {Q : Exit → Act → World → Prop} (hgd : o.guard = none) (s x : Operand) (t : TypeId)
    (ho : o.op = .call { callee := .builtin .append, args := #[s, x], argTypes := #[t, t] })
    (i : TypeInfo) (ht : P.underlying t = some (.slice 5)) (hi : P.info? 5 = some i) (hz : i.zero = some (.int .u8 0)) (hsize : i.size = 1) (hby : i.bytes = 1)
    (v : Value) (l : Bytes) (hs : a.eval s = v) (hown : Out w v l) (g : Nat) (b : Int) (hx : a.eval x = .slice (some ⟨g, 0, none⟩) 1 1) (hb0 : 0 ≤ b) (hb1 : b < 256) (hc : w.cell? ⟨g, 0, none⟩ = some (.int .u8 b)) (hl : l.length ≤ 1000000000000)
    (h : ∀ v' w', Out w' v' (l ++ [UInt8.ofNat b.toNat]) → OutTo w v w' v' → wpList P ops Q rest (a.put o.dst v') w') : wpList P ops Q (o :: rest) a w := by
  obtain ⟨v', w', hrun, h2, h3⟩ := run_push (P := P) t o.type i ht hi hz hsize hby v l hown g b hb0 hb1 hc hl
  refine wpList_plain hgd fun K hK => ?_
  unfold Oper.wp execOp
  simp only [ho, resolve, invoke, builtin, Sem.run_bind, Sem.run_pure, Result.andThen_ok, List.map_toArray, List.map_cons, List.map_nil, hs, hx, hrun]
  exact hK _ _ (h v' w' h2 h3)

theorem strCells_u8s (s : Bytes) : Lib.strCells ⟨s.toArray⟩ = u8s s := by simp [Lib.strCells, u8s]
theorem str_size (s : Bytes) : (⟨s.toArray⟩ : ByteArray).size = s.length := by show s.toArray.size = _; simp

/-- A string more. -/
theorem run_push_str (t u ty : TypeId) (i : TypeInfo) (ht : P.underlying t = some (.slice 5)) (hu : P.underlying u = some .string) (hi : P.info? 5 = some i) (hz : i.zero = some (.int .u8 0)) (hsize : i.size = 1) (hby : i.bytes = 1)
    (v : Value) (l s : Bytes) (hown : Out w v l) (hl : l.length ≤ 1000000000000) (hl2 : s.length ≤ 1000000000000) :
    ∃ v' w', (Builtin.append_ #[t, u] ty #[v, str s]).run P w = .ok v' w' ∧ Out w' v' (l ++ s) ∧ OutTo w v w' v' := by
  have hss := str_size s
  obtain ⟨v', w', hr, h2, h3, _⟩ := Lib.run_append_own_string (P := P) w 0 t u ty 5 i ht hu hi hz hsize hby v l.length (u8s l) hown ⟨s.toArray⟩ (by rw [hss]; unfold maxLen; omega) (by rw [hss]; omega) (by omega)
  refine ⟨v', w', hr, ?_, ⟨⟨h3.os, h3.tape, h3.output, h3.size, fun k hk hs => h3.block k hk (fun e => hs e.symm)⟩, fun k hk => ?_⟩⟩
  · rw [strCells_u8s, hss] at h2
    show w'.ownsRow 0 5 1 v' (l ++ s).length _
    rw [u8s_app, List.length_append]
    exact h2
  · have hown' := hown
    rcases hown'.2 with ⟨rfl, he⟩ | ⟨g, cap, cur, rfl, _, hg, hnc, hcm, hcs, htake⟩
    · have hown0 : w.ownsRow w.heap.size 5 1 (.slice none 0 0) l.length (u8s l) := ⟨hown.1, .inl ⟨rfl, he⟩⟩
      obtain ⟨v2, w2, hr2, k2, k3, _⟩ := Lib.run_append_own_string (P := P) w w.heap.size t u ty 5 i ht hu hi hz hsize hby (.slice none 0 0) l.length (u8s l) hown0 ⟨s.toArray⟩ (by rw [hss]; unfold maxLen; omega) (by rw [hss]; omega) (by omega)
      rw [hr] at hr2
      obtain ⟨rfl, rfl⟩ : v' = v2 ∧ w' = w2 := by injection hr2 with e1 e2; exact ⟨e1, e2⟩
      exact .inr (k2.lt k hk).1
    · by_cases hroom : l.length + s.length ≤ cap
      · have hr2 := Lib.run_append_room_string (P := P) w t u ty 5 i ht hu hi hsize g l.length cap cur hg ⟨s.toArray⟩ (by rw [hss]; exact hroom) (by rw [hss]; simpa [hcs] using hroom)
        rw [hr] at hr2
        obtain ⟨rfl, rfl⟩ : v' = _ ∧ w' = _ := by injection hr2 with e1 e2; exact ⟨e1, e2⟩
        exact .inl hk
      · have hcl : ∀ j u, (u8s l)[j]? = some u → w.cell? ((⟨g, 0, none⟩ : Addr).add j) = some u := World.ownsRow.cells hown (g := g) rfl
        have hr2 := Lib.run_append_grow_string (P := P) w t u ty 5 i (.int .u8 0) ht hu hi hz ⟨g, 0, none⟩ l.length cap (u8s l) (by rw [hsize, u8s_len]; simp) hcl ⟨s.toArray⟩ (by rw [hss]; omega) (by rw [hss]; omega) (by rw [hby, hss]; exact growslice_fits (by omega) (by omega))
        rw [hr] at hr2
        obtain ⟨rfl, rfl⟩ : v' = _ ∧ w' = _ := by injection hr2 with e1 e2; exact ⟨e1, e2⟩
        exact .inr (by simp [Value.ownBlock] at hk; omega)

theorem wpList_push_str {ops : Array Oper} {rest : List Oper} {o : Oper} {a : Act} {Q : Exit → Act → World → Prop} (hgd : o.guard = none) (sl x : Operand) (t u : TypeId)
    (ho : o.op = .call { callee := .builtin .append, args := #[sl, x], argTypes := #[t, u] })
    (i : TypeInfo) (ht : P.underlying t = some (.slice 5)) (hu : P.underlying u = some .string) (hi : P.info? 5 = some i) (hz : i.zero = some (.int .u8 0)) (hsize : i.size = 1) (hby : i.bytes = 1)
    (v : Value) (l s : Bytes) (hs : a.eval sl = v) (hown : Out w v l) (hx : a.eval x = str s) (hl : l.length ≤ 1000000000000) (hl2 : s.length ≤ 1000000000000)
    (h : ∀ v' w', Out w' v' (l ++ s) → OutTo w v w' v' → wpList P ops Q rest (a.put o.dst v') w') : wpList P ops Q (o :: rest) a w := by
  obtain ⟨v', w', hrun, h2, h3⟩ := run_push_str (P := P) t u o.type i ht hu hi hz hsize hby v l s hown hl hl2
  refine wpList_plain hgd fun K hK => ?_
  unfold Oper.wp execOp
  simp only [ho, resolve, invoke, builtin, Sem.run_bind, Sem.run_pure, Result.andThen_ok, List.map_toArray, List.map_cons, List.map_nil, hs, hx, hrun]
  exact hK _ _ (h v' w' h2 h3)
end

end Go.Proofs.YtamcgggmfghljaaGreatDoor

namespace Go.Proofs.YtamcgggmfghljaaGreatDoor

/-- The bytes of a number, the greatest first. -/
def beB (n : Nat) : Bytes := if _h : n = 0 then [] else beB (n / 256) ++ [UInt8.ofNat (n % 256)]
termination_by n
decreasing_by omega
def numB (n : Nat) : Bytes := UInt8.ofNat (beB n).length :: beB n
def numI (n : Int) : Bytes := numB (n % 18446744073709551616).toNat

theorem beB_zero : beB 0 = [] := by rw [beB]; simp
theorem beB_pos {n : Nat} (h : n ≠ 0) : beB n = beB (n / 256) ++ [UInt8.ofNat (n % 256)] := by rw [beB]; simp [h]
theorem beB_pos_len {n : Nat} (h : n ≠ 0) : (beB n).length = (beB (n / 256)).length + 1 := by rw [beB_pos h]; simp
theorem beB_le : ∀ (k n : Nat), n < 256 ^ k → (beB n).length ≤ k
  | 0, n, h => by
    have : n = 0 := by simpa using h
    subst this
    simp [beB_zero]
  | k + 1, n, h => by
    by_cases h0 : n = 0
    · subst h0; simp [beB_zero]
    · rw [beB_pos_len h0]
      have := beB_le k (n / 256) (by rw [Nat.pow_succ] at h; exact Nat.div_lt_of_lt_mul (by omega))
      omega
theorem beB_le8 {n : Nat} (h : n < 18446744073709551616) : (beB n).length ≤ 8 := beB_le 8 n (by simpa using h)
theorem beB_at : ∀ (n i : Nat), i < (beB n).length → (beB n)[(beB n).length - 1 - i]? = some (UInt8.ofNat (n / 256 ^ i % 256)) := by
  intro n
  induction n using Nat.strongRecOn with
  | _ n ih =>
    intro i hi
    by_cases h0 : n = 0
    · subst h0; simp [beB_zero] at hi
    · have hl := beB_pos_len h0
      rw [beB_pos h0] at hi ⊢
      rw [List.length_append, List.length_singleton] at hi ⊢
      rcases i with _ | i
      · rw [List.getElem?_append_right (by omega)]
        simp
      · rw [List.getElem?_append_left (by omega)]
        have h := ih (n / 256) (by omega) i (by omega)
        rw [show (beB (n / 256)).length + 1 - 1 - (i + 1) = (beB (n / 256)).length - 1 - i by omega, h, Nat.div_div_eq_div_mul, Nat.pow_succ, Nat.mul_comm]
theorem beB_take {n j : Nat} (h : j < (beB n).length) : (beB n).take (j + 1) = (beB n).take j ++ [UInt8.ofNat (n / 256 ^ ((beB n).length - 1 - j) % 256)] := by
  have h2 := beB_at n ((beB n).length - 1 - j) (by omega)
  rw [show (beB n).length - 1 - ((beB n).length - 1 - j) = j by omega] at h2
  rw [List.take_add_one, h2]
  rfl
theorem beB_byte (m i : Nat) : ((m : Int) / 2 ^ (8 * i) % 256).toNat = m / 256 ^ i % 256 := by
  have e : ((m : Int) / 2 ^ (8 * i) % 256) = ((m / 2 ^ (8 * i) % 256 : Nat) : Int) := by simp
  rw [e, Nat.pow_mul]
  rfl
theorem numB_le {n : Nat} (h : n < 18446744073709551616) : (numB n).length ≤ 9 := by have := beB_le8 h; simp [numB]; omega
theorem numI_le (n : Int) : (numI n).length ≤ 9 := numB_le (by omega)

/-! ### A script's bytes -/
def flagB (b : Bool) : Bytes := numI (if b then 1 else 0)
def textB (s : Bytes) : Bytes := numI s.length ++ s
def placeB (r : Ref) : Bytes := numI r.col ++ numI r.row
def cornB (r : Rct) : Bytes := numI r.c1 ++ numI r.r1 ++ numI r.c2 ++ numI r.r2
def setsB (r : Rts) : Bytes := numI r.rd ++ numI r.wr ++ numI r.ow
def entB (x : Ent) : Bytes := placeB x.at_ ++ textB x.input
def rulB (x : Rul) : Bytes := cornB x.rect ++ setsB x.rights
def grtB (x : Grt) : Bytes := cornB x.rect ++ numI x.fns ++ numI x.to_ ++ numI x.by_ ++ flagB x.revoked
def evtB (x : Evt) : Bytes := numI x.step ++ numI x.user ++ numI x.kind ++ cornB x.rect ++ flagB x.done_ ++ numI x.to_
def rlsB (x : Rls) : Bytes := numI x.step ++ placeB x.at_ ++ numI x.node ++ numI x.fn ++ cornB x.rect ++ numI x.grant ++ numI x.to_
def oprF (x : Opr) : List (Bool × Bytes) :=
  [(decide (x.user ≠ 0), numI x.user), (decide (x.rect ≠ ⟨0, 0, 0, 0⟩), cornB x.rect), (decide (x.input ≠ []), textB x.input), (decide (x.rights ≠ ⟨0, 0, 0⟩), setsB x.rights),
   (decide (x.fns ≠ 0), numI x.fns), (decide (x.to_ ≠ 0), numI x.to_), (decide (x.index ≠ 0), numI x.index)]
def maskN : List (Bool × Bytes) → Int
  | [] => 0
  | (b, _) :: l => (if b then 1 else 0) + 2 * maskN l
def oprB (x : Opr) : Bytes := numI x.kind ++ numI (maskN (oprF x)) ++ (oprF x).flatMap fun p => if p.1 then p.2 else []
def listB {α : Type} (f : α → Bytes) (l : List α) : Bytes := numI l.length ++ l.flatMap f
def scpB (s : Scp) : Bytes :=
  numI s.book.users ++ listB entB s.book.entries ++ listB rulB s.book.rules ++ listB grtB s.book.grants ++ listB evtB s.book.log ++ listB rlsB s.book.releases ++ numI s.book.step ++ listB oprB s.ops

end Go.Proofs.YtamcgggmfghljaaGreatDoor

namespace Go.Proofs.YtamcgggmfghljaaGreatDoor
open Go.RowKit

set_option maxRecDepth 100000 in
set_option maxHeartbeats 2000000 in
theorem num_int (v : Value) (l : Bytes) (n : Int) (w : World) (h : Out w v l) (hl : l.length ≤ 100000000000) :
    Calls Tryz.prog 84 #[v, .int .i64 n] w fun e w' => ∃ v', e = .returned v' ∧ Out w' v' (l ++ numI n) ∧ OutTo w v w' v' := by
  obtain ⟨i0, hi0, hz0, hz1, hz2⟩ := info_parts (show (Tryz.prog.info? 5).map (fun i => (i.zero, i.size, i.bytes)) = some (some (.int .u8 0), 1, 1) by kernel_rfl)
  obtain ⟨m, hm, hm2⟩ : ∃ m : Nat, IntKind.u64.wrap n = (m : Int) ∧ m < 18446744073709551616 := ⟨(n % 18446744073709551616).toNat, by rw [IntKind.wrap_u64]; omega, by omega⟩
  have hN : Hid (numI n = numB m) := by
    unfold Hid numI
    rw [← IntKind.wrap_u64, hm]
    rfl
  have h8 := beB_le8 hm2
  have H0 := Lib.hid h
  clear h
  go_enter Tryz.func84, Tryz.ntmps84
  go_wp2
  go_loop [6, 7] (fun s x => ∃ k y : Nat, s = .int .i64 k ∧ x = .int .u64 y ∧ (beB m).length = k + (beB y).length) (fun _ x => (intOf x).toNat)
  case atStart => exact ⟨0, m, rfl, rfl, by simp⟩
  case round =>
    obtain ⟨k, y, rfl, rfl, hk⟩ := hrel
    by_cases hy : 0 < y
    · have hk2 := beB_pos_len (n := y) (by omega)
      have HK := Lib.hid hk
      go_wp2
      exact ⟨⟨k + 1, y / 256, rfl, rfl, by omega⟩, by simp [intOf]; omega⟩
    · obtain rfl : y = 0 := by omega
      rw [beB_zero] at hk
      have hk1 : k = (beB m).length := by simpa using hk.symm
      have HK := Lib.hid hk1
      have e1 : l ++ [UInt8.ofNat (k : Int).toNat] = l ++ [UInt8.ofNat (beB m).length] := by rw [hk1]; rfl
      have E1 := Lib.hid e1
      have hk9 : k ≤ 8 := by omega
      clear hk hk1 e1
      go_wp2_with (at_builtin; refine wpList_push rfl _ _ 59 rfl i0 rfl hi0 hz0 hz1 hz2 v l rfl (H0.out.alloc _) w.heap.size k rfl (by omega) (by omega) (World.cell?_alloc_at _ _ _ _ rfl) (by omega) ?_; intro v1 w1 o1 t1)
      have T1 := Lib.hid (((OutTo.refl w v).alloc _).trans t1)
      rw [E1.out] at o1
      have O1 := Lib.hid o1
      clear t1 o1
      go_wp2
      go_loopw [0, 8] (fun u i wr => ∃ j : Nat, j ≤ k ∧ i = .int .i64 ((k : Int) - 1 - j) ∧ Out wr u (l ++ UInt8.ofNat (beB m).length :: (beB m).take j) ∧ OutTo w v wr u) (fun _ i _ => (intOf i + 1).toNat)
      case atStart => exact ⟨0, by omega, by simp, by simpa using O1.out, T1.out⟩
      case round =>
        obtain ⟨j, hj, rfl, oj, tj⟩ := hrel
        have OJ := Lib.hid oj
        have TJ := Lib.hid tj
        clear oj tj
        by_cases hlt : j < k
        · have b0 : (0 : Int) ≤ (k : Int) - 1 - j := by omega
          have hb := beB_byte m (k - 1 - j)
          rw [HK.out] at hb
          have ht := beB_take (n := m) (j := j) (by rw [← HK.out]; omega)
          rw [← hb, ← HK.out] at ht
          have HT := Lib.hid ht
          clear hb ht
          go_wp2_with (at_builtin; refine wpList_push rfl _ _ 59 rfl i0 rfl hi0 hz0 hz1 hz2 u0 _ rfl (OJ.out.alloc _) wr.heap.size ((m : Int) / 2 ^ (8 * (k - 1 - j)) % 256) rfl (by omega) (by omega) (World.cell?_alloc_at _ _ _ _ rfl) (by simp; omega) ?_; intro v2 w2 o2 t2)
          have T2 := Lib.hid (TJ.out.trans (((OutTo.refl wr u0).alloc _).trans t2))
          have O2 := Lib.hid o2
          clear t2 o2
          go_wp2
          refine ⟨⟨j + 1, by omega, by go_num, ?_, T2.out⟩, by simp [intOf]; omega⟩
          rw [HT.out]
          simpa using O2.out
        · go_wp2
          go_ret
          have hjk : j = (beB m).length := by rw [← HK.out]; omega
          refine ⟨_, rfl, ?_, TJ.out⟩
          have := OJ.out
          rw [hjk, List.take_length] at this
          rw [hN.out]
          exact this

set_option maxRecDepth 100000 in
set_option maxHeartbeats 2000000 in
theorem num_u64 (v : Value) (l : Bytes) (n : Int) (w : World) (hn0 : 0 ≤ n) (hn1 : n < 18446744073709551616) (h : Out w v l) (hl : l.length ≤ 100000000000) :
    Calls Tryz.prog 96 #[v, .int .u64 n] w fun e w' => ∃ v', e = .returned v' ∧ Out w' v' (l ++ numI n) ∧ OutTo w v w' v' := by
  obtain ⟨i0, hi0, hz0, hz1, hz2⟩ := info_parts (show (Tryz.prog.info? 5).map (fun i => (i.zero, i.size, i.bytes)) = some (some (.int .u8 0), 1, 1) by kernel_rfl)
  obtain ⟨m, rfl⟩ : ∃ m : Nat, n = (m : Int) := ⟨n.toNat, by omega⟩
  have hm2 : m < 18446744073709551616 := by omega
  have hN : Hid (numI (m : Int) = numB m) := by
    unfold Hid numI
    congr 1
    omega
  clear hn0 hn1
  have h8 := beB_le8 hm2
  have H0 := Lib.hid h
  clear h
  go_enter Tryz.func96, Tryz.ntmps96
  go_wp2
  go_loop [6, 7] (fun s x => ∃ k y : Nat, s = .int .i64 k ∧ x = .int .u64 y ∧ (beB m).length = k + (beB y).length) (fun _ x => (intOf x).toNat)
  case atStart => exact ⟨0, m, rfl, rfl, by simp⟩
  case round =>
    obtain ⟨k, y, rfl, rfl, hk⟩ := hrel
    by_cases hy : 0 < y
    · have hk2 := beB_pos_len (n := y) (by omega)
      have HK := Lib.hid hk
      go_wp2
      exact ⟨⟨k + 1, y / 256, rfl, rfl, by omega⟩, by simp [intOf]; omega⟩
    · obtain rfl : y = 0 := by omega
      rw [beB_zero] at hk
      have hk1 : k = (beB m).length := by simpa using hk.symm
      have HK := Lib.hid hk1
      have e1 : l ++ [UInt8.ofNat (k : Int).toNat] = l ++ [UInt8.ofNat (beB m).length] := by rw [hk1]; rfl
      have E1 := Lib.hid e1
      have hk9 : k ≤ 8 := by omega
      clear hk hk1 e1
      go_wp2_with (at_builtin; refine wpList_push rfl _ _ 59 rfl i0 rfl hi0 hz0 hz1 hz2 v l rfl (H0.out.alloc _) w.heap.size k rfl (by omega) (by omega) (World.cell?_alloc_at _ _ _ _ rfl) (by omega) ?_; intro v1 w1 o1 t1)
      have T1 := Lib.hid (((OutTo.refl w v).alloc _).trans t1)
      rw [E1.out] at o1
      have O1 := Lib.hid o1
      clear t1 o1
      go_wp2
      go_loopw [0, 8] (fun u i wr => ∃ j : Nat, j ≤ k ∧ i = .int .i64 ((k : Int) - 1 - j) ∧ Out wr u (l ++ UInt8.ofNat (beB m).length :: (beB m).take j) ∧ OutTo w v wr u) (fun _ i _ => (intOf i + 1).toNat)
      case atStart => exact ⟨0, by omega, by simp, by simpa using O1.out, T1.out⟩
      case round =>
        obtain ⟨j, hj, rfl, oj, tj⟩ := hrel
        have OJ := Lib.hid oj
        have TJ := Lib.hid tj
        clear oj tj
        by_cases hlt : j < k
        · have b0 : (0 : Int) ≤ (k : Int) - 1 - j := by omega
          have hb := beB_byte m (k - 1 - j)
          rw [HK.out] at hb
          have ht := beB_take (n := m) (j := j) (by rw [← HK.out]; omega)
          rw [← hb, ← HK.out] at ht
          have HT := Lib.hid ht
          clear hb ht
          go_wp2_with (at_builtin; refine wpList_push rfl _ _ 59 rfl i0 rfl hi0 hz0 hz1 hz2 u0 _ rfl (OJ.out.alloc _) wr.heap.size ((m : Int) / 2 ^ (8 * (k - 1 - j)) % 256) rfl (by omega) (by omega) (World.cell?_alloc_at _ _ _ _ rfl) (by simp; omega) ?_; intro v2 w2 o2 t2)
          have T2 := Lib.hid (TJ.out.trans (((OutTo.refl wr u0).alloc _).trans t2))
          have O2 := Lib.hid o2
          clear t2 o2
          go_wp2
          refine ⟨⟨j + 1, by omega, by go_num, ?_, T2.out⟩, by simp [intOf]; omega⟩
          rw [HT.out]
          simpa using O2.out
        · go_wp2
          go_ret
          have hjk : j = (beB m).length := by rw [← HK.out]; omega
          refine ⟨_, rfl, ?_, TJ.out⟩
          have := OJ.out
          rw [hjk, List.take_length] at this
          rw [hN.out]
          exact this

set_option maxRecDepth 100000 in
set_option maxHeartbeats 2000000 in
theorem num_u8 (v : Value) (l : Bytes) (n : Int) (w : World) (h : Out w v l) (hl : l.length ≤ 100000000000) :
    Calls Tryz.prog 97 #[v, .int .u8 n] w fun e w' => ∃ v', e = .returned v' ∧ Out w' v' (l ++ numI n) ∧ OutTo w v w' v' := by
  obtain ⟨i0, hi0, hz0, hz1, hz2⟩ := info_parts (show (Tryz.prog.info? 5).map (fun i => (i.zero, i.size, i.bytes)) = some (some (.int .u8 0), 1, 1) by kernel_rfl)
  obtain ⟨m, hm, hm2⟩ : ∃ m : Nat, IntKind.u64.wrap n = (m : Int) ∧ m < 18446744073709551616 := ⟨(n % 18446744073709551616).toNat, by rw [IntKind.wrap_u64]; omega, by omega⟩
  have hN : Hid (numI n = numB m) := by
    unfold Hid numI
    rw [← IntKind.wrap_u64, hm]
    rfl
  have h8 := beB_le8 hm2
  have H0 := Lib.hid h
  clear h
  go_enter Tryz.func97, Tryz.ntmps97
  go_wp2
  go_loop [6, 7] (fun s x => ∃ k y : Nat, s = .int .i64 k ∧ x = .int .u64 y ∧ (beB m).length = k + (beB y).length) (fun _ x => (intOf x).toNat)
  case atStart => exact ⟨0, m, rfl, rfl, by simp⟩
  case round =>
    obtain ⟨k, y, rfl, rfl, hk⟩ := hrel
    by_cases hy : 0 < y
    · have hk2 := beB_pos_len (n := y) (by omega)
      have HK := Lib.hid hk
      go_wp2
      exact ⟨⟨k + 1, y / 256, rfl, rfl, by omega⟩, by simp [intOf]; omega⟩
    · obtain rfl : y = 0 := by omega
      rw [beB_zero] at hk
      have hk1 : k = (beB m).length := by simpa using hk.symm
      have HK := Lib.hid hk1
      have e1 : l ++ [UInt8.ofNat (k : Int).toNat] = l ++ [UInt8.ofNat (beB m).length] := by rw [hk1]; rfl
      have E1 := Lib.hid e1
      have hk9 : k ≤ 8 := by omega
      clear hk hk1 e1
      go_wp2_with (at_builtin; refine wpList_push rfl _ _ 59 rfl i0 rfl hi0 hz0 hz1 hz2 v l rfl (H0.out.alloc _) w.heap.size k rfl (by omega) (by omega) (World.cell?_alloc_at _ _ _ _ rfl) (by omega) ?_; intro v1 w1 o1 t1)
      have T1 := Lib.hid (((OutTo.refl w v).alloc _).trans t1)
      rw [E1.out] at o1
      have O1 := Lib.hid o1
      clear t1 o1
      go_wp2
      go_loopw [0, 8] (fun u i wr => ∃ j : Nat, j ≤ k ∧ i = .int .i64 ((k : Int) - 1 - j) ∧ Out wr u (l ++ UInt8.ofNat (beB m).length :: (beB m).take j) ∧ OutTo w v wr u) (fun _ i _ => (intOf i + 1).toNat)
      case atStart => exact ⟨0, by omega, by simp, by simpa using O1.out, T1.out⟩
      case round =>
        obtain ⟨j, hj, rfl, oj, tj⟩ := hrel
        have OJ := Lib.hid oj
        have TJ := Lib.hid tj
        clear oj tj
        by_cases hlt : j < k
        · have b0 : (0 : Int) ≤ (k : Int) - 1 - j := by omega
          have hb := beB_byte m (k - 1 - j)
          rw [HK.out] at hb
          have ht := beB_take (n := m) (j := j) (by rw [← HK.out]; omega)
          rw [← hb, ← HK.out] at ht
          have HT := Lib.hid ht
          clear hb ht
          go_wp2_with (at_builtin; refine wpList_push rfl _ _ 59 rfl i0 rfl hi0 hz0 hz1 hz2 u0 _ rfl (OJ.out.alloc _) wr.heap.size ((m : Int) / 2 ^ (8 * (k - 1 - j)) % 256) rfl (by omega) (by omega) (World.cell?_alloc_at _ _ _ _ rfl) (by simp; omega) ?_; intro v2 w2 o2 t2)
          have T2 := Lib.hid (TJ.out.trans (((OutTo.refl wr u0).alloc _).trans t2))
          have O2 := Lib.hid o2
          clear t2 o2
          go_wp2
          refine ⟨⟨j + 1, by omega, by go_num, ?_, T2.out⟩, by simp [intOf]; omega⟩
          rw [HT.out]
          simpa using O2.out
        · go_wp2
          go_ret
          have hjk : j = (beB m).length := by rw [← HK.out]; omega
          refine ⟨_, rfl, ?_, TJ.out⟩
          have := OJ.out
          rw [hjk, List.take_length] at this
          rw [hN.out]
          exact this

end Go.Proofs.YtamcgggmfghljaaGreatDoor
