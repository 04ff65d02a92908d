/- Contracts of the roster's functions. -/
import Derived.Test.YtkemmjbaohoomaaRows
import Derived.Test.YtkemmjbaohoomaaPlain
import Derived.WalkKit
import Derived.WalkSpells
import Derived.WalkLawsBesides
import Derived.Handy
import Derived.Lib.Hide
namespace Go.Proofs.Ytkemmjbaohoomaa
open Go.RowKit

/-- Outside the blocks S the world w' is as w was. -/
structure Chg (S : Nat → Prop) (w w' : World) : Prop where
  os : w'.os = w.os
  tape : w'.tape = w.tape
  output : w'.output = w.output
  size : w.heap.size ≤ w'.heap.size
  block : ∀ k, k < w.heap.size → ¬ S k → w'.heap[k]? = w.heap[k]?

theorem Chg.refl (S : Nat → Prop) (w : World) : Chg S w w := ⟨rfl, rfl, rfl, Nat.le_refl _, fun _ _ _ => rfl⟩
theorem Chg.trans {S : Nat → Prop} {a b c : World} (h : Chg S a b) (k : Chg S b c) : Chg S a c :=
  ⟨k.os.trans h.os, k.tape.trans h.tape, k.output.trans h.output, Nat.le_trans h.size k.size, fun i hi hs => (k.block i (Nat.lt_of_lt_of_le hi h.size) hs).trans (h.block i hi hs)⟩
theorem Chg.mono {S T : Nat → Prop} {a b : World} (h : Chg S a b) (hs : ∀ k, k < a.heap.size → S k → T k) : Chg T a b := ⟨h.os, h.tape, h.output, h.size, fun i hi ht => h.block i hi fun s => ht (hs i hi s)⟩
theorem Chg.drew {S : Nat → Prop} {a w : World} (h : Chg S a w) : Chg S a w.drew := ⟨h.os, h.tape, h.output, h.size, h.block⟩
theorem Chg.drewN {S : Nat → Prop} {a w : World} (h : Chg S a w) (n : Nat) : Chg S a (w.drewN n) := ⟨h.os, h.tape, h.output, h.size, h.block⟩
theorem Chg.alloc {S : Nat → Prop} {a w : World} (h : Chg S a w) (o : Obj) : Chg S a (w.alloc o) :=
  h.trans ⟨rfl, rfl, rfl, by simp, fun k hk _ => Below.heap_alloc _ _ _ hk⟩
theorem Chg.setCell {S : Nat → Prop} {a w : World} (h : Chg S a w) {p : Addr} (hp : S p.block ∨ a.heap.size ≤ p.block) (u : Value) : Chg S a (w.setCell p u) :=
  ⟨h.os, h.tape, h.output, by have := h.size; simpa [World.setCell] using this, fun k hk hs => (Below.heap_setCell _ _ _ _ (by rintro rfl; exact hp.elim hs (fun h => by omega))).trans (h.block k hk hs)⟩
theorem Chg.of_below {B : Nat} {w w' : World} (h : Below B w w') : Chg (fun k => B ≤ k) w w' := ⟨h.os, h.tape, h.output, h.size, fun k _ hs => h.block k (by omega)⟩
theorem Chg.to_below {B : Nat} {w w' : World} (h : Chg (fun k => B ≤ k) w w') (hB : B ≤ w.heap.size) : Below B w w' := ⟨h.os, h.tape, h.output, h.size, fun k hk => h.block k (by omega) (by omega)⟩
theorem Chg.cell {S : Nat → Prop} {w w' : World} (h : Chg S w w') {p : Addr} (hp : p.block < w.heap.size) (hs : ¬ S p.block) : w'.cell? p = w.cell? p := World.cell?_of_block (w := w) (h.block p.block hp hs)

def Blk (w : World) (g : Nat) (t : TypeId) (cs : Array Value) : Prop := w.heap[g]? = some (.cells cs t (0, 0))

section
variable {w w' : World} {g : Nat} {t : TypeId} {cs : Array Value}
theorem Blk.lt (h : Blk w g t cs) : g < w.heap.size := by
  rcases Nat.lt_or_ge g w.heap.size with hlt | hge
  · exact hlt
  · unfold Blk at h; rw [Array.getElem?_eq_none hge] at h; cases h
theorem Blk.cell (h : Blk w g t cs) (i : Nat) : w.cell? ⟨g, i, none⟩ = cs[i]? := cell_of_row w g i cs t (0, 0) h
theorem Blk.frozen (h : Blk w g t cs) (i : Nat) : w.frozen? ⟨g, i, none⟩ = false := by
  unfold Blk at h
  simp [World.frozen?, h]
theorem Blk.new (w : World) (t : TypeId) (cs : Array Value) : Blk (w.alloc (.cells cs t)) w.heap.size t cs := heap_alloc_new w _
theorem Blk.drew (h : Blk w g t cs) : Blk w.drew g t cs := h
theorem Blk.drewN (h : Blk w g t cs) (n : Nat) : Blk (w.drewN n) g t cs := h
theorem Blk.alloc (h : Blk w g t cs) (o : Obj) : Blk (w.alloc o) g t cs := (Below.heap_alloc w o g h.lt).trans h
theorem Blk.set_ (h : Blk w g t cs) (i : Nat) (u : Value) : Blk (w.setCell ⟨g, i, none⟩ u) g t (cs.setIfInBounds i u) := by
  unfold Blk at h ⊢
  simp [World.setCell, Array.getElem?_modify, h]
theorem Blk.far (h : Blk w g t cs) {p : Addr} (hp : g ≠ p.block) (u : Value) : Blk (w.setCell p u) g t cs := (Below.heap_setCell w p u g hp).trans h
theorem Blk.chg {S : Nat → Prop} (h : Blk w g t cs) (hb : Chg S w w') (hg : ¬ S g) : Blk w' g t cs := (hb.block g h.lt hg).trans h
end

section
variable {P : Program}
theorem run_loadVar_agg (w : World) (a : Addr) (ty : TypeId) (cs : Array Value) (d : TypeDesc) (hc : ∀ j v, cs[j]? = some v → w.cell? (a.add j) = some v)
    (hu : P.underlying ty = some d) (hd : (match d with | .struct _ | .array _ _ => true | _ => false) = true) (hi : (P.info? ty).map (·.size) = some cs.size) :
    (loadVar ty a).run P w = .ok (.agg cs) w := by
  have hl : (loadCells a cs.toList.length).run P w = .ok cs.toList.toArray w :=
    run_loadCells_list (P := P) w a cs.toList (fun j v hv => hc j v (by simpa using hv))
  cases hq : P.info? ty with
  | none => simp [hq] at hi
  | some i =>
    have hs : i.size = cs.size := by simpa [hq] using hi
    have hagg : (isAgg ty).run P w = .ok true w := by
      unfold isAgg
      rw [Sem.run_bind, run_underlying hu w]
      cases d <;> simp_all
    simp only [Array.length_toList, Array.toArray_toList] at hl
    simp [loadVar, Sem.run_bind, hagg, sizeOf, typeInfo, hq, hs, hl]
theorem wpList_load_agg {ops : Array Oper} {rest : List Oper} {o : Oper} {a : Act} {w : World} {Q : Exit → Act → World → Prop} (hgd : o.guard = none) (ty : TypeId) (x : Operand) (ho : o.op = .load ty x)
    (b : Addr) (hx : a.eval x = .pointer (some b)) (cs : Array Value) (d : TypeDesc) (hc : ∀ j v, cs[j]? = some v → w.cell? (b.add j) = some v)
    (hu : P.underlying ty = some d) (hd : (match d with | .struct _ | .array _ _ => true | _ => false) = true) (hi : (P.info? ty).map (·.size) = some cs.size)
    (h : wpList P ops Q rest (a.put o.dst (.agg cs)) w) : wpList P ops Q (o :: rest) a w :=
  wpList_plain hgd fun _ hK => by
    unfold Oper.wp execOp
    simp only [ho, hx, Instr.loadAt, Instr.sureAddr, Sem.run_bind, Sem.run_pure, Result.andThen_ok, run_loadVar_agg w b ty cs d hc hu hd hi]
    exact hK _ _ h
end

/-- The cells of a roster. -/
def ros (n : Nat) (f : Nat → Bool) : Array Value :=
  Array.ofFn (n := 129) fun i => if i.val = 0 then .int .i64 n else if i.val % 2 = 1 then .int .i64 (i.val / 2 : Nat) else .bool (f (i.val / 2 - 1))

theorem ros_n (n : Nat) (f : Nat → Bool) : (ros n f)[0]? = some (.int .i64 n) := by simp [ros]
theorem ros_num (n : Nat) (f : Nat → Bool) (k : Nat) (hk : k < 64) : (ros n f)[1 + k * 2]? = some (.int .i64 k) := by
  have h1 : (1 + k * 2) < 129 := by omega
  have h2 : (1 + k * 2) / 2 = k := by omega
  have h3 : ¬ 1 + k * 2 = 0 := by omega
  have h4 : (1 + k * 2) % 2 = 1 := by omega
  simp only [ros, Array.getElem?_ofFn, h1, h2, h3, h4, dite_true, if_true, if_false]
theorem ros_in (n : Nat) (f : Nat → Bool) (k : Nat) (hk : k < 64) : (ros n f)[1 + k * 2 + 1]? = some (.bool (f k)) := by
  have h1 : (1 + k * 2 + 1) < 129 := by omega
  have h2 : (1 + k * 2 + 1) / 2 - 1 = k := by omega
  have h3 : ¬ 1 + k * 2 + 1 = 0 := by omega
  have h4 : ¬ (1 + k * 2 + 1) % 2 = 1 := by omega
  simp only [ros, Array.getElem?_ofFn, h1, h2, h3, h4, dite_true, if_false]
theorem ros_set (n : Nat) (f : Nat → Bool) (k : Nat) (b : Bool) : (ros n f).setIfInBounds (1 + k * 2 + 1) (.bool b) = ros n (upd f k b) := by
  apply Array.ext
  · simp [ros]
  · intro i h1 h2
    rw [Array.getElem_setIfInBounds (by simpa using h1)]
    simp only [ros, Array.getElem_ofFn]
    by_cases h0 : i = 0
    · subst h0; simp
    · by_cases hm : i % 2 = 1
      · rw [if_neg (by omega)]; simp [h0, hm]
      · by_cases e : 1 + k * 2 + 1 = i
        · subst e
          have h5 : (1 + k * 2 + 1) / 2 - 1 = k := by omega
          rw [if_pos rfl, if_neg h0, if_neg hm, h5, upd_self]
        · have h5 : i / 2 - 1 ≠ k := by omega
          rw [if_neg e, if_neg h0, if_neg hm, if_neg h0, if_neg hm, upd_other _ _ h5]

theorem wrapped {x : Nat} (h : x < 18446744073709551616) : (x : Int) % 18446744073709551616 = x := by omega

set_option maxHeartbeats 400000 in
theorem of_one (a : Addr) (u : Nat) (w : World) (hu : (u : Int) < 64) (hc : w.cell? a = some (.int .i64 u)) :
    Calls Try.prog 20 #[.slice (some a) 1 1] w fun e w' => e = .returned (.tuple #[.int .u64 ((2 ^ u : Nat) : Int), .int .i64 0]) ∧ w = w' := by
  have hl : 2 ^ u < 18446744073709551616 := Nat.pow_lt_pow_of_lt (a := 2) (n := u) (m := 64) (by decide) (by omega)
  have hb : Hid (bits BinOp.or IntKind.u64 0 (IntKind.u64.wrap (2 ^ u)) = ((2 ^ u : Nat) : Int)) := by
    have e : IntKind.u64.wrap (2 ^ u) = ((2 ^ u : Nat) : Int) := by
      rw [IntKind.wrap_u64]
      have : ((2 : Int) ^ u) = ((2 ^ u : Nat) : Int) := by simp
      rw [this]
      exact wrapped hl
    rw [e]
    exact (u64_or_nat 0 (2 ^ u) (by decide) hl).trans (by simp)
  clear hl
  go_enter Try.func20, Try.ntmps20
  go_wp2
  go_rounds 2
  all_goals
    go_ret2
    exact ⟨by simp [hb.out], rfl⟩

set_option maxHeartbeats 400000 in
theorem set_any (u : Nat) (w : World) (hu : (u : Int) < 64) :
    Calls Try.prog 18 #[.int .i64 u] w fun e w' => e = .returned (.int .u64 ((2 ^ u : Nat) : Int)) ∧ w.alloc (.cells #[.int .i64 u] 3) = w' := by
  have hc : (w.alloc (.cells #[.int .i64 u] 3)).cell? ⟨w.heap.size, 0, none⟩ = some (.int .i64 u) := (Blk.new w 3 #[.int .i64 u]).cell 0
  have hO := Lib.hid (of_one ⟨w.heap.size, 0, none⟩ u _ hu hc)
  clear hc
  go_enter Try.func18, Try.ntmps18
  go_wp2_with fail
  refine hO.out.mono ?_
  rintro e w' ⟨rfl, rfl⟩
  go_wp2
  go_ret
  exact ⟨rfl, rfl⟩

/-- What a change returns. -/
def chCode (n : Nat) (f : Nat → Bool) (u : Int) (b : Bool) : Int := if u < 0 ∨ (n : Int) ≤ u then 3 else if f u.toNat = b then 7 else 0

set_option maxHeartbeats 400000 in
theorem change_nil (u : Int) (b : Bool) (w : World) :
    Calls Try.prog 17 #[.pointer none, .int .i64 u, .bool b] w fun e w' => e = .returned (.int .i64 1) ∧ w = w' := by
  go_enter Try.func17, Try.ntmps17
  go_wp2
  go_ret
  exact ⟨rfl, rfl⟩

set_option maxHeartbeats 400000 in
theorem change_range (g n : Nat) (f : Nat → Bool) (u : Int) (b : Bool) (w : World) (hg : Blk w g 45 (ros n f)) (hu : u < 0 ∨ (n : Int) ≤ u) :
    Calls Try.prog 17 #[.pointer (some ⟨g, 0, none⟩), .int .i64 u, .bool b] w fun e w' => e = .returned (.int .i64 3) ∧ w = w' := by
  have hc0 : w.cell? ⟨g, 0, none⟩ = some (.int .i64 n) := (hg.cell 0).trans (ros_n n f)
  clear hg
  by_cases h : u < 0
  · go_enter Try.func17, Try.ntmps17
    go_wp2
    go_ret
    exact ⟨rfl, rfl⟩
  · go_enter Try.func17, Try.ntmps17
    go_wp2
    go_ret
    exact ⟨rfl, rfl⟩

set_option maxHeartbeats 400000 in
theorem change_state (g n : Nat) (f : Nat → Bool) (u : Nat) (w : World) (hg : Blk w g 45 (ros n f)) (hn : n ≤ 64) (hu : (u : Int) < n) :
    Calls Try.prog 17 #[.pointer (some ⟨g, 0, none⟩), .int .i64 u, .bool (f u)] w fun e w' => e = .returned (.int .i64 7) ∧ w = w' := by
  have hc0 : w.cell? ⟨g, 0, none⟩ = some (.int .i64 n) := (hg.cell 0).trans (ros_n n f)
  have hc1 : w.cell? ⟨g, 1 + u * 2 + 1, none⟩ = some (.bool (f u)) := (hg.cell _).trans (ros_in n f u (by omega))
  clear hg
  go_enter Try.func17, Try.ntmps17
  go_wp2
  go_ret
  exact ⟨rfl, rfl⟩

set_option maxHeartbeats 400000 in
theorem change_ok (g n : Nat) (f : Nat → Bool) (u : Nat) (b : Bool) (w : World) (hg : Blk w g 45 (ros n f)) (hn : n ≤ 64) (hu : (u : Int) < n) (hb : f u = !b) :
    Calls Try.prog 17 #[.pointer (some ⟨g, 0, none⟩), .int .i64 u, .bool b] w fun e w' => e = .returned (.int .i64 0) ∧ w.setCell ⟨g, 1 + u * 2 + 1, none⟩ (.bool b) = w' := by
  have hc0 : w.cell? ⟨g, 0, none⟩ = some (.int .i64 n) := (hg.cell 0).trans (ros_n n f)
  have hc1 : w.cell? ⟨g, 1 + u * 2 + 1, none⟩ = some (.bool (!b)) := (hg.cell _).trans (by rw [ros_in n f u (by omega), hb])
  have hfz : w.frozen? ⟨g, 1 + u * 2 + 1, none⟩ = false := hg.frozen _
  clear hg hb
  go_enter Try.func17, Try.ntmps17
  go_wp2
  go_ret
  exact ⟨rfl, rfl⟩

/-- The seats of a roster as one value. -/
def seats (n : Nat) (f : Nat → Bool) : Array Value := (ros n f).extract 1 129
theorem seats_size (n : Nat) (f : Nat → Bool) : (seats n f).size = 128 := by simp [seats, ros]
theorem seats_get (n : Nat) (f : Nat → Bool) (j : Nat) (hj : j < 128) : (seats n f)[j]? = (ros n f)[1 + j]? := by
  unfold seats
  rw [Array.getElem?_extract, if_pos (by simp [ros]; omega)]
theorem seats_index (n : Nat) (f : Nat → Bool) (k : Nat) (hk : k < 64) (w : World) :
    (Instr.index 43 (.agg (seats n f)) (.int .i64 k)).run Try.prog w = .ok (.agg #[.int .i64 k, .bool (f k)]) w := by
  have hs : (seats n f).extract (k * 2) (k * 2 + 2) = #[.int .i64 k, .bool (f k)] := by
    apply Array.ext
    · simp [seats_size]; omega
    · intro i h1 h2
      have hi : i = 0 ∨ i = 1 := by simp at h2; omega
      have e : ((seats n f).extract (k * 2) (k * 2 + 2))[i]? = (#[.int .i64 k, .bool (f k)] : Array Value)[i]? := by
        rcases hi with rfl | rfl
        · rw [Array.getElem?_extract, if_pos (by simp [seats_size]; omega), seats_get _ _ _ (by omega), show 1 + (k * 2 + 0) = 1 + k * 2 from rfl, ros_num _ _ _ hk]; rfl
        · rw [Array.getElem?_extract, if_pos (by simp [seats_size]; omega), seats_get _ _ _ (by omega), show 1 + (k * 2 + 1) = 1 + k * 2 + 1 from rfl, ros_in _ _ _ hk]; rfl
      rw [Array.getElem?_eq_getElem h1, Array.getElem?_eq_getElem h2] at e
      exact Option.some.inj e
  have hu : Try.prog.underlying 43 = some (.array 64 42) := by kernel_rfl
  have h42 : (isAgg 42).run Try.prog w = .ok true w := by kernel_rfl
  have hz : (sizeOf 42).run Try.prog w = .ok 2 w := by kernel_rfl
  have e1 : (Instr.index 43 (.agg (seats n f)) (.int .i64 k)).run Try.prog w = (part 42 (seats n f) (k * 2)).run Try.prog w := by
    simp [Instr.index, asIntOf, run_underlying hu, hz, hk]
  rw [e1]
  simp [part, h42, hs]

set_option maxHeartbeats 400000 in
theorem in_nil (w : World) : Calls Try.prog 11 #[.pointer none] w fun e w' => e = .returned (.int .u64 0) ∧ w = w' := by
  go_enter Try.func11, Try.ntmps11
  go_wp2
  go_ret
  exact ⟨rfl, rfl⟩

theorem or_step (f : Nat → Bool) (k : Nat) (hk : k < 64) : bits BinOp.or IntKind.u64 ((msk f k : Nat) : Int) (2 ^ k) = ((msk f k + 2 ^ k : Nat) : Int) := by
  have e : ((2 : Int) ^ k) = ((2 ^ k : Nat) : Int) := by simp
  rw [e]
  have h1 := msk_lt f k
  have h2 : 2 ^ k < 18446744073709551616 := Nat.pow_lt_pow_of_lt (a := 2) (n := k) (m := 64) (by decide) hk
  rw [u64_or_nat _ _ (by omega) h2, msk_or]

set_option maxHeartbeats 400000 in
theorem in_any (g n : Nat) (f : Nat → Bool) (w : World) (hg : Blk w g 45 (ros n f)) :
    Calls Try.prog 11 #[.pointer (some ⟨g, 0, none⟩)] w fun e w' => e = .returned (.int .u64 (msk f 64 : Nat)) ∧ Below w.heap.size w w' := by
  have hc : ∀ (j : Nat) (v : Value), (seats n f)[j]? = some v → w.cell? ((⟨g, 1, none⟩ : Addr).add j) = some v := by
    intro j v hv
    have hj : j < 128 := by
      rcases Nat.lt_or_ge j 128 with h | h
      · exact h
      · rw [Array.getElem?_eq_none (by rw [seats_size]; exact h)] at hv; cases hv
    rw [seats_get _ _ _ hj] at hv
    have e : (⟨g, 1, none⟩ : Addr).add j = ⟨g, 1 + j, none⟩ := by unfold Addr.add; split <;> simp_all
    rw [e, hg.cell, hv]
  have hC := Lib.hid hc
  clear hc hg
  go_enter Try.func11, Try.ntmps11
  go_wp2_with (refine wpList_load_agg rfl 43 _ rfl ⟨g, 1, none⟩ rfl (seats n f) _ hC.out Try.underlying43 rfl (by rw [seats_size]; kernel_rfl) ?_)
  go_loopw [3, 13] (fun o i wr => ∃ k : Nat, k ≤ 64 ∧ i = .int .i64 k ∧ o = .int .u64 (msk f k : Nat) ∧ Below w.heap.size w wr) (fun _ i _ => 64 - (intOf i).toNat)
  case atStart => exact ⟨0, by omega, rfl, rfl, Below.refl _ _⟩
  case round =>
    obtain ⟨k, hk, rfl, rfl, hb⟩ := hrel
    by_cases hlt : k < 64
    · have hx := fun W => seats_index n f k hlt W
      have hB := Lib.hid hb
      have hO := Lib.hid (or_step f k hlt)
      clear hb
      cases hf : f k with
      | true =>
        rw [hf] at hx
        have Hf := Lib.hid hf
        clear hf
        go_wp2_with (go_at_call 18; refine (set_any k _ (by omega)).mono ?_; rintro e w' ⟨rfl, rfl⟩)
        refine ⟨⟨k + 1, by omega, by go_num, by rw [hO.out, msk, if_pos Hf.out], ?_⟩, by simp [intOf]; omega⟩
        exact (hB.out.alloc hB.out.size _).alloc (by have := hB.out.size; simp; omega) _
      | false =>
        rw [hf] at hx
        have Hf := Lib.hid hf
        clear hf
        go_wp2
        refine ⟨⟨k + 1, by omega, by go_num, by rw [msk, if_neg (by rw [Hf.out]; simp), Nat.add_zero], ?_⟩, by simp [intOf]; omega⟩
        exact hB.out.alloc hB.out.size _
    · go_wp2
      go_ret
      have : k = 64 := by omega
      subst this
      exact ⟨rfl, hb⟩

end Go.Proofs.Ytkemmjbaohoomaa
