/- Layer 5 (program): codes of errors by their names. · val.words: what the row's list gives the walks. · A region that draws its order, loads its operands, and then stores into the very cells tha · The cells of package api's structs, and when two are equal. · Copies of lists. · Bytes that grow: 'out = append(out, ..)': the law for one byte, and for a string. -/
import Derived.BigQuiet
import Derived.Deep.QuietTactic
import Derived.Lib.LaidTab
import Derived.Stop.LaidErr
import Derived.OrdersHeld
import Derived.Laws.StructEq
import Derived.Maps.AppendAt
import Derived.OwnWalk
import Derived.Lib.AppendStr
import Derived.Test.YtamcgggmfghljaaGreatDoorC1
set_option maxRecDepth 100000
set_option maxHeartbeats 8000000
namespace Go.Proofs.YtamcgggmfghljaaGreatDoor
open Go.RowKit
/-- The names of the errors. -/
def wordsL : List Bytes := [[], [35, 68, 73, 86, 47, 48, 33], [35, 86, 65, 76, 85, 69, 33], [35, 78, 85, 77, 33], [35, 78, 47, 65], [35, 82, 69, 70, 33], [35, 67, 89, 67, 76, 69, 33], [35, 68, 69, 78, 73, 69, 68]]
/-- The table of the names lies where its initialiser lays it. -/
def Words (w : World) : Prop := (∀ (j : Nat) (s : Bytes), wordsL[j]? = some s → w.cell? ⟨0, j, none⟩ = some (str s)) ∧ 0 < w.heap.size
theorem Words.below {w w' : World} (h : Words w) (hb : Below w.heap.size w w') : Words w' := ⟨fun j s hj => (hb.cell (p := ⟨0, j, none⟩) h.2).trans (h.1 j s hj), Nat.lt_of_lt_of_le h.2 hb.size⟩
theorem code_any (s : Bytes) (w : World) (hl : s.length ≤ 1000000) (hw : Words w) :
    Calls Tryz.prog 217 #[str s] w fun u w' => ∃ c e : Int, u = .returned (.tuple #[.int .i64 c, .int .i64 e]) ∧ Below w.heap.size w w' := by
  have HW := Lib.hid hw
  clear hw
  have x0 : ∀ W : World, (Instr.index 257 (.agg #[str [], str [35, 68, 73, 86, 47, 48, 33], str [35, 86, 65, 76, 85, 69, 33], str [35, 78, 85, 77, 33], str [35, 78, 47, 65], str [35, 82, 69, 70, 33], str [35, 67, 89, 67, 76, 69, 33], str [35, 68, 69, 78, 73, 69, 68]]) (.int .i64 0)).run Tryz.prog W = .ok (str []) W := fun W => by rfl
  have x1 : ∀ W : World, (Instr.index 257 (.agg #[str [], str [35, 68, 73, 86, 47, 48, 33], str [35, 86, 65, 76, 85, 69, 33], str [35, 78, 85, 77, 33], str [35, 78, 47, 65], str [35, 82, 69, 70, 33], str [35, 67, 89, 67, 76, 69, 33], str [35, 68, 69, 78, 73, 69, 68]]) (.int .i64 1)).run Tryz.prog W = .ok (str [35, 68, 73, 86, 47, 48, 33]) W := fun W => by rfl
  have x2 : ∀ W : World, (Instr.index 257 (.agg #[str [], str [35, 68, 73, 86, 47, 48, 33], str [35, 86, 65, 76, 85, 69, 33], str [35, 78, 85, 77, 33], str [35, 78, 47, 65], str [35, 82, 69, 70, 33], str [35, 67, 89, 67, 76, 69, 33], str [35, 68, 69, 78, 73, 69, 68]]) (.int .i64 2)).run Tryz.prog W = .ok (str [35, 86, 65, 76, 85, 69, 33]) W := fun W => by rfl
  have x3 : ∀ W : World, (Instr.index 257 (.agg #[str [], str [35, 68, 73, 86, 47, 48, 33], str [35, 86, 65, 76, 85, 69, 33], str [35, 78, 85, 77, 33], str [35, 78, 47, 65], str [35, 82, 69, 70, 33], str [35, 67, 89, 67, 76, 69, 33], str [35, 68, 69, 78, 73, 69, 68]]) (.int .i64 3)).run Tryz.prog W = .ok (str [35, 78, 85, 77, 33]) W := fun W => by rfl
  have x4 : ∀ W : World, (Instr.index 257 (.agg #[str [], str [35, 68, 73, 86, 47, 48, 33], str [35, 86, 65, 76, 85, 69, 33], str [35, 78, 85, 77, 33], str [35, 78, 47, 65], str [35, 82, 69, 70, 33], str [35, 67, 89, 67, 76, 69, 33], str [35, 68, 69, 78, 73, 69, 68]]) (.int .i64 4)).run Tryz.prog W = .ok (str [35, 78, 47, 65]) W := fun W => by rfl
  have x5 : ∀ W : World, (Instr.index 257 (.agg #[str [], str [35, 68, 73, 86, 47, 48, 33], str [35, 86, 65, 76, 85, 69, 33], str [35, 78, 85, 77, 33], str [35, 78, 47, 65], str [35, 82, 69, 70, 33], str [35, 67, 89, 67, 76, 69, 33], str [35, 68, 69, 78, 73, 69, 68]]) (.int .i64 5)).run Tryz.prog W = .ok (str [35, 82, 69, 70, 33]) W := fun W => by rfl
  have x6 : ∀ W : World, (Instr.index 257 (.agg #[str [], str [35, 68, 73, 86, 47, 48, 33], str [35, 86, 65, 76, 85, 69, 33], str [35, 78, 85, 77, 33], str [35, 78, 47, 65], str [35, 82, 69, 70, 33], str [35, 67, 89, 67, 76, 69, 33], str [35, 68, 69, 78, 73, 69, 68]]) (.int .i64 6)).run Tryz.prog W = .ok (str [35, 67, 89, 67, 76, 69, 33]) W := fun W => by rfl
  have x7 : ∀ W : World, (Instr.index 257 (.agg #[str [], str [35, 68, 73, 86, 47, 48, 33], str [35, 86, 65, 76, 85, 69, 33], str [35, 78, 85, 77, 33], str [35, 78, 47, 65], str [35, 82, 69, 70, 33], str [35, 67, 89, 67, 76, 69, 33], str [35, 68, 69, 78, 73, 69, 68]]) (.int .i64 7)).run Tryz.prog W = .ok (str [35, 68, 69, 78, 73, 69, 68]) W := fun W => by rfl
  go_enter Tryz.func217, Tryz.ntmps217
  go_wp2_with fail
  refine (upper_any s _ hl).mono ?_
  rintro e w1 ⟨rfl, hb⟩
  have HB := Lib.hid hb
  have W1 := HW.out.below hb
  have e0 := W1.1 0 _ rfl
  have e1 := W1.1 1 _ rfl
  have e2 := W1.1 2 _ rfl
  have e3 := W1.1 3 _ rfl
  have e4 := W1.1 4 _ rfl
  have e5 := W1.1 5 _ rfl
  have e6 := W1.1 6 _ rfl
  have e7 := W1.1 7 _ rfl
  clear hb W1
  go_wp2
  clear e0 e1 e2 e3 e4 e5 e6 e7
  go_loopw [9] (fun i wr => ∃ k : Int, 0 ≤ k ∧ k ≤ 8 ∧ i = .int .i64 k ∧ w1 = wr) (fun i _ => 8 - (intOf i).toNat)
  case atStart => exact ⟨0, by omega, by omega, rfl, rfl⟩
  case round =>
    obtain ⟨k, h0, hk, rfl, rfl⟩ := hrel
    have e : k = 0 ∨ k = 1 ∨ k = 2 ∨ k = 3 ∨ k = 4 ∨ k = 5 ∨ k = 6 ∨ k = 7 ∨ k = 8 := by omega
    rcases e with rfl | rfl | rfl | rfl | rfl | rfl | rfl | rfl | rfl
    · go_wp2
      exact ⟨⟨1, by omega, by omega, rfl, trivial⟩, by simp [intOf]⟩
    · cases hq : ([35, 68, 73, 86, 47, 48, 33] == upB s)
      · go_wp2
        exact ⟨⟨2, by omega, by omega, rfl, trivial⟩, by simp [intOf]⟩
      · go_wp2
        go_ret2
        exact ⟨1, 0, rfl, HB.out⟩
    · cases hq : ([35, 86, 65, 76, 85, 69, 33] == upB s)
      · go_wp2
        exact ⟨⟨3, by omega, by omega, rfl, trivial⟩, by simp [intOf]⟩
      · go_wp2
        go_ret2
        exact ⟨2, 0, rfl, HB.out⟩
    · cases hq : ([35, 78, 85, 77, 33] == upB s)
      · go_wp2
        exact ⟨⟨4, by omega, by omega, rfl, trivial⟩, by simp [intOf]⟩
      · go_wp2
        go_ret2
        exact ⟨3, 0, rfl, HB.out⟩
    · cases hq : ([35, 78, 47, 65] == upB s)
      · go_wp2
        exact ⟨⟨5, by omega, by omega, rfl, trivial⟩, by simp [intOf]⟩
      · go_wp2
        go_ret2
        exact ⟨4, 0, rfl, HB.out⟩
    · cases hq : ([35, 82, 69, 70, 33] == upB s)
      · go_wp2
        exact ⟨⟨6, by omega, by omega, rfl, trivial⟩, by simp [intOf]⟩
      · go_wp2
        go_ret2
        exact ⟨5, 0, rfl, HB.out⟩
    · cases hq : ([35, 67, 89, 67, 76, 69, 33] == upB s)
      · go_wp2
        exact ⟨⟨7, by omega, by omega, rfl, trivial⟩, by simp [intOf]⟩
      · go_wp2
        go_ret2
        exact ⟨6, 0, rfl, HB.out⟩
    · cases hq : ([35, 68, 69, 78, 73, 69, 68] == upB s)
      · go_wp2
        exact ⟨⟨8, by omega, by omega, rfl, trivial⟩, by simp [intOf]⟩
      · go_wp2
        go_ret2
        exact ⟨7, 0, rfl, HB.out⟩
    · go_wp2
      go_ret2
      exact ⟨0, 4, rfl, HB.out⟩
theorem cells_of_strs {H : Type} {enc : TypeId × Value → H} {P : Program} {w : World} {base : Nat} {sp : Nat → Bool} {held : Bool} {fuel : Nat} {t e : TypeId} {n : Nat} {cs : List Value} {zs : List Bytes} {p : List MemPlace}
    (ht : P.underlying t = some (.array n e)) (he : P.underlying e = some .string) (hce : P.cellsOf e = 1) (hct : P.cellsOf t = n)
    (h : DataW.trod enc P w base sp held fuel t cs = some (.agg (zs.map fun z => .lit (.string z)), p)) : cs = zs.map fun z => str z := by
  cases fuel with
  | zero => simp [DataW.trod] at h
  | succ fuel =>
    simp only [DataW.trod, ht, hce, hct, Nat.mul_one] at h
    split at h
    · rename_i hl
      obtain ⟨xs, hm, hx⟩ := Option.map_eq_some_iff.1 h
      have hxs : xs.map (·.1) = zs.map fun z => (DataW.lit (.string z) : DataW H) := by
        have := congrArg Prod.fst hx
        simpa using this
      have hxl : xs.length = n := by simpa using Lib.mapM_length hm
      have hzl : zs.length = n := by
        have := congrArg List.length hxs
        simp at this
        omega
      apply List.ext_getElem?
      intro i
      by_cases hi : i < n
      · obtain ⟨b, hb, hf⟩ := Lib.mapM_at hm i i (by simp [hi])
        obtain ⟨z, hc, rfl, _⟩ := DataW.trod_string he hf
        have h1 : cs[i]? = some (.string z) := by
          have := congrArg (·[0]?) hc
          simpa [List.getElem?_take, List.getElem?_drop] using this
        have h2 : (xs.map (·.1))[i]? = some (DataW.lit (.string z.data.toList) : DataW H) := by simp [hb]
        rw [hxs] at h2
        simp only [List.getElem?_map, Option.map_eq_some_iff, DataW.lit.injEq, Lit.string.injEq] at h2
        obtain ⟨z', hz', rfl⟩ := h2
        simp [h1, hz']
      · rw [List.getElem?_eq_none (by omega), List.getElem?_eq_none (by simp; omega)]
    · cases h
theorem words_laid {a b c : String × DataW Unit} {W : World} (h : laidMet Tryz.prog [a, b, c, ("louvre/val.words", .agg (wordsL.map fun z => .lit (.string z)))] W) : Words W := by
  obtain ⟨ps, ⟨g', t', cs, fuel, p, q, hg', ht', hvar, hd, _, _⟩, _⟩ := h.tail.tail.tail
  have hg : Tryz.prog.globalNamed "louvre/val.words" = some 0 := by kernel_rfl
  have hty : (Tryz.prog.globals[0]?).map (·.type) = some 257 := by kernel_rfl
  obtain rfl := Option.some.inj (hg.symm.trans hg')
  obtain rfl := Option.some.inj (hty.symm.trans ht')
  have hcs := cells_of_strs Tryz.underlying257 Tryz.underlying9 (by kernel_rfl) (by kernel_rfl) hd
  have hv : W.var? Tryz.prog "louvre/val.words" = some (wordsL.map fun z => str z).toArray := by rw [hvar, ← hcs]
  refine ⟨fun j s hj => World.var?_cell hg hv j |>.trans ?_, ?_⟩
  · simp [hj]
  · rcases Nat.lt_or_ge 0 W.heap.size with h | h
    · exact h
    · simp only [World.var?, hg, Option.bind_some] at hv
      rw [Array.getElem?_eq_none h] at hv
      simp at hv
def pow10T : List Value := [1, 10, 100, 1000, 10000, 100000, 1000000, 10000000, 100000000, 1000000000, 10000000000, 100000000000, 1000000000000, 10000000000000, 100000000000000, 1000000000000000, 10000000000000000, 100000000000000000, 1000000000000000000, 10000000000000000000].map fun z => .int .u64 z
def bruijn32T : List Value := [0, 1, 28, 2, 29, 14, 24, 3, 30, 22, 20, 15, 25, 17, 4, 8, 31, 27, 13, 23, 21, 19, 16, 7, 26, 12, 18, 6, 11, 5, 10, 9].map fun z => .int .u8 z
def bruijn64T : List Value := [0, 1, 56, 2, 57, 49, 28, 3, 61, 58, 42, 50, 38, 29, 17, 4, 62, 47, 59, 36, 45, 43, 51, 22, 53, 39, 33, 30, 24, 18, 12, 5, 63, 55, 48, 27, 60, 41, 37, 16, 46, 35, 44, 21, 52, 32, 23, 11, 54, 26, 40, 15, 34, 20, 31, 10, 25, 14, 19, 9, 13, 8, 7, 6].map fun z => .int .u8 z
def layAt (g : Nat) (l : List Value) (h : Array Obj) : Array Obj := h.modify g fun
  | .cells _ t frozen => .cells l.toArray t frozen
  | o => o
/-- The four tables, laid. -/
def lay4 (h : Array Obj) : Array Obj := layAt 0 (wordsL.map fun z => str z) (layAt 1 pow10T (layAt 2 bruijn32T (layAt 3 bruijn64T h)))
section
variable {P : Program} {ops : Array Oper} {Q : Exit → Act → World → Prop} {md : Region.Mode} {S : World → Prop} {s : Nat}
/-- Whatever order is picked from here on; and S holds behind each operation till number s has come up. -/
def wpAnyU (P : Program) (md : Region.Mode) (ops : Array Oper) (Q : Exit → Act → World → Prop) (S : World → Prop) (s : Nat) : Nat → Array Bool → Act → World → Prop
  | 0, listed, a, w => Region.ready md ops listed = [] ∧ Q .normal a w
  | fuel + 1, listed, a, w =>
    (Region.ready md ops listed = [] → Q .normal a w) ∧
    ∀ i ∈ Region.ready md ops listed, wpOp P ops Q i (fun a' w' => ((listed.setIfInBounds i true).getD s true = false → S w') ∧ wpAnyU P md ops Q S s fuel (listed.setIfInBounds i true) a' w') a w
theorem wpAny_of_U : ∀ (fuel : Nat) (listed : Array Bool) (a : Act) (w : World), wpAnyU P md ops Q S s fuel listed a w → wpAny P md ops Q fuel listed a w
  | 0, _, _, _, h => h
  | fuel + 1, _, _, _, h => ⟨h.1, fun i hi => wpOp_mono (fun a' w' h' => wpAny_of_U fuel _ a' w' h'.2) (h.2 i hi)⟩
/-- Number s waits for number i. -/
def waitsFor (md : Region.Mode) (ops : Array Oper) (s i : Nat) : Bool := match ops[s]? with
  | some o => o.after.any fun e => Region.binds md e && e.on == i
  | none => false
theorem wpAnyU_first {i : Nat} {oi : Oper} {v : Value} (hi : ops[i]? = some oi) (hsel : ∀ (j : Nat) (o : Oper) cs b, ops[j]? = some o → o.op ≠ .select cs b)
    (hQ : ∀ c a w, Q (.panic c) (a.put oi.dst v) w → Q (.panic c) a w) (hw : waitsFor md ops s i = true) (hsi : i ≠ s) :
    ∀ (fuel : Nat) (listed : Array Bool) (a : Act) (w : World),
      (∀ j oj, ops[j]? = some oj → j ≠ i → listed.getD j true = false → (∀ e ∈ oj.after, Region.binds md e = true → e.on ≠ i) → oi.apart ops oj = true) →
      i ∈ Region.ready md ops listed → YieldsIf P ops S oi v a → S w → listed.getD s true = false →
      wpAnyU P md ops Q S s fuel (listed.setIfInBounds i true) (a.put oi.dst v) w → wpAnyU P md ops Q S s (fuel + 1) listed a w := by
  intro fuel
  induction fuel with
  | zero =>
    intro listed a w _ hr hy hS hl H
    refine ⟨fun h => (by rw [h] at hr; cases hr), fun j hj => ?_⟩
    by_cases hji : j = i
    · subst hji; exact hy.wpOp hi hS ⟨fun _ => hS, H⟩
    · have := ready_mono hj hji
      rw [H.1] at this
      cases this
  | succ fuel ih =>
    intro listed a w hfree hr hy hS hl H
    refine ⟨fun h => (by rw [h] at hr; cases hr), fun j hj => ?_⟩
    by_cases hji : j = i
    · subst hji; exact hy.wpOp hi hS ⟨fun _ => hS, H⟩
    · have h1 := H.2 j (ready_mono hj hji)
      obtain ⟨hjun, oj, hoj, hall⟩ := mem_ready.1 hj
      have hnot : ∀ e ∈ oj.after, Region.binds md e = true → e.on ≠ i := fun e he hb heq => by
        have h1 := hall e he hb
        have h0 := (mem_ready.1 hr).1
        rw [heq] at h1
        rcases Nat.lt_or_ge i listed.size with h' | h'
        · simp [h'] at h0 h1; rw [h0] at h1; cases h1
        · simp [Array.getElem?_eq_none h'] at h1
      have hjs : j ≠ s := by
        rintro rfl
        unfold waitsFor at hw
        rw [hoj] at hw
        simp only [Array.any_eq_true, Bool.and_eq_true, beq_iff_eq] at hw
        obtain ⟨x, hx, hb, ho⟩ := hw
        exact hnot _ (Array.getElem_mem hx) hb ho
      have hl' : ((listed.setIfInBounds i true).setIfInBounds j true).getD s true = false := by
        rw [getD_set_ne true hjs, getD_set_ne true hsi]; exact hl
      have h2 := wpOp_putIf hoj (hfree j oj hoj hji hjun hnot) (fun cs b => hsel i oi cs b hi) (fun cs b => hsel j oj cs b hoj) hQ hy h1
      have hfree' : ∀ k ok, ops[k]? = some ok → k ≠ i → (listed.setIfInBounds j true).getD k true = false →
          (∀ e ∈ ok.after, Region.binds md e = true → e.on ≠ i) → oi.apart ops ok = true := fun k ok hk hki hun hno => by
        refine hfree k ok hk hki ?_ hno
        by_cases hjk : j = k
        · subst hjk; exact hjun
        · rw [getD_set_ne true hjk] at hun; exact hun
      refine wpOp_mono (fun a' w' h3 => ⟨fun _ => h3.2.1 hl', ih (listed.setIfInBounds j true) a' w' hfree' (ready_mono hr (Ne.symm hji)) h3.1 (h3.2.1 hl') (by rw [getD_set_ne true hjs]; exact hl) ?_⟩) h2
      rw [Array.setIfInBounds_comm _ _ hji]
      exact h3.2.2
/-- .. and so may one that yields its value in whatever world. -/
theorem wpAnyU_first0 {i : Nat} {oi : Oper} {v : Value} (hi : ops[i]? = some oi) (hsel : ∀ (j : Nat) (o : Oper) cs b, ops[j]? = some o → o.op ≠ .select cs b)
    (hQ : ∀ c a w, Q (.panic c) (a.put oi.dst v) w → Q (.panic c) a w) (hsi : i ≠ s) :
    ∀ (fuel : Nat) (listed : Array Bool) (a : Act) (w : World),
      (∀ j oj, ops[j]? = some oj → j ≠ i → listed.getD j true = false → (∀ e ∈ oj.after, Region.binds md e = true → e.on ≠ i) → oi.apart ops oj = true) →
      i ∈ Region.ready md ops listed → YieldsIf P ops (fun _ => True) oi v a → (listed.getD s true = false → S w) →
      wpAnyU P md ops Q S s fuel (listed.setIfInBounds i true) (a.put oi.dst v) w → wpAnyU P md ops Q S s (fuel + 1) listed a w := by
  intro fuel
  induction fuel with
  | zero =>
    intro listed a w _ hr hy hS H
    refine ⟨fun h => (by rw [h] at hr; cases hr), fun j hj => ?_⟩
    by_cases hji : j = i
    · subst hji; exact hy.wpOp hi trivial ⟨fun h => hS (by rwa [getD_set_ne true hsi] at h), H⟩
    · have := ready_mono hj hji
      rw [H.1] at this
      cases this
  | succ fuel ih =>
    intro listed a w hfree hr hy hS H
    refine ⟨fun h => (by rw [h] at hr; cases hr), fun j hj => ?_⟩
    by_cases hji : j = i
    · subst hji; exact hy.wpOp hi trivial ⟨fun h => hS (by rwa [getD_set_ne true hsi] at h), H⟩
    · have h1 := H.2 j (ready_mono hj hji)
      obtain ⟨hjun, oj, hoj, hall⟩ := mem_ready.1 hj
      have hnot : ∀ e ∈ oj.after, Region.binds md e = true → e.on ≠ i := fun e he hb heq => by
        have h1 := hall e he hb
        have h0 := (mem_ready.1 hr).1
        rw [heq] at h1
        rcases Nat.lt_or_ge i listed.size with h' | h'
        · simp [h'] at h0 h1; rw [h0] at h1; cases h1
        · simp [Array.getElem?_eq_none h'] at h1
      have h2 := wpOp_putIf hoj (hfree j oj hoj hji hjun hnot) (fun cs b => hsel i oi cs b hi) (fun cs b => hsel j oj cs b hoj) hQ hy h1
      have hfree' : ∀ k ok, ops[k]? = some ok → k ≠ i → (listed.setIfInBounds j true).getD k true = false →
          (∀ e ∈ ok.after, Region.binds md e = true → e.on ≠ i) → oi.apart ops ok = true := fun k ok hk hki hun hno => by
        refine hfree k ok hk hki ?_ hno
        by_cases hjk : j = k
        · subst hjk; exact hjun
        · rw [getD_set_ne true hjk] at hun; exact hun
      have hS' : ∀ w', (((listed.setIfInBounds i true).setIfInBounds j true).getD s true = false → S w') → (listed.setIfInBounds j true).getD s true = false → S w' := fun w' h hl => by
        refine h ?_
        rw [Array.setIfInBounds_comm _ _ (Ne.symm hji), getD_set_ne true hsi]
        exact hl
      refine wpOp_mono (fun a' w' h3 => ⟨hS' w' h3.2.1, ih (listed.setIfInBounds j true) a' w' hfree' (ready_mono hr (Ne.symm hji)) h3.1 (hS' w' h3.2.1) ?_⟩) h2
      rw [Array.setIfInBounds_comm _ _ hji]
      exact h3.2.2
/-! ### The moves -/
/-- Number i is taken first: it yields v in whatever world. -/
theorem wpAnyU_take0 (i : Nat) {oi : Oper} {v : Value} {fuel : Nat} {listed : Array Bool} {a : Act} {w : World} (hi : ops[i]? = some oi)
    (hs : Region.noSelect ops = true) (hf : Region.free md ops listed i = true) (hr : (Region.ready md ops listed).contains i = true) (hsi : i ≠ s)
    (hQ : ∀ c a w, Q (.panic c) (a.put oi.dst v) w → Q (.panic c) a w) (hy : YieldsIf P ops (fun _ => True) oi v a) (hS : listed.getD s true = false → S w)
    (h : wpAnyU P md ops Q S s fuel (listed.setIfInBounds i true) (a.put oi.dst v) w) : wpAnyU P md ops Q S s (fuel + 1) listed a w :=
  wpAnyU_first0 hi (Region.noSelect_spec hs) hQ hsi fuel listed a w (Region.free_spec hi hf) (by simpa using hr) hy hS h
/-- Number i is taken first: it yields v in each world that meets S, and s waits for it. -/
theorem wpAnyU_take (i : Nat) {oi : Oper} {v : Value} {fuel : Nat} {listed : Array Bool} {a : Act} {w : World} (hi : ops[i]? = some oi)
    (hs : Region.noSelect ops = true) (hf : Region.free md ops listed i = true) (hr : (Region.ready md ops listed).contains i = true)
    (hw : waitsFor md ops s i = true) (hsi : i ≠ s) (hl : listed.getD s true = false)
    (hQ : ∀ c a w, Q (.panic c) (a.put oi.dst v) w → Q (.panic c) a w) (hy : YieldsIf P ops S oi v a) (hS : S w)
    (h : wpAnyU P md ops Q S s fuel (listed.setIfInBounds i true) (a.put oi.dst v) w) : wpAnyU P md ops Q S s (fuel + 1) listed a w :=
  wpAnyU_first hi (Region.noSelect_spec hs) hQ hw hsi fuel listed a w (Region.free_spec hi hf) (by simpa using hr) hy hS hl h
theorem wpOp_of {i : Nat} {o : Oper} {a : Act} {w : World} {K : Act → World → Prop} (ho : ops[i]? = some o) (hg : o.guard = none) (h : o.wp P a w K Q) : wpOp P ops Q i K a w := by
  unfold wpOp
  simp only [ho, Region.wanted, hg, if_true]
  exact .inl h
/-- One operation can come up. -/
theorem wpAnyU_one (i : Nat) {o : Oper} {fuel : Nat} {listed : Array Bool} {a : Act} {w : World} (hr : Region.ready md ops listed = [i]) (ho : ops[i]? = some o) (hg : o.guard = none)
    (h : o.wp P a w (fun a' w' => ((listed.setIfInBounds i true).getD s true = false → S w') ∧ wpAnyU P md ops Q S s fuel (listed.setIfInBounds i true) a' w') Q) : wpAnyU P md ops Q S s (fuel + 1) listed a w := by
  refine ⟨fun h0 => (by rw [hr] at h0; cases h0), fun j hj => ?_⟩
  rw [hr] at hj
  have e : j = i := by simpa using hj
  subst e
  exact wpOp_of ho hg h
theorem wpAnyU_done {fuel : Nat} {listed : Array Bool} {a : Act} {w : World} (hr : Region.ready md ops listed = []) (h : Q .normal a w) : wpAnyU P md ops Q S s fuel listed a w := by
  cases fuel with
  | zero => exact ⟨hr, h⟩
  | succ n => exact ⟨fun _ => h, by rw [hr]; simp⟩
theorem wp_region_U {id : Nat} {a : Act} {w : World} (S : World → Prop) (s : Nat) (hm : P.follows .mixedOrders = true)
    (h : wpAnyU P .any ops Q S s ops.size (Array.replicate ops.size false) a w.drew) : (Code.region id ops true).wp P Q a w :=
  wp_region_any hm (wpAny_of_U _ _ _ _ h)
end
abbrev cRct (x : Rct) : List Value := [.int .i64 x.c1, .int .i64 x.r1, .int .i64 x.c2, .int .i64 x.r2]
def cEnt (x : Ent) : List Value := [.int .i64 x.at_.col, .int .i64 x.at_.row, str x.input]
def cRul (x : Rul) : List Value := [.int .i64 x.rect.c1, .int .i64 x.rect.r1, .int .i64 x.rect.c2, .int .i64 x.rect.r2, .int .u64 x.rights.rd, .int .u64 x.rights.wr, .int .u64 x.rights.ow]
def cGrt (x : Grt) : List Value := [.int .i64 x.rect.c1, .int .i64 x.rect.r1, .int .i64 x.rect.c2, .int .i64 x.rect.r2, .int .u8 x.fns, .int .u64 x.to_, .int .i64 x.by_, .bool x.revoked]
def cEvt (x : Evt) : List Value := [.int .i64 x.step, .int .i64 x.user, .int .u8 x.kind, .int .i64 x.rect.c1, .int .i64 x.rect.r1, .int .i64 x.rect.c2, .int .i64 x.rect.r2, .bool x.done_, .int .u64 x.to_]
def cRls (x : Rls) : List Value := [.int .i64 x.step, .int .i64 x.at_.col, .int .i64 x.at_.row, .int .i64 x.node, .int .u8 x.fn, .int .i64 x.rect.c1, .int .i64 x.rect.r1, .int .i64 x.rect.c2, .int .i64 x.rect.r2, .int .i64 x.grant, .int .u64 x.to_]
def cOpr (x : Opr) : List Value := [.int .u8 x.kind, .int .i64 x.user, .int .i64 x.rect.c1, .int .i64 x.rect.r1, .int .i64 x.rect.c2, .int .i64 x.rect.r2, str x.input, .int .u64 x.rights.rd, .int .u64 x.rights.wr, .int .u64 x.rights.ow, .int .u8 x.fns, .int .u64 x.to_, .int .i64 x.index]
theorem cEnt_len (x : Ent) : (cEnt x).length = 3 := rfl
theorem cRul_len (x : Rul) : (cRul x).length = 7 := rfl
theorem cGrt_len (x : Grt) : (cGrt x).length = 8 := rfl
theorem cEvt_len (x : Evt) : (cEvt x).length = 9 := rfl
theorem cRls_len (x : Rls) : (cRls x).length = 11 := rfl
theorem cOpr_len (x : Opr) : (cOpr x).length = 13 := rfl
/-- A slice that reads as a list, in memory that is newer than base. -/
def SlsN {α : Type} (c : α → List Value) (base : Nat) (w : World) (v : Value) (l : List α) : Prop := Sls c w w.heap.size v l ∧ ∀ q, v.ownBlock = some q → base ≤ q
theorem SlsN.below {α : Type} {c : α → List Value} {base : Nat} {w w' : World} {v : Value} {l : List α} (h : SlsN c base w v l) (hb : Below w.heap.size w w') : SlsN c base w' v l := ⟨(h.1.below hb).more hb.size, h.2⟩
theorem SlsN.older {α : Type} {c : α → List Value} {base base' : Nat} {w : World} {v : Value} {l : List α} (h : SlsN c base w v l) (hb : base' ≤ base) : SlsN c base' w v l := ⟨h.1, fun q hq => by have := h.2 q hq; omega⟩
theorem SlsN.set {α : Type} {c : α → List Value} {base : Nat} {w : World} {v : Value} {l : List α} (h : SlsN c base w v l) {p : Addr} (hp : p.block < base) (u : Value) : SlsN c base (w.setCell p u) v l := by
  refine ⟨?_, h.2⟩
  obtain ⟨A, cap, rfl, h1, hm, h2⟩ := h.1
  refine ⟨A, cap, rfl, h1, hm, fun hn => ?_⟩
  obtain ⟨b, o, rfl, hlt, hr⟩ := h2 hn
  refine ⟨b, o, rfl, by simpa [World.setCell] using hlt, fun j t ht => ?_⟩
  have hq := h.2 b rfl
  rw [World.cell?_setCell_other w p _ u (fun e => by subst e; simp at hp; omega)]
  exact hr j t ht
/-- append onto nil: a copy. -/
theorem run_copy {P : Program} {α : Type} (w : World) (c : α → List Value) (t ty e : TypeId) (i : TypeInfo) (z : Value) (size bytes : Nat) (ht : P.underlying t = some (.slice e)) (hi : P.info? e = some i) (hz : i.zero = some z)
    (hsize : i.size = size) (hby : i.bytes = bytes) (hzs : z.cells.size = size) (hsz : 0 < size) (B : Nat) (v : Value) (l : List α) (hl : Sls c w B v l)
    (hk : ∀ x, (c x).length = size) (h1 : ∀ x, ∀ u ∈ c x, u.oneCell' = true) (hbytes : l.length * bytes ≤ 140737488355328) :
    ∃ v' w', (Builtin.append_ #[t, t] ty #[.slice none 0 0, v]).run P w = .ok v' w' ∧ SlsN c w.heap.size w' v' l ∧ Below w.heap.size w w' := by
  obtain ⟨A, cap, rfl, hc, hm, hr⟩ := hl
  rcases A with _ | ad
  · have h0 : l.length = 0 := by
      rcases Nat.eq_zero_or_pos l.length with h0 | h0
      · exact h0
      · obtain ⟨b, o, h, _⟩ := hr h0
        cases h
    have hn : l = [] := List.eq_nil_of_length_eq_zero h0
    subst hn
    exact ⟨.slice none 0 0, w, by simp [Builtin.append_, run_underlying ht, sizeOf, typeInfo, hi, Builtin.lenOf, Builtin.firstCells], ⟨Sls.nil _ _ _ _ _, by simp [Value.ownBlock]⟩, Below.refl _ _⟩
  · have hown : w.ownsRow w.heap.size e size (.slice none 0 0) 0 [] := ⟨by simp, .inl ⟨rfl, rfl⟩⟩
    have hcells : ∀ j u, (l.flatMap c)[j]? = some u → w.cell? (ad.add j) = some u := by
      intro j u hu
      rcases Nat.eq_zero_or_pos l.length with h0 | h0
      · have hn : l = [] := List.eq_nil_of_length_eq_zero h0
        subst hn
        simp at hu
      · obtain ⟨b, o, h, _, hg⟩ := hr h0
        injection h with h
        subst h
        rw [Addr.add_mid]
        exact hg j u hu
    obtain ⟨v', w', hrun, h2, h3, h4, h5⟩ := run_append_own_at (P := P) w w.heap.size t ty e i z size bytes ht hi hz hsize hby hzs hsz (.slice none 0 0) 0 [] hown ad l.length cap (l.flatMap c) (flatMap_length c size hk l) hcells
      (by intro u hu; obtain ⟨x, _, hx⟩ := List.mem_flatMap.1 hu; exact h1 x u hx) (by omega) (by simpa using hbytes) (Nat.le_refl _)
    refine ⟨v', w', hrun, ⟨Sls.of_own (e := e) (size := size) (base := w.heap.size) (by simpa using h2) hm, fun q hq => by rcases h5 with h | h <;> rw [h] at hq <;> simp [Value.ownBlock] at hq; omega⟩, (Below.refl _ _).grown h3 (Nat.le_refl _) (by simp [Value.ownBlock])⟩
theorem wpList_copy {P : Program} {w : World} {α : Type} (c : α → List Value) {ops : Array Oper} {rest : List Oper} {o : Oper} {a : Act} {Q : Exit → Act → World → Prop} (hgd : o.guard = none) (s x : Operand) (t : TypeId)
    (ho : o.op = .call { callee := .builtin .append, args := #[s, x], argTypes := #[t, t] })
    (e : TypeId) (i : TypeInfo) (z : Value) (size bytes : Nat) (ht : P.underlying t = some (.slice e)) (hi : P.info? e = some i) (hz : i.zero = some z)
    (hsize : i.size = size) (hby : i.bytes = bytes) (hzs : z.cells.size = size) (hsz : 0 < size) (hs : a.eval s = .slice none 0 0) (B : Nat) (v : Value) (l : List α) (hx : a.eval x = v) (hl : Sls c w B v l)
    (hk : ∀ x, (c x).length = size) (h1 : ∀ x, ∀ u ∈ c x, u.oneCell' = true) (hbytes : l.length * bytes ≤ 140737488355328)
    (h : ∀ v' w', SlsN c w.heap.size w' v' l → Below w.heap.size w w' → wpList P ops Q rest (a.put o.dst v') w') : wpList P ops Q (o :: rest) a w := by
  obtain ⟨v', w', hrun, h2, h3⟩ := run_copy (P := P) w c t o.type e i z size bytes ht hi hz hsize hby hzs hsz B v l hl hk h1 hbytes
  refine wpList_plain hgd fun K hK => ?_
  unfold Oper.wp execOp
  simp only [ho, resolve, invoke, builtin, Sem.run_bind, Sem.run_pure, Result.andThen_ok, List.map_toArray, List.map_cons, List.map_nil, hs, hx, hrun]
  exact hK _ _ (h v' w' h2 h3)
theorem cEnt_one (x : Ent) : ∀ u ∈ cEnt x, u.oneCell' = true := by
  simp [cEnt, Value.oneCell']
theorem cRul_one (x : Rul) : ∀ u ∈ cRul x, u.oneCell' = true := by
  simp [cRul, Value.oneCell']
theorem cGrt_one (x : Grt) : ∀ u ∈ cGrt x, u.oneCell' = true := by
  simp [cGrt, Value.oneCell']
theorem cOpr_one (x : Opr) : ∀ u ∈ cOpr x, u.oneCell' = true := by
  simp [cOpr, Value.oneCell']
def u8s (l : Bytes) : List Value := l.map fun b => .int .u8 b.toNat
theorem u8s_len (l : Bytes) : (u8s l).length = l.length := by simp [u8s]
theorem u8s_app (a b : Bytes) : u8s (a ++ b) = u8s a ++ u8s b := by simp [u8s]
/-- The slice v is the call's own and reads as these bytes. -/
def Out (w : World) (v : Value) (l : Bytes) : Prop := w.ownsRow 0 5 1 v l.length (u8s l)
theorem Out.nil (w : World) : Out w (.slice none 0 0) [] := World.ownsRow_nil w 0 _ 1
theorem Out.lt {w : World} {v : Value} {l : Bytes} (h : Out w v l) (k : Nat) (hk : v.ownBlock = some k) : k < w.heap.size := (World.ownsRow.lt h k hk).2
theorem Out.alloc {w : World} {v : Value} {l : Bytes} (h : Out w v l) (o : Obj) : Out (w.alloc o) v l := World.ownsRow.alloc h o
theorem Out.drew {w : World} {v : Value} {l : Bytes} (h : Out w v l) : Out w.drew v l := h
theorem Out.drewN {w : World} {v : Value} {l : Bytes} (h : Out w v l) (n : Nat) : Out (w.drewN n) v l := h
theorem Out.below {w w' : World} {v : Value} {l : Bytes} (h : Out w v l) (hb : Below w.heap.size w w') : Out w' v l := by
  refine World.ownsRow.kept (row := none) h ⟨hb.os, hb.tape, hb.output, hb.size, fun k hk _ => hb.block k hk⟩ ?_
  rcases hv : v.ownBlock with _ | k
  · exact .inl rfl
  · exact .inr (by simp)
theorem Out.far {w : World} {v : Value} {l : Bytes} (h : Out w v l) {p : Addr} (hp : v.ownBlock ≠ some p.block) (u : Value) : Out (w.setCell p u) v l := by
  refine World.ownsRow.kept (row := some p.block) h ⟨rfl, rfl, rfl, by simp [World.setCell], fun k _ hk => Below.heap_setCell _ _ _ _ (fun e => hk (by rw [e]))⟩ (.inr hp)
/-- v in w has become v' in w': nothing but v's own row has turned, and v' lies there or in new memory. -/
structure OutTo (w : World) (v : Value) (w' : World) (v' : Value) : Prop where
  chg : Chg (fun k => v.ownBlock = some k) w w'
  own : ∀ k, v'.ownBlock = some k → v.ownBlock = some k ∨ w.heap.size ≤ k
theorem OutTo.refl (w : World) (v : Value) : OutTo w v w v := ⟨Chg.refl _ _, fun _ h => .inl h⟩
theorem OutTo.trans {w w1 w2 : World} {v v1 v2 : Value} (h : OutTo w v w1 v1) (k : OutTo w1 v1 w2 v2) : OutTo w v w2 v2 := by
  refine ⟨⟨k.chg.os.trans h.chg.os, k.chg.tape.trans h.chg.tape, k.chg.output.trans h.chg.output, Nat.le_trans h.chg.size k.chg.size, fun i hi hs => ?_⟩, fun i hi => ?_⟩
  · refine (k.chg.block i (Nat.lt_of_lt_of_le hi h.chg.size) fun e => ?_).trans (h.chg.block i hi hs)
    rcases h.own i e with e | e
    · exact hs e
    · omega
  · rcases k.own i hi with e | e
    · exact h.own i e
    · exact .inr (Nat.le_trans h.chg.size e)
theorem OutTo.below {w w1 w2 : World} {v v1 : Value} (h : OutTo w v w1 v1) (k : Below w1.heap.size w1 w2) : OutTo w v w2 v1 := ⟨h.chg.below k, h.own⟩
theorem OutTo.alloc {w w1 : World} {v v1 : Value} (h : OutTo w v w1 v1) (o : Obj) : OutTo w v (w1.alloc o) v1 := ⟨h.chg.alloc o, h.own⟩
theorem OutTo.drew {w w1 : World} {v v1 : Value} (h : OutTo w v w1 v1) : OutTo w v w1.drew v1 := ⟨h.chg.drew, h.own⟩
theorem OutTo.drewN {w w1 : World} {v v1 : Value} (h : OutTo w v w1 v1) (n : Nat) : OutTo w v (w1.drewN n) v1 := ⟨h.chg.drewN n, h.own⟩
/-- What is no part of v's own row reads as before. -/
theorem OutTo.cell {w w' : World} {v v' : Value} (h : OutTo w v w' v') {p : Addr} (hp : p.block < w.heap.size) (hs : v.ownBlock ≠ some p.block) : w'.cell? p = w.cell? p := h.chg.cell hp hs
theorem OutTo.frozen {w w' : World} {v v' : Value} (h : OutTo w v w' v') {p : Addr} (hp : p.block < w.heap.size) (hs : v.ownBlock ≠ some p.block) : w'.frozen? p = w.frozen? p := h.chg.frozen hp hs
theorem OutTo.ne {w w' : World} {v v' : Value} (h : OutTo w v w' v') {g : Nat} (hg : g < w.heap.size) (hv : v.ownBlock ≠ some g) : v'.ownBlock ≠ some g := fun e => by
  rcases h.own g e with e | e
  · exact hv e
  · omega
theorem Blk.outTo {w w' : World} {v v' : Value} {g : Nat} {t : TypeId} {cs : Array Value} (h : Blk w g t cs) (ho : OutTo w v w' v') (hg : v.ownBlock ≠ some g) : Blk w' g t cs := h.chg ho.chg hg
/-- .. and v lies in memory that is newer than B, all below B stays. -/
theorem OutTo.old {w w' : World} {v v' : Value} (h : OutTo w v w' v') {B : Nat} (hB : B ≤ w.heap.size) (hv : ∀ k, v.ownBlock = some k → B ≤ k) : Below B w w' := h.chg.to_below hB fun k hk e => by have := hv k e; omega
theorem OutTo.newer {w w' : World} {v v' : Value} (h : OutTo w v w' v') {B : Nat} (hB : B ≤ w.heap.size) (hv : ∀ k, v.ownBlock = some k → B ≤ k) : ∀ k, v'.ownBlock = some k → B ≤ k := fun k e => by
  rcases h.own k e with e | e
  · exact hv k e
  · omega
section
variable {P : Program} {w : World}
/-- One byte more. -/
theorem run_push (t ty : TypeId) (i : TypeInfo) (ht : P.underlying t = some (.slice 5)) (hi : P.info? 5 = some i) (hz : i.zero = some (.int .u8 0)) (hsize : i.size = 1) (hby : i.bytes = 1)
    (v : Value) (l : Bytes) (hown : Out w v l) (g : Nat) (b : Int) (hb0 : 0 ≤ b) (hb1 : b < 256) (hc : w.cell? ⟨g, 0, none⟩ = some (.int .u8 b)) (hl : l.length ≤ 1000000000000) :
    ∃ v' w', (Builtin.append_ #[t, t] ty #[v, .slice (some ⟨g, 0, none⟩) 1 1]).run P w = .ok v' w' ∧ Out w' v' (l ++ [UInt8.ofNat b.toNat]) ∧ OutTo w v w' v' := by
  obtain ⟨v', w', hr, h2, h3, _, h5⟩ := run_append_own_at (P := P) w 0 t ty 5 i (.int .u8 0) 1 1 ht hi hz hsize hby rfl (by omega) v l.length (u8s l) hown ⟨g, 0, none⟩ 1 1 [.int .u8 b] rfl
    (fun j u hj => by
      match j, hj with
      | 0, hj => simp at hj; subst hj; exact hc)
    (fun u hu => by simp at hu; subst hu; rfl) (by unfold maxLen; omega) (by omega) (by omega)
  refine ⟨v', w', hr, ?_, ⟨⟨h3.os, h3.tape, h3.output, h3.size, fun k hk hs => h3.block k hk (fun e => hs e.symm)⟩, fun k hk => ?_⟩⟩
  · have e : u8s (l ++ [UInt8.ofNat b.toNat]) = u8s l ++ [.int .u8 b] := by
      rw [u8s_app]
      have e2 : ((UInt8.ofNat b.toNat).toNat : Int) = b := by
        rw [UInt8.toNat_ofNat']
        omega
      show u8s l ++ [Value.int .u8 ((UInt8.ofNat b.toNat).toNat : Int)] = _
      rw [e2]
    show w'.ownsRow 0 5 1 v' (l ++ [UInt8.ofNat b.toNat]).length _
    rw [e, List.length_append]
    exact h2
  · rcases h5 with h5 | h5
    · exact .inl (h5 ▸ hk)
    · rw [h5] at hk
      exact .inr (by simp at hk; omega)
theorem wpList_push {ops : Array Oper} {rest : List Oper} {o : Oper} {a : Act} {Q : Exit → Act → World → Prop} (hgd : o.guard = none) (s x : Operand) (t : TypeId)
    (ho : o.op = .call { callee := .builtin .append, args := #[s, x], argTypes := #[t, t] })
    (i : TypeInfo) (ht : P.underlying t = some (.slice 5)) (hi : P.info? 5 = some i) (hz : i.zero = some (.int .u8 0)) (hsize : i.size = 1) (hby : i.bytes = 1)
    (v : Value) (l : Bytes) (hs : a.eval s = v) (hown : Out w v l) (g : Nat) (b : Int) (hx : a.eval x = .slice (some ⟨g, 0, none⟩) 1 1) (hb0 : 0 ≤ b) (hb1 : b < 256) (hc : w.cell? ⟨g, 0, none⟩ = some (.int .u8 b)) (hl : l.length ≤ 1000000000000)
    (h : ∀ v' w', Out w' v' (l ++ [UInt8.ofNat b.toNat]) → OutTo w v w' v' → wpList P ops Q rest (a.put o.dst v') w') : wpList P ops Q (o :: rest) a w := by
  obtain ⟨v', w', hrun, h2, h3⟩ := run_push (P := P) t o.type i ht hi hz hsize hby v l hown g b hb0 hb1 hc hl
  refine wpList_plain hgd fun K hK => ?_
  unfold Oper.wp execOp
  simp only [ho, resolve, invoke, builtin, Sem.run_bind, Sem.run_pure, Result.andThen_ok, List.map_toArray, List.map_cons, List.map_nil, hs, hx, hrun]
  exact hK _ _ (h v' w' h2 h3)
theorem strCells_u8s (s : Bytes) : Lib.strCells ⟨s.toArray⟩ = u8s s := by simp [Lib.strCells, u8s]
theorem str_size (s : Bytes) : (⟨s.toArray⟩ : ByteArray).size = s.length := by show s.toArray.size = _; simp
/-- A string more. -/
theorem run_push_str (t u ty : TypeId) (i : TypeInfo) (ht : P.underlying t = some (.slice 5)) (hu : P.underlying u = some .string) (hi : P.info? 5 = some i) (hz : i.zero = some (.int .u8 0)) (hsize : i.size = 1) (hby : i.bytes = 1)
    (v : Value) (l s : Bytes) (hown : Out w v l) (hl : l.length ≤ 1000000000000) (hl2 : s.length ≤ 1000000000000) :
    ∃ v' w', (Builtin.append_ #[t, u] ty #[v, str s]).run P w = .ok v' w' ∧ Out w' v' (l ++ s) ∧ OutTo w v w' v' := by
  have hss := str_size s
  obtain ⟨v', w', hr, h2, h3, _⟩ := Lib.run_append_own_string (P := P) w 0 t u ty 5 i ht hu hi hz hsize hby v l.length (u8s l) hown ⟨s.toArray⟩ (by rw [hss]; unfold maxLen; omega) (by rw [hss]; omega) (by omega)
  refine ⟨v', w', hr, ?_, ⟨⟨h3.os, h3.tape, h3.output, h3.size, fun k hk hs => h3.block k hk (fun e => hs e.symm)⟩, fun k hk => ?_⟩⟩
  · rw [strCells_u8s, hss] at h2
    show w'.ownsRow 0 5 1 v' (l ++ s).length _
    rw [u8s_app, List.length_append]
    exact h2
  · have hown' := hown
    rcases hown'.2 with ⟨rfl, he⟩ | ⟨g, cap, cur, rfl, _, hg, hnc, hcm, hcs, htake⟩
    · have hown0 : w.ownsRow w.heap.size 5 1 (.slice none 0 0) l.length (u8s l) := ⟨hown.1, .inl ⟨rfl, he⟩⟩
      obtain ⟨v2, w2, hr2, k2, k3, _⟩ := Lib.run_append_own_string (P := P) w w.heap.size t u ty 5 i ht hu hi hz hsize hby (.slice none 0 0) l.length (u8s l) hown0 ⟨s.toArray⟩ (by rw [hss]; unfold maxLen; omega) (by rw [hss]; omega) (by omega)
      rw [hr] at hr2
      obtain ⟨rfl, rfl⟩ : v' = v2 ∧ w' = w2 := by injection hr2 with e1 e2; exact ⟨e1, e2⟩
      exact .inr (k2.lt k hk).1
    · by_cases hroom : l.length + s.length ≤ cap
      · have hr2 := Lib.run_append_room_string (P := P) w t u ty 5 i ht hu hi hsize g l.length cap cur hg ⟨s.toArray⟩ (by rw [hss]; exact hroom) (by rw [hss]; simpa [hcs] using hroom)
        rw [hr] at hr2
        obtain ⟨rfl, rfl⟩ : v' = _ ∧ w' = _ := by injection hr2 with e1 e2; exact ⟨e1, e2⟩
        exact .inl hk
      · have hcl : ∀ j u, (u8s l)[j]? = some u → w.cell? ((⟨g, 0, none⟩ : Addr).add j) = some u := World.ownsRow.cells hown (g := g) rfl
        have hr2 := Lib.run_append_grow_string (P := P) w t u ty 5 i (.int .u8 0) ht hu hi hz ⟨g, 0, none⟩ l.length cap (u8s l) (by rw [hsize, u8s_len]; simp) hcl ⟨s.toArray⟩ (by rw [hss]; omega) (by rw [hss]; omega) (by rw [hby, hss]; exact growslice_fits (by omega) (by omega))
        rw [hr] at hr2
        obtain ⟨rfl, rfl⟩ : v' = _ ∧ w' = _ := by injection hr2 with e1 e2; exact ⟨e1, e2⟩
        exact .inr (by simp [Value.ownBlock] at hk; omega)
theorem wpList_push_str {ops : Array Oper} {rest : List Oper} {o : Oper} {a : Act} {Q : Exit → Act → World → Prop} (hgd : o.guard = none) (sl x : Operand) (t u : TypeId)
    (ho : o.op = .call { callee := .builtin .append, args := #[sl, x], argTypes := #[t, u] })
    (i : TypeInfo) (ht : P.underlying t = some (.slice 5)) (hu : P.underlying u = some .string) (hi : P.info? 5 = some i) (hz : i.zero = some (.int .u8 0)) (hsize : i.size = 1) (hby : i.bytes = 1)
    (v : Value) (l s : Bytes) (hs : a.eval sl = v) (hown : Out w v l) (hx : a.eval x = str s) (hl : l.length ≤ 1000000000000) (hl2 : s.length ≤ 1000000000000)
    (h : ∀ v' w', Out w' v' (l ++ s) → OutTo w v w' v' → wpList P ops Q rest (a.put o.dst v') w') : wpList P ops Q (o :: rest) a w := by
  obtain ⟨v', w', hrun, h2, h3⟩ := run_push_str (P := P) t u o.type i ht hu hi hz hsize hby v l s hown hl hl2
  refine wpList_plain hgd fun K hK => ?_
  unfold Oper.wp execOp
  simp only [ho, resolve, invoke, builtin, Sem.run_bind, Sem.run_pure, Result.andThen_ok, List.map_toArray, List.map_cons, List.map_nil, hs, hx, hrun]
  exact hK _ _ (h v' w' h2 h3)
end
end Go.Proofs.YtamcgggmfghljaaGreatDoor
