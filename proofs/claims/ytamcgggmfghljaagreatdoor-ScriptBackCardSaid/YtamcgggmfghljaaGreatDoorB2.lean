/- Layer 5 (program): codes of errors by their names. · val.words: what the row's list gives the walks. · The cells of package api's structs, and when two are equal. · Lists of api.Entry: equal or not (the kit's loop and the library's). · Lists of api.Rule: equal or not (the kit's loop and the library's). · Lists of api.Grant: equal or not (the kit's loop and the library's). · Lists of api.Event: equal or not (the kit's loop and the library's). -/
import Derived.BigQuiet
import Derived.Deep.QuietTactic
import Derived.Lib.LaidTab
import Derived.Stop.LaidErr
import Derived.Laws.StructEq
import Derived.Test.YtamcgggmfghljaaGreatDoorB1
set_option maxRecDepth 100000
set_option maxHeartbeats 8000000
namespace Go.Proofs.YtamcgggmfghljaaGreatDoor
open Go.RowKit
/-- The names of the errors. -/
def wordsL : List Bytes := [[], [35, 68, 73, 86, 47, 48, 33], [35, 86, 65, 76, 85, 69, 33], [35, 78, 85, 77, 33], [35, 78, 47, 65], [35, 82, 69, 70, 33], [35, 67, 89, 67, 76, 69, 33], [35, 68, 69, 78, 73, 69, 68]]
/-- The table of the names lies where its initialiser lays it. -/
def Words (w : World) : Prop := (∀ (j : Nat) (s : Bytes), wordsL[j]? = some s → w.cell? ⟨0, j, none⟩ = some (str s)) ∧ 0 < w.heap.size
theorem Words.below {w w' : World} (h : Words w) (hb : Below w.heap.size w w') : Words w' := ⟨fun j s hj => (hb.cell (p := ⟨0, j, none⟩) h.2).trans (h.1 j s hj), Nat.lt_of_lt_of_le h.2 hb.size⟩
theorem code_any (s : Bytes) (w : World) (hl : s.length ≤ 1000000) (hw : Words w) :
    Calls Tryz.prog 217 #[str s] w fun u w' => ∃ c e : Int, u = .returned (.tuple #[.int .i64 c, .int .i64 e]) ∧ Below w.heap.size w w' := by
  have HW := Lib.hid hw
  clear hw
  have x0 : ∀ W : World, (Instr.index 257 (.agg #[str [], str [35, 68, 73, 86, 47, 48, 33], str [35, 86, 65, 76, 85, 69, 33], str [35, 78, 85, 77, 33], str [35, 78, 47, 65], str [35, 82, 69, 70, 33], str [35, 67, 89, 67, 76, 69, 33], str [35, 68, 69, 78, 73, 69, 68]]) (.int .i64 0)).run Tryz.prog W = .ok (str []) W := fun W => by rfl
  have x1 : ∀ W : World, (Instr.index 257 (.agg #[str [], str [35, 68, 73, 86, 47, 48, 33], str [35, 86, 65, 76, 85, 69, 33], str [35, 78, 85, 77, 33], str [35, 78, 47, 65], str [35, 82, 69, 70, 33], str [35, 67, 89, 67, 76, 69, 33], str [35, 68, 69, 78, 73, 69, 68]]) (.int .i64 1)).run Tryz.prog W = .ok (str [35, 68, 73, 86, 47, 48, 33]) W := fun W => by rfl
  have x2 : ∀ W : World, (Instr.index 257 (.agg #[str [], str [35, 68, 73, 86, 47, 48, 33], str [35, 86, 65, 76, 85, 69, 33], str [35, 78, 85, 77, 33], str [35, 78, 47, 65], str [35, 82, 69, 70, 33], str [35, 67, 89, 67, 76, 69, 33], str [35, 68, 69, 78, 73, 69, 68]]) (.int .i64 2)).run Tryz.prog W = .ok (str [35, 86, 65, 76, 85, 69, 33]) W := fun W => by rfl
  have x3 : ∀ W : World, (Instr.index 257 (.agg #[str [], str [35, 68, 73, 86, 47, 48, 33], str [35, 86, 65, 76, 85, 69, 33], str [35, 78, 85, 77, 33], str [35, 78, 47, 65], str [35, 82, 69, 70, 33], str [35, 67, 89, 67, 76, 69, 33], str [35, 68, 69, 78, 73, 69, 68]]) (.int .i64 3)).run Tryz.prog W = .ok (str [35, 78, 85, 77, 33]) W := fun W => by rfl
  have x4 : ∀ W : World, (Instr.index 257 (.agg #[str [], str [35, 68, 73, 86, 47, 48, 33], str [35, 86, 65, 76, 85, 69, 33], str [35, 78, 85, 77, 33], str [35, 78, 47, 65], str [35, 82, 69, 70, 33], str [35, 67, 89, 67, 76, 69, 33], str [35, 68, 69, 78, 73, 69, 68]]) (.int .i64 4)).run Tryz.prog W = .ok (str [35, 78, 47, 65]) W := fun W => by rfl
  have x5 : ∀ W : World, (Instr.index 257 (.agg #[str [], str [35, 68, 73, 86, 47, 48, 33], str [35, 86, 65, 76, 85, 69, 33], str [35, 78, 85, 77, 33], str [35, 78, 47, 65], str [35, 82, 69, 70, 33], str [35, 67, 89, 67, 76, 69, 33], str [35, 68, 69, 78, 73, 69, 68]]) (.int .i64 5)).run Tryz.prog W = .ok (str [35, 82, 69, 70, 33]) W := fun W => by rfl
  have x6 : ∀ W : World, (Instr.index 257 (.agg #[str [], str [35, 68, 73, 86, 47, 48, 33], str [35, 86, 65, 76, 85, 69, 33], str [35, 78, 85, 77, 33], str [35, 78, 47, 65], str [35, 82, 69, 70, 33], str [35, 67, 89, 67, 76, 69, 33], str [35, 68, 69, 78, 73, 69, 68]]) (.int .i64 6)).run Tryz.prog W = .ok (str [35, 67, 89, 67, 76, 69, 33]) W := fun W => by rfl
  have x7 : ∀ W : World, (Instr.index 257 (.agg #[str [], str [35, 68, 73, 86, 47, 48, 33], str [35, 86, 65, 76, 85, 69, 33], str [35, 78, 85, 77, 33], str [35, 78, 47, 65], str [35, 82, 69, 70, 33], str [35, 67, 89, 67, 76, 69, 33], str [35, 68, 69, 78, 73, 69, 68]]) (.int .i64 7)).run Tryz.prog W = .ok (str [35, 68, 69, 78, 73, 69, 68]) W := fun W => by rfl
  go_enter Tryz.func217, Tryz.ntmps217
  go_wp2_with fail
  refine (upper_any s _ hl).mono ?_
  rintro e w1 ⟨rfl, hb⟩
  have HB := Lib.hid hb
  have W1 := HW.out.below hb
  have e0 := W1.1 0 _ rfl
  have e1 := W1.1 1 _ rfl
  have e2 := W1.1 2 _ rfl
  have e3 := W1.1 3 _ rfl
  have e4 := W1.1 4 _ rfl
  have e5 := W1.1 5 _ rfl
  have e6 := W1.1 6 _ rfl
  have e7 := W1.1 7 _ rfl
  clear hb W1
  go_wp2
  clear e0 e1 e2 e3 e4 e5 e6 e7
  go_loopw [9] (fun i wr => ∃ k : Int, 0 ≤ k ∧ k ≤ 8 ∧ i = .int .i64 k ∧ w1 = wr) (fun i _ => 8 - (intOf i).toNat)
  case atStart => exact ⟨0, by omega, by omega, rfl, rfl⟩
  case round =>
    obtain ⟨k, h0, hk, rfl, rfl⟩ := hrel
    have e : k = 0 ∨ k = 1 ∨ k = 2 ∨ k = 3 ∨ k = 4 ∨ k = 5 ∨ k = 6 ∨ k = 7 ∨ k = 8 := by omega
    rcases e with rfl | rfl | rfl | rfl | rfl | rfl | rfl | rfl | rfl
    · go_wp2
      exact ⟨⟨1, by omega, by omega, rfl, trivial⟩, by simp [intOf]⟩
    · cases hq : ([35, 68, 73, 86, 47, 48, 33] == upB s)
      · go_wp2
        exact ⟨⟨2, by omega, by omega, rfl, trivial⟩, by simp [intOf]⟩
      · go_wp2
        go_ret2
        exact ⟨1, 0, rfl, HB.out⟩
    · cases hq : ([35, 86, 65, 76, 85, 69, 33] == upB s)
      · go_wp2
        exact ⟨⟨3, by omega, by omega, rfl, trivial⟩, by simp [intOf]⟩
      · go_wp2
        go_ret2
        exact ⟨2, 0, rfl, HB.out⟩
    · cases hq : ([35, 78, 85, 77, 33] == upB s)
      · go_wp2
        exact ⟨⟨4, by omega, by omega, rfl, trivial⟩, by simp [intOf]⟩
      · go_wp2
        go_ret2
        exact ⟨3, 0, rfl, HB.out⟩
    · cases hq : ([35, 78, 47, 65] == upB s)
      · go_wp2
        exact ⟨⟨5, by omega, by omega, rfl, trivial⟩, by simp [intOf]⟩
      · go_wp2
        go_ret2
        exact ⟨4, 0, rfl, HB.out⟩
    · cases hq : ([35, 82, 69, 70, 33] == upB s)
      · go_wp2
        exact ⟨⟨6, by omega, by omega, rfl, trivial⟩, by simp [intOf]⟩
      · go_wp2
        go_ret2
        exact ⟨5, 0, rfl, HB.out⟩
    · cases hq : ([35, 67, 89, 67, 76, 69, 33] == upB s)
      · go_wp2
        exact ⟨⟨7, by omega, by omega, rfl, trivial⟩, by simp [intOf]⟩
      · go_wp2
        go_ret2
        exact ⟨6, 0, rfl, HB.out⟩
    · cases hq : ([35, 68, 69, 78, 73, 69, 68] == upB s)
      · go_wp2
        exact ⟨⟨8, by omega, by omega, rfl, trivial⟩, by simp [intOf]⟩
      · go_wp2
        go_ret2
        exact ⟨7, 0, rfl, HB.out⟩
    · go_wp2
      go_ret2
      exact ⟨0, 4, rfl, HB.out⟩
theorem cells_of_strs {H : Type} {enc : TypeId × Value → H} {P : Program} {w : World} {base : Nat} {sp : Nat → Bool} {held : Bool} {fuel : Nat} {t e : TypeId} {n : Nat} {cs : List Value} {zs : List Bytes} {p : List MemPlace}
    (ht : P.underlying t = some (.array n e)) (he : P.underlying e = some .string) (hce : P.cellsOf e = 1) (hct : P.cellsOf t = n)
    (h : DataW.trod enc P w base sp held fuel t cs = some (.agg (zs.map fun z => .lit (.string z)), p)) : cs = zs.map fun z => str z := by
  cases fuel with
  | zero => simp [DataW.trod] at h
  | succ fuel =>
    simp only [DataW.trod, ht, hce, hct, Nat.mul_one] at h
    split at h
    · rename_i hl
      obtain ⟨xs, hm, hx⟩ := Option.map_eq_some_iff.1 h
      have hxs : xs.map (·.1) = zs.map fun z => (DataW.lit (.string z) : DataW H) := by
        have := congrArg Prod.fst hx
        simpa using this
      have hxl : xs.length = n := by simpa using Lib.mapM_length hm
      have hzl : zs.length = n := by
        have := congrArg List.length hxs
        simp at this
        omega
      apply List.ext_getElem?
      intro i
      by_cases hi : i < n
      · obtain ⟨b, hb, hf⟩ := Lib.mapM_at hm i i (by simp [hi])
        obtain ⟨z, hc, rfl, _⟩ := DataW.trod_string he hf
        have h1 : cs[i]? = some (.string z) := by
          have := congrArg (·[0]?) hc
          simpa [List.getElem?_take, List.getElem?_drop] using this
        have h2 : (xs.map (·.1))[i]? = some (DataW.lit (.string z.data.toList) : DataW H) := by simp [hb]
        rw [hxs] at h2
        simp only [List.getElem?_map, Option.map_eq_some_iff, DataW.lit.injEq, Lit.string.injEq] at h2
        obtain ⟨z', hz', rfl⟩ := h2
        simp [h1, hz']
      · rw [List.getElem?_eq_none (by omega), List.getElem?_eq_none (by simp; omega)]
    · cases h
theorem words_laid {a b c : String × DataW Unit} {W : World} (h : laidMet Tryz.prog [a, b, c, ("louvre/val.words", .agg (wordsL.map fun z => .lit (.string z)))] W) : Words W := by
  obtain ⟨ps, ⟨g', t', cs, fuel, p, q, hg', ht', hvar, hd, _, _⟩, _⟩ := h.tail.tail.tail
  have hg : Tryz.prog.globalNamed "louvre/val.words" = some 0 := by kernel_rfl
  have hty : (Tryz.prog.globals[0]?).map (·.type) = some 257 := by kernel_rfl
  obtain rfl := Option.some.inj (hg.symm.trans hg')
  obtain rfl := Option.some.inj (hty.symm.trans ht')
  have hcs := cells_of_strs Tryz.underlying257 Tryz.underlying9 (by kernel_rfl) (by kernel_rfl) hd
  have hv : W.var? Tryz.prog "louvre/val.words" = some (wordsL.map fun z => str z).toArray := by rw [hvar, ← hcs]
  refine ⟨fun j s hj => World.var?_cell hg hv j |>.trans ?_, ?_⟩
  · simp [hj]
  · rcases Nat.lt_or_ge 0 W.heap.size with h | h
    · exact h
    · simp only [World.var?, hg, Option.bind_some] at hv
      rw [Array.getElem?_eq_none h] at hv
      simp at hv
def pow10T : List Value := [1, 10, 100, 1000, 10000, 100000, 1000000, 10000000, 100000000, 1000000000, 10000000000, 100000000000, 1000000000000, 10000000000000, 100000000000000, 1000000000000000, 10000000000000000, 100000000000000000, 1000000000000000000, 10000000000000000000].map fun z => .int .u64 z
def bruijn32T : List Value := [0, 1, 28, 2, 29, 14, 24, 3, 30, 22, 20, 15, 25, 17, 4, 8, 31, 27, 13, 23, 21, 19, 16, 7, 26, 12, 18, 6, 11, 5, 10, 9].map fun z => .int .u8 z
def bruijn64T : List Value := [0, 1, 56, 2, 57, 49, 28, 3, 61, 58, 42, 50, 38, 29, 17, 4, 62, 47, 59, 36, 45, 43, 51, 22, 53, 39, 33, 30, 24, 18, 12, 5, 63, 55, 48, 27, 60, 41, 37, 16, 46, 35, 44, 21, 52, 32, 23, 11, 54, 26, 40, 15, 34, 20, 31, 10, 25, 14, 19, 9, 13, 8, 7, 6].map fun z => .int .u8 z
def layAt (g : Nat) (l : List Value) (h : Array Obj) : Array Obj := h.modify g fun
  | .cells _ t frozen => .cells l.toArray t frozen
  | o => o
/-- The four tables, laid. -/
def lay4 (h : Array Obj) : Array Obj := layAt 0 (wordsL.map fun z => str z) (layAt 1 pow10T (layAt 2 bruijn32T (layAt 3 bruijn64T h)))
abbrev cRct (x : Rct) : List Value := [.int .i64 x.c1, .int .i64 x.r1, .int .i64 x.c2, .int .i64 x.r2]
def cEnt (x : Ent) : List Value := [.int .i64 x.at_.col, .int .i64 x.at_.row, str x.input]
def cRul (x : Rul) : List Value := [.int .i64 x.rect.c1, .int .i64 x.rect.r1, .int .i64 x.rect.c2, .int .i64 x.rect.r2, .int .u64 x.rights.rd, .int .u64 x.rights.wr, .int .u64 x.rights.ow]
def cGrt (x : Grt) : List Value := [.int .i64 x.rect.c1, .int .i64 x.rect.r1, .int .i64 x.rect.c2, .int .i64 x.rect.r2, .int .u8 x.fns, .int .u64 x.to_, .int .i64 x.by_, .bool x.revoked]
def cEvt (x : Evt) : List Value := [.int .i64 x.step, .int .i64 x.user, .int .u8 x.kind, .int .i64 x.rect.c1, .int .i64 x.rect.r1, .int .i64 x.rect.c2, .int .i64 x.rect.r2, .bool x.done_, .int .u64 x.to_]
def cRls (x : Rls) : List Value := [.int .i64 x.step, .int .i64 x.at_.col, .int .i64 x.at_.row, .int .i64 x.node, .int .u8 x.fn, .int .i64 x.rect.c1, .int .i64 x.rect.r1, .int .i64 x.rect.c2, .int .i64 x.rect.r2, .int .i64 x.grant, .int .u64 x.to_]
def cOpr (x : Opr) : List Value := [.int .u8 x.kind, .int .i64 x.user, .int .i64 x.rect.c1, .int .i64 x.rect.r1, .int .i64 x.rect.c2, .int .i64 x.rect.r2, str x.input, .int .u64 x.rights.rd, .int .u64 x.rights.wr, .int .u64 x.rights.ow, .int .u8 x.fns, .int .u64 x.to_, .int .i64 x.index]
theorem cEnt_len (x : Ent) : (cEnt x).length = 3 := rfl
theorem neq_ent (x y : Ent) (w : World) : (binOp .neq 58 (.agg (cEnt x).toArray) (.agg (cEnt y).toArray)).run Tryz.prog w = .ok (.bool (!decide (x = y))) w := by
  obtain ⟨⟨a, b⟩, s⟩ := x
  obtain ⟨⟨a', b'⟩, s'⟩ := y
  simp [go_sem, cEnt]
  by_cases q0 : a = a'
  · by_cases q1 : b = b'
    · by_cases q2 : s = s'
      · simp [q0, q1, q2]
      · simp [q0, q1, q2]
    · simp [q0, q1]
  · simp [q0]
theorem cRul_len (x : Rul) : (cRul x).length = 7 := rfl
theorem neq_rul (x y : Rul) (w : World) : (binOp .neq 79 (.agg (cRul x).toArray) (.agg (cRul y).toArray)).run Tryz.prog w = .ok (.bool (!decide (x = y))) w := by
  obtain ⟨⟨a, b, c, d⟩, ⟨e, f, g⟩⟩ := x
  obtain ⟨⟨a', b', c', d'⟩, ⟨e', f', g'⟩⟩ := y
  simp [go_sem, cRul]
  by_cases q0 : a = a'
  · by_cases q1 : b = b'
    · by_cases q2 : c = c'
      · by_cases q3 : d = d'
        · by_cases q4 : e = e'
          · by_cases q5 : f = f'
            · by_cases q6 : g = g'
              · simp [q0, q1, q2, q3, q4, q5, q6]
              · simp [q0, q1, q2, q3, q4, q5, q6]
            · simp [q0, q1, q2, q3, q4, q5]
          · simp [q0, q1, q2, q3, q4]
        · simp [q0, q1, q2, q3]
      · simp [q0, q1, q2]
    · simp [q0, q1]
  · simp [q0]
theorem cGrt_len (x : Grt) : (cGrt x).length = 8 := rfl
theorem neq_grt (x y : Grt) (w : World) : (binOp .neq 85 (.agg (cGrt x).toArray) (.agg (cGrt y).toArray)).run Tryz.prog w = .ok (.bool (!decide (x = y))) w := by
  obtain ⟨⟨a, b, c, d⟩, e, f, g, h⟩ := x
  obtain ⟨⟨a', b', c', d'⟩, e', f', g', h'⟩ := y
  simp [go_sem, cGrt]
  by_cases q0 : a = a'
  · by_cases q1 : b = b'
    · by_cases q2 : c = c'
      · by_cases q3 : d = d'
        · by_cases q4 : e = e'
          · by_cases q5 : f = f'
            · by_cases q6 : g = g'
              · by_cases q7 : h = h'
                · simp [q0, q1, q2, q3, q4, q5, q6, q7]
                · simp [q0, q1, q2, q3, q4, q5, q6, q7]
              · simp [q0, q1, q2, q3, q4, q5, q6]
            · simp [q0, q1, q2, q3, q4, q5]
          · simp [q0, q1, q2, q3, q4]
        · simp [q0, q1, q2, q3]
      · simp [q0, q1, q2]
    · simp [q0, q1]
  · simp [q0]
theorem cEvt_len (x : Evt) : (cEvt x).length = 9 := rfl
theorem neq_evt (x y : Evt) (w : World) : (binOp .neq 110 (.agg (cEvt x).toArray) (.agg (cEvt y).toArray)).run Tryz.prog w = .ok (.bool (!decide (x = y))) w := by
  obtain ⟨a, b, c, ⟨d, e, f, g⟩, h, i⟩ := x
  obtain ⟨a', b', c', ⟨d', e', f', g'⟩, h', i'⟩ := y
  simp [go_sem, cEvt]
  by_cases q0 : a = a'
  · by_cases q1 : b = b'
    · by_cases q2 : c = c'
      · by_cases q3 : d = d'
        · by_cases q4 : e = e'
          · by_cases q5 : f = f'
            · by_cases q6 : g = g'
              · by_cases q7 : h = h'
                · by_cases q8 : i = i'
                  · simp [q0, q1, q2, q3, q4, q5, q6, q7, q8]
                  · simp [q0, q1, q2, q3, q4, q5, q6, q7, q8]
                · simp [q0, q1, q2, q3, q4, q5, q6, q7]
              · simp [q0, q1, q2, q3, q4, q5, q6]
            · simp [q0, q1, q2, q3, q4, q5]
          · simp [q0, q1, q2, q3, q4]
        · simp [q0, q1, q2, q3]
      · simp [q0, q1, q2]
    · simp [q0, q1]
  · simp [q0]
theorem cRls_len (x : Rls) : (cRls x).length = 11 := rfl
theorem neq_rls (x y : Rls) (w : World) : (binOp .neq 116 (.agg (cRls x).toArray) (.agg (cRls y).toArray)).run Tryz.prog w = .ok (.bool (!decide (x = y))) w := by
  obtain ⟨a, ⟨b, c⟩, d, e, ⟨f, g, h, i⟩, j, k⟩ := x
  obtain ⟨a', ⟨b', c'⟩, d', e', ⟨f', g', h', i'⟩, j', k'⟩ := y
  simp [go_sem, cRls]
  by_cases q0 : a = a'
  · by_cases q1 : b = b'
    · by_cases q2 : c = c'
      · by_cases q3 : d = d'
        · by_cases q4 : e = e'
          · by_cases q5 : f = f'
            · by_cases q6 : g = g'
              · by_cases q7 : h = h'
                · by_cases q8 : i = i'
                  · by_cases q9 : j = j'
                    · by_cases q10 : k = k'
                      · simp [q0, q1, q2, q3, q4, q5, q6, q7, q8, q9, q10]
                      · simp [q0, q1, q2, q3, q4, q5, q6, q7, q8, q9, q10]
                    · simp [q0, q1, q2, q3, q4, q5, q6, q7, q8, q9]
                  · simp [q0, q1, q2, q3, q4, q5, q6, q7, q8]
                · simp [q0, q1, q2, q3, q4, q5, q6, q7]
              · simp [q0, q1, q2, q3, q4, q5, q6]
            · simp [q0, q1, q2, q3, q4, q5]
          · simp [q0, q1, q2, q3, q4]
        · simp [q0, q1, q2, q3]
      · simp [q0, q1, q2]
    · simp [q0, q1]
  · simp [q0]
theorem cOpr_len (x : Opr) : (cOpr x).length = 13 := rfl
theorem neq_opr (x y : Opr) (w : World) : (binOp .neq 48 (.agg (cOpr x).toArray) (.agg (cOpr y).toArray)).run Tryz.prog w = .ok (.bool (!decide (x = y))) w := by
  obtain ⟨a, b, ⟨c, d, e, f⟩, s, ⟨g, h, i⟩, j, k, m⟩ := x
  obtain ⟨a', b', ⟨c', d', e', f'⟩, s', ⟨g', h', i'⟩, j', k', m'⟩ := y
  simp [go_sem, cOpr]
  by_cases q0 : a = a'
  · by_cases q1 : b = b'
    · by_cases q2 : c = c'
      · by_cases q3 : d = d'
        · by_cases q4 : e = e'
          · by_cases q5 : f = f'
            · by_cases q6 : s = s'
              · by_cases q7 : g = g'
                · by_cases q8 : h = h'
                  · by_cases q9 : i = i'
                    · by_cases q10 : j = j'
                      · by_cases q11 : k = k'
                        · by_cases q12 : m = m'
                          · simp [q0, q1, q2, q3, q4, q5, q6, q7, q8, q9, q10, q11, q12]
                          · simp [q0, q1, q2, q3, q4, q5, q6, q7, q8, q9, q10, q11, q12]
                        · simp [q0, q1, q2, q3, q4, q5, q6, q7, q8, q9, q10, q11]
                      · simp [q0, q1, q2, q3, q4, q5, q6, q7, q8, q9, q10]
                    · simp [q0, q1, q2, q3, q4, q5, q6, q7, q8, q9]
                  · simp [q0, q1, q2, q3, q4, q5, q6, q7, q8]
                · simp [q0, q1, q2, q3, q4, q5, q6, q7]
              · simp [q0, q1, q2, q3, q4, q5, q6]
            · simp [q0, q1, q2, q3, q4, q5]
          · simp [q0, q1, q2, q3, q4]
        · simp [q0, q1, q2, q3]
      · simp [q0, q1, q2]
    · simp [q0, q1]
  · simp [q0]
theorem kit_equal_ent (v u : Value) (l m : List Ent) (B1 B2 : Nat) (w : World) (hv : Sls cEnt w B1 v l) (hu : Sls cEnt w B2 u m) :
    Calls Tryz.prog 118 #[v, u] w fun e w' => e = .returned (.bool (decide (l = m))) ∧ Same w w' := by
  obtain ⟨A1, cap1, rfl, hc1, hm1, hr1⟩ := id hv
  obtain ⟨A2, cap2, rfl, hc2, hm2, hr2⟩ := id hu
  have HV := Lib.hid hv
  have HU := Lib.hid hu
  clear hr1 hr2 hv hu
  unfold maxLen at hm1 hm2
  by_cases hl : l.length = m.length
  · have h0 : ((l.length : Int) != (m.length : Int)) = false := by simp [hl]
    have h1 : (l.length != m.length) = false := by simp [hl]
    have HL := Lib.hid hl
    clear hl
    go_enter Tryz.func118, Tryz.ntmps118
    go_wp2
    go_loopw [5] (fun i wr => ∃ k : Nat, k ≤ l.length ∧ i = .int .i64 k ∧ l.take k = m.take k ∧ Same w wr) (fun i _ => l.length - (intOf i).toNat)
    case atStart => exact ⟨0, by omega, rfl, by simp, Same.refl _⟩
    case round =>
      obtain ⟨k, hk, rfl, he, hs⟩ := hrel
      have HE := Lib.hid he
      clear he
      by_cases hlt : k < l.length
      · have hx : l[k]? = some l[k] := List.getElem?_eq_getElem hlt
        have hlt2 : k < m.length := by rw [← HL.out]; exact hlt
        have hy : m[k]? = some m[k] := List.getElem?_eq_getElem hlt2
        obtain ⟨b1, o1, rfl, _, r1⟩ := (HV.out.same hs).get 3 cEnt_len hx
        obtain ⟨b2, o2, rfl, _, r2⟩ := (HU.out.same hs).get 3 cEnt_len hy
        have ht1 : l.take (k + 1) = l.take k ++ [l[k]] := by rw [List.take_succ_eq_append_getElem hlt]
        have ht2 : m.take (k + 1) = m.take k ++ [m[k]] := by rw [List.take_succ_eq_append_getElem hlt2]
        have HT1 := Lib.hid ht1
        have HT2 := Lib.hid ht2
        have HS := Lib.hid hs
        clear hx hy ht1 ht2 hs
        generalize l[k] = x at *
        generalize m[k] = y at *
        have r1_0 : wr.cell? ⟨b1, o1 + k * 3, none⟩ = some (.int .i64 x.at_.col) := r1 0 _ rfl
        have r1_1 : wr.cell? ⟨b1, o1 + k * 3 + 1, none⟩ = some (.int .i64 x.at_.row) := r1 1 _ rfl
        have r1_2 : wr.cell? ⟨b1, o1 + k * 3 + 2, none⟩ = some (str x.input) := r1 2 _ rfl
        have r2_0 : wr.cell? ⟨b2, o2 + k * 3, none⟩ = some (.int .i64 y.at_.col) := r2 0 _ rfl
        have r2_1 : wr.cell? ⟨b2, o2 + k * 3 + 1, none⟩ = some (.int .i64 y.at_.row) := r2 1 _ rfl
        have r2_2 : wr.cell? ⟨b2, o2 + k * 3 + 2, none⟩ = some (str y.input) := r2 2 _ rfl
        have hn : ∀ W, (binOp .neq 58 (.agg #[.int .i64 x.at_.col, .int .i64 x.at_.row, str x.input]) (.agg #[.int .i64 y.at_.col, .int .i64 y.at_.row, str y.input])).run Tryz.prog W = .ok (.bool (!decide (x = y))) W := fun W => neq_ent x y W
        have hi0 : (0 : Int) ≤ (k : Int) := Int.natCast_nonneg _
        have hi1 : (k : Int) < (l.length : Int) := by omega
        have hi2 : (k : Int) < (m.length : Int) := by omega
        clear r1 r2
        by_cases hxy : x = y
        · have hd : decide (x = y) = true := by simpa using hxy
          rw [hd] at hn
          have HXY := Lib.hid hxy
          clear hd hxy
          go_wp2
          go_quiet (fail)
          go_wp2
          exact ⟨⟨k + 1, by omega, by go_num, by rw [HT1.out, HT2.out, HE.out, HXY.out], HS.out.drewN _⟩, by simp [intOf]; omega⟩
        · have hd : decide (x = y) = false := by simpa using hxy
          rw [hd] at hn
          have HXY := Lib.hid hxy
          clear hd hxy
          go_wp2
          go_quiet (fail)
          go_wp2
          go_ret
          have hne : ¬ l = m := by
            intro e
            have h2 := HT1.out
            rw [e, HT2.out, ← HE.out] at h2
            exact HXY.out (by simpa using h2.symm)
          exact ⟨by simp [hne], HS.out.drewN _⟩
      · go_wp2
        go_ret
        have h1 : k = l.length := by omega
        have h2 := HE.out
        rw [h1, List.take_length, HL.out, List.take_length] at h2
        exact ⟨by simp [h2], hs⟩
  · have h0 : ((l.length : Int) != (m.length : Int)) = true := by simpa using fun e => hl (by omega)
    have h1 : (l.length != m.length) = true := by simpa using hl
    have hne : ¬ l = m := fun e => hl (by rw [e])
    have HN := Lib.hid hne
    clear hne
    go_enter Tryz.func118, Tryz.ntmps118
    go_wp2
    go_ret
    exact ⟨by simp [HN.out], Same.refl _⟩
theorem kit_equal_rul (v u : Value) (l m : List Rul) (B1 B2 : Nat) (w : World) (hv : Sls cRul w B1 v l) (hu : Sls cRul w B2 u m) :
    Calls Tryz.prog 119 #[v, u] w fun e w' => e = .returned (.bool (decide (l = m))) ∧ Same w w' := by
  obtain ⟨A1, cap1, rfl, hc1, hm1, hr1⟩ := id hv
  obtain ⟨A2, cap2, rfl, hc2, hm2, hr2⟩ := id hu
  have HV := Lib.hid hv
  have HU := Lib.hid hu
  clear hr1 hr2 hv hu
  unfold maxLen at hm1 hm2
  by_cases hl : l.length = m.length
  · have h0 : ((l.length : Int) != (m.length : Int)) = false := by simp [hl]
    have h1 : (l.length != m.length) = false := by simp [hl]
    have HL := Lib.hid hl
    clear hl
    go_enter Tryz.func119, Tryz.ntmps119
    go_wp2
    go_loopw [5] (fun i wr => ∃ k : Nat, k ≤ l.length ∧ i = .int .i64 k ∧ l.take k = m.take k ∧ Same w wr) (fun i _ => l.length - (intOf i).toNat)
    case atStart => exact ⟨0, by omega, rfl, by simp, Same.refl _⟩
    case round =>
      obtain ⟨k, hk, rfl, he, hs⟩ := hrel
      have HE := Lib.hid he
      clear he
      by_cases hlt : k < l.length
      · have hx : l[k]? = some l[k] := List.getElem?_eq_getElem hlt
        have hlt2 : k < m.length := by rw [← HL.out]; exact hlt
        have hy : m[k]? = some m[k] := List.getElem?_eq_getElem hlt2
        obtain ⟨b1, o1, rfl, _, r1⟩ := (HV.out.same hs).get 7 cRul_len hx
        obtain ⟨b2, o2, rfl, _, r2⟩ := (HU.out.same hs).get 7 cRul_len hy
        have ht1 : l.take (k + 1) = l.take k ++ [l[k]] := by rw [List.take_succ_eq_append_getElem hlt]
        have ht2 : m.take (k + 1) = m.take k ++ [m[k]] := by rw [List.take_succ_eq_append_getElem hlt2]
        have HT1 := Lib.hid ht1
        have HT2 := Lib.hid ht2
        have HS := Lib.hid hs
        clear hx hy ht1 ht2 hs
        generalize l[k] = x at *
        generalize m[k] = y at *
        have r1_0 : wr.cell? ⟨b1, o1 + k * 7, none⟩ = some (.int .i64 x.rect.c1) := r1 0 _ rfl
        have r1_1 : wr.cell? ⟨b1, o1 + k * 7 + 1, none⟩ = some (.int .i64 x.rect.r1) := r1 1 _ rfl
        have r1_2 : wr.cell? ⟨b1, o1 + k * 7 + 2, none⟩ = some (.int .i64 x.rect.c2) := r1 2 _ rfl
        have r1_3 : wr.cell? ⟨b1, o1 + k * 7 + 3, none⟩ = some (.int .i64 x.rect.r2) := r1 3 _ rfl
        have r1_4 : wr.cell? ⟨b1, o1 + k * 7 + 4, none⟩ = some (.int .u64 x.rights.rd) := r1 4 _ rfl
        have r1_5 : wr.cell? ⟨b1, o1 + k * 7 + 5, none⟩ = some (.int .u64 x.rights.wr) := r1 5 _ rfl
        have r1_6 : wr.cell? ⟨b1, o1 + k * 7 + 6, none⟩ = some (.int .u64 x.rights.ow) := r1 6 _ rfl
        have r2_0 : wr.cell? ⟨b2, o2 + k * 7, none⟩ = some (.int .i64 y.rect.c1) := r2 0 _ rfl
        have r2_1 : wr.cell? ⟨b2, o2 + k * 7 + 1, none⟩ = some (.int .i64 y.rect.r1) := r2 1 _ rfl
        have r2_2 : wr.cell? ⟨b2, o2 + k * 7 + 2, none⟩ = some (.int .i64 y.rect.c2) := r2 2 _ rfl
        have r2_3 : wr.cell? ⟨b2, o2 + k * 7 + 3, none⟩ = some (.int .i64 y.rect.r2) := r2 3 _ rfl
        have r2_4 : wr.cell? ⟨b2, o2 + k * 7 + 4, none⟩ = some (.int .u64 y.rights.rd) := r2 4 _ rfl
        have r2_5 : wr.cell? ⟨b2, o2 + k * 7 + 5, none⟩ = some (.int .u64 y.rights.wr) := r2 5 _ rfl
        have r2_6 : wr.cell? ⟨b2, o2 + k * 7 + 6, none⟩ = some (.int .u64 y.rights.ow) := r2 6 _ rfl
        have hn : ∀ W, (binOp .neq 79 (.agg #[.int .i64 x.rect.c1, .int .i64 x.rect.r1, .int .i64 x.rect.c2, .int .i64 x.rect.r2, .int .u64 x.rights.rd, .int .u64 x.rights.wr, .int .u64 x.rights.ow]) (.agg #[.int .i64 y.rect.c1, .int .i64 y.rect.r1, .int .i64 y.rect.c2, .int .i64 y.rect.r2, .int .u64 y.rights.rd, .int .u64 y.rights.wr, .int .u64 y.rights.ow])).run Tryz.prog W = .ok (.bool (!decide (x = y))) W := fun W => neq_rul x y W
        have hi0 : (0 : Int) ≤ (k : Int) := Int.natCast_nonneg _
        have hi1 : (k : Int) < (l.length : Int) := by omega
        have hi2 : (k : Int) < (m.length : Int) := by omega
        clear r1 r2
        by_cases hxy : x = y
        · have hd : decide (x = y) = true := by simpa using hxy
          rw [hd] at hn
          have HXY := Lib.hid hxy
          clear hd hxy
          go_wp2
          go_quiet (fail)
          go_wp2
          exact ⟨⟨k + 1, by omega, by go_num, by rw [HT1.out, HT2.out, HE.out, HXY.out], HS.out.drewN _⟩, by simp [intOf]; omega⟩
        · have hd : decide (x = y) = false := by simpa using hxy
          rw [hd] at hn
          have HXY := Lib.hid hxy
          clear hd hxy
          go_wp2
          go_quiet (fail)
          go_wp2
          go_ret
          have hne : ¬ l = m := by
            intro e
            have h2 := HT1.out
            rw [e, HT2.out, ← HE.out] at h2
            exact HXY.out (by simpa using h2.symm)
          exact ⟨by simp [hne], HS.out.drewN _⟩
      · go_wp2
        go_ret
        have h1 : k = l.length := by omega
        have h2 := HE.out
        rw [h1, List.take_length, HL.out, List.take_length] at h2
        exact ⟨by simp [h2], hs⟩
  · have h0 : ((l.length : Int) != (m.length : Int)) = true := by simpa using fun e => hl (by omega)
    have h1 : (l.length != m.length) = true := by simpa using hl
    have hne : ¬ l = m := fun e => hl (by rw [e])
    have HN := Lib.hid hne
    clear hne
    go_enter Tryz.func119, Tryz.ntmps119
    go_wp2
    go_ret
    exact ⟨by simp [HN.out], Same.refl _⟩
theorem kit_equal_grt (v u : Value) (l m : List Grt) (B1 B2 : Nat) (w : World) (hv : Sls cGrt w B1 v l) (hu : Sls cGrt w B2 u m) :
    Calls Tryz.prog 120 #[v, u] w fun e w' => e = .returned (.bool (decide (l = m))) ∧ Same w w' := by
  obtain ⟨A1, cap1, rfl, hc1, hm1, hr1⟩ := id hv
  obtain ⟨A2, cap2, rfl, hc2, hm2, hr2⟩ := id hu
  have HV := Lib.hid hv
  have HU := Lib.hid hu
  clear hr1 hr2 hv hu
  unfold maxLen at hm1 hm2
  by_cases hl : l.length = m.length
  · have h0 : ((l.length : Int) != (m.length : Int)) = false := by simp [hl]
    have h1 : (l.length != m.length) = false := by simp [hl]
    have HL := Lib.hid hl
    clear hl
    go_enter Tryz.func120, Tryz.ntmps120
    go_wp2
    go_loopw [5] (fun i wr => ∃ k : Nat, k ≤ l.length ∧ i = .int .i64 k ∧ l.take k = m.take k ∧ Same w wr) (fun i _ => l.length - (intOf i).toNat)
    case atStart => exact ⟨0, by omega, rfl, by simp, Same.refl _⟩
    case round =>
      obtain ⟨k, hk, rfl, he, hs⟩ := hrel
      have HE := Lib.hid he
      clear he
      by_cases hlt : k < l.length
      · have hx : l[k]? = some l[k] := List.getElem?_eq_getElem hlt
        have hlt2 : k < m.length := by rw [← HL.out]; exact hlt
        have hy : m[k]? = some m[k] := List.getElem?_eq_getElem hlt2
        obtain ⟨b1, o1, rfl, _, r1⟩ := (HV.out.same hs).get 8 cGrt_len hx
        obtain ⟨b2, o2, rfl, _, r2⟩ := (HU.out.same hs).get 8 cGrt_len hy
        have ht1 : l.take (k + 1) = l.take k ++ [l[k]] := by rw [List.take_succ_eq_append_getElem hlt]
        have ht2 : m.take (k + 1) = m.take k ++ [m[k]] := by rw [List.take_succ_eq_append_getElem hlt2]
        have HT1 := Lib.hid ht1
        have HT2 := Lib.hid ht2
        have HS := Lib.hid hs
        clear hx hy ht1 ht2 hs
        generalize l[k] = x at *
        generalize m[k] = y at *
        have r1_0 : wr.cell? ⟨b1, o1 + k * 8, none⟩ = some (.int .i64 x.rect.c1) := r1 0 _ rfl
        have r1_1 : wr.cell? ⟨b1, o1 + k * 8 + 1, none⟩ = some (.int .i64 x.rect.r1) := r1 1 _ rfl
        have r1_2 : wr.cell? ⟨b1, o1 + k * 8 + 2, none⟩ = some (.int .i64 x.rect.c2) := r1 2 _ rfl
        have r1_3 : wr.cell? ⟨b1, o1 + k * 8 + 3, none⟩ = some (.int .i64 x.rect.r2) := r1 3 _ rfl
        have r1_4 : wr.cell? ⟨b1, o1 + k * 8 + 4, none⟩ = some (.int .u8 x.fns) := r1 4 _ rfl
        have r1_5 : wr.cell? ⟨b1, o1 + k * 8 + 5, none⟩ = some (.int .u64 x.to_) := r1 5 _ rfl
        have r1_6 : wr.cell? ⟨b1, o1 + k * 8 + 6, none⟩ = some (.int .i64 x.by_) := r1 6 _ rfl
        have r1_7 : wr.cell? ⟨b1, o1 + k * 8 + 7, none⟩ = some (.bool x.revoked) := r1 7 _ rfl
        have r2_0 : wr.cell? ⟨b2, o2 + k * 8, none⟩ = some (.int .i64 y.rect.c1) := r2 0 _ rfl
        have r2_1 : wr.cell? ⟨b2, o2 + k * 8 + 1, none⟩ = some (.int .i64 y.rect.r1) := r2 1 _ rfl
        have r2_2 : wr.cell? ⟨b2, o2 + k * 8 + 2, none⟩ = some (.int .i64 y.rect.c2) := r2 2 _ rfl
        have r2_3 : wr.cell? ⟨b2, o2 + k * 8 + 3, none⟩ = some (.int .i64 y.rect.r2) := r2 3 _ rfl
        have r2_4 : wr.cell? ⟨b2, o2 + k * 8 + 4, none⟩ = some (.int .u8 y.fns) := r2 4 _ rfl
        have r2_5 : wr.cell? ⟨b2, o2 + k * 8 + 5, none⟩ = some (.int .u64 y.to_) := r2 5 _ rfl
        have r2_6 : wr.cell? ⟨b2, o2 + k * 8 + 6, none⟩ = some (.int .i64 y.by_) := r2 6 _ rfl
        have r2_7 : wr.cell? ⟨b2, o2 + k * 8 + 7, none⟩ = some (.bool y.revoked) := r2 7 _ rfl
        have hn : ∀ W, (binOp .neq 85 (.agg #[.int .i64 x.rect.c1, .int .i64 x.rect.r1, .int .i64 x.rect.c2, .int .i64 x.rect.r2, .int .u8 x.fns, .int .u64 x.to_, .int .i64 x.by_, .bool x.revoked]) (.agg #[.int .i64 y.rect.c1, .int .i64 y.rect.r1, .int .i64 y.rect.c2, .int .i64 y.rect.r2, .int .u8 y.fns, .int .u64 y.to_, .int .i64 y.by_, .bool y.revoked])).run Tryz.prog W = .ok (.bool (!decide (x = y))) W := fun W => neq_grt x y W
        have hi0 : (0 : Int) ≤ (k : Int) := Int.natCast_nonneg _
        have hi1 : (k : Int) < (l.length : Int) := by omega
        have hi2 : (k : Int) < (m.length : Int) := by omega
        clear r1 r2
        by_cases hxy : x = y
        · have hd : decide (x = y) = true := by simpa using hxy
          rw [hd] at hn
          have HXY := Lib.hid hxy
          clear hd hxy
          go_wp2
          go_quiet (fail)
          go_wp2
          exact ⟨⟨k + 1, by omega, by go_num, by rw [HT1.out, HT2.out, HE.out, HXY.out], HS.out.drewN _⟩, by simp [intOf]; omega⟩
        · have hd : decide (x = y) = false := by simpa using hxy
          rw [hd] at hn
          have HXY := Lib.hid hxy
          clear hd hxy
          go_wp2
          go_quiet (fail)
          go_wp2
          go_ret
          have hne : ¬ l = m := by
            intro e
            have h2 := HT1.out
            rw [e, HT2.out, ← HE.out] at h2
            exact HXY.out (by simpa using h2.symm)
          exact ⟨by simp [hne], HS.out.drewN _⟩
      · go_wp2
        go_ret
        have h1 : k = l.length := by omega
        have h2 := HE.out
        rw [h1, List.take_length, HL.out, List.take_length] at h2
        exact ⟨by simp [h2], hs⟩
  · have h0 : ((l.length : Int) != (m.length : Int)) = true := by simpa using fun e => hl (by omega)
    have h1 : (l.length != m.length) = true := by simpa using hl
    have hne : ¬ l = m := fun e => hl (by rw [e])
    have HN := Lib.hid hne
    clear hne
    go_enter Tryz.func120, Tryz.ntmps120
    go_wp2
    go_ret
    exact ⟨by simp [HN.out], Same.refl _⟩
theorem kit_equal_evt (v u : Value) (l m : List Evt) (B1 B2 : Nat) (w : World) (hv : Sls cEvt w B1 v l) (hu : Sls cEvt w B2 u m) :
    Calls Tryz.prog 121 #[v, u] w fun e w' => e = .returned (.bool (decide (l = m))) ∧ Same w w' := by
  obtain ⟨A1, cap1, rfl, hc1, hm1, hr1⟩ := id hv
  obtain ⟨A2, cap2, rfl, hc2, hm2, hr2⟩ := id hu
  have HV := Lib.hid hv
  have HU := Lib.hid hu
  clear hr1 hr2 hv hu
  unfold maxLen at hm1 hm2
  by_cases hl : l.length = m.length
  · have h0 : ((l.length : Int) != (m.length : Int)) = false := by simp [hl]
    have h1 : (l.length != m.length) = false := by simp [hl]
    have HL := Lib.hid hl
    clear hl
    go_enter Tryz.func121, Tryz.ntmps121
    go_wp2
    go_loopw [5] (fun i wr => ∃ k : Nat, k ≤ l.length ∧ i = .int .i64 k ∧ l.take k = m.take k ∧ Same w wr) (fun i _ => l.length - (intOf i).toNat)
    case atStart => exact ⟨0, by omega, rfl, by simp, Same.refl _⟩
    case round =>
      obtain ⟨k, hk, rfl, he, hs⟩ := hrel
      have HE := Lib.hid he
      clear he
      by_cases hlt : k < l.length
      · have hx : l[k]? = some l[k] := List.getElem?_eq_getElem hlt
        have hlt2 : k < m.length := by rw [← HL.out]; exact hlt
        have hy : m[k]? = some m[k] := List.getElem?_eq_getElem hlt2
        obtain ⟨b1, o1, rfl, _, r1⟩ := (HV.out.same hs).get 9 cEvt_len hx
        obtain ⟨b2, o2, rfl, _, r2⟩ := (HU.out.same hs).get 9 cEvt_len hy
        have ht1 : l.take (k + 1) = l.take k ++ [l[k]] := by rw [List.take_succ_eq_append_getElem hlt]
        have ht2 : m.take (k + 1) = m.take k ++ [m[k]] := by rw [List.take_succ_eq_append_getElem hlt2]
        have HT1 := Lib.hid ht1
        have HT2 := Lib.hid ht2
        have HS := Lib.hid hs
        clear hx hy ht1 ht2 hs
        generalize l[k] = x at *
        generalize m[k] = y at *
        have r1_0 : wr.cell? ⟨b1, o1 + k * 9, none⟩ = some (.int .i64 x.step) := r1 0 _ rfl
        have r1_1 : wr.cell? ⟨b1, o1 + k * 9 + 1, none⟩ = some (.int .i64 x.user) := r1 1 _ rfl
        have r1_2 : wr.cell? ⟨b1, o1 + k * 9 + 2, none⟩ = some (.int .u8 x.kind) := r1 2 _ rfl
        have r1_3 : wr.cell? ⟨b1, o1 + k * 9 + 3, none⟩ = some (.int .i64 x.rect.c1) := r1 3 _ rfl
        have r1_4 : wr.cell? ⟨b1, o1 + k * 9 + 4, none⟩ = some (.int .i64 x.rect.r1) := r1 4 _ rfl
        have r1_5 : wr.cell? ⟨b1, o1 + k * 9 + 5, none⟩ = some (.int .i64 x.rect.c2) := r1 5 _ rfl
        have r1_6 : wr.cell? ⟨b1, o1 + k * 9 + 6, none⟩ = some (.int .i64 x.rect.r2) := r1 6 _ rfl
        have r1_7 : wr.cell? ⟨b1, o1 + k * 9 + 7, none⟩ = some (.bool x.done_) := r1 7 _ rfl
        have r1_8 : wr.cell? ⟨b1, o1 + k * 9 + 8, none⟩ = some (.int .u64 x.to_) := r1 8 _ rfl
        have r2_0 : wr.cell? ⟨b2, o2 + k * 9, none⟩ = some (.int .i64 y.step) := r2 0 _ rfl
        have r2_1 : wr.cell? ⟨b2, o2 + k * 9 + 1, none⟩ = some (.int .i64 y.user) := r2 1 _ rfl
        have r2_2 : wr.cell? ⟨b2, o2 + k * 9 + 2, none⟩ = some (.int .u8 y.kind) := r2 2 _ rfl
        have r2_3 : wr.cell? ⟨b2, o2 + k * 9 + 3, none⟩ = some (.int .i64 y.rect.c1) := r2 3 _ rfl
        have r2_4 : wr.cell? ⟨b2, o2 + k * 9 + 4, none⟩ = some (.int .i64 y.rect.r1) := r2 4 _ rfl
        have r2_5 : wr.cell? ⟨b2, o2 + k * 9 + 5, none⟩ = some (.int .i64 y.rect.c2) := r2 5 _ rfl
        have r2_6 : wr.cell? ⟨b2, o2 + k * 9 + 6, none⟩ = some (.int .i64 y.rect.r2) := r2 6 _ rfl
        have r2_7 : wr.cell? ⟨b2, o2 + k * 9 + 7, none⟩ = some (.bool y.done_) := r2 7 _ rfl
        have r2_8 : wr.cell? ⟨b2, o2 + k * 9 + 8, none⟩ = some (.int .u64 y.to_) := r2 8 _ rfl
        have hn : ∀ W, (binOp .neq 110 (.agg #[.int .i64 x.step, .int .i64 x.user, .int .u8 x.kind, .int .i64 x.rect.c1, .int .i64 x.rect.r1, .int .i64 x.rect.c2, .int .i64 x.rect.r2, .bool x.done_, .int .u64 x.to_]) (.agg #[.int .i64 y.step, .int .i64 y.user, .int .u8 y.kind, .int .i64 y.rect.c1, .int .i64 y.rect.r1, .int .i64 y.rect.c2, .int .i64 y.rect.r2, .bool y.done_, .int .u64 y.to_])).run Tryz.prog W = .ok (.bool (!decide (x = y))) W := fun W => neq_evt x y W
        have hi0 : (0 : Int) ≤ (k : Int) := Int.natCast_nonneg _
        have hi1 : (k : Int) < (l.length : Int) := by omega
        have hi2 : (k : Int) < (m.length : Int) := by omega
        clear r1 r2
        by_cases hxy : x = y
        · have hd : decide (x = y) = true := by simpa using hxy
          rw [hd] at hn
          have HXY := Lib.hid hxy
          clear hd hxy
          go_wp2
          go_quiet (fail)
          go_wp2
          exact ⟨⟨k + 1, by omega, by go_num, by rw [HT1.out, HT2.out, HE.out, HXY.out], HS.out.drewN _⟩, by simp [intOf]; omega⟩
        · have hd : decide (x = y) = false := by simpa using hxy
          rw [hd] at hn
          have HXY := Lib.hid hxy
          clear hd hxy
          go_wp2
          go_quiet (fail)
          go_wp2
          go_ret
          have hne : ¬ l = m := by
            intro e
            have h2 := HT1.out
            rw [e, HT2.out, ← HE.out] at h2
            exact HXY.out (by simpa using h2.symm)
          exact ⟨by simp [hne], HS.out.drewN _⟩
      · go_wp2
        go_ret
        have h1 : k = l.length := by omega
        have h2 := HE.out
        rw [h1, List.take_length, HL.out, List.take_length] at h2
        exact ⟨by simp [h2], hs⟩
  · have h0 : ((l.length : Int) != (m.length : Int)) = true := by simpa using fun e => hl (by omega)
    have h1 : (l.length != m.length) = true := by simpa using hl
    have hne : ¬ l = m := fun e => hl (by rw [e])
    have HN := Lib.hid hne
    clear hne
    go_enter Tryz.func121, Tryz.ntmps121
    go_wp2
    go_ret
    exact ⟨by simp [HN.out], Same.refl _⟩
end Go.Proofs.YtamcgggmfghljaaGreatDoor
