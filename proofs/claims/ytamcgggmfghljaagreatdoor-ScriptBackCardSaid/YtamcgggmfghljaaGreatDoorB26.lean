/- Layer 5 (program): texts as bools. · Layer 8 (program): released, Wide (printed by tools/gen_pari.py). · Layer 3: ranges: corners, check, one, has. -/
import Derived.ChangeMaps4
import Derived.Deep.RegionHeld3
import Derived.Laws.CopyOwn
import Derived.Test.YtamcgggmfghljaaGreatDoorB24
set_option maxRecDepth 100000
set_option maxHeartbeats 8000000
namespace Go.Proofs.YtamcgggmfghljaaGreatDoor
open Go.RowKit
abbrev vVal (k n : Int) (s : Bytes) : Value := .agg #[.int .u8 k, .int .i64 n, str s]
/-- No entry has this key. -/
def freeKey (k : Int) (es : Array MapEntry) : Bool := es.toList.all fun x => match x.key with
  | .int .u8 a => !decide (k = a)
  | _ => false
theorem findNow_free (k : Int) : ∀ (l : List MapEntry) (i : Nat), (l.all fun x => match x.key with | .int .u8 a => !decide (k = a) | _ => false) = true → Instr.findNow (.int .u8) (.int .u8 k) l i = some none
  | [], _, _ => rfl
  | x :: l, i, h => by
    rw [List.all_cons, Bool.and_eq_true] at h
    obtain ⟨h1, h2⟩ := h
    obtain ⟨key, val, born⟩ := x
    have ih := findNow_free k l (i + 1) h2
    match key, h1 with
    | .int .u8 a, h1 =>
      have hne : (k == a) = false := by simpa using h1
      simp [Instr.findNow, Instr.sameNow, hne, ih]
theorem run_store_free {P : Program} (t kt e : TypeId) (ht : P.underlying t = some (.map kt e)) (hk : P.underlying kt = some (.int .u8)) (W : World) (n : Nat) (hn : n = W.heap.size) (es : Array MapEntry) (c : Nat) (k : Int) (v : Value) (h : freeKey k es = true) :
    (Instr.mapUpdate t (.map (some n)) (.int .u8 k) v).run P (W.alloc (.map es c)) = .ok () (W.alloc (.map (es.push ⟨.int .u8 k, v, c⟩) (c + 1))) := by
  subst hn
  have hf := findNow_free k es.toList 0 h
  have hb : (W.alloc (.map es c)).heap[W.heap.size]? = some (.map es c) := heap_alloc_new W _
  have hs : ∀ o : Obj, ({ W.alloc (.map es c) with heap := (W.alloc (.map es c)).heap.setIfInBounds W.heap.size o } : World) = W.alloc o := fun o => by
    have he : (W.heap.push (.map es c)).setIfInBounds W.heap.size o = W.heap.push o := by
      apply Array.ext'
      simp [Array.setIfInBounds, Array.toList_push]
    exact congrArg (fun H => World.mk H W.tape W.drawn W.os W.output) he
  have hkey : MapKept.IsKey (.int .u8) (.int .u8 k) := rfl
  simp [Instr.mapUpdate, run_underlying ht, MapKept.run_getObj_map hb, MapKept.run_checkKey hk hkey, MapKept.run_findKey hk hf, MapKept.run_setObj_map _ hb, Result.andThen]
  exact hs _
theorem run_look_at {P : Program} (t kt e : TypeId) (ht : P.underlying t = some (.map kt e)) (hk : P.underlying kt = some (.int .u8)) (W : World) (n : Nat) (es : Array MapEntry) (c : Nat) (k : Int) (i : Nat) (v : Value) (hb : W.heap[n]? = some (.map es c))
    (hf : Instr.findNow (.int .u8) (.int .u8 k) es.toList 0 = some (some (i, v))) :
    (Instr.lookup t (.map (some n)) (.int .u8 k) true).run P W = .ok (.tuple #[v, .bool true]) W := by
  have hkey : MapKept.IsKey (.int .u8) (.int .u8 k) := rfl
  simp [Instr.lookup, run_underlying ht, MapKept.run_getObj_map hb, MapKept.run_checkKey hk hkey, MapKept.run_findKey hk hf, Result.andThen]
theorem val_check (s : Bytes) (w : World) (hs : txtE s = 0) (hl : s.length ≤ 1000000) :
    Calls Tryz.prog 270 #[vVal 3 0 s] w fun u w' => u = .returned (.int .i64 0) ∧ Below w.heap.size w w' := by
  have HS := Lib.hid hs
  clear hs
  go_enter Tryz.func270, Tryz.ntmps270
  go_wp2_with fail
  refine (glyph_check s _ (by omega)).mono ?_
  rintro e w1 ⟨rfl, hb⟩
  rw [HS.out]
  have HB := Lib.hid (show Below w.heap.size w w1 from Below.next (by go_grown) hb (by simp))
  clear hb
  go_wp2
  go_ret
  exact ⟨rfl, HB.out⟩
/-- What a text may be converted by. -/
def boolMap (s : Bytes) : Array MapEntry := #[⟨.int .u8 0, .func (.func 240) #[vVal 3 0 s] #[], 0⟩, ⟨.int .u8 1, .func (.func 240) #[vVal 3 0 s] #[], 1⟩, ⟨.int .u8 2, .func (.func 241) #[vVal 3 0 s] #[], 2⟩, ⟨.int .u8 3, .func (.func 242) #[vVal 3 0 s] #[], 3⟩, ⟨.int .u8 4, .func (.func 241) #[vVal 3 0 s] #[], 4⟩]
theorem tobool_1 (s : Bytes) (w : World) :
    Calls Tryz.prog 239 #[vVal 3 0 s] w fun u w' => ∃ n, u = .returned (.map (some n)) ∧ w'.heap[n]? = some (.map (boolMap s) 5) ∧ Below w.heap.size w w' := by
  have hmk : ∀ w : World, (Instr.makeMap 253 none).run Tryz.prog w = .ok (.map (some w.heap.size)) (w.alloc (.map #[] 0)) := fun w => by rfl
  have hw : (w.alloc (.cells #[.int .u8 3, .int .i64 0, str s] 252)).heap.size = w.heap.size + 1 := by simp
  have s0 : (Instr.mapUpdate 253 (.map (some (w.heap.size + 1))) (.int .u8 0) (.func (.func 240) #[vVal 3 0 s] #[])).run Tryz.prog ((w.alloc (.cells #[.int .u8 3, .int .i64 0, str s] 252)).alloc (.map #[] 0)) = .ok () ((w.alloc (.cells #[.int .u8 3, .int .i64 0, str s] 252)).alloc (.map #[⟨.int .u8 0, .func (.func 240) #[vVal 3 0 s] #[], 0⟩] 1)) :=
    run_store_free _ _ _ Tryz.underlying253 Tryz.underlying5 _ _ hw.symm _ _ _ _ rfl
  have s1 : (Instr.mapUpdate 253 (.map (some (w.heap.size + 1))) (.int .u8 1) (.func (.func 240) #[vVal 3 0 s] #[])).run Tryz.prog ((w.alloc (.cells #[.int .u8 3, .int .i64 0, str s] 252)).alloc (.map #[⟨.int .u8 0, .func (.func 240) #[vVal 3 0 s] #[], 0⟩] 1)) = .ok () ((w.alloc (.cells #[.int .u8 3, .int .i64 0, str s] 252)).alloc (.map #[⟨.int .u8 0, .func (.func 240) #[vVal 3 0 s] #[], 0⟩, ⟨.int .u8 1, .func (.func 240) #[vVal 3 0 s] #[], 1⟩] 2)) :=
    run_store_free _ _ _ Tryz.underlying253 Tryz.underlying5 _ _ hw.symm _ _ _ _ rfl
  have s2 : (Instr.mapUpdate 253 (.map (some (w.heap.size + 1))) (.int .u8 2) (.func (.func 241) #[vVal 3 0 s] #[])).run Tryz.prog ((w.alloc (.cells #[.int .u8 3, .int .i64 0, str s] 252)).alloc (.map #[⟨.int .u8 0, .func (.func 240) #[vVal 3 0 s] #[], 0⟩, ⟨.int .u8 1, .func (.func 240) #[vVal 3 0 s] #[], 1⟩] 2)) = .ok () ((w.alloc (.cells #[.int .u8 3, .int .i64 0, str s] 252)).alloc (.map #[⟨.int .u8 0, .func (.func 240) #[vVal 3 0 s] #[], 0⟩, ⟨.int .u8 1, .func (.func 240) #[vVal 3 0 s] #[], 1⟩, ⟨.int .u8 2, .func (.func 241) #[vVal 3 0 s] #[], 2⟩] 3)) :=
    run_store_free _ _ _ Tryz.underlying253 Tryz.underlying5 _ _ hw.symm _ _ _ _ rfl
  have s3 : (Instr.mapUpdate 253 (.map (some (w.heap.size + 1))) (.int .u8 3) (.func (.func 242) #[vVal 3 0 s] #[])).run Tryz.prog ((w.alloc (.cells #[.int .u8 3, .int .i64 0, str s] 252)).alloc (.map #[⟨.int .u8 0, .func (.func 240) #[vVal 3 0 s] #[], 0⟩, ⟨.int .u8 1, .func (.func 240) #[vVal 3 0 s] #[], 1⟩, ⟨.int .u8 2, .func (.func 241) #[vVal 3 0 s] #[], 2⟩] 3)) = .ok () ((w.alloc (.cells #[.int .u8 3, .int .i64 0, str s] 252)).alloc (.map #[⟨.int .u8 0, .func (.func 240) #[vVal 3 0 s] #[], 0⟩, ⟨.int .u8 1, .func (.func 240) #[vVal 3 0 s] #[], 1⟩, ⟨.int .u8 2, .func (.func 241) #[vVal 3 0 s] #[], 2⟩, ⟨.int .u8 3, .func (.func 242) #[vVal 3 0 s] #[], 3⟩] 4)) :=
    run_store_free _ _ _ Tryz.underlying253 Tryz.underlying5 _ _ hw.symm _ _ _ _ rfl
  have s4 : (Instr.mapUpdate 253 (.map (some (w.heap.size + 1))) (.int .u8 4) (.func (.func 241) #[vVal 3 0 s] #[])).run Tryz.prog ((w.alloc (.cells #[.int .u8 3, .int .i64 0, str s] 252)).alloc (.map #[⟨.int .u8 0, .func (.func 240) #[vVal 3 0 s] #[], 0⟩, ⟨.int .u8 1, .func (.func 240) #[vVal 3 0 s] #[], 1⟩, ⟨.int .u8 2, .func (.func 241) #[vVal 3 0 s] #[], 2⟩, ⟨.int .u8 3, .func (.func 242) #[vVal 3 0 s] #[], 3⟩] 4)) = .ok () ((w.alloc (.cells #[.int .u8 3, .int .i64 0, str s] 252)).alloc (.map #[⟨.int .u8 0, .func (.func 240) #[vVal 3 0 s] #[], 0⟩, ⟨.int .u8 1, .func (.func 240) #[vVal 3 0 s] #[], 1⟩, ⟨.int .u8 2, .func (.func 241) #[vVal 3 0 s] #[], 2⟩, ⟨.int .u8 3, .func (.func 242) #[vVal 3 0 s] #[], 3⟩, ⟨.int .u8 4, .func (.func 241) #[vVal 3 0 s] #[], 4⟩] 5)) :=
    run_store_free _ _ _ Tryz.underlying253 Tryz.underlying5 _ _ hw.symm _ _ _ _ rfl
  go_enter Tryz.func239, Tryz.ntmps239
  go_wp2
  go_ret
  refine ⟨_, rfl, ?_, by go_grown⟩
  have := heap_alloc_new (w.alloc (.cells #[.int .u8 3, .int .i64 0, str s] 252)) (.map (boolMap s) 5)
  rw [hw] at this
  exact this
def tT : Bytes := [84, 82, 85, 69]
def tF : Bytes := [70, 65, 76, 83, 69]
/-- A text as a bool, or #VALUE!. -/
def boolV (s : Bytes) : Value := if upB s = tT then vVal 2 1 [] else if upB s = tF then vVal 2 0 [] else vVal 4 2 []
theorem named_any (s : Bytes) (w : World) (hl : s.length ≤ 1000000) :
    Calls Tryz.prog 242 #[vVal 3 0 s] w fun u w' => u = .returned (boolV s) ∧ Below w.heap.size w w' := by
  by_cases c1 : upB s = tT
  · have H := Lib.hid (show boolV s = vVal 2 1 [] by unfold boolV; rw [if_pos c1])
    have t1 : (upB s == [84, 82, 85, 69]) = true := by rw [c1]; rfl
    clear c1
    go_enter Tryz.func242, Tryz.ntmps242
    go_wp2_with fail
    refine (upper_any s _ hl).mono ?_
    rintro e w1 ⟨rfl, hb1⟩
    have hz1 := hb1.size
    try simp at hz1
    have hB1 : Below w.heap.size w w1 := Below.next (by go_grown) hb1 (by first | (simp; done) | (simp; omega) | omega)
    have hc1_0 : ∀ o, w1.cell? ⟨w.heap.size, o, none⟩ = _ := fun o => hb1.cell (p := ⟨w.heap.size, o, none⟩) (by first | (simp; done) | (simp; omega) | omega)
    have hl1_0 : w.heap.size < w1.heap.size := by omega
    have hm1_0 : w.heap.size ≤ w1.heap.size := by omega
    have hn1_0 : w.heap.size ≤ w1.heap.size + 1 := by omega
    have ho1_0 : w.heap.size ≤ w1.heap.size + 1 + 1 := by omega
    have hf1_0 : ∀ o, w1.frozen? ⟨w.heap.size, o, none⟩ = _ := fun o => hb1.frozen (p := ⟨w.heap.size, o, none⟩) (by first | (simp; done) | (simp; omega) | omega)
    have hc1_1 : ∀ o, w1.cell? ⟨w.heap.size + 1, o, none⟩ = _ := fun o => hb1.cell (p := ⟨w.heap.size + 1, o, none⟩) (by first | (simp; done) | (simp; omega) | omega)
    have hl1_1 : w.heap.size + 1 < w1.heap.size := by omega
    have hm1_1 : w.heap.size + 1 ≤ w1.heap.size := by omega
    have hn1_1 : w.heap.size + 1 ≤ w1.heap.size + 1 := by omega
    have ho1_1 : w.heap.size + 1 ≤ w1.heap.size + 1 + 1 := by omega
    have hf1_1 : ∀ o, w1.frozen? ⟨w.heap.size + 1, o, none⟩ = _ := fun o => hb1.frozen (p := ⟨w.heap.size + 1, o, none⟩) (by first | (simp; done) | (simp; omega) | omega)
    go_wp2
    refine bodyPost_ret (v := .agg #[.int .u8 2, .int .i64 1, str []]) (by simp (maxDischargeDepth := 9) [results, Tryz.results242, go_sem, hc1_1, hl1_1]) rfl ?_
    exact ⟨by rw [H.out], by go_grown⟩
  · have t1 : (upB s == [84, 82, 85, 69]) = false := by rw [beq_eq_false_iff_ne]; exact c1
    by_cases c2 : upB s = tF
    · have H := Lib.hid (show boolV s = vVal 2 0 [] by unfold boolV; rw [if_neg c1, if_pos c2])
      have t2 : (upB s == [70, 65, 76, 83, 69]) = true := by rw [c2]; rfl
      clear c1 c2
      go_enter Tryz.func242, Tryz.ntmps242
      go_wp2_with fail
      refine (upper_any s _ hl).mono ?_
      rintro e w1 ⟨rfl, hb1⟩
      have hz1 := hb1.size
      try simp at hz1
      have hB1 : Below w.heap.size w w1 := Below.next (by go_grown) hb1 (by first | (simp; done) | (simp; omega) | omega)
      have hc1_0 : ∀ o, w1.cell? ⟨w.heap.size, o, none⟩ = _ := fun o => hb1.cell (p := ⟨w.heap.size, o, none⟩) (by first | (simp; done) | (simp; omega) | omega)
      have hl1_0 : w.heap.size < w1.heap.size := by omega
      have hm1_0 : w.heap.size ≤ w1.heap.size := by omega
      have hn1_0 : w.heap.size ≤ w1.heap.size + 1 := by omega
      have ho1_0 : w.heap.size ≤ w1.heap.size + 1 + 1 := by omega
      have hf1_0 : ∀ o, w1.frozen? ⟨w.heap.size, o, none⟩ = _ := fun o => hb1.frozen (p := ⟨w.heap.size, o, none⟩) (by first | (simp; done) | (simp; omega) | omega)
      have hc1_1 : ∀ o, w1.cell? ⟨w.heap.size + 1, o, none⟩ = _ := fun o => hb1.cell (p := ⟨w.heap.size + 1, o, none⟩) (by first | (simp; done) | (simp; omega) | omega)
      have hl1_1 : w.heap.size + 1 < w1.heap.size := by omega
      have hm1_1 : w.heap.size + 1 ≤ w1.heap.size := by omega
      have hn1_1 : w.heap.size + 1 ≤ w1.heap.size + 1 := by omega
      have ho1_1 : w.heap.size + 1 ≤ w1.heap.size + 1 + 1 := by omega
      have hf1_1 : ∀ o, w1.frozen? ⟨w.heap.size + 1, o, none⟩ = _ := fun o => hb1.frozen (p := ⟨w.heap.size + 1, o, none⟩) (by first | (simp; done) | (simp; omega) | omega)
      go_wp2
      refine bodyPost_ret (v := .agg #[.int .u8 2, .int .i64 0, str []]) (by simp (maxDischargeDepth := 9) [results, Tryz.results242, go_sem, hc1_1, hl1_1]) rfl ?_
      exact ⟨by rw [H.out], by go_grown⟩
    · have H := Lib.hid (show boolV s = vVal 4 2 [] by unfold boolV; rw [if_neg c1, if_neg c2])
      have t2 : (upB s == [70, 65, 76, 83, 69]) = false := by rw [beq_eq_false_iff_ne]; exact c2
      clear c1 c2
      go_enter Tryz.func242, Tryz.ntmps242
      go_wp2_with fail
      refine (upper_any s _ hl).mono ?_
      rintro e w1 ⟨rfl, hb1⟩
      have hz1 := hb1.size
      try simp at hz1
      have hB1 : Below w.heap.size w w1 := Below.next (by go_grown) hb1 (by first | (simp; done) | (simp; omega) | omega)
      have hc1_0 : ∀ o, w1.cell? ⟨w.heap.size, o, none⟩ = _ := fun o => hb1.cell (p := ⟨w.heap.size, o, none⟩) (by first | (simp; done) | (simp; omega) | omega)
      have hl1_0 : w.heap.size < w1.heap.size := by omega
      have hm1_0 : w.heap.size ≤ w1.heap.size := by omega
      have hn1_0 : w.heap.size ≤ w1.heap.size + 1 := by omega
      have ho1_0 : w.heap.size ≤ w1.heap.size + 1 + 1 := by omega
      have hf1_0 : ∀ o, w1.frozen? ⟨w.heap.size, o, none⟩ = _ := fun o => hb1.frozen (p := ⟨w.heap.size, o, none⟩) (by first | (simp; done) | (simp; omega) | omega)
      have hc1_1 : ∀ o, w1.cell? ⟨w.heap.size + 1, o, none⟩ = _ := fun o => hb1.cell (p := ⟨w.heap.size + 1, o, none⟩) (by first | (simp; done) | (simp; omega) | omega)
      have hl1_1 : w.heap.size + 1 < w1.heap.size := by omega
      have hm1_1 : w.heap.size + 1 ≤ w1.heap.size := by omega
      have hn1_1 : w.heap.size + 1 ≤ w1.heap.size + 1 := by omega
      have ho1_1 : w.heap.size + 1 ≤ w1.heap.size + 1 + 1 := by omega
      have hf1_1 : ∀ o, w1.frozen? ⟨w.heap.size + 1, o, none⟩ = _ := fun o => hb1.frozen (p := ⟨w.heap.size + 1, o, none⟩) (by first | (simp; done) | (simp; omega) | omega)
      go_wp2
      refine bodyPost_ret (v := .agg #[.int .u8 4, .int .i64 2, str []]) (by simp (maxDischargeDepth := 9) [results, Tryz.results242, go_sem, hc1_1, hl1_1]) rfl ?_
      exact ⟨by rw [H.out], by go_grown⟩
theorem tree_released (fn : Nat) (W : World) : Calls Tryz.prog 328 #[.int .u8 fn] W fun u W' => u = .returned (.bool (relB fn)) ∧ W = W' := by
  by_cases h1 : 46 ≤ fn
  · have a1 : (46 : Int) ≤ (fn : Int) := by omega
    by_cases h2 : fn ≤ 50
    · have a2 : (fn : Int) ≤ 50 := by omega
      have HE := Lib.hid (show relB fn = true by unfold relB; simp; omega)
      go_enter Tryz.func328, Tryz.ntmps328
      go_wp2
      go_ret
      exact ⟨by rw [HE.out]; rfl, rfl⟩
    · have a2 : ¬ (fn : Int) ≤ 50 := by omega
      have HE := Lib.hid (show relB fn = false by unfold relB; simp; omega)
      go_enter Tryz.func328, Tryz.ntmps328
      go_wp2
      go_ret
      exact ⟨by rw [HE.out]; rfl, rfl⟩
  · have a1 : ¬ (46 : Int) ≤ (fn : Int) := by omega
    have HE := Lib.hid (show relB fn = false by unfold relB; simp; omega)
    go_enter Tryz.func328, Tryz.ntmps328
    go_wp2
    go_ret
    exact ⟨by rw [HE.out]; rfl, rfl⟩
theorem arity_ok (fn : Nat) (h1 : 1 ≤ fn) (h2 : fn ≤ 50) : (arityS fn).2.2 = 0 := by
  unfold arityS
  repeat' split
  all_goals first | rfl | omega
theorem wide_lt (fn i : Int) (ha : (arityS fn).2.2 = 0) (h0 : 0 ≤ i) (h : i < (arityS fn).2.1) :
    wideS fn i = if fn = 9 ∨ fn = 10 ∨ fn = 11 ∨ fn = 12 ∨ fn = 14 ∨ fn = 15 ∨ fn = 16 ∨ fn = 17 then (true, 0)
    else if fn = 44 then (decide (i = 1), 0)
    else if fn = 18 ∨ fn = 19 ∨ fn = 45 ∨ fn = 43 ∨ fn = 13 then (decide (i = 0), 0)
    else (relB fn, 0) := by
  unfold wideS
  rw [if_neg (by simpa using ha), if_neg (by omega)]
theorem wide_ge (fn i : Int) (ha : (arityS fn).2.2 = 0) (h : (arityS fn).2.1 ≤ i) : wideS fn i = (false, 3) := by
  unfold wideS
  rw [if_neg (by simpa using ha), if_pos (.inr h)]
theorem tree_wide (fn i : Nat) (h1 : 1 ≤ fn) (h2 : fn ≤ 50) (hi : i ≤ 2000) (W : World) :
    Calls Tryz.prog 327 #[.int .u8 fn, .int .i64 i] W fun u W' => u = .returned (.tuple #[.bool (wideS fn i).1, .int .i64 (wideS fn i).2]) ∧ W = W' := by
  have ha := arity_ok fn h1 h2
  have HA := Lib.hid (tree_arity fn h1 h2 W)
  have i0 : (0 : Int) ≤ (i : Int) := by omega
  have HL := Lib.hid (wide_lt fn i ha i0)
  have HG := Lib.hid (wide_ge fn i ha)
  rw [ha] at HA
  clear ha
  generalize wideS fn i = w at HL HG ⊢
  generalize (arityS fn).1 = m0 at *
  generalize (arityS fn).2.1 = m1 at *
  by_cases hm : (i : Int) < m1
  · have HE := Lib.hid (HL.out hm)
    clear HL HG
    have hm' : ¬ m1 ≤ (i : Int) := by omega
    by_cases c9 : fn = 9
    · subst c9
      have HE2 := Lib.hid (HE.out.trans (by simp; rfl))
      clear HE
      go_enter Tryz.func327, Tryz.ntmps327
      go_wp2_with fail
      refine HA.out.mono ?_
      rintro u w1 ⟨rfl, rfl⟩
      go_wp2
      go_ret2
      exact ⟨by rw [HE2.out]; rfl, rfl⟩
    by_cases c10 : fn = 10
    · subst c10
      have HE2 := Lib.hid (HE.out.trans (by simp; rfl))
      clear HE
      go_enter Tryz.func327, Tryz.ntmps327
      go_wp2_with fail
      refine HA.out.mono ?_
      rintro u w1 ⟨rfl, rfl⟩
      go_wp2
      go_ret2
      exact ⟨by rw [HE2.out]; rfl, rfl⟩
    by_cases c11 : fn = 11
    · subst c11
      have HE2 := Lib.hid (HE.out.trans (by simp; rfl))
      clear HE
      go_enter Tryz.func327, Tryz.ntmps327
      go_wp2_with fail
      refine HA.out.mono ?_
      rintro u w1 ⟨rfl, rfl⟩
      go_wp2
      go_ret2
      exact ⟨by rw [HE2.out]; rfl, rfl⟩
    by_cases c12 : fn = 12
    · subst c12
      have HE2 := Lib.hid (HE.out.trans (by simp; rfl))
      clear HE
      go_enter Tryz.func327, Tryz.ntmps327
      go_wp2_with fail
      refine HA.out.mono ?_
      rintro u w1 ⟨rfl, rfl⟩
      go_wp2
      go_ret2
      exact ⟨by rw [HE2.out]; rfl, rfl⟩
    by_cases c14 : fn = 14
    · subst c14
      have HE2 := Lib.hid (HE.out.trans (by simp; rfl))
      clear HE
      go_enter Tryz.func327, Tryz.ntmps327
      go_wp2_with fail
      refine HA.out.mono ?_
      rintro u w1 ⟨rfl, rfl⟩
      go_wp2
      go_ret2
      exact ⟨by rw [HE2.out]; rfl, rfl⟩
    by_cases c15 : fn = 15
    · subst c15
      have HE2 := Lib.hid (HE.out.trans (by simp; rfl))
      clear HE
      go_enter Tryz.func327, Tryz.ntmps327
      go_wp2_with fail
      refine HA.out.mono ?_
      rintro u w1 ⟨rfl, rfl⟩
      go_wp2
      go_ret2
      exact ⟨by rw [HE2.out]; rfl, rfl⟩
    by_cases c16 : fn = 16
    · subst c16
      have HE2 := Lib.hid (HE.out.trans (by simp; rfl))
      clear HE
      go_enter Tryz.func327, Tryz.ntmps327
      go_wp2_with fail
      refine HA.out.mono ?_
      rintro u w1 ⟨rfl, rfl⟩
      go_wp2
      go_ret2
      exact ⟨by rw [HE2.out]; rfl, rfl⟩
    by_cases c17 : fn = 17
    · subst c17
      have HE2 := Lib.hid (HE.out.trans (by simp; rfl))
      clear HE
      go_enter Tryz.func327, Tryz.ntmps327
      go_wp2_with fail
      refine HA.out.mono ?_
      rintro u w1 ⟨rfl, rfl⟩
      go_wp2
      go_ret2
      exact ⟨by rw [HE2.out]; rfl, rfl⟩
    by_cases c44 : fn = 44
    · subst c44
      have HE2 := Lib.hid (HE.out.trans (by simp; rfl))
      clear HE
      go_enter Tryz.func327, Tryz.ntmps327
      go_wp2_with fail
      refine HA.out.mono ?_
      rintro u w1 ⟨rfl, rfl⟩
      go_wp2
      go_ret2
      exact ⟨by rw [HE2.out]; rfl, rfl⟩
    by_cases c18 : fn = 18
    · subst c18
      have HE2 := Lib.hid (HE.out.trans (show _ = (decide ((i : Int) = 0), (0 : Int)) by simp))
      clear HE
      go_enter Tryz.func327, Tryz.ntmps327
      go_wp2_with fail
      refine HA.out.mono ?_
      rintro u w1 ⟨rfl, rfl⟩
      go_wp2
      go_ret2
      exact ⟨by rw [HE2.out]; rfl, rfl⟩
    by_cases c19 : fn = 19
    · subst c19
      have HE2 := Lib.hid (HE.out.trans (show _ = (decide ((i : Int) = 0), (0 : Int)) by simp))
      clear HE
      go_enter Tryz.func327, Tryz.ntmps327
      go_wp2_with fail
      refine HA.out.mono ?_
      rintro u w1 ⟨rfl, rfl⟩
      go_wp2
      go_ret2
      exact ⟨by rw [HE2.out]; rfl, rfl⟩
    by_cases c45 : fn = 45
    · subst c45
      have HE2 := Lib.hid (HE.out.trans (show _ = (decide ((i : Int) = 0), (0 : Int)) by simp))
      clear HE
      go_enter Tryz.func327, Tryz.ntmps327
      go_wp2_with fail
      refine HA.out.mono ?_
      rintro u w1 ⟨rfl, rfl⟩
      go_wp2
      go_ret2
      exact ⟨by rw [HE2.out]; rfl, rfl⟩
    by_cases c43 : fn = 43
    · subst c43
      have HE2 := Lib.hid (HE.out.trans (show _ = (decide ((i : Int) = 0), (0 : Int)) by simp))
      clear HE
      go_enter Tryz.func327, Tryz.ntmps327
      go_wp2_with fail
      refine HA.out.mono ?_
      rintro u w1 ⟨rfl, rfl⟩
      go_wp2
      go_ret2
      exact ⟨by rw [HE2.out]; rfl, rfl⟩
    by_cases c13 : fn = 13
    · subst c13
      have HE2 := Lib.hid (HE.out.trans (show _ = (decide ((i : Int) = 0), (0 : Int)) by simp))
      clear HE
      go_enter Tryz.func327, Tryz.ntmps327
      go_wp2_with fail
      refine HA.out.mono ?_
      rintro u w1 ⟨rfl, rfl⟩
      go_wp2
      go_ret2
      exact ⟨by rw [HE2.out]; rfl, rfl⟩
    have HE2 := Lib.hid (HE.out.trans (show _ = (relB fn, (0 : Int)) by rw [if_neg (by omega), if_neg (by omega), if_neg (by omega)]))
    clear HE
    have b9 : ((fn : Int) == 9) = false := by simp; omega
    have b10 : ((fn : Int) == 10) = false := by simp; omega
    have b11 : ((fn : Int) == 11) = false := by simp; omega
    have b12 : ((fn : Int) == 12) = false := by simp; omega
    have b14 : ((fn : Int) == 14) = false := by simp; omega
    have b15 : ((fn : Int) == 15) = false := by simp; omega
    have b16 : ((fn : Int) == 16) = false := by simp; omega
    have b17 : ((fn : Int) == 17) = false := by simp; omega
    have b44 : ((fn : Int) == 44) = false := by simp; omega
    have b18 : ((fn : Int) == 18) = false := by simp; omega
    have b19 : ((fn : Int) == 19) = false := by simp; omega
    have b45 : ((fn : Int) == 45) = false := by simp; omega
    have b43 : ((fn : Int) == 43) = false := by simp; omega
    have b13 : ((fn : Int) == 13) = false := by simp; omega
    clear c9 c10 c11 c12 c14 c15 c16 c17 c44 c18 c19 c45 c43 c13
    go_enter Tryz.func327, Tryz.ntmps327
    go_wp2_with fail
    refine HA.out.mono ?_
    rintro u w1 ⟨rfl, rfl⟩
    go_wp2_with fail
    refine (tree_released fn _).mono ?_
    rintro u w2 ⟨rfl, rfl⟩
    go_wp2
    go_ret2
    exact ⟨by rw [HE2.out]; rfl, rfl⟩
  · have HE := Lib.hid (HG.out (by omega))
    clear HL HG
    have hm' : m1 ≤ (i : Int) := by omega
    go_enter Tryz.func327, Tryz.ntmps327
    go_wp2_with fail
    refine HA.out.mono ?_
    rintro u w1 ⟨rfl, rfl⟩
    go_wp2
    go_ret2
    exact ⟨by rw [HE.out]; rfl, rfl⟩
theorem rect_corners (a b c d : Int) (w : World) :
    Calls Tryz.prog 198 #[.agg #[.int .i64 a, .int .i64 b, .int .i64 c, .int .i64 d]] w fun e w' => e = .returned (.tuple #[.agg #[.int .i64 a, .int .i64 b], .agg #[.int .i64 c, .int .i64 d]]) ∧ Below w.heap.size w w' := by
  go_enter Tryz.func198, Tryz.ntmps198
  go_wp2
  go_region
  go_wp2
  go_returns
  exact ⟨rfl, by go_grown⟩
/-- Go's error of a range that is not valid. -/
def rctE (x : Rct) : Int := if rctB x then 0 else 3
theorem rctE_no1 {a b c d : Int} (h : validB a b = false) : rctE ⟨a, b, c, d⟩ = 3 := by simp [rctE, rctB, h]
theorem rctE_no2 {a b c d : Int} (h : validB c d = false) : rctE ⟨a, b, c, d⟩ = 3 := by simp [rctE, rctB, h]
theorem rctE_no3 {a b c d : Int} (h : c < a) : rctE ⟨a, b, c, d⟩ = 3 := by simp [rctE, rctB]; omega
theorem rctE_no4 {a b c d : Int} (h : d < b) : rctE ⟨a, b, c, d⟩ = 3 := by simp [rctE, rctB]; omega
theorem rctE_yes {a b c d : Int} (h1 : validB a b = true) (h2 : validB c d = true) (h3 : ¬ c < a) (h4 : ¬ d < b) : rctE ⟨a, b, c, d⟩ = 0 := by simp [rctE, rctB, h1, h2]; omega
theorem rect_check (a b c d : Int) (w : World) :
    Calls Tryz.prog 172 #[.agg #[.int .i64 a, .int .i64 b, .int .i64 c, .int .i64 d]] w fun e w' => e = .returned (.int .i64 (rctE ⟨a, b, c, d⟩)) ∧ Below w.heap.size w w' := by
  go_enter Tryz.func172, Tryz.ntmps172
  go_wp2_with fail
  refine (rect_corners a b c d _).mono ?_
  rintro e w1 ⟨rfl, hb1⟩
  have hz1 := hb1.size
  try simp at hz1
  have hB1 : Below w.heap.size w w1 := Below.next (by go_grown) hb1 (by first | (simp; done) | (simp; omega) | omega)
  have hc1_0 : ∀ o, w1.cell? ⟨w.heap.size, o, none⟩ = _ := fun o => hb1.cell (p := ⟨w.heap.size, o, none⟩) (by first | (simp; done) | (simp; omega) | omega)
  have hl1_0 : w.heap.size < w1.heap.size := by omega
  have hm1_0 : w.heap.size ≤ w1.heap.size := by omega
  have hn1_0 : w.heap.size ≤ w1.heap.size + 1 := by omega
  have ho1_0 : w.heap.size ≤ w1.heap.size + 1 + 1 := by omega
  have hf1_0 : ∀ o, w1.frozen? ⟨w.heap.size, o, none⟩ = _ := fun o => hb1.frozen (p := ⟨w.heap.size, o, none⟩) (by first | (simp; done) | (simp; omega) | omega)
  go_wp2_with fail
  refine (addr_valid a b _).mono ?_
  rintro e w2 ⟨rfl, hb2⟩
  have hz2 := hb2.size
  try simp at hz2
  have hB2 : Below w.heap.size w w2 := Below.next (by go_grown) hb2 (by first | (simp; done) | (simp; omega) | omega)
  have hc2_0 : ∀ o, w2.cell? ⟨w.heap.size, o, none⟩ = _ := fun o => hb2.cell (p := ⟨w.heap.size, o, none⟩) (by first | (simp; done) | (simp; omega) | omega)
  have hl2_0 : w.heap.size < w2.heap.size := by omega
  have hm2_0 : w.heap.size ≤ w2.heap.size := by omega
  have hn2_0 : w.heap.size ≤ w2.heap.size + 1 := by omega
  have ho2_0 : w.heap.size ≤ w2.heap.size + 1 + 1 := by omega
  have hf2_0 : ∀ o, w2.frozen? ⟨w.heap.size, o, none⟩ = _ := fun o => hb2.frozen (p := ⟨w.heap.size, o, none⟩) (by first | (simp; done) | (simp; omega) | omega)
  have hc2_1 : ∀ o, w2.cell? ⟨w1.heap.size, o, none⟩ = _ := fun o => hb2.cell (p := ⟨w1.heap.size, o, none⟩) (by first | (simp; done) | (simp; omega) | omega)
  have hl2_1 : w1.heap.size < w2.heap.size := by omega
  have hm2_1 : w1.heap.size ≤ w2.heap.size := by omega
  have hn2_1 : w1.heap.size ≤ w2.heap.size + 1 := by omega
  have ho2_1 : w1.heap.size ≤ w2.heap.size + 1 + 1 := by omega
  have hf2_1 : ∀ o, w2.frozen? ⟨w1.heap.size, o, none⟩ = _ := fun o => hb2.frozen (p := ⟨w1.heap.size, o, none⟩) (by first | (simp; done) | (simp; omega) | omega)
  have hc2_2 : ∀ o, w2.cell? ⟨w1.heap.size + 1, o, none⟩ = _ := fun o => hb2.cell (p := ⟨w1.heap.size + 1, o, none⟩) (by first | (simp; done) | (simp; omega) | omega)
  have hl2_2 : w1.heap.size + 1 < w2.heap.size := by omega
  have hm2_2 : w1.heap.size + 1 ≤ w2.heap.size := by omega
  have hn2_2 : w1.heap.size + 1 ≤ w2.heap.size + 1 := by omega
  have ho2_2 : w1.heap.size + 1 ≤ w2.heap.size + 1 + 1 := by omega
  have hf2_2 : ∀ o, w2.frozen? ⟨w1.heap.size + 1, o, none⟩ = _ := fun o => hb2.frozen (p := ⟨w1.heap.size + 1, o, none⟩) (by first | (simp; done) | (simp; omega) | omega)
  cases h1 : validB a b
  · have H := Lib.hid (rctE_no1 (c := c) (d := d) h1)
    go_wp2
    go_ret
    exact ⟨by rw [H.out]; rfl, by go_grown⟩
  · skip
    go_wp2_with fail
    refine (addr_valid c d _).mono ?_
    rintro e w3 ⟨rfl, hb3⟩
    have hz3 := hb3.size
    try simp at hz3
    have hB3 : Below w.heap.size w w3 := Below.next (by go_grown) hb3 (by first | (simp; done) | (simp; omega) | omega)
    have hc3_0 : ∀ o, w3.cell? ⟨w.heap.size, o, none⟩ = _ := fun o => hb3.cell (p := ⟨w.heap.size, o, none⟩) (by first | (simp; done) | (simp; omega) | omega)
    have hl3_0 : w.heap.size < w3.heap.size := by omega
    have hm3_0 : w.heap.size ≤ w3.heap.size := by omega
    have hn3_0 : w.heap.size ≤ w3.heap.size + 1 := by omega
    have ho3_0 : w.heap.size ≤ w3.heap.size + 1 + 1 := by omega
    have hf3_0 : ∀ o, w3.frozen? ⟨w.heap.size, o, none⟩ = _ := fun o => hb3.frozen (p := ⟨w.heap.size, o, none⟩) (by first | (simp; done) | (simp; omega) | omega)
    cases h2 : validB c d
    · have H := Lib.hid (rctE_no2 (a := a) (b := b) h2)
      go_wp2
      go_ret
      exact ⟨by rw [H.out]; rfl, by go_grown⟩
    · by_cases h3 : c < a
      · have H := Lib.hid (rctE_no3 (b := b) (d := d) h3)
        go_wp2
        go_ret
        exact ⟨by rw [H.out]; rfl, by go_grown⟩
      · by_cases h4 : d < b
        · have H := Lib.hid (rctE_no4 (a := a) (c := c) h4)
          go_wp2
          go_ret
          exact ⟨by rw [H.out]; rfl, by go_grown⟩
        · have H := Lib.hid (rctE_yes h1 h2 h3 h4)
          go_wp2
          go_ret
          exact ⟨by rw [H.out]; rfl, by go_grown⟩
end Go.Proofs.YtamcgggmfghljaaGreatDoor
