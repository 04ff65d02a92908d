/- Layer 5 (program): texts as bools. -/
import Derived.ChangeMaps4
import Derived.Deep.RegionHeld3
import Derived.Test.YtamcgggmfghljaaGreatDoorR2
namespace Go.Proofs.YtamcgggmfghljaaGreatDoor
open Go.RowKit

abbrev vVal (k n : Int) (s : Bytes) : Value := .agg #[.int .u8 k, .int .i64 n, str s]

/-- No entry has this key. -/
def freeKey (k : Int) (es : Array MapEntry) : Bool := es.toList.all fun x => match x.key with
  | .int .u8 a => !decide (k = a)
  | _ => false
theorem findNow_free (k : Int) : ∀ (l : List MapEntry) (i : Nat), (l.all fun x => match x.key with | .int .u8 a => !decide (k = a) | _ => false) = true → Instr.findNow (.int .u8) (.int .u8 k) l i = some none
  | [], _, _ => rfl
  | x :: l, i, h => by
    rw [List.all_cons, Bool.and_eq_true] at h
    obtain ⟨h1, h2⟩ := h
    obtain ⟨key, val, born⟩ := x
    have ih := findNow_free k l (i + 1) h2
    match key, h1 with
    | .int .u8 a, h1 =>
      have hne : (k == a) = false := by simpa using h1
      simp [Instr.findNow, Instr.sameNow, hne, ih]
theorem run_store_free {P : Program} (t kt e : TypeId) (ht : P.underlying t = some (.map kt e)) (hk : P.underlying kt = some (.int .u8)) (W : World) (n : Nat) (hn : n = W.heap.size) (es : Array MapEntry) (c : Nat) (k : Int) (v : Value) (h : freeKey k es = true) :
    (Instr.mapUpdate t (.map (some n)) (.int .u8 k) v).run P (W.alloc (.map es c)) = .ok () (W.alloc (.map (es.push ⟨.int .u8 k, v, c⟩) (c + 1))) := by
  subst hn
  have hf := findNow_free k es.toList 0 h
  have hb : (W.alloc (.map es c)).heap[W.heap.size]? = some (.map es c) := heap_alloc_new W _
  have hs : ∀ o : Obj, ({ W.alloc (.map es c) with heap := (W.alloc (.map es c)).heap.setIfInBounds W.heap.size o } : World) = W.alloc o := fun o => by
    have he : (W.heap.push (.map es c)).setIfInBounds W.heap.size o = W.heap.push o := by
      apply Array.ext'
      simp [Array.setIfInBounds, Array.toList_push]
    exact congrArg (fun H => World.mk H W.tape W.drawn W.os W.output) he
  have hkey : MapKept.IsKey (.int .u8) (.int .u8 k) := rfl
  simp [Instr.mapUpdate, run_underlying ht, MapKept.run_getObj_map hb, MapKept.run_checkKey hk hkey, MapKept.run_findKey hk hf, MapKept.run_setObj_map _ hb, Result.andThen]
  exact hs _

theorem run_look_at {P : Program} (t kt e : TypeId) (ht : P.underlying t = some (.map kt e)) (hk : P.underlying kt = some (.int .u8)) (W : World) (n : Nat) (es : Array MapEntry) (c : Nat) (k : Int) (i : Nat) (v : Value) (hb : W.heap[n]? = some (.map es c))
    (hf : Instr.findNow (.int .u8) (.int .u8 k) es.toList 0 = some (some (i, v))) :
    (Instr.lookup t (.map (some n)) (.int .u8 k) true).run P W = .ok (.tuple #[v, .bool true]) W := by
  have hkey : MapKept.IsKey (.int .u8) (.int .u8 k) := rfl
  simp [Instr.lookup, run_underlying ht, MapKept.run_getObj_map hb, MapKept.run_checkKey hk hkey, MapKept.run_findKey hk hf, Result.andThen]

set_option maxRecDepth 100000 in
set_option maxHeartbeats 4000000 in
theorem val_check (s : Bytes) (w : World) (hs : txtE s = 0) (hl : s.length ≤ 1000000) :
    Calls Tryz.prog 270 #[vVal 3 0 s] w fun u w' => u = .returned (.int .i64 0) ∧ Below w.heap.size w w' := by
  have HS := Lib.hid hs
  clear hs
  go_enter Tryz.func270, Tryz.ntmps270
  go_wp2_with fail
  refine (glyph_check s _ (by omega)).mono ?_
  rintro e w1 ⟨rfl, hb⟩
  rw [HS.out]
  have HB := Lib.hid (show Below w.heap.size w w1 from Below.next (by go_grown) hb (by simp))
  clear hb
  go_wp2
  go_ret
  exact ⟨rfl, HB.out⟩

/-- What a text may be converted by. -/
def boolMap (s : Bytes) : Array MapEntry := #[⟨.int .u8 0, .func (.func 240) #[vVal 3 0 s] #[], 0⟩, ⟨.int .u8 1, .func (.func 240) #[vVal 3 0 s] #[], 1⟩, ⟨.int .u8 2, .func (.func 241) #[vVal 3 0 s] #[], 2⟩, ⟨.int .u8 3, .func (.func 242) #[vVal 3 0 s] #[], 3⟩, ⟨.int .u8 4, .func (.func 241) #[vVal 3 0 s] #[], 4⟩]
set_option maxRecDepth 100000 in
set_option maxHeartbeats 4000000 in
theorem tobool_1 (s : Bytes) (w : World) :
    Calls Tryz.prog 239 #[vVal 3 0 s] w fun u w' => ∃ n, u = .returned (.map (some n)) ∧ w'.heap[n]? = some (.map (boolMap s) 5) ∧ Below w.heap.size w w' := by
  have hmk : ∀ w : World, (Instr.makeMap 253 none).run Tryz.prog w = .ok (.map (some w.heap.size)) (w.alloc (.map #[] 0)) := fun w => by rfl
  have hw : (w.alloc (.cells #[.int .u8 3, .int .i64 0, str s] 252)).heap.size = w.heap.size + 1 := by simp
  have s0 : (Instr.mapUpdate 253 (.map (some (w.heap.size + 1))) (.int .u8 0) (.func (.func 240) #[vVal 3 0 s] #[])).run Tryz.prog ((w.alloc (.cells #[.int .u8 3, .int .i64 0, str s] 252)).alloc (.map #[] 0)) = .ok () ((w.alloc (.cells #[.int .u8 3, .int .i64 0, str s] 252)).alloc (.map #[⟨.int .u8 0, .func (.func 240) #[vVal 3 0 s] #[], 0⟩] 1)) :=
    run_store_free _ _ _ Tryz.underlying253 Tryz.underlying5 _ _ hw.symm _ _ _ _ rfl
  have s1 : (Instr.mapUpdate 253 (.map (some (w.heap.size + 1))) (.int .u8 1) (.func (.func 240) #[vVal 3 0 s] #[])).run Tryz.prog ((w.alloc (.cells #[.int .u8 3, .int .i64 0, str s] 252)).alloc (.map #[⟨.int .u8 0, .func (.func 240) #[vVal 3 0 s] #[], 0⟩] 1)) = .ok () ((w.alloc (.cells #[.int .u8 3, .int .i64 0, str s] 252)).alloc (.map #[⟨.int .u8 0, .func (.func 240) #[vVal 3 0 s] #[], 0⟩, ⟨.int .u8 1, .func (.func 240) #[vVal 3 0 s] #[], 1⟩] 2)) :=
    run_store_free _ _ _ Tryz.underlying253 Tryz.underlying5 _ _ hw.symm _ _ _ _ rfl
  have s2 : (Instr.mapUpdate 253 (.map (some (w.heap.size + 1))) (.int .u8 2) (.func (.func 241) #[vVal 3 0 s] #[])).run Tryz.prog ((w.alloc (.cells #[.int .u8 3, .int .i64 0, str s] 252)).alloc (.map #[⟨.int .u8 0, .func (.func 240) #[vVal 3 0 s] #[], 0⟩, ⟨.int .u8 1, .func (.func 240) #[vVal 3 0 s] #[], 1⟩] 2)) = .ok () ((w.alloc (.cells #[.int .u8 3, .int .i64 0, str s] 252)).alloc (.map #[⟨.int .u8 0, .func (.func 240) #[vVal 3 0 s] #[], 0⟩, ⟨.int .u8 1, .func (.func 240) #[vVal 3 0 s] #[], 1⟩, ⟨.int .u8 2, .func (.func 241) #[vVal 3 0 s] #[], 2⟩] 3)) :=
    run_store_free _ _ _ Tryz.underlying253 Tryz.underlying5 _ _ hw.symm _ _ _ _ rfl
  have s3 : (Instr.mapUpdate 253 (.map (some (w.heap.size + 1))) (.int .u8 3) (.func (.func 242) #[vVal 3 0 s] #[])).run Tryz.prog ((w.alloc (.cells #[.int .u8 3, .int .i64 0, str s] 252)).alloc (.map #[⟨.int .u8 0, .func (.func 240) #[vVal 3 0 s] #[], 0⟩, ⟨.int .u8 1, .func (.func 240) #[vVal 3 0 s] #[], 1⟩, ⟨.int .u8 2, .func (.func 241) #[vVal 3 0 s] #[], 2⟩] 3)) = .ok () ((w.alloc (.cells #[.int .u8 3, .int .i64 0, str s] 252)).alloc (.map #[⟨.int .u8 0, .func (.func 240) #[vVal 3 0 s] #[], 0⟩, ⟨.int .u8 1, .func (.func 240) #[vVal 3 0 s] #[], 1⟩, ⟨.int .u8 2, .func (.func 241) #[vVal 3 0 s] #[], 2⟩, ⟨.int .u8 3, .func (.func 242) #[vVal 3 0 s] #[], 3⟩] 4)) :=
    run_store_free _ _ _ Tryz.underlying253 Tryz.underlying5 _ _ hw.symm _ _ _ _ rfl
  have s4 : (Instr.mapUpdate 253 (.map (some (w.heap.size + 1))) (.int .u8 4) (.func (.func 241) #[vVal 3 0 s] #[])).run Tryz.prog ((w.alloc (.cells #[.int .u8 3, .int .i64 0, str s] 252)).alloc (.map #[⟨.int .u8 0, .func (.func 240) #[vVal 3 0 s] #[], 0⟩, ⟨.int .u8 1, .func (.func 240) #[vVal 3 0 s] #[], 1⟩, ⟨.int .u8 2, .func (.func 241) #[vVal 3 0 s] #[], 2⟩, ⟨.int .u8 3, .func (.func 242) #[vVal 3 0 s] #[], 3⟩] 4)) = .ok () ((w.alloc (.cells #[.int .u8 3, .int .i64 0, str s] 252)).alloc (.map #[⟨.int .u8 0, .func (.func 240) #[vVal 3 0 s] #[], 0⟩, ⟨.int .u8 1, .func (.func 240) #[vVal 3 0 s] #[], 1⟩, ⟨.int .u8 2, .func (.func 241) #[vVal 3 0 s] #[], 2⟩, ⟨.int .u8 3, .func (.func 242) #[vVal 3 0 s] #[], 3⟩, ⟨.int .u8 4, .func (.func 241) #[vVal 3 0 s] #[], 4⟩] 5)) :=
    run_store_free _ _ _ Tryz.underlying253 Tryz.underlying5 _ _ hw.symm _ _ _ _ rfl
  go_enter Tryz.func239, Tryz.ntmps239
  go_wp2
  go_ret
  refine ⟨_, rfl, ?_, by go_grown⟩
  have := heap_alloc_new (w.alloc (.cells #[.int .u8 3, .int .i64 0, str s] 252)) (.map (boolMap s) 5)
  rw [hw] at this
  exact this

def tT : Bytes := [84, 82, 85, 69]
def tF : Bytes := [70, 65, 76, 83, 69]
/-- A text as a bool, or #VALUE!. -/
def boolV (s : Bytes) : Value := if upB s = tT then vVal 2 1 [] else if upB s = tF then vVal 2 0 [] else vVal 4 2 []
set_option maxRecDepth 100000 in
set_option maxHeartbeats 4000000 in
theorem named_any (s : Bytes) (w : World) (hl : s.length ≤ 1000000) :
    Calls Tryz.prog 242 #[vVal 3 0 s] w fun u w' => u = .returned (boolV s) ∧ Below w.heap.size w w' := by
  by_cases c1 : upB s = tT
  · have H := Lib.hid (show boolV s = vVal 2 1 [] by unfold boolV; rw [if_pos c1])
    have t1 : (upB s == [84, 82, 85, 69]) = true := by rw [c1]; rfl
    clear c1
    go_enter Tryz.func242, Tryz.ntmps242
    go_wp2_with fail
    refine (upper_any s _ hl).mono ?_
    rintro e w1 ⟨rfl, hb1⟩
    have hz1 := hb1.size
    try simp at hz1
    have hB1 : Below w.heap.size w w1 := Below.next (by go_grown) hb1 (by first | (simp; done) | (simp; omega) | omega)
    have hc1_0 : ∀ o, w1.cell? ⟨w.heap.size, o, none⟩ = _ := fun o => hb1.cell (p := ⟨w.heap.size, o, none⟩) (by first | (simp; done) | (simp; omega) | omega)
    have hl1_0 : w.heap.size < w1.heap.size := by omega
    have hm1_0 : w.heap.size ≤ w1.heap.size := by omega
    have hn1_0 : w.heap.size ≤ w1.heap.size + 1 := by omega
    have ho1_0 : w.heap.size ≤ w1.heap.size + 1 + 1 := by omega
    have hf1_0 : ∀ o, w1.frozen? ⟨w.heap.size, o, none⟩ = _ := fun o => hb1.frozen (p := ⟨w.heap.size, o, none⟩) (by first | (simp; done) | (simp; omega) | omega)
    have hc1_1 : ∀ o, w1.cell? ⟨w.heap.size + 1, o, none⟩ = _ := fun o => hb1.cell (p := ⟨w.heap.size + 1, o, none⟩) (by first | (simp; done) | (simp; omega) | omega)
    have hl1_1 : w.heap.size + 1 < w1.heap.size := by omega
    have hm1_1 : w.heap.size + 1 ≤ w1.heap.size := by omega
    have hn1_1 : w.heap.size + 1 ≤ w1.heap.size + 1 := by omega
    have ho1_1 : w.heap.size + 1 ≤ w1.heap.size + 1 + 1 := by omega
    have hf1_1 : ∀ o, w1.frozen? ⟨w.heap.size + 1, o, none⟩ = _ := fun o => hb1.frozen (p := ⟨w.heap.size + 1, o, none⟩) (by first | (simp; done) | (simp; omega) | omega)
    go_wp2
    refine bodyPost_ret (v := .agg #[.int .u8 2, .int .i64 1, str []]) (by simp (maxDischargeDepth := 9) [results, Tryz.results242, go_sem, hc1_1, hl1_1]) rfl ?_
    exact ⟨by rw [H.out], by go_grown⟩
  · have t1 : (upB s == [84, 82, 85, 69]) = false := by rw [beq_eq_false_iff_ne]; exact c1
    by_cases c2 : upB s = tF
    · have H := Lib.hid (show boolV s = vVal 2 0 [] by unfold boolV; rw [if_neg c1, if_pos c2])
      have t2 : (upB s == [70, 65, 76, 83, 69]) = true := by rw [c2]; rfl
      clear c1 c2
      go_enter Tryz.func242, Tryz.ntmps242
      go_wp2_with fail
      refine (upper_any s _ hl).mono ?_
      rintro e w1 ⟨rfl, hb1⟩
      have hz1 := hb1.size
      try simp at hz1
      have hB1 : Below w.heap.size w w1 := Below.next (by go_grown) hb1 (by first | (simp; done) | (simp; omega) | omega)
      have hc1_0 : ∀ o, w1.cell? ⟨w.heap.size, o, none⟩ = _ := fun o => hb1.cell (p := ⟨w.heap.size, o, none⟩) (by first | (simp; done) | (simp; omega) | omega)
      have hl1_0 : w.heap.size < w1.heap.size := by omega
      have hm1_0 : w.heap.size ≤ w1.heap.size := by omega
      have hn1_0 : w.heap.size ≤ w1.heap.size + 1 := by omega
      have ho1_0 : w.heap.size ≤ w1.heap.size + 1 + 1 := by omega
      have hf1_0 : ∀ o, w1.frozen? ⟨w.heap.size, o, none⟩ = _ := fun o => hb1.frozen (p := ⟨w.heap.size, o, none⟩) (by first | (simp; done) | (simp; omega) | omega)
      have hc1_1 : ∀ o, w1.cell? ⟨w.heap.size + 1, o, none⟩ = _ := fun o => hb1.cell (p := ⟨w.heap.size + 1, o, none⟩) (by first | (simp; done) | (simp; omega) | omega)
      have hl1_1 : w.heap.size + 1 < w1.heap.size := by omega
      have hm1_1 : w.heap.size + 1 ≤ w1.heap.size := by omega
      have hn1_1 : w.heap.size + 1 ≤ w1.heap.size + 1 := by omega
      have ho1_1 : w.heap.size + 1 ≤ w1.heap.size + 1 + 1 := by omega
      have hf1_1 : ∀ o, w1.frozen? ⟨w.heap.size + 1, o, none⟩ = _ := fun o => hb1.frozen (p := ⟨w.heap.size + 1, o, none⟩) (by first | (simp; done) | (simp; omega) | omega)
      go_wp2
      refine bodyPost_ret (v := .agg #[.int .u8 2, .int .i64 0, str []]) (by simp (maxDischargeDepth := 9) [results, Tryz.results242, go_sem, hc1_1, hl1_1]) rfl ?_
      exact ⟨by rw [H.out], by go_grown⟩
    · have H := Lib.hid (show boolV s = vVal 4 2 [] by unfold boolV; rw [if_neg c1, if_neg c2])
      have t2 : (upB s == [70, 65, 76, 83, 69]) = false := by rw [beq_eq_false_iff_ne]; exact c2
      clear c1 c2
      go_enter Tryz.func242, Tryz.ntmps242
      go_wp2_with fail
      refine (upper_any s _ hl).mono ?_
      rintro e w1 ⟨rfl, hb1⟩
      have hz1 := hb1.size
      try simp at hz1
      have hB1 : Below w.heap.size w w1 := Below.next (by go_grown) hb1 (by first | (simp; done) | (simp; omega) | omega)
      have hc1_0 : ∀ o, w1.cell? ⟨w.heap.size, o, none⟩ = _ := fun o => hb1.cell (p := ⟨w.heap.size, o, none⟩) (by first | (simp; done) | (simp; omega) | omega)
      have hl1_0 : w.heap.size < w1.heap.size := by omega
      have hm1_0 : w.heap.size ≤ w1.heap.size := by omega
      have hn1_0 : w.heap.size ≤ w1.heap.size + 1 := by omega
      have ho1_0 : w.heap.size ≤ w1.heap.size + 1 + 1 := by omega
      have hf1_0 : ∀ o, w1.frozen? ⟨w.heap.size, o, none⟩ = _ := fun o => hb1.frozen (p := ⟨w.heap.size, o, none⟩) (by first | (simp; done) | (simp; omega) | omega)
      have hc1_1 : ∀ o, w1.cell? ⟨w.heap.size + 1, o, none⟩ = _ := fun o => hb1.cell (p := ⟨w.heap.size + 1, o, none⟩) (by first | (simp; done) | (simp; omega) | omega)
      have hl1_1 : w.heap.size + 1 < w1.heap.size := by omega
      have hm1_1 : w.heap.size + 1 ≤ w1.heap.size := by omega
      have hn1_1 : w.heap.size + 1 ≤ w1.heap.size + 1 := by omega
      have ho1_1 : w.heap.size + 1 ≤ w1.heap.size + 1 + 1 := by omega
      have hf1_1 : ∀ o, w1.frozen? ⟨w.heap.size + 1, o, none⟩ = _ := fun o => hb1.frozen (p := ⟨w.heap.size + 1, o, none⟩) (by first | (simp; done) | (simp; omega) | omega)
      go_wp2
      refine bodyPost_ret (v := .agg #[.int .u8 4, .int .i64 2, str []]) (by simp (maxDischargeDepth := 9) [results, Tryz.results242, go_sem, hc1_1, hl1_1]) rfl ?_
      exact ⟨by rw [H.out], by go_grown⟩

end Go.Proofs.YtamcgggmfghljaaGreatDoor
