/- Layer 8 (program): a node's fields, what is below it (printed by tools/gen_treea.py). · Layer 8 (program): may trees stand below a node (printed by tools/gen_treeb.py). -/
import Derived.Deep.QuietTactic
import Derived.BigQuiet
import Derived.Test.YtamcgggmfghljaaGreatDoorC20
set_option maxRecDepth 100000
set_option maxHeartbeats 8000000
namespace Go.Proofs.YtamcgggmfghljaaGreatDoor
open Go.RowKit
theorem neq_nod (x : Nod) (w : World) : (binOp .neq 297 (.agg (cNod x).toArray) (.agg (cNod x).toArray)).run Tryz.prog w = .ok (.bool false) w := by
  simp [go_sem, cNod]
def FieldsOk (n : Nod) : Prop := ∀ w : World, Calls Tryz.prog 308 #[.agg (cNod n).toArray] w fun u w' => u = .returned (.int .i64 0) ∧ Below w.heap.size w w'
theorem fields_num (v : Int) (h : 0 ≤ v) : FieldsOk { nod0 1 with vk := 1, vn := v } := by
  intro w
  have hne : ∀ W : World, (binOp .neq 297 (.agg #[.int .u8 1, .int .u8 1, .int .i64 v, str [], .int .i64 0, .int .i64 0, .int .i64 0, .int .i64 0, .int .i64 0, .int .u8 0, .int .i64 0]) (.agg #[.int .u8 1, .int .u8 1, .int .i64 v, str [], .int .i64 0, .int .i64 0, .int .i64 0, .int .i64 0, .int .i64 0, .int .u8 0, .int .i64 0])).run Tryz.prog W = .ok (.bool false) W := fun W => neq_nod { nod0 1 with vk := 1, vn := v } W
  rw [show (cNod { nod0 1 with vk := 1, vn := v }).toArray = #[.int .u8 1, .int .u8 1, .int .i64 v, str [], .int .i64 0, .int .i64 0, .int .i64 0, .int .i64 0, .int .i64 0, .int .u8 0, .int .i64 0] from rfl]
  go_enter Tryz.func308, Tryz.ntmps308
  go_wp2_with fail
  refine (val_num v _ h).mono ?_
  rintro e w1 ⟨rfl, hb1⟩
  have hz1 := hb1.size
  try simp at hz1
  have hB1 : Below w.heap.size w w1 := Below.next (by go_grown) hb1 (by first | (simp; done) | (simp; omega) | omega)
  have hc1_0 : ∀ o, w1.cell? ⟨w.heap.size, o, none⟩ = _ := fun o => hb1.cell (p := ⟨w.heap.size, o, none⟩) (by first | (simp; done) | (simp; omega) | omega)
  have hl1_0 : w.heap.size < w1.heap.size := by omega
  have hm1_0 : w.heap.size ≤ w1.heap.size := by omega
  have hn1_0 : w.heap.size ≤ w1.heap.size + 1 := by omega
  have ho1_0 : w.heap.size ≤ w1.heap.size + 1 + 1 := by omega
  have hf1_0 : ∀ o, w1.frozen? ⟨w.heap.size, o, none⟩ = _ := fun o => hb1.frozen (p := ⟨w.heap.size, o, none⟩) (by first | (simp; done) | (simp; omega) | omega)
  have hc1_1 : ∀ o, w1.cell? ⟨w.heap.size + 1, o, none⟩ = _ := fun o => hb1.cell (p := ⟨w.heap.size + 1, o, none⟩) (by first | (simp; done) | (simp; omega) | omega)
  have hl1_1 : w.heap.size + 1 < w1.heap.size := by omega
  have hm1_1 : w.heap.size + 1 ≤ w1.heap.size := by omega
  have hn1_1 : w.heap.size + 1 ≤ w1.heap.size + 1 := by omega
  have ho1_1 : w.heap.size + 1 ≤ w1.heap.size + 1 + 1 := by omega
  have hf1_1 : ∀ o, w1.frozen? ⟨w.heap.size + 1, o, none⟩ = _ := fun o => hb1.frozen (p := ⟨w.heap.size + 1, o, none⟩) (by first | (simp; done) | (simp; omega) | omega)
  go_wp2
  go_ret
  exact ⟨rfl, by go_grown⟩
theorem fields_text (x : Bytes) (h : txtE x = 0) (hl : x.length ≤ 1000000) : FieldsOk { nod0 1 with vk := 3, vt := x } := by
  intro w
  have hne : ∀ W : World, (binOp .neq 297 (.agg #[.int .u8 1, .int .u8 3, .int .i64 0, str x, .int .i64 0, .int .i64 0, .int .i64 0, .int .i64 0, .int .i64 0, .int .u8 0, .int .i64 0]) (.agg #[.int .u8 1, .int .u8 3, .int .i64 0, str x, .int .i64 0, .int .i64 0, .int .i64 0, .int .i64 0, .int .i64 0, .int .u8 0, .int .i64 0])).run Tryz.prog W = .ok (.bool false) W := fun W => neq_nod { nod0 1 with vk := 3, vt := x } W
  rw [show (cNod { nod0 1 with vk := 3, vt := x }).toArray = #[.int .u8 1, .int .u8 3, .int .i64 0, str x, .int .i64 0, .int .i64 0, .int .i64 0, .int .i64 0, .int .i64 0, .int .u8 0, .int .i64 0] from rfl]
  go_enter Tryz.func308, Tryz.ntmps308
  go_wp2_with fail
  refine (val_check x _ h hl).mono ?_
  rintro e w1 ⟨rfl, hb1⟩
  have hz1 := hb1.size
  try simp at hz1
  have hB1 : Below w.heap.size w w1 := Below.next (by go_grown) hb1 (by first | (simp; done) | (simp; omega) | omega)
  have hc1_0 : ∀ o, w1.cell? ⟨w.heap.size, o, none⟩ = _ := fun o => hb1.cell (p := ⟨w.heap.size, o, none⟩) (by first | (simp; done) | (simp; omega) | omega)
  have hl1_0 : w.heap.size < w1.heap.size := by omega
  have hm1_0 : w.heap.size ≤ w1.heap.size := by omega
  have hn1_0 : w.heap.size ≤ w1.heap.size + 1 := by omega
  have ho1_0 : w.heap.size ≤ w1.heap.size + 1 + 1 := by omega
  have hf1_0 : ∀ o, w1.frozen? ⟨w.heap.size, o, none⟩ = _ := fun o => hb1.frozen (p := ⟨w.heap.size, o, none⟩) (by first | (simp; done) | (simp; omega) | omega)
  have hc1_1 : ∀ o, w1.cell? ⟨w.heap.size + 1, o, none⟩ = _ := fun o => hb1.cell (p := ⟨w.heap.size + 1, o, none⟩) (by first | (simp; done) | (simp; omega) | omega)
  have hl1_1 : w.heap.size + 1 < w1.heap.size := by omega
  have hm1_1 : w.heap.size + 1 ≤ w1.heap.size := by omega
  have hn1_1 : w.heap.size + 1 ≤ w1.heap.size + 1 := by omega
  have ho1_1 : w.heap.size + 1 ≤ w1.heap.size + 1 + 1 := by omega
  have hf1_1 : ∀ o, w1.frozen? ⟨w.heap.size + 1, o, none⟩ = _ := fun o => hb1.frozen (p := ⟨w.heap.size + 1, o, none⟩) (by first | (simp; done) | (simp; omega) | omega)
  go_wp2
  go_ret
  exact ⟨rfl, by go_grown⟩
theorem fields_bool (v : Int) (h : v = 0 ∨ v = 1) : FieldsOk { nod0 1 with vk := 2, vn := v } := by
  intro w
  have hne : ∀ W : World, (binOp .neq 297 (.agg #[.int .u8 1, .int .u8 2, .int .i64 v, str [], .int .i64 0, .int .i64 0, .int .i64 0, .int .i64 0, .int .i64 0, .int .u8 0, .int .i64 0]) (.agg #[.int .u8 1, .int .u8 2, .int .i64 v, str [], .int .i64 0, .int .i64 0, .int .i64 0, .int .i64 0, .int .i64 0, .int .u8 0, .int .i64 0])).run Tryz.prog W = .ok (.bool false) W := fun W => neq_nod { nod0 1 with vk := 2, vn := v } W
  rw [show (cNod { nod0 1 with vk := 2, vn := v }).toArray = #[.int .u8 1, .int .u8 2, .int .i64 v, str [], .int .i64 0, .int .i64 0, .int .i64 0, .int .i64 0, .int .i64 0, .int .u8 0, .int .i64 0] from rfl]
  have H := Lib.hid h
  clear h
  go_enter Tryz.func308, Tryz.ntmps308
  go_wp2_with fail
  refine (val_bool v _ H.out).mono ?_
  rintro e w1 ⟨rfl, hb1⟩
  have hz1 := hb1.size
  try simp at hz1
  have hB1 : Below w.heap.size w w1 := Below.next (by go_grown) hb1 (by first | (simp; done) | (simp; omega) | omega)
  have hc1_0 : ∀ o, w1.cell? ⟨w.heap.size, o, none⟩ = _ := fun o => hb1.cell (p := ⟨w.heap.size, o, none⟩) (by first | (simp; done) | (simp; omega) | omega)
  have hl1_0 : w.heap.size < w1.heap.size := by omega
  have hm1_0 : w.heap.size ≤ w1.heap.size := by omega
  have hn1_0 : w.heap.size ≤ w1.heap.size + 1 := by omega
  have ho1_0 : w.heap.size ≤ w1.heap.size + 1 + 1 := by omega
  have hf1_0 : ∀ o, w1.frozen? ⟨w.heap.size, o, none⟩ = _ := fun o => hb1.frozen (p := ⟨w.heap.size, o, none⟩) (by first | (simp; done) | (simp; omega) | omega)
  have hc1_1 : ∀ o, w1.cell? ⟨w.heap.size + 1, o, none⟩ = _ := fun o => hb1.cell (p := ⟨w.heap.size + 1, o, none⟩) (by first | (simp; done) | (simp; omega) | omega)
  have hl1_1 : w.heap.size + 1 < w1.heap.size := by omega
  have hm1_1 : w.heap.size + 1 ≤ w1.heap.size := by omega
  have hn1_1 : w.heap.size + 1 ≤ w1.heap.size + 1 := by omega
  have ho1_1 : w.heap.size + 1 ≤ w1.heap.size + 1 + 1 := by omega
  have hf1_1 : ∀ o, w1.frozen? ⟨w.heap.size + 1, o, none⟩ = _ := fun o => hb1.frozen (p := ⟨w.heap.size + 1, o, none⟩) (by first | (simp; done) | (simp; omega) | omega)
  go_wp2
  go_ret
  exact ⟨rfl, by go_grown⟩
theorem fields_err (v : Int) (h1 : 1 ≤ v) (h2 : v ≤ 5) : FieldsOk { nod0 1 with vk := 4, vn := v } := by
  intro w
  have hne : ∀ W : World, (binOp .neq 297 (.agg #[.int .u8 1, .int .u8 4, .int .i64 v, str [], .int .i64 0, .int .i64 0, .int .i64 0, .int .i64 0, .int .i64 0, .int .u8 0, .int .i64 0]) (.agg #[.int .u8 1, .int .u8 4, .int .i64 v, str [], .int .i64 0, .int .i64 0, .int .i64 0, .int .i64 0, .int .i64 0, .int .u8 0, .int .i64 0])).run Tryz.prog W = .ok (.bool false) W := fun W => neq_nod { nod0 1 with vk := 4, vn := v } W
  rw [show (cNod { nod0 1 with vk := 4, vn := v }).toArray = #[.int .u8 1, .int .u8 4, .int .i64 v, str [], .int .i64 0, .int .i64 0, .int .i64 0, .int .i64 0, .int .i64 0, .int .u8 0, .int .i64 0] from rfl]
  go_enter Tryz.func308, Tryz.ntmps308
  go_wp2_with fail
  refine (val_err v _ h1 (by omega)).mono ?_
  rintro e w1 ⟨rfl, hb1⟩
  have hz1 := hb1.size
  try simp at hz1
  have hB1 : Below w.heap.size w w1 := Below.next (by go_grown) hb1 (by first | (simp; done) | (simp; omega) | omega)
  have hc1_0 : ∀ o, w1.cell? ⟨w.heap.size, o, none⟩ = _ := fun o => hb1.cell (p := ⟨w.heap.size, o, none⟩) (by first | (simp; done) | (simp; omega) | omega)
  have hl1_0 : w.heap.size < w1.heap.size := by omega
  have hm1_0 : w.heap.size ≤ w1.heap.size := by omega
  have hn1_0 : w.heap.size ≤ w1.heap.size + 1 := by omega
  have ho1_0 : w.heap.size ≤ w1.heap.size + 1 + 1 := by omega
  have hf1_0 : ∀ o, w1.frozen? ⟨w.heap.size, o, none⟩ = _ := fun o => hb1.frozen (p := ⟨w.heap.size, o, none⟩) (by first | (simp; done) | (simp; omega) | omega)
  have hc1_1 : ∀ o, w1.cell? ⟨w.heap.size + 1, o, none⟩ = _ := fun o => hb1.cell (p := ⟨w.heap.size + 1, o, none⟩) (by first | (simp; done) | (simp; omega) | omega)
  have hl1_1 : w.heap.size + 1 < w1.heap.size := by omega
  have hm1_1 : w.heap.size + 1 ≤ w1.heap.size := by omega
  have hn1_1 : w.heap.size + 1 ≤ w1.heap.size + 1 := by omega
  have ho1_1 : w.heap.size + 1 ≤ w1.heap.size + 1 + 1 := by omega
  have hf1_1 : ∀ o, w1.frozen? ⟨w.heap.size + 1, o, none⟩ = _ := fun o => hb1.frozen (p := ⟨w.heap.size + 1, o, none⟩) (by first | (simp; done) | (simp; omega) | omega)
  go_wp2
  go_ret
  exact ⟨rfl, by go_grown⟩
theorem fields_neg  : FieldsOk (nod0 4) := by
  intro w
  have hne : ∀ W : World, (binOp .neq 297 (.agg #[.int .u8 4, .int .u8 0, .int .i64 0, str [], .int .i64 0, .int .i64 0, .int .i64 0, .int .i64 0, .int .i64 0, .int .u8 0, .int .i64 0]) (.agg #[.int .u8 4, .int .u8 0, .int .i64 0, str [], .int .i64 0, .int .i64 0, .int .i64 0, .int .i64 0, .int .i64 0, .int .u8 0, .int .i64 0])).run Tryz.prog W = .ok (.bool false) W := fun W => neq_nod (nod0 4) W
  rw [show (cNod (nod0 4)).toArray = #[.int .u8 4, .int .u8 0, .int .i64 0, str [], .int .i64 0, .int .i64 0, .int .i64 0, .int .i64 0, .int .i64 0, .int .u8 0, .int .i64 0] from rfl]
  go_enter Tryz.func308, Tryz.ntmps308
  go_wp2
  go_ret
  exact ⟨rfl, by go_grown⟩
theorem fields_pct  : FieldsOk (nod0 5) := by
  intro w
  have hne : ∀ W : World, (binOp .neq 297 (.agg #[.int .u8 5, .int .u8 0, .int .i64 0, str [], .int .i64 0, .int .i64 0, .int .i64 0, .int .i64 0, .int .i64 0, .int .u8 0, .int .i64 0]) (.agg #[.int .u8 5, .int .u8 0, .int .i64 0, str [], .int .i64 0, .int .i64 0, .int .i64 0, .int .i64 0, .int .i64 0, .int .u8 0, .int .i64 0])).run Tryz.prog W = .ok (.bool false) W := fun W => neq_nod (nod0 5) W
  rw [show (cNod (nod0 5)).toArray = #[.int .u8 5, .int .u8 0, .int .i64 0, str [], .int .i64 0, .int .i64 0, .int .i64 0, .int .i64 0, .int .i64 0, .int .u8 0, .int .i64 0] from rfl]
  go_enter Tryz.func308, Tryz.ntmps308
  go_wp2
  go_ret
  exact ⟨rfl, by go_grown⟩
theorem fields_binary (v : Int) (h1 : 1 ≤ v) (h2 : v ≤ 12) : FieldsOk { nod0 6 with op := v } := by
  intro w
  have hne : ∀ W : World, (binOp .neq 297 (.agg #[.int .u8 6, .int .u8 0, .int .i64 0, str [], .int .i64 0, .int .i64 0, .int .i64 0, .int .i64 0, .int .i64 v, .int .u8 0, .int .i64 0]) (.agg #[.int .u8 6, .int .u8 0, .int .i64 0, str [], .int .i64 0, .int .i64 0, .int .i64 0, .int .i64 0, .int .i64 v, .int .u8 0, .int .i64 0])).run Tryz.prog W = .ok (.bool false) W := fun W => neq_nod { nod0 6 with op := v } W
  rw [show (cNod { nod0 6 with op := v }).toArray = #[.int .u8 6, .int .u8 0, .int .i64 0, str [], .int .i64 0, .int .i64 0, .int .i64 0, .int .i64 0, .int .i64 v, .int .u8 0, .int .i64 0] from rfl]
  go_enter Tryz.func308, Tryz.ntmps308
  go_wp2
  go_ret
  exact ⟨rfl, by go_grown⟩
theorem fields_ref (r : Rct) (h1 : rctB r = true) (e1 : (r.c1 == r.c2) = true) (e2 : (r.r1 == r.r2) = true) : FieldsOk { nod0 2 with rect := r } := by
  intro w
  have hne : ∀ W : World, (binOp .neq 297 (.agg #[.int .u8 2, .int .u8 0, .int .i64 0, str [], .int .i64 r.c1, .int .i64 r.r1, .int .i64 r.c2, .int .i64 r.r2, .int .i64 0, .int .u8 0, .int .i64 0]) (.agg #[.int .u8 2, .int .u8 0, .int .i64 0, str [], .int .i64 r.c1, .int .i64 r.r1, .int .i64 r.c2, .int .i64 r.r2, .int .i64 0, .int .u8 0, .int .i64 0])).run Tryz.prog W = .ok (.bool false) W := fun W => neq_nod { nod0 2 with rect := r } W
  rw [show (cNod { nod0 2 with rect := r }).toArray = #[.int .u8 2, .int .u8 0, .int .i64 0, str [], .int .i64 r.c1, .int .i64 r.r1, .int .i64 r.c2, .int .i64 r.r2, .int .i64 0, .int .u8 0, .int .i64 0] from rfl]
  have HE := Lib.hid (show rctE ⟨r.c1, r.r1, r.c2, r.r2⟩ = 0 by unfold rctE; rw [if_pos h1])
  clear h1
  go_enter Tryz.func308, Tryz.ntmps308
  go_wp2_with fail
  refine (rect_check _ _ _ _ _).mono ?_
  rintro e w1 ⟨rfl, hb1⟩
  have hz1 := hb1.size
  try simp at hz1
  have hB1 : Below w.heap.size w w1 := Below.next (by go_grown) hb1 (by first | (simp; done) | (simp; omega) | omega)
  have hc1_0 : ∀ o, w1.cell? ⟨w.heap.size, o, none⟩ = _ := fun o => hb1.cell (p := ⟨w.heap.size, o, none⟩) (by first | (simp; done) | (simp; omega) | omega)
  have hl1_0 : w.heap.size < w1.heap.size := by omega
  have hm1_0 : w.heap.size ≤ w1.heap.size := by omega
  have hn1_0 : w.heap.size ≤ w1.heap.size + 1 := by omega
  have ho1_0 : w.heap.size ≤ w1.heap.size + 1 + 1 := by omega
  have hf1_0 : ∀ o, w1.frozen? ⟨w.heap.size, o, none⟩ = _ := fun o => hb1.frozen (p := ⟨w.heap.size, o, none⟩) (by first | (simp; done) | (simp; omega) | omega)
  have hc1_1 : ∀ o, w1.cell? ⟨w.heap.size + 1, o, none⟩ = _ := fun o => hb1.cell (p := ⟨w.heap.size + 1, o, none⟩) (by first | (simp; done) | (simp; omega) | omega)
  have hl1_1 : w.heap.size + 1 < w1.heap.size := by omega
  have hm1_1 : w.heap.size + 1 ≤ w1.heap.size := by omega
  have hn1_1 : w.heap.size + 1 ≤ w1.heap.size + 1 := by omega
  have ho1_1 : w.heap.size + 1 ≤ w1.heap.size + 1 + 1 := by omega
  have hf1_1 : ∀ o, w1.frozen? ⟨w.heap.size + 1, o, none⟩ = _ := fun o => hb1.frozen (p := ⟨w.heap.size + 1, o, none⟩) (by first | (simp; done) | (simp; omega) | omega)
  rw [HE.out]
  go_wp2
  go_ret
  exact ⟨rfl, by go_grown⟩
theorem fields_range1 (r : Rct) (h1 : rctB r = true) (e1 : (r.c1 == r.c2) = false) : FieldsOk { nod0 3 with rect := r } := by
  intro w
  have hne : ∀ W : World, (binOp .neq 297 (.agg #[.int .u8 3, .int .u8 0, .int .i64 0, str [], .int .i64 r.c1, .int .i64 r.r1, .int .i64 r.c2, .int .i64 r.r2, .int .i64 0, .int .u8 0, .int .i64 0]) (.agg #[.int .u8 3, .int .u8 0, .int .i64 0, str [], .int .i64 r.c1, .int .i64 r.r1, .int .i64 r.c2, .int .i64 r.r2, .int .i64 0, .int .u8 0, .int .i64 0])).run Tryz.prog W = .ok (.bool false) W := fun W => neq_nod { nod0 3 with rect := r } W
  rw [show (cNod { nod0 3 with rect := r }).toArray = #[.int .u8 3, .int .u8 0, .int .i64 0, str [], .int .i64 r.c1, .int .i64 r.r1, .int .i64 r.c2, .int .i64 r.r2, .int .i64 0, .int .u8 0, .int .i64 0] from rfl]
  have HE := Lib.hid (show rctE ⟨r.c1, r.r1, r.c2, r.r2⟩ = 0 by unfold rctE; rw [if_pos h1])
  clear h1
  go_enter Tryz.func308, Tryz.ntmps308
  go_wp2_with fail
  refine (rect_check _ _ _ _ _).mono ?_
  rintro e w1 ⟨rfl, hb1⟩
  have hz1 := hb1.size
  try simp at hz1
  have hB1 : Below w.heap.size w w1 := Below.next (by go_grown) hb1 (by first | (simp; done) | (simp; omega) | omega)
  have hc1_0 : ∀ o, w1.cell? ⟨w.heap.size, o, none⟩ = _ := fun o => hb1.cell (p := ⟨w.heap.size, o, none⟩) (by first | (simp; done) | (simp; omega) | omega)
  have hl1_0 : w.heap.size < w1.heap.size := by omega
  have hm1_0 : w.heap.size ≤ w1.heap.size := by omega
  have hn1_0 : w.heap.size ≤ w1.heap.size + 1 := by omega
  have ho1_0 : w.heap.size ≤ w1.heap.size + 1 + 1 := by omega
  have hf1_0 : ∀ o, w1.frozen? ⟨w.heap.size, o, none⟩ = _ := fun o => hb1.frozen (p := ⟨w.heap.size, o, none⟩) (by first | (simp; done) | (simp; omega) | omega)
  have hc1_1 : ∀ o, w1.cell? ⟨w.heap.size + 1, o, none⟩ = _ := fun o => hb1.cell (p := ⟨w.heap.size + 1, o, none⟩) (by first | (simp; done) | (simp; omega) | omega)
  have hl1_1 : w.heap.size + 1 < w1.heap.size := by omega
  have hm1_1 : w.heap.size + 1 ≤ w1.heap.size := by omega
  have hn1_1 : w.heap.size + 1 ≤ w1.heap.size + 1 := by omega
  have ho1_1 : w.heap.size + 1 ≤ w1.heap.size + 1 + 1 := by omega
  have hf1_1 : ∀ o, w1.frozen? ⟨w.heap.size + 1, o, none⟩ = _ := fun o => hb1.frozen (p := ⟨w.heap.size + 1, o, none⟩) (by first | (simp; done) | (simp; omega) | omega)
  rw [HE.out]
  go_wp2
  go_ret
  exact ⟨rfl, by go_grown⟩
theorem fields_range2 (r : Rct) (h1 : rctB r = true) (e1 : (r.c1 == r.c2) = true) (e2 : (r.r1 == r.r2) = false) : FieldsOk { nod0 3 with rect := r } := by
  intro w
  have hne : ∀ W : World, (binOp .neq 297 (.agg #[.int .u8 3, .int .u8 0, .int .i64 0, str [], .int .i64 r.c1, .int .i64 r.r1, .int .i64 r.c2, .int .i64 r.r2, .int .i64 0, .int .u8 0, .int .i64 0]) (.agg #[.int .u8 3, .int .u8 0, .int .i64 0, str [], .int .i64 r.c1, .int .i64 r.r1, .int .i64 r.c2, .int .i64 r.r2, .int .i64 0, .int .u8 0, .int .i64 0])).run Tryz.prog W = .ok (.bool false) W := fun W => neq_nod { nod0 3 with rect := r } W
  rw [show (cNod { nod0 3 with rect := r }).toArray = #[.int .u8 3, .int .u8 0, .int .i64 0, str [], .int .i64 r.c1, .int .i64 r.r1, .int .i64 r.c2, .int .i64 r.r2, .int .i64 0, .int .u8 0, .int .i64 0] from rfl]
  have HE := Lib.hid (show rctE ⟨r.c1, r.r1, r.c2, r.r2⟩ = 0 by unfold rctE; rw [if_pos h1])
  clear h1
  go_enter Tryz.func308, Tryz.ntmps308
  go_wp2_with fail
  refine (rect_check _ _ _ _ _).mono ?_
  rintro e w1 ⟨rfl, hb1⟩
  have hz1 := hb1.size
  try simp at hz1
  have hB1 : Below w.heap.size w w1 := Below.next (by go_grown) hb1 (by first | (simp; done) | (simp; omega) | omega)
  have hc1_0 : ∀ o, w1.cell? ⟨w.heap.size, o, none⟩ = _ := fun o => hb1.cell (p := ⟨w.heap.size, o, none⟩) (by first | (simp; done) | (simp; omega) | omega)
  have hl1_0 : w.heap.size < w1.heap.size := by omega
  have hm1_0 : w.heap.size ≤ w1.heap.size := by omega
  have hn1_0 : w.heap.size ≤ w1.heap.size + 1 := by omega
  have ho1_0 : w.heap.size ≤ w1.heap.size + 1 + 1 := by omega
  have hf1_0 : ∀ o, w1.frozen? ⟨w.heap.size, o, none⟩ = _ := fun o => hb1.frozen (p := ⟨w.heap.size, o, none⟩) (by first | (simp; done) | (simp; omega) | omega)
  have hc1_1 : ∀ o, w1.cell? ⟨w.heap.size + 1, o, none⟩ = _ := fun o => hb1.cell (p := ⟨w.heap.size + 1, o, none⟩) (by first | (simp; done) | (simp; omega) | omega)
  have hl1_1 : w.heap.size + 1 < w1.heap.size := by omega
  have hm1_1 : w.heap.size + 1 ≤ w1.heap.size := by omega
  have hn1_1 : w.heap.size + 1 ≤ w1.heap.size + 1 := by omega
  have ho1_1 : w.heap.size + 1 ≤ w1.heap.size + 1 + 1 := by omega
  have hf1_1 : ∀ o, w1.frozen? ⟨w.heap.size + 1, o, none⟩ = _ := fun o => hb1.frozen (p := ⟨w.heap.size + 1, o, none⟩) (by first | (simp; done) | (simp; omega) | omega)
  rw [HE.out]
  go_wp2
  go_ret
  exact ⟨rfl, by go_grown⟩
theorem fields_call (fn n : Nat) (h1 : 1 ≤ fn) (h2 : fn ≤ 50) (h3 : (arityS fn).1 ≤ n) (h4 : (n : Int) ≤ (arityS fn).2.1) : FieldsOk { nod0 7 with fn := fn, n := n } := by
  intro w
  have hne : ∀ W : World, (binOp .neq 297 (.agg #[.int .u8 7, .int .u8 0, .int .i64 0, str [], .int .i64 0, .int .i64 0, .int .i64 0, .int .i64 0, .int .i64 0, .int .u8 fn, .int .i64 n]) (.agg #[.int .u8 7, .int .u8 0, .int .i64 0, str [], .int .i64 0, .int .i64 0, .int .i64 0, .int .i64 0, .int .i64 0, .int .u8 fn, .int .i64 n])).run Tryz.prog W = .ok (.bool false) W := fun W => neq_nod { nod0 7 with fn := fn, n := n } W
  rw [show (cNod { nod0 7 with fn := fn, n := n }).toArray = #[.int .u8 7, .int .u8 0, .int .i64 0, str [], .int .i64 0, .int .i64 0, .int .i64 0, .int .i64 0, .int .i64 0, .int .u8 fn, .int .i64 n] from rfl]
  have HA := Lib.hid (fun W => tree_arity fn h1 h2 W)
  have HZ := arity_ok fn h1 h2
  rw [HZ] at HA
  clear HZ
  generalize (arityS fn).1 = m0 at *
  generalize (arityS fn).2.1 = m1 at *
  have n0 : (0 : Int) ≤ (n : Int) := by omega
  have g3 : ¬ (n : Int) < m0 := by omega
  have g4 : ¬ m1 < (n : Int) := by omega
  go_enter Tryz.func308, Tryz.ntmps308
  go_wp2
  go_region
  all_goals
    go_wp2_with fail
    refine (HA.out _).mono ?_
    rintro u w2 ⟨rfl, rfl⟩
    go_wp2
    go_ret
    exact ⟨rfl, by go_grown⟩
theorem fields_ok (n : Nod) (h : NodOk n) : FieldsOk n := by
  cases h with
  | num v h => exact fields_num v h
  | text x h => exact fields_text x h (by
      unfold txtE at h
      split at h
      · simp at h
      · omega)
  | bool v h => exact fields_bool v h
  | err v h1 h2 => exact fields_err v h1 h2
  | ref r h1 h2 =>
    unfold oneRB at h2
    rw [Bool.and_eq_true, decide_eq_true_eq, decide_eq_true_eq] at h2
    exact fields_ref r h1 (by simpa using h2.1) (by simpa using h2.2)
  | range r h1 h2 =>
    unfold oneRB at h2
    by_cases e1 : r.c1 = r.c2
    · rw [decide_eq_true e1, Bool.true_and, decide_eq_false_iff_not] at h2
      exact fields_range2 r h1 (by simpa using e1) (by simpa using h2)
    · exact fields_range1 r h1 (by simpa using e1)
  | neg => exact fields_neg
  | pct => exact fields_pct
  | binary v h1 h2 => exact fields_binary v h1 h2
  | call fn n h1 h2 h3 h4 => exact fields_call fn n h1 h2 h3 h4
/-! ### below -/
def belowN (n : Nod) : Nat := if n.kind = 4 ∨ n.kind = 5 then 1 else if n.kind = 6 then 2 else if n.kind = 7 then n.n.toNat else 0
theorem belowS_N (n : Nod) (h : NodOk n) : belowS n = (belowN n : Int) := by
  cases h <;> simp [belowS, belowN, nod0]
theorem below_any (n : Nod) (h : NodOk n) (w : World) : Calls Tryz.prog 309 #[.agg (cNod n).toArray] w fun u w' => u = .returned (.int .i64 (belowN n)) ∧ Below w.heap.size w w' := by
  cases h with
  | num v h =>
    rw [show (cNod _).toArray = #[.int .u8 1, .int .u8 1, .int .i64 v, str [], .int .i64 0, .int .i64 0, .int .i64 0, .int .i64 0, .int .i64 0, .int .u8 0, .int .i64 0] from rfl]
    go_enter Tryz.func309, Tryz.ntmps309
    go_wp2
    go_ret
    exact ⟨rfl, by go_grown⟩
  | text x h =>
    rw [show (cNod _).toArray = #[.int .u8 1, .int .u8 3, .int .i64 0, str x, .int .i64 0, .int .i64 0, .int .i64 0, .int .i64 0, .int .i64 0, .int .u8 0, .int .i64 0] from rfl]
    go_enter Tryz.func309, Tryz.ntmps309
    go_wp2
    go_ret
    exact ⟨rfl, by go_grown⟩
  | bool v h =>
    rw [show (cNod _).toArray = #[.int .u8 1, .int .u8 2, .int .i64 v, str [], .int .i64 0, .int .i64 0, .int .i64 0, .int .i64 0, .int .i64 0, .int .u8 0, .int .i64 0] from rfl]
    go_enter Tryz.func309, Tryz.ntmps309
    go_wp2
    go_ret
    exact ⟨rfl, by go_grown⟩
  | err v h1 h2 =>
    rw [show (cNod _).toArray = #[.int .u8 1, .int .u8 4, .int .i64 v, str [], .int .i64 0, .int .i64 0, .int .i64 0, .int .i64 0, .int .i64 0, .int .u8 0, .int .i64 0] from rfl]
    go_enter Tryz.func309, Tryz.ntmps309
    go_wp2
    go_ret
    exact ⟨rfl, by go_grown⟩
  | ref r h1 h2 =>
    rw [show (cNod _).toArray = #[.int .u8 2, .int .u8 0, .int .i64 0, str [], .int .i64 r.c1, .int .i64 r.r1, .int .i64 r.c2, .int .i64 r.r2, .int .i64 0, .int .u8 0, .int .i64 0] from rfl]
    go_enter Tryz.func309, Tryz.ntmps309
    go_wp2
    go_ret
    exact ⟨rfl, by go_grown⟩
  | range r h1 h2 =>
    rw [show (cNod _).toArray = #[.int .u8 3, .int .u8 0, .int .i64 0, str [], .int .i64 r.c1, .int .i64 r.r1, .int .i64 r.c2, .int .i64 r.r2, .int .i64 0, .int .u8 0, .int .i64 0] from rfl]
    go_enter Tryz.func309, Tryz.ntmps309
    go_wp2
    go_ret
    exact ⟨rfl, by go_grown⟩
  | neg  =>
    rw [show (cNod _).toArray = #[.int .u8 4, .int .u8 0, .int .i64 0, str [], .int .i64 0, .int .i64 0, .int .i64 0, .int .i64 0, .int .i64 0, .int .u8 0, .int .i64 0] from rfl]
    go_enter Tryz.func309, Tryz.ntmps309
    go_wp2
    go_ret
    exact ⟨rfl, by go_grown⟩
  | pct  =>
    rw [show (cNod _).toArray = #[.int .u8 5, .int .u8 0, .int .i64 0, str [], .int .i64 0, .int .i64 0, .int .i64 0, .int .i64 0, .int .i64 0, .int .u8 0, .int .i64 0] from rfl]
    go_enter Tryz.func309, Tryz.ntmps309
    go_wp2
    go_ret
    exact ⟨rfl, by go_grown⟩
  | binary v h1 h2 =>
    rw [show (cNod _).toArray = #[.int .u8 6, .int .u8 0, .int .i64 0, str [], .int .i64 0, .int .i64 0, .int .i64 0, .int .i64 0, .int .i64 v, .int .u8 0, .int .i64 0] from rfl]
    go_enter Tryz.func309, Tryz.ntmps309
    go_wp2
    go_ret
    exact ⟨rfl, by go_grown⟩
  | call fn n h1 h2 h3 h4 =>
    rw [show (cNod _).toArray = #[.int .u8 7, .int .u8 0, .int .i64 0, str [], .int .i64 0, .int .i64 0, .int .i64 0, .int .i64 0, .int .i64 0, .int .u8 fn, .int .i64 n] from rfl]
    go_enter Tryz.func309, Tryz.ntmps309
    go_wp2
    go_ret
    exact ⟨rfl, by go_grown⟩
def cPart (p : Part) : List Value := [.int .i64 p.root, .int .i64 p.depth, .bool p.wide]
theorem cPart_len (p : Part) : (cPart p).length = 3 := rfl
theorem fitsS_drop (t : List Nod) (n : Nod) {l : List Part} {k : Nat} {p : Part} (h : l[k]? = some p) : fitsS t n k (l.drop k) =
    if (p.wide && !(decide (n.kind = 7) && (wideS n.fn k).1)) = true then false
    else if (decide (n.kind = 7) && relB n.fn && decide (((t.getD p.root (nod0 0)).kind) ≠ 2) && decide (((t.getD p.root (nod0 0)).kind) ≠ 3)) = true then false
    else fitsS t n (k + 1) (l.drop (k + 1)) := by
  have hk := (List.getElem?_eq_some_iff.1 h).1
  rw [List.drop_eq_getElem_cons hk]
  have : l[k] = p := by rw [List.getElem?_eq_getElem hk] at h; simpa using h
  rw [this]
  rfl
theorem kind_at {W : World} {B b o : Nat} {t : List Nod} {n cap : Nat} (h : Sls cNod W B (.slice (some ⟨b, o, none⟩) n cap) t) {i : Nat} (hi : i < t.length) : W.cell? ⟨b, o + i * 11, none⟩ = some (.int .u8 ((t.getD i (nod0 0)).kind)) := by
  have hx := List.getElem?_eq_getElem (l := t) hi
  obtain ⟨b', o', e1, _, hr⟩ := Sls.get h 11 cNod_len hx
  injection e1 with e1
  injection e1 with e1 e2
  subst e1 e2
  rw [List.getD_eq_getElem?_getD, hx]
  exact hr 0 _ rfl
theorem fits_other (x : Nod) (hk7 : x.kind ≠ 7) (tv lv : Value) (t : List Nod) (l : List Part) (B : Nat) (w : World) (hB : B ≤ w.heap.size) (ht : Sls cNod w B tv t) (hl : Sls cPart w B lv l) (htl : t.length ≤ 2000) (hll : l.length ≤ 2000) (hr : ∀ p ∈ l, p.root < t.length) :
    Calls Tryz.prog 310 #[tv, .agg (cNod x).toArray, lv] w fun u w' => u = .returned (.bool (fitsS t x 0 l)) ∧ Below w.heap.size w w' := by
  obtain ⟨A, cap, rfl, hc1, hm1, ha1⟩ := id ht
  obtain ⟨A2, cap2, rfl, hc2, hm2, ha2⟩ := id hl
  have HT := Lib.hid ht
  have HL := Lib.hid hl
  have HRT := Lib.hid hr
  clear ht hl hr ha1 ha2
  unfold maxLen at hm1 hm2
  have b7 : (x.kind == 7) = false := by simpa using hk7
  rw [show (cNod x).toArray = #[.int .u8 x.kind, .int .u8 x.vk, .int .i64 x.vn, str x.vt, .int .i64 x.rect.c1, .int .i64 x.rect.r1, .int .i64 x.rect.c2, .int .i64 x.rect.r2, .int .i64 x.op, .int .u8 x.fn, .int .i64 x.n] from rfl]
  have K0 := Lib.hid (Blk.new w 297 #[.int .u8 x.kind, .int .u8 x.vk, .int .i64 x.vn, str x.vt, .int .i64 x.rect.c1, .int .i64 x.rect.r1, .int .i64 x.rect.c2, .int .i64 x.rect.r2, .int .i64 x.op, .int .u8 x.fn, .int .i64 x.n])
  have HB0 := Lib.hid (show Below w.heap.size w (w.alloc (.cells #[.int .u8 x.kind, .int .u8 x.vk, .int .i64 x.vn, str x.vt, .int .i64 x.rect.c1, .int .i64 x.rect.r1, .int .i64 x.rect.c2, .int .i64 x.rect.r2, .int .i64 x.op, .int .u8 x.fn, .int .i64 x.n] 297)) from by go_grown)
  go_enter Tryz.func310, Tryz.ntmps310
  go_upto_region 1 with (fail)
  obtain ⟨W1, hW1⟩ : ∃ W1, w.alloc (.cells #[.int .u8 x.kind, .int .u8 x.vk, .int .i64 x.vn, str x.vt, .int .i64 x.rect.c1, .int .i64 x.rect.r1, .int .i64 x.rect.c2, .int .i64 x.rect.r2, .int .i64 x.op, .int .u8 x.fn, .int .i64 x.n] 297) = W1 := ⟨_, rfl⟩
  rw [hW1] at K0 HB0 ⊢
  clear hW1
  go_wp2_with fail
  go_loopw [13] (fun i wr => ∃ k : Nat, k ≤ l.length ∧ i = .int .i64 k ∧ Below w.heap.size w wr ∧ Blk wr w.heap.size 297 #[.int .u8 x.kind, .int .u8 x.vk, .int .i64 x.vn, str x.vt, .int .i64 x.rect.c1, .int .i64 x.rect.r1, .int .i64 x.rect.c2, .int .i64 x.rect.r2, .int .i64 x.op, .int .u8 x.fn, .int .i64 x.n] ∧ fitsS t x 0 l = fitsS t x k (l.drop k)) (fun i _ => l.length - (intOf i).toNat)
  case atStart => exact ⟨0, by omega, rfl, HB0.out, K0.out, by simp⟩
  case round =>
    obtain ⟨k, hk, rfl, hbw, hkw, hfe⟩ := hrel
    have HF := Lib.hid hfe
    have HBW := Lib.hid hbw
    have KW := Lib.hid hkw
    clear hfe hkw
    by_cases hlt : k < l.length
    rotate_left
    · go_wp2
      go_ret
      refine ⟨?_, HBW.out⟩
      rw [HF.out, List.drop_eq_nil_of_le (by omega)]
      rfl
    have hy : l[k]? = some l[k] := List.getElem?_eq_getElem hlt
    obtain ⟨b, o, hA, hb2, r⟩ := (HL.out.below (hbw.mono hB)).get 3 cPart_len hy
    have HD := Lib.hid (fitsS_drop t x hy)
    have hrt := HRT.out l[k] (List.getElem_mem hlt)
    generalize l[k] = y at *
    subst hA
    obtain ⟨tb, to_, rfl, htb⟩ : ∃ tb to_, A = some ⟨tb, to_, none⟩ ∧ tb < B := by
      obtain ⟨_, _, e0, _, _, h2⟩ := HT.out
      injection e0 with e0 e1 e2
      obtain ⟨b, o, e3, h4, _⟩ := h2 (by omega)
      exact ⟨b, o, e0.trans e3, h4⟩
    have HTW := Lib.hid (HT.out.below (hbw.mono hB))
    have r0 : wr.cell? ⟨b, o + k * 3, none⟩ = some (.int .i64 y.root) := r 0 _ rfl
    have r1 : wr.cell? ⟨b, o + k * 3 + 1, none⟩ = some (.int .i64 y.depth) := r 1 _ rfl
    have r2 : wr.cell? ⟨b, o + k * 3 + 2, none⟩ = some (.bool y.wide) := r 2 _ rfl
    have x0 := KW.out.cell 0
    have x9 := KW.out.cell 9
    have hkd := kind_at HTW.out hrt
    have hlw := KW.out.lt
    have htbw : tb < wr.heap.size := by have := HBW.out.size; omega
    have hi0 : (0 : Int) ≤ (k : Int) := Int.natCast_nonneg _
    have hi1 : (k : Int) < (l.length : Int) := by omega
    have hr0 : (0 : Int) ≤ (y.root : Int) := Int.natCast_nonneg _
    have hr1 : (y.root : Int) < (t.length : Int) := by omega
    clear r hy hbw
    generalize (t.getD y.root (nod0 0)).kind = kd at HD hkd
    have HB2 := Lib.hid (show Below w.heap.size w (wr.alloc (.cells #[.int .i64 y.root, .int .i64 y.depth, .bool y.wide] 325)) from HBW.out.alloc HBW.out.size _)
    have KN := Lib.hid (KW.out.alloc (.cells #[.int .i64 y.root, .int .i64 y.depth, .bool y.wide] 325))
    rw [decide_eq_false hk7] at HD
    cases hw : y.wide with
    | true =>
      have HD3 := Lib.hid (HD.out.trans (if_pos (by rw [hw]; rfl)))
      rw [hw] at r2 HB2 KN
      go_wp2
      go_ret
      exact ⟨by rw [HF.out, HD3.out]; rfl, HB2.out⟩
    | false =>
      have HD3 := Lib.hid (HD.out.trans ((if_neg (by rw [hw]; simp)).trans (if_neg (by simp))))
      rw [hw] at r2 HB2 KN
      go_wp2
      exact ⟨⟨k + 1, by omega, by go_num, HB2.out, KN.out, by rw [HF.out, HD3.out]⟩, by simp [intOf]; omega⟩
theorem fits_call (fn m : Nat) (h1 : 1 ≤ fn) (h2 : fn ≤ 50) (tv lv : Value) (t : List Nod) (l : List Part) (B : Nat) (w : World) (hB : B ≤ w.heap.size) (ht : Sls cNod w B tv t) (hl : Sls cPart w B lv l) (htl : t.length ≤ 2000) (hll : l.length ≤ 2000) (hr : ∀ p ∈ l, p.root < t.length) :
    Calls Tryz.prog 310 #[tv, .agg (cNod ({ nod0 7 with fn := fn, n := m } : Nod)).toArray, lv] w fun u w' => u = .returned (.bool (fitsS t ({ nod0 7 with fn := fn, n := m } : Nod) 0 l)) ∧ Below w.heap.size w w' := by
  obtain ⟨A, cap, rfl, hc1, hm1, ha1⟩ := id ht
  obtain ⟨A2, cap2, rfl, hc2, hm2, ha2⟩ := id hl
  have HT := Lib.hid ht
  have HL := Lib.hid hl
  have HRT := Lib.hid hr
  clear ht hl hr ha1 ha2
  unfold maxLen at hm1 hm2
  have HWI := Lib.hid (fun i hi W => tree_wide fn i h1 h2 hi W)
  have HRE := Lib.hid (fun W => tree_released fn W)
  rw [show (cNod ({ nod0 7 with fn := fn, n := m } : Nod)).toArray = #[.int .u8 7, .int .u8 0, .int .i64 0, str [], .int .i64 0, .int .i64 0, .int .i64 0, .int .i64 0, .int .i64 0, .int .u8 fn, .int .i64 m] from rfl]
  have K0 := Lib.hid (Blk.new w 297 #[.int .u8 7, .int .u8 0, .int .i64 0, str [], .int .i64 0, .int .i64 0, .int .i64 0, .int .i64 0, .int .i64 0, .int .u8 fn, .int .i64 m])
  have HB0 := Lib.hid (show Below w.heap.size w (w.alloc (.cells #[.int .u8 7, .int .u8 0, .int .i64 0, str [], .int .i64 0, .int .i64 0, .int .i64 0, .int .i64 0, .int .i64 0, .int .u8 fn, .int .i64 m] 297)) from by go_grown)
  go_enter Tryz.func310, Tryz.ntmps310
  go_upto_region 1 with (fail)
  obtain ⟨W1, hW1⟩ : ∃ W1, w.alloc (.cells #[.int .u8 7, .int .u8 0, .int .i64 0, str [], .int .i64 0, .int .i64 0, .int .i64 0, .int .i64 0, .int .i64 0, .int .u8 fn, .int .i64 m] 297) = W1 := ⟨_, rfl⟩
  rw [hW1] at K0 HB0 ⊢
  clear hW1
  go_wp2_with fail
  go_loopw [13] (fun i wr => ∃ k : Nat, k ≤ l.length ∧ i = .int .i64 k ∧ Below w.heap.size w wr ∧ Blk wr w.heap.size 297 #[.int .u8 7, .int .u8 0, .int .i64 0, str [], .int .i64 0, .int .i64 0, .int .i64 0, .int .i64 0, .int .i64 0, .int .u8 fn, .int .i64 m] ∧ fitsS t ({ nod0 7 with fn := fn, n := m } : Nod) 0 l = fitsS t ({ nod0 7 with fn := fn, n := m } : Nod) k (l.drop k)) (fun i _ => l.length - (intOf i).toNat)
  case atStart => exact ⟨0, by omega, rfl, HB0.out, K0.out, by simp⟩
  case round =>
    obtain ⟨k, hk, rfl, hbw, hkw, hfe⟩ := hrel
    have HF := Lib.hid hfe
    have HBW := Lib.hid hbw
    have KW := Lib.hid hkw
    clear hfe hkw
    by_cases hlt : k < l.length
    rotate_left
    · go_wp2
      go_ret
      refine ⟨?_, HBW.out⟩
      rw [HF.out, List.drop_eq_nil_of_le (by omega)]
      rfl
    have hy : l[k]? = some l[k] := List.getElem?_eq_getElem hlt
    obtain ⟨b, o, hA, hb2, r⟩ := (HL.out.below (hbw.mono hB)).get 3 cPart_len hy
    have HD := Lib.hid (fitsS_drop t ({ nod0 7 with fn := fn, n := m } : Nod) hy)
    have hrt := HRT.out l[k] (List.getElem_mem hlt)
    generalize l[k] = y at *
    subst hA
    obtain ⟨tb, to_, rfl, htb⟩ : ∃ tb to_, A = some ⟨tb, to_, none⟩ ∧ tb < B := by
      obtain ⟨_, _, e0, _, _, h2⟩ := HT.out
      injection e0 with e0 e1 e2
      obtain ⟨b, o, e3, h4, _⟩ := h2 (by omega)
      exact ⟨b, o, e0.trans e3, h4⟩
    have HTW := Lib.hid (HT.out.below (hbw.mono hB))
    have r0 : wr.cell? ⟨b, o + k * 3, none⟩ = some (.int .i64 y.root) := r 0 _ rfl
    have r1 : wr.cell? ⟨b, o + k * 3 + 1, none⟩ = some (.int .i64 y.depth) := r 1 _ rfl
    have r2 : wr.cell? ⟨b, o + k * 3 + 2, none⟩ = some (.bool y.wide) := r 2 _ rfl
    have x0 := KW.out.cell 0
    have x9 := KW.out.cell 9
    have hkd := kind_at HTW.out hrt
    have hlw := KW.out.lt
    have htbw : tb < wr.heap.size := by have := HBW.out.size; omega
    have hi0 : (0 : Int) ≤ (k : Int) := Int.natCast_nonneg _
    have hi1 : (k : Int) < (l.length : Int) := by omega
    have hr0 : (0 : Int) ≤ (y.root : Int) := Int.natCast_nonneg _
    have hr1 : (y.root : Int) < (t.length : Int) := by omega
    clear r hy hbw
    generalize (t.getD y.root (nod0 0)).kind = kd at HD hkd
    have HB2 := Lib.hid (show Below w.heap.size w (wr.alloc (.cells #[.int .i64 y.root, .int .i64 y.depth, .bool y.wide] 325)) from HBW.out.alloc HBW.out.size _)
    have KN := Lib.hid (KW.out.alloc (.cells #[.int .i64 y.root, .int .i64 y.depth, .bool y.wide] 325))
    have HD2 : RowKit.Hid (fitsS t ({ nod0 7 with fn := fn, n := m } : Nod) k (l.drop k) = if (y.wide && !(wideS fn k).1) = true then false else if (relB fn && decide (kd ≠ 2) && decide (kd ≠ 3)) = true then false else fitsS t ({ nod0 7 with fn := fn, n := m } : Nod) (k + 1) (l.drop (k + 1))) := HD
    clear HD
    go_wp2_with fail
    refine (HWI.out k (by omega) _).mono ?_
    rintro u w3 ⟨rfl, rfl⟩
    generalize wideS fn k = wd at HD2 ⊢
    obtain ⟨wb, we⟩ := wd
    simp only at HD2 ⊢
    cases hw : y.wide with
    | true =>
      rw [hw] at r2 HB2 KN
      cases wb with
      | false =>
        have HD3 := Lib.hid (HD2.out.trans (if_pos (by rw [hw]; rfl)))
        go_wp2
        go_ret
        exact ⟨by rw [HF.out, HD3.out]; rfl, HB2.out⟩
      | true =>
        have HD3 := Lib.hid (HD2.out.trans (if_neg (by simp)))
        clear HD2
        go_wp2_with fail
        refine (HRE.out _).mono ?_
        rintro u w4 ⟨rfl, rfl⟩
        cases hrel : relB fn with
        | false =>
          have HD3 := Lib.hid (HD3.out.trans (if_neg (by rw [hrel]; simp)))
          go_wp2
          exact ⟨⟨k + 1, by omega, by go_num, HB2.out, KN.out, by rw [HF.out, HD3.out]⟩, by simp [intOf]; omega⟩
        | true =>
          by_cases k2 : kd = 2
          · have b2 : (kd != 2) = false := by simpa using k2
            have HD3 := Lib.hid (HD3.out.trans (if_neg (by simp [k2])))
            go_wp2
            exact ⟨⟨k + 1, by omega, by go_num, HB2.out, KN.out, by rw [HF.out, HD3.out]⟩, by simp [intOf]; omega⟩
          have b2 : (kd != 2) = true := by simpa using k2
          by_cases k3 : kd = 3
          · have b3 : (kd != 3) = false := by simpa using k3
            have HD3 := Lib.hid (HD3.out.trans (if_neg (by simp [k3])))
            go_wp2
            exact ⟨⟨k + 1, by omega, by go_num, HB2.out, KN.out, by rw [HF.out, HD3.out]⟩, by simp [intOf]; omega⟩
          have b3 : (kd != 3) = true := by simpa using k3
          have HD3 := Lib.hid (HD3.out.trans (if_pos (by rw [hrel]; simp [k2, k3])))
          go_wp2
          go_ret
          exact ⟨by rw [HF.out, HD3.out]; rfl, HB2.out⟩
    | false =>
      rw [hw] at r2 HB2 KN
      have HD3 := Lib.hid (HD2.out.trans (if_neg (by rw [hw]; simp)))
      clear HD2
      go_wp2_with fail
      refine (HRE.out _).mono ?_
      rintro u w4 ⟨rfl, rfl⟩
      cases hrel : relB fn with
      | false =>
        have HD3 := Lib.hid (HD3.out.trans (if_neg (by rw [hrel]; simp)))
        go_wp2
        exact ⟨⟨k + 1, by omega, by go_num, HB2.out, KN.out, by rw [HF.out, HD3.out]⟩, by simp [intOf]; omega⟩
      | true =>
        by_cases k2 : kd = 2
        · have b2 : (kd != 2) = false := by simpa using k2
          have HD3 := Lib.hid (HD3.out.trans (if_neg (by simp [k2])))
          go_wp2
          exact ⟨⟨k + 1, by omega, by go_num, HB2.out, KN.out, by rw [HF.out, HD3.out]⟩, by simp [intOf]; omega⟩
        have b2 : (kd != 2) = true := by simpa using k2
        by_cases k3 : kd = 3
        · have b3 : (kd != 3) = false := by simpa using k3
          have HD3 := Lib.hid (HD3.out.trans (if_neg (by simp [k3])))
          go_wp2
          exact ⟨⟨k + 1, by omega, by go_num, HB2.out, KN.out, by rw [HF.out, HD3.out]⟩, by simp [intOf]; omega⟩
        have b3 : (kd != 3) = true := by simpa using k3
        have HD3 := Lib.hid (HD3.out.trans (if_pos (by rw [hrel]; simp [k2, k3])))
        go_wp2
        go_ret
        exact ⟨by rw [HF.out, HD3.out]; rfl, HB2.out⟩
end Go.Proofs.YtamcgggmfghljaaGreatDoor
