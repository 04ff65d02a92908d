/- Layer 41 (program): what Read has made so far. · Layers 2 and 3: addresses and ranges: valid, less, corners, check. · Layer 3, small ones. · Layer 3: ranges: corners, check, one, has. · Numbers and columns as text. · Go's strconv.Itoa below ten. · Small addresses and ranges as text: columns to 26, rows to 9 (program). · Layer 41: what bytes are taken as: take, spot, crowd, crowds (program and reference). · Layer 41: spot, crowd, crowds, field (program). -/
import Derived.Deep.QuietTactic
import Derived.BigQuiet
import Derived.Test.YtamcgggmfghljaaGreatDoorC3
set_option maxRecDepth 100000
set_option maxHeartbeats 8000000
namespace Go.Proofs.YtamcgggmfghljaaGreatDoor
open Go.RowKit
/-- The result's block (w0's end), the taker's, the script's; the lists. -/
structure PS (w0 W : World) (s : Bytes) (u : Int) (e r g o : Value) (le : List Ent) (lr : List Rul) (lg : List Grt) (lo : List Opr) : Prop where
  rs : Blk W w0.heap.size 31 #[.int .i64 0, .slice none 0 0, .slice none 0 0, .slice none 0 0, .slice none 0 0, .slice none 0 0, .int .i64 0, .slice none 0 0]
  tk : Blk W (w0.heap.size + 1) 74 #[str s]
  bx : Blk W (w0.heap.size + 1 + 1) 31 #[.int .i64 u, e, r, g, .slice none 0 0, .slice none 0 0, .int .i64 0, o]
  ls : L4 (w0.heap.size + 3) W e r g o le lr lg lo
  bw : Below w0.heap.size w0 W
section
variable {w0 W W' : World} {s : Bytes} {u : Int} {e r g o : Value} {le : List Ent} {lr : List Rul} {lg : List Grt} {lo : List Opr}
theorem PS.size (h : PS w0 W s u e r g o le lr lg lo) : w0.heap.size + 3 ≤ W.heap.size := by have := h.bx.lt; omega
theorem PS.below (h : PS w0 W s u e r g o le lr lg lo) (hb : Below W.heap.size W W') : PS w0 W' s u e r g o le lr lg lo :=
  ⟨h.rs.below_ hb, h.tk.below_ hb, h.bx.below_ hb, h.ls.below hb, Below.next h.bw hb h.bw.size⟩
theorem PS.alloc (h : PS w0 W s u e r g o le lr lg lo) (ob : Obj) : PS w0 (W.alloc ob) s u e r g o le lr lg lo := h.below ((Below.refl _ _).alloc (Nat.le_refl _) ob)
theorem PS.drewN (h : PS w0 W s u e r g o le lr lg lo) (n : Nat) : PS w0 (W.drewN n) s u e r g o le lr lg lo := h.below (Below.drewN_ (Below.refl _ _) n)
theorem PS.take {s' : Bytes} (h : PS w0 W s u e r g o le lr lg lo) (hk : Blk W' (w0.heap.size + 1) 74 #[str s']) (hd : Chg (fun k => k = w0.heap.size + 1) W W') : PS w0 W' s' u e r g o le lr lg lo :=
  ⟨h.rs.chg hd (by simp), hk, h.bx.chg hd (by simp), h.ls.chg hd (fun k hk => by subst hk; exact h.ls.away (by omega)), h.bw.trans (hd.to_below h.bw.size (by omega))⟩
theorem PS.far (h : PS w0 W s u e r g o le lr lg lo) {p : Addr} (hp : w0.heap.size + 3 ≤ p.block) (hl : e.ownBlock ≠ some p.block ∧ r.ownBlock ≠ some p.block ∧ g.ownBlock ≠ some p.block ∧ o.ownBlock ≠ some p.block) (v : Value) : PS w0 (W.setCell p v) s u e r g o le lr lg lo :=
  ⟨h.rs.far (by omega) v, h.tk.far (by omega) v, h.bx.far (by omega) v, h.ls.set hl v, h.bw.setCell (by omega) v⟩
theorem PS.putE {e' : Value} {le' : List Ent} (h : PS w0 W s u e r g o le lr lg lo) (ho : Own cEnt 58 3 W' e' le') (ht : OutTo W e W' e') : PS w0 (W'.setCell ⟨w0.heap.size + 1 + 1, 1, none⟩ e') s u e' r g o le' lr lg lo := by
  have hz := h.size
  have hn : ∀ k, k < w0.heap.size + 3 → e.ownBlock ≠ some k := fun k hk e => by have := h.ls.be k e; omega
  have hl := h.ls.setE (by omega) ho ht
  exact ⟨(h.rs.outTo ht (hn _ (by omega))).far (by simp; omega) e', (h.tk.outTo ht (hn _ (by omega))).far (by simp) e', (h.bx.outTo ht (hn _ (by omega))).set_ 1 e', hl.set (hl.away (by show w0.heap.size + 1 + 1 < _; omega)) e', (h.bw.trans (ht.old h.bw.size (fun k hk => by have := h.ls.be k hk; omega))).setCell (by show _ ≤ w0.heap.size + 1 + 1; omega) e'⟩
theorem PS.putR {r' : Value} {lr' : List Rul} (h : PS w0 W s u e r g o le lr lg lo) (ho : Own cRul 79 7 W' r' lr') (ht : OutTo W r W' r') : PS w0 (W'.setCell ⟨w0.heap.size + 1 + 1, 2, none⟩ r') s u e r' g o le lr' lg lo := by
  have hz := h.size
  have hn : ∀ k, k < w0.heap.size + 3 → r.ownBlock ≠ some k := fun k hk e => by have := h.ls.br k e; omega
  have hl := h.ls.setR (by omega) ho ht
  exact ⟨(h.rs.outTo ht (hn _ (by omega))).far (by simp; omega) r', (h.tk.outTo ht (hn _ (by omega))).far (by simp) r', (h.bx.outTo ht (hn _ (by omega))).set_ 2 r', hl.set (hl.away (by show w0.heap.size + 1 + 1 < _; omega)) r', (h.bw.trans (ht.old h.bw.size (fun k hk => by have := h.ls.br k hk; omega))).setCell (by show _ ≤ w0.heap.size + 1 + 1; omega) r'⟩
theorem PS.putG {g' : Value} {lg' : List Grt} (h : PS w0 W s u e r g o le lr lg lo) (ho : Own cGrt 85 8 W' g' lg') (ht : OutTo W g W' g') : PS w0 (W'.setCell ⟨w0.heap.size + 1 + 1, 3, none⟩ g') s u e r g' o le lr lg' lo := by
  have hz := h.size
  have hn : ∀ k, k < w0.heap.size + 3 → g.ownBlock ≠ some k := fun k hk e => by have := h.ls.bg k e; omega
  have hl := h.ls.setG (by omega) ho ht
  exact ⟨(h.rs.outTo ht (hn _ (by omega))).far (by simp; omega) g', (h.tk.outTo ht (hn _ (by omega))).far (by simp) g', (h.bx.outTo ht (hn _ (by omega))).set_ 3 g', hl.set (hl.away (by show w0.heap.size + 1 + 1 < _; omega)) g', (h.bw.trans (ht.old h.bw.size (fun k hk => by have := h.ls.bg k hk; omega))).setCell (by show _ ≤ w0.heap.size + 1 + 1; omega) g'⟩
theorem PS.putO {o' : Value} {lo' : List Opr} (h : PS w0 W s u e r g o le lr lg lo) (ho : Own cOpr 48 13 W' o' lo') (ht : OutTo W o W' o') : PS w0 (W'.setCell ⟨w0.heap.size + 1 + 1, 7, none⟩ o') s u e r g o' le lr lg lo' := by
  have hz := h.size
  have hn : ∀ k, k < w0.heap.size + 3 → o.ownBlock ≠ some k := fun k hk e => by have := h.ls.bo k e; omega
  have hl := h.ls.setO (by omega) ho ht
  exact ⟨(h.rs.outTo ht (hn _ (by omega))).far (by simp; omega) o', (h.tk.outTo ht (hn _ (by omega))).far (by simp) o', (h.bx.outTo ht (hn _ (by omega))).set_ 7 o', hl.set (hl.away (by show w0.heap.size + 1 + 1 < _; omega)) o', (h.bw.trans (ht.old h.bw.size (fun k hk => by have := h.ls.bo k hk; omega))).setCell (by show _ ≤ w0.heap.size + 1 + 1; omega) o'⟩
end
theorem addr_valid (c r : Int) (w : World) :
    Calls Tryz.prog 168 #[.agg #[.int .i64 c, .int .i64 r]] w fun e w' => e = .returned (.bool (validB c r)) ∧ Below w.heap.size w w' := by
  rcases chain4 (1 ≤ c) (c ≤ 1024) (1 ≤ r) (r ≤ 1024) with ⟨h1, h2, h3, h4⟩ | h1 | ⟨h1, h2⟩ | ⟨h1, h2, h3⟩ | ⟨h1, h2, h3, h4⟩
  all_goals
    go_enter Tryz.func168, Tryz.ntmps168
    go_wp2
    go_ret
    exact ⟨by simp [validB, *]; try omega, by go_grown⟩
theorem less_cases (r r' c c' : Int) : r < r' ∨ (¬ r < r' ∧ (r == r') = true ∧ (c < c' ∨ ¬ c < c')) ∨ (¬ r < r' ∧ (r == r') = false ∧ ¬ r = r') := by
  by_cases h : r < r'
  · exact .inl h
  · by_cases e : r = r'
    · exact .inr (.inl ⟨h, by simp [e], by omega⟩)
    · exact .inr (.inr ⟨h, by simp [e], e⟩)
theorem addr_less (c r c' r' : Int) (w : World) :
    Calls Tryz.prog 126 #[.agg #[.int .i64 c, .int .i64 r], .agg #[.int .i64 c', .int .i64 r']] w fun e w' => e = .returned (.bool (lessB ⟨c, r⟩ ⟨c', r'⟩)) ∧ Below w.heap.size w w' := by
  rcases less_cases r r' c c' with h | ⟨h, e, h2 | h2⟩ | ⟨h, e, h2⟩
  all_goals
    go_enter Tryz.func126, Tryz.ntmps126
    go_wp2
    go_ret
    exact ⟨by simp [lessB, *]; try simp_all; try omega, by go_grown⟩
theorem rect_one (c r : Int) (w : World) :
    Calls Tryz.prog 123 #[.agg #[.int .i64 c, .int .i64 r]] w fun e w' => e = .returned (.agg #[.int .i64 c, .int .i64 r, .int .i64 c, .int .i64 r]) ∧ Below w.heap.size w w' := by
  go_enter Tryz.func123, Tryz.ntmps123
  go_wp2
  go_returns
  exact ⟨rfl, by go_grown⟩
theorem acl_sheet (w : World) :
    Calls Tryz.prog 171 #[] w fun e w' => e = .returned (.agg #[.int .i64 1, .int .i64 1, .int .i64 1024, .int .i64 1024]) ∧ Below w.heap.size w w' := by
  go_enter Tryz.func171, Tryz.ntmps171
  go_wp2
  go_returns
  exact ⟨rfl, by go_grown⟩
theorem rect_corners (a b c d : Int) (w : World) :
    Calls Tryz.prog 198 #[.agg #[.int .i64 a, .int .i64 b, .int .i64 c, .int .i64 d]] w fun e w' => e = .returned (.tuple #[.agg #[.int .i64 a, .int .i64 b], .agg #[.int .i64 c, .int .i64 d]]) ∧ Below w.heap.size w w' := by
  go_enter Tryz.func198, Tryz.ntmps198
  go_wp2
  go_region
  go_wp2
  go_returns
  exact ⟨rfl, by go_grown⟩
/-- Go's error of a range that is not valid. -/
def rctE (x : Rct) : Int := if rctB x then 0 else 3
theorem rctE_no1 {a b c d : Int} (h : validB a b = false) : rctE ⟨a, b, c, d⟩ = 3 := by simp [rctE, rctB, h]
theorem rctE_no2 {a b c d : Int} (h : validB c d = false) : rctE ⟨a, b, c, d⟩ = 3 := by simp [rctE, rctB, h]
theorem rctE_no3 {a b c d : Int} (h : c < a) : rctE ⟨a, b, c, d⟩ = 3 := by simp [rctE, rctB]; omega
theorem rctE_no4 {a b c d : Int} (h : d < b) : rctE ⟨a, b, c, d⟩ = 3 := by simp [rctE, rctB]; omega
theorem rctE_yes {a b c d : Int} (h1 : validB a b = true) (h2 : validB c d = true) (h3 : ¬ c < a) (h4 : ¬ d < b) : rctE ⟨a, b, c, d⟩ = 0 := by simp [rctE, rctB, h1, h2]; omega
theorem rect_check (a b c d : Int) (w : World) :
    Calls Tryz.prog 172 #[.agg #[.int .i64 a, .int .i64 b, .int .i64 c, .int .i64 d]] w fun e w' => e = .returned (.int .i64 (rctE ⟨a, b, c, d⟩)) ∧ Below w.heap.size w w' := by
  go_enter Tryz.func172, Tryz.ntmps172
  go_wp2_with fail
  refine (rect_corners a b c d _).mono ?_
  rintro e w1 ⟨rfl, hb1⟩
  have hz1 := hb1.size
  try simp at hz1
  have hB1 : Below w.heap.size w w1 := Below.next (by go_grown) hb1 (by first | (simp; done) | (simp; omega) | omega)
  have hc1_0 : ∀ o, w1.cell? ⟨w.heap.size, o, none⟩ = _ := fun o => hb1.cell (p := ⟨w.heap.size, o, none⟩) (by first | (simp; done) | (simp; omega) | omega)
  have hl1_0 : w.heap.size < w1.heap.size := by omega
  have hm1_0 : w.heap.size ≤ w1.heap.size := by omega
  have hn1_0 : w.heap.size ≤ w1.heap.size + 1 := by omega
  have ho1_0 : w.heap.size ≤ w1.heap.size + 1 + 1 := by omega
  have hf1_0 : ∀ o, w1.frozen? ⟨w.heap.size, o, none⟩ = _ := fun o => hb1.frozen (p := ⟨w.heap.size, o, none⟩) (by first | (simp; done) | (simp; omega) | omega)
  go_wp2_with fail
  refine (addr_valid a b _).mono ?_
  rintro e w2 ⟨rfl, hb2⟩
  have hz2 := hb2.size
  try simp at hz2
  have hB2 : Below w.heap.size w w2 := Below.next (by go_grown) hb2 (by first | (simp; done) | (simp; omega) | omega)
  have hc2_0 : ∀ o, w2.cell? ⟨w.heap.size, o, none⟩ = _ := fun o => hb2.cell (p := ⟨w.heap.size, o, none⟩) (by first | (simp; done) | (simp; omega) | omega)
  have hl2_0 : w.heap.size < w2.heap.size := by omega
  have hm2_0 : w.heap.size ≤ w2.heap.size := by omega
  have hn2_0 : w.heap.size ≤ w2.heap.size + 1 := by omega
  have ho2_0 : w.heap.size ≤ w2.heap.size + 1 + 1 := by omega
  have hf2_0 : ∀ o, w2.frozen? ⟨w.heap.size, o, none⟩ = _ := fun o => hb2.frozen (p := ⟨w.heap.size, o, none⟩) (by first | (simp; done) | (simp; omega) | omega)
  have hc2_1 : ∀ o, w2.cell? ⟨w1.heap.size, o, none⟩ = _ := fun o => hb2.cell (p := ⟨w1.heap.size, o, none⟩) (by first | (simp; done) | (simp; omega) | omega)
  have hl2_1 : w1.heap.size < w2.heap.size := by omega
  have hm2_1 : w1.heap.size ≤ w2.heap.size := by omega
  have hn2_1 : w1.heap.size ≤ w2.heap.size + 1 := by omega
  have ho2_1 : w1.heap.size ≤ w2.heap.size + 1 + 1 := by omega
  have hf2_1 : ∀ o, w2.frozen? ⟨w1.heap.size, o, none⟩ = _ := fun o => hb2.frozen (p := ⟨w1.heap.size, o, none⟩) (by first | (simp; done) | (simp; omega) | omega)
  have hc2_2 : ∀ o, w2.cell? ⟨w1.heap.size + 1, o, none⟩ = _ := fun o => hb2.cell (p := ⟨w1.heap.size + 1, o, none⟩) (by first | (simp; done) | (simp; omega) | omega)
  have hl2_2 : w1.heap.size + 1 < w2.heap.size := by omega
  have hm2_2 : w1.heap.size + 1 ≤ w2.heap.size := by omega
  have hn2_2 : w1.heap.size + 1 ≤ w2.heap.size + 1 := by omega
  have ho2_2 : w1.heap.size + 1 ≤ w2.heap.size + 1 + 1 := by omega
  have hf2_2 : ∀ o, w2.frozen? ⟨w1.heap.size + 1, o, none⟩ = _ := fun o => hb2.frozen (p := ⟨w1.heap.size + 1, o, none⟩) (by first | (simp; done) | (simp; omega) | omega)
  cases h1 : validB a b
  · have H := Lib.hid (rctE_no1 (c := c) (d := d) h1)
    go_wp2
    go_ret
    exact ⟨by rw [H.out]; rfl, by go_grown⟩
  · skip
    go_wp2_with fail
    refine (addr_valid c d _).mono ?_
    rintro e w3 ⟨rfl, hb3⟩
    have hz3 := hb3.size
    try simp at hz3
    have hB3 : Below w.heap.size w w3 := Below.next (by go_grown) hb3 (by first | (simp; done) | (simp; omega) | omega)
    have hc3_0 : ∀ o, w3.cell? ⟨w.heap.size, o, none⟩ = _ := fun o => hb3.cell (p := ⟨w.heap.size, o, none⟩) (by first | (simp; done) | (simp; omega) | omega)
    have hl3_0 : w.heap.size < w3.heap.size := by omega
    have hm3_0 : w.heap.size ≤ w3.heap.size := by omega
    have hn3_0 : w.heap.size ≤ w3.heap.size + 1 := by omega
    have ho3_0 : w.heap.size ≤ w3.heap.size + 1 + 1 := by omega
    have hf3_0 : ∀ o, w3.frozen? ⟨w.heap.size, o, none⟩ = _ := fun o => hb3.frozen (p := ⟨w.heap.size, o, none⟩) (by first | (simp; done) | (simp; omega) | omega)
    cases h2 : validB c d
    · have H := Lib.hid (rctE_no2 (a := a) (b := b) h2)
      go_wp2
      go_ret
      exact ⟨by rw [H.out]; rfl, by go_grown⟩
    · by_cases h3 : c < a
      · have H := Lib.hid (rctE_no3 (b := b) (d := d) h3)
        go_wp2
        go_ret
        exact ⟨by rw [H.out]; rfl, by go_grown⟩
      · by_cases h4 : d < b
        · have H := Lib.hid (rctE_no4 (a := a) (c := c) h4)
          go_wp2
          go_ret
          exact ⟨by rw [H.out]; rfl, by go_grown⟩
        · have H := Lib.hid (rctE_yes h1 h2 h3 h4)
          go_wp2
          go_ret
          exact ⟨by rw [H.out]; rfl, by go_grown⟩
theorem encode_ascii (c : Int) (h0 : 0 ≤ c) (h1 : c < 128) : Utf8.encode c = ⟨#[UInt8.ofNat c.toNat]⟩ := by
  have hv : Utf8.valid c = true := by unfold Utf8.valid; simp; omega
  unfold Utf8.encode
  simp only [hv, if_true]
  rw [if_pos (by omega)]
theorem addr_letters (n : Nat) (w : World) (h1 : 1 ≤ (n : Int)) (h2 : (n : Int) ≤ 1024) :
    Calls Tryz.prog 208 #[.int .i64 n] w fun e w' => e = .returned (.tuple #[str (letters n), .int .i64 0]) ∧ w = w' := by
  go_enter Tryz.func208, Tryz.ntmps208
  go_wp2
  go_loop [0, 4] (fun v s => ∃ (k : Nat) (l : Bytes), k ≤ n ∧ v = .int .i64 k ∧ s = str l ∧ letters n = letters k ++ l ∧ k + l.length ≤ n) (fun v _ => (intOf v).toNat)
  case atStart => exact ⟨n, [], by omega, rfl, rfl, by simp, by simp⟩
  case round =>
    obtain ⟨k, l, hk, rfl, rfl, he, hl⟩ := hrel
    have HE := Lib.hid he
    clear he
    by_cases h0 : 0 < k
    · obtain ⟨j, rfl⟩ : ∃ j, k = j + 1 := ⟨k - 1, by omega⟩
      have hu := encode_ascii (65 + (j : Int) % 26) (by omega) (by omega)
      go_wp2
      refine ⟨⟨j / 26, UInt8.ofNat (65 + j % 26) :: l, by omega, by simp, ?_, ?_, by simp; omega⟩, by simp [intOf]; omega⟩
      · show Value.string _ = Value.string _
        rw [bytes_cons, UInt8.ofNat_add]; rfl
      · rw [HE.out, letters]; simp
    · go_wp2
      go_ret2
      have : k = 0 := by omega
      subst this
      exact ⟨by rw [HE.out]; simp [letters], rfl⟩
theorem dig_at (n : Nat) (h : n < 10) : (⟨#[48, 49, 50, 51, 52, 53, 54, 55, 56, 57, 97, 98, 99, 100, 101, 102, 103, 104, 105, 106, 107, 108, 109, 110, 111, 112, 113, 114, 115, 116, 117, 118, 119, 120, 121, 122]⟩ : ByteArray).extract n (n + 1) = ⟨[dig n].toArray⟩ := by
  have e : n = 0 ∨ n = 1 ∨ n = 2 ∨ n = 3 ∨ n = 4 ∨ n = 5 ∨ n = 6 ∨ n = 7 ∨ n = 8 ∨ n = 9 := by omega
  rcases e with rfl | rfl | rfl | rfl | rfl | rfl | rfl | rfl | rfl | rfl <;> rfl
theorem small_any (n : Nat) (h : n < 10) (w : World) :
    Calls Tryz.prog 233 #[.int .i64 n] w fun u w' => u = .returned (str [dig n]) ∧ w = w' := by
  have H := Lib.hid (dig_at n h)
  go_enter Tryz.func233, Tryz.ntmps233
  go_wp2
  go_ret
  exact ⟨by rw [H.out]; rfl, rfl⟩
theorem itoa_small (n : Nat) (h : n < 10) (w : World) :
    Calls Tryz.prog 129 #[.int .i64 n] w fun u w' => u = .returned (str [dig n]) ∧ w = w' := by
  go_enter Tryz.func129, Tryz.ntmps129
  go_wp2_with (first | (go_at_call 233; refine (small_any n h _).mono ?_; rintro e w1 ⟨rfl, rfl⟩) | go_in)
  go_ret
  exact ⟨rfl, rfl⟩
theorem letters_small {n : Nat} (h1 : 1 ≤ n) (h2 : n ≤ 26) : letters n = [UInt8.ofNat (64 + n)] := by
  obtain ⟨m, rfl⟩ : ∃ m, n = m + 1 := ⟨n - 1, by omega⟩
  have e1 : m / 26 = 0 := by omega
  have e2 : m % 26 = m := by omega
  rw [letters, e1, e2, letters]
  show [UInt8.ofNat (65 + m)] = _
  congr 2
  omega
theorem digits_small {n : Nat} (h : n < 10) : digits n = [dig n] := by rw [digits, dif_pos h]
/-- A small address. -/
def SmallR (r : Ref) : Prop := 1 ≤ r.col ∧ r.col ≤ 26 ∧ 1 ≤ r.row ∧ r.row ≤ 9
theorem small_valid {r : Ref} (h : SmallR r) : validB r.col r.row = true := by
  obtain ⟨h1, h2, h3, h4⟩ := h
  simp [validB]
  omega
theorem fmt_small {r : Ref} (h : SmallR r) : fmtRef r = [UInt8.ofNat (64 + r.col.toNat), dig r.row.toNat] := by
  unfold fmtRef
  rw [if_pos (small_valid h)]
  obtain ⟨h1, h2, h3, h4⟩ := h
  rw [letters_small (by omega) (by omega), digits_small (by omega)]
  rfl
theorem fmt_len {r : Ref} (h : SmallR r) : (fmtRef r).length = 2 := by rw [fmt_small h]; rfl
theorem addr_format (c r : Nat) (w : World) (h : SmallR ⟨c, r⟩) :
    Calls Tryz.prog 184 #[.agg #[.int .i64 c, .int .i64 r]] w fun e w' => e = .returned (.tuple #[str (fmtRef ⟨c, r⟩), .int .i64 0]) ∧ Below w.heap.size w w' := by
  have hv := small_valid h
  simp only at hv
  have hf := fmt_small h
  obtain ⟨h1, h2, h3, h4⟩ := h
  simp only at h1 h2 h3 h4
  obtain ⟨x, hx⟩ : ∃ x, x = UInt8.ofNat (64 + c) := ⟨_, rfl⟩
  have hL : letters c = [x] := by rw [hx]; exact letters_small (by omega) (by omega)
  have hf : fmtRef ⟨c, r⟩ = [x, dig r] := by rw [hf, hx]; rfl
  clear hx
  have HL := Lib.hid (addr_letters c · (by omega) (by omega))
  have HV := Lib.hid hv
  have HF := Lib.hid hf
  clear hv hf
  go_enter Tryz.func184, Tryz.ntmps184
  go_wp2_with fail
  refine (addr_valid c r _).mono ?_
  rintro e w1 ⟨rfl, hb1⟩
  have hz1 := hb1.size
  try simp at hz1
  have hB1 : Below w.heap.size w w1 := Below.next (by go_grown) hb1 (by first | (simp; done) | (simp; omega) | omega)
  have hc1_0 : ∀ o, w1.cell? ⟨w.heap.size, o, none⟩ = _ := fun o => hb1.cell (p := ⟨w.heap.size, o, none⟩) (by first | (simp; done) | (simp; omega) | omega)
  have hl1_0 : w.heap.size < w1.heap.size := by omega
  have hm1_0 : w.heap.size ≤ w1.heap.size := by omega
  have hn1_0 : w.heap.size ≤ w1.heap.size + 1 := by omega
  have ho1_0 : w.heap.size ≤ w1.heap.size + 1 + 1 := by omega
  have hf1_0 : ∀ o, w1.frozen? ⟨w.heap.size, o, none⟩ = _ := fun o => hb1.frozen (p := ⟨w.heap.size, o, none⟩) (by first | (simp; done) | (simp; omega) | omega)
  rw [HV.out]
  go_wp2_with fail
  refine (HL.out _).mono ?_
  rintro e w2 ⟨rfl, rfl⟩
  rw [hL]
  go_wp2_with fail
  refine (itoa_small r (by omega) _).mono ?_
  rintro e w2 ⟨rfl, rfl⟩
  go_wp2
  go_ret2
  exact ⟨by rw [HF.out]; exact congrArg (fun s => Ending.returned (.tuple #[Value.string s, Value.int .i64 0])) (bytes_app [x] [dig r]), by go_grown⟩
/-- A small range. -/
def SmallX (x : Rct) : Prop := SmallR ⟨x.c1, x.r1⟩ ∧ SmallR ⟨x.c2, x.r2⟩ ∧ x.c1 ≤ x.c2 ∧ x.r1 ≤ x.r2
theorem smallX_B {x : Rct} (h : SmallX x) : rctB x = true := by
  obtain ⟨h1, h2, h3, h4⟩ := h
  have k1 := small_valid h1
  have k2 := small_valid h2
  simp only at k1 k2
  simp [rctB, k1, k2, h3, h4]
theorem eql_ref (x y : Ref) (w : World) : (binOp .eql 56 (.agg #[.int .i64 x.col, .int .i64 x.row]) (.agg #[.int .i64 y.col, .int .i64 y.row])).run Tryz.prog w = .ok (.bool (decide (x = y))) w := by
  obtain ⟨a, b⟩ := x
  obtain ⟨a', b'⟩ := y
  simp [go_sem]
  by_cases q0 : a = a'
  · by_cases q1 : b = b'
    · simp [q0, q1]
    · simp [q0, q1]
  · simp [q0]
theorem rect_format (a b c d : Nat) (w : World) (h : SmallX ⟨a, b, c, d⟩) :
    Calls Tryz.prog 185 #[.agg #[.int .i64 a, .int .i64 b, .int .i64 c, .int .i64 d]] w fun e w' => e = .returned (.tuple #[str (fmtRct ⟨a, b, c, d⟩), .int .i64 0]) ∧ Below w.heap.size w w' := by
  have hb := smallX_B h
  have hE : rctE ⟨a, b, c, d⟩ = 0 := by unfold rctE; rw [if_pos hb]
  obtain ⟨h1, h2, _, _⟩ := h
  simp only at h1 h2
  have l1 := fmt_len h1
  have l2 := fmt_len h2
  have HE := Lib.hid hE
  have H1 := Lib.hid (addr_format a b · h1)
  have H2 := Lib.hid (addr_format c d · h2)
  have L1 := Lib.hid l1
  have L2 := Lib.hid l2
  have HB := Lib.hid hb
  clear hE hb h1 h2 l1 l2
  go_enter Tryz.func185, Tryz.ntmps185
  go_wp2_with fail
  refine (rect_check a b c d _).mono ?_
  rintro e w1 ⟨rfl, hb1⟩
  have hz1 := hb1.size
  try simp at hz1
  have hB1 : Below w.heap.size w w1 := Below.next (by go_grown) hb1 (by first | (simp; done) | (simp; omega) | omega)
  have hc1_0 : ∀ o, w1.cell? ⟨w.heap.size, o, none⟩ = _ := fun o => hb1.cell (p := ⟨w.heap.size, o, none⟩) (by first | (simp; done) | (simp; omega) | omega)
  have hl1_0 : w.heap.size < w1.heap.size := by omega
  have hm1_0 : w.heap.size ≤ w1.heap.size := by omega
  have hn1_0 : w.heap.size ≤ w1.heap.size + 1 := by omega
  have ho1_0 : w.heap.size ≤ w1.heap.size + 1 + 1 := by omega
  have hf1_0 : ∀ o, w1.frozen? ⟨w.heap.size, o, none⟩ = _ := fun o => hb1.frozen (p := ⟨w.heap.size, o, none⟩) (by first | (simp; done) | (simp; omega) | omega)
  rw [HE.out]
  go_wp2_with fail
  refine (rect_corners a b c d _).mono ?_
  rintro e w2 ⟨rfl, hb2⟩
  have hz2 := hb2.size
  try simp at hz2
  have hB2 : Below w.heap.size w w2 := Below.next (by go_grown) hb2 (by first | (simp; done) | (simp; omega) | omega)
  have hc2_0 : ∀ o, w2.cell? ⟨w.heap.size, o, none⟩ = _ := fun o => hb2.cell (p := ⟨w.heap.size, o, none⟩) (by first | (simp; done) | (simp; omega) | omega)
  have hl2_0 : w.heap.size < w2.heap.size := by omega
  have hm2_0 : w.heap.size ≤ w2.heap.size := by omega
  have hn2_0 : w.heap.size ≤ w2.heap.size + 1 := by omega
  have ho2_0 : w.heap.size ≤ w2.heap.size + 1 + 1 := by omega
  have hf2_0 : ∀ o, w2.frozen? ⟨w.heap.size, o, none⟩ = _ := fun o => hb2.frozen (p := ⟨w.heap.size, o, none⟩) (by first | (simp; done) | (simp; omega) | omega)
  go_wp2_with fail
  refine (H1.out _).mono ?_
  rintro e w3 ⟨rfl, hb3⟩
  have hz3 := hb3.size
  try simp at hz3
  have hB3 : Below w.heap.size w w3 := Below.next (by go_grown) hb3 (by first | (simp; done) | (simp; omega) | omega)
  have hc3_0 : ∀ o, w3.cell? ⟨w2.heap.size, o, none⟩ = _ := fun o => hb3.cell (p := ⟨w2.heap.size, o, none⟩) (by first | (simp; done) | (simp; omega) | omega)
  have hl3_0 : w2.heap.size < w3.heap.size := by omega
  have hm3_0 : w2.heap.size ≤ w3.heap.size := by omega
  have hn3_0 : w2.heap.size ≤ w3.heap.size + 1 := by omega
  have ho3_0 : w2.heap.size ≤ w3.heap.size + 1 + 1 := by omega
  have hf3_0 : ∀ o, w3.frozen? ⟨w2.heap.size, o, none⟩ = _ := fun o => hb3.frozen (p := ⟨w2.heap.size, o, none⟩) (by first | (simp; done) | (simp; omega) | omega)
  have hc3_1 : ∀ o, w3.cell? ⟨w2.heap.size + 1, o, none⟩ = _ := fun o => hb3.cell (p := ⟨w2.heap.size + 1, o, none⟩) (by first | (simp; done) | (simp; omega) | omega)
  have hl3_1 : w2.heap.size + 1 < w3.heap.size := by omega
  have hm3_1 : w2.heap.size + 1 ≤ w3.heap.size := by omega
  have hn3_1 : w2.heap.size + 1 ≤ w3.heap.size + 1 := by omega
  have ho3_1 : w2.heap.size + 1 ≤ w3.heap.size + 1 + 1 := by omega
  have hf3_1 : ∀ o, w3.frozen? ⟨w2.heap.size + 1, o, none⟩ = _ := fun o => hb3.frozen (p := ⟨w2.heap.size + 1, o, none⟩) (by first | (simp; done) | (simp; omega) | omega)
  by_cases he : a = c ∧ b = d
  · obtain ⟨rfl, rfl⟩ := he
    have HX := Lib.hid (show fmtRct ⟨a, b, a, b⟩ = fmtRef ⟨a, b⟩ by unfold fmtRct; rw [if_pos HB.out, if_pos (by simp)])
    have HQ : ∀ W, (binOp .eql 56 (.agg #[.int .i64 a, .int .i64 b]) (.agg #[.int .i64 a, .int .i64 b])).run Tryz.prog W = .ok (.bool true) W := fun W => (eql_ref ⟨a, b⟩ ⟨a, b⟩ W).trans (by simp)
    go_wp2_with fail
    go_ret2
    exact ⟨by rw [HX.out]; rfl, by go_grown⟩
  · have HX := Lib.hid (show fmtRct ⟨a, b, c, d⟩ = fmtRef ⟨a, b⟩ ++ 58 :: fmtRef ⟨c, d⟩ by unfold fmtRct; rw [if_pos HB.out, if_neg (by simp only; omega)])
    have HQ : ∀ W, (binOp .eql 56 (.agg #[.int .i64 a, .int .i64 b]) (.agg #[.int .i64 c, .int .i64 d])).run Tryz.prog W = .ok (.bool false) W := fun W => (eql_ref ⟨a, b⟩ ⟨c, d⟩ W).trans (by rw [decide_eq_false (by simp only [Ref.mk.injEq]; omega)])
    go_wp2_with fail
    refine (H2.out _).mono ?_
    rintro e w4 ⟨rfl, hb4⟩
    have hB4 := Below.next_ hB3 hb4
    generalize fmtRef ⟨a, b⟩ = X at *
    generalize fmtRef ⟨c, d⟩ = Y at *
    have m1 := L1.out
    have m2 := L2.out
    go_wp2_with fail
    go_ret2
    refine ⟨?_, hB4⟩
    rw [HX.out]
    refine congrArg (fun s => Ending.returned (.tuple #[Value.string s, Value.int .i64 0])) (?_ : (⟨X.toArray⟩ : ByteArray) ++ ⟨[58].toArray⟩ ++ ⟨Y.toArray⟩ = _)
    rw [bytes_app, bytes_app]
    simp
theorem bytes_tail (c : UInt8) (t : Bytes) : (⟨(c :: t).toArray⟩ : ByteArray).extract 1 (t.length + 1) = ⟨t.toArray⟩ := by
  apply ByteArray.ext
  simp
theorem take_num (c : UInt8) (t : Bytes) (n : Int) : (wrap64 ((⟨(c :: t).toArray⟩ : ByteArray)[0]'(by show 0 < ((c :: t).toArray).size; simp)).toNat).tmod n = (take n (c :: t)).1 := by
  have e : ((⟨(c :: t).toArray⟩ : ByteArray)[0]'(by show 0 < ((c :: t).toArray).size; simp)) = c := rfl
  rw [e]
  have hc : c.toNat < 256 := c.toNat_lt
  have hw : wrap64 (c.toNat : Int) = (c.toNat : Int) := by unfold wrap64; omega
  rw [hw]
  show _ = ((c.toNat : Int) % n)
  exact Int.tmod_eq_emod_of_nonneg (by omega)
theorem take_any (g : Nat) (s : Bytes) (n : Int) (w : World) (h0 : 0 < n) (hg : Blk w g 74 #[str s]) :
    Calls Tryz.prog 35 #[.pointer (some ⟨g, 0, none⟩), .int .i64 n] w fun e w' => e = .returned (.int .i64 (take n s).1) ∧ Blk w' g 74 #[str (take n s).2] ∧ Chg (fun k => k = g) w w' := by
  have HG := Lib.hid hg
  cases s with
  | nil =>
    have hc : w.cell? ⟨g, 0, none⟩ = some (str []) := hg.cell 0
    clear hg
    go_enter Tryz.func35, Tryz.ntmps35
    go_wp2
    go_ret
    exact ⟨rfl, HG.out, Chg.refl _ _⟩
  | cons c t =>
    have hc : w.cell? ⟨g, 0, none⟩ = some (str (c :: t)) := hg.cell 0
    have hf : w.frozen? ⟨g, 0, none⟩ = false := hg.frozen 0
    clear hg
    go_enter Tryz.func35, Tryz.ntmps35
    go_wp2
    go_ret
    refine ⟨ret_int (take_num c t n), ?_, ?_⟩
    · rw [bytes_tail]
      exact HG.out.set_ 0 (str t)
    · exact (Chg.refl (fun k => k = g) _).setCell (p := ⟨g, 0, none⟩) (.inl rfl) _
theorem spot_any (g : Nat) (s : Bytes) (w : World) (k0 : Blk w g 74 #[str s]) :
    Calls Tryz.prog 38 #[.pointer (some ⟨g, 0, none⟩)] w fun e w' => e = .returned (.agg #[.int .i64 (spot s).1.col, .int .i64 (spot s).1.row]) ∧ Blk w' g 74 #[str (spot s).2] ∧ Chg (fun k => k = g) w w' := by
  have hg := k0.lt
  have b1 := take_bd 3 (by decide) s
  have b2 := take_bd 4 (by decide) (take 3 s).2
  have K0 := Lib.hid k0
  clear k0
  go_enter Tryz.func38, Tryz.ntmps38
  go_wp2_with fail
  refine (take_any g s 3 _ (by decide) (by have k0 := K0.out; exact (by repeat' (first | with_reducible exact k0 | with_reducible refine Blk.drew ?_ | with_reducible refine Blk.alloc ?_ _ | with_reducible refine Blk.far ?_ ?_ _ | (simp; done) | (simp; omega) | omega | exact k0)))).mono ?_
  rintro e w1 ⟨rfl, k1, hd1⟩
  have hz1 := hd1.size
  try simp at hz1
  have hD1 : Chg (fun k => k = g) w w1 := Chg.trans (by repeat' (first | with_reducible exact Chg.refl _ _ | with_reducible assumption | with_reducible refine Chg.alloc ?_ _ | with_reducible refine Chg.drew ?_ | with_reducible refine Chg.setCell ?_ (.inr ?_) _ | (simp; done) | (simp; omega) | omega)) (hd1.mono (fun k hk hs => hs))
  have hc1_0 : ∀ o, w1.cell? ⟨w.heap.size, o, none⟩ = _ := fun o => hd1.cell (p := ⟨w.heap.size, o, none⟩) (by first | (simp; done) | (simp; omega) | omega) (by first | omega | (simp; omega))
  have hl1_0 : w.heap.size < w1.heap.size := by omega
  have hm1_0 : w.heap.size ≤ w1.heap.size := by omega
  have hn1_0 : w.heap.size ≤ w1.heap.size + 1 := by omega
  have ho1_0 : w.heap.size ≤ w1.heap.size + 1 + 1 := by omega
  have hf1_0 : ∀ o, w1.frozen? ⟨w.heap.size, o, none⟩ = _ := fun o => hd1.frozen (p := ⟨w.heap.size, o, none⟩) (by first | (simp; done) | (simp; omega) | omega) (by first | omega | (simp; omega))
  go_wp2_with fail
  refine (take_any g _ 4 _ (by decide) (by repeat' (first | with_reducible exact k1 | with_reducible refine Blk.drew ?_ | with_reducible refine Blk.alloc ?_ _ | with_reducible refine Blk.far ?_ ?_ _ | (simp; done) | (simp; omega) | omega | exact k1))).mono ?_
  rintro e w2 ⟨rfl, k2, hd2⟩
  have hz2 := hd2.size
  try simp at hz2
  have hD2 : Chg (fun k => k = g) w w2 := Chg.trans (by repeat' (first | with_reducible exact Chg.refl _ _ | with_reducible assumption | with_reducible refine Chg.alloc ?_ _ | with_reducible refine Chg.drew ?_ | with_reducible refine Chg.setCell ?_ (.inr ?_) _ | (simp; done) | (simp; omega) | omega)) (hd2.mono (fun k hk hs => hs))
  have hc2_0 : ∀ o, w2.cell? ⟨w.heap.size, o, none⟩ = _ := fun o => hd2.cell (p := ⟨w.heap.size, o, none⟩) (by first | (simp; done) | (simp; omega) | omega) (by first | omega | (simp; omega))
  have hl2_0 : w.heap.size < w2.heap.size := by omega
  have hm2_0 : w.heap.size ≤ w2.heap.size := by omega
  have hn2_0 : w.heap.size ≤ w2.heap.size + 1 := by omega
  have ho2_0 : w.heap.size ≤ w2.heap.size + 1 + 1 := by omega
  have hf2_0 : ∀ o, w2.frozen? ⟨w.heap.size, o, none⟩ = _ := fun o => hd2.frozen (p := ⟨w.heap.size, o, none⟩) (by first | (simp; done) | (simp; omega) | omega) (by first | omega | (simp; omega))
  go_wp2
  refine bodyPost_ret (v := .agg #[.int .i64 (1 + (take 3 s).1), .int .i64 (1 + (take 4 (take 3 s).2).1)]) (by simp (maxDischargeDepth := 9) [results, Tryz.results38, go_sem, hc1_0, hc2_0]) rfl ?_
  exact ⟨rfl, (by repeat' (first | with_reducible exact k2 | with_reducible refine Blk.drew ?_ | with_reducible refine Blk.alloc ?_ _ | with_reducible refine Blk.far ?_ ?_ _ | (simp; done) | (simp; omega) | omega | exact k2)), (by repeat' (first | with_reducible exact Chg.refl _ _ | with_reducible assumption | with_reducible refine Chg.alloc ?_ _ | with_reducible refine Chg.drew ?_ | with_reducible refine Chg.setCell ?_ (.inr ?_) _ | (simp; done) | (simp; omega) | omega))⟩
theorem pow_users (u : Nat) (hu : u ≤ 4) : (0 : Int) < 2 ^ u ∧ (2 : Int) ^ u ≤ 16 := by
  have h : u = 0 ∨ u = 1 ∨ u = 2 ∨ u = 3 ∨ u = 4 := by omega
  rcases h with rfl | rfl | rfl | rfl | rfl <;> simp
theorem crowd_any (g : Nat) (s : Bytes) (u : Nat) (w : World) (hu : (u : Int) ≤ 4) (k0 : Blk w g 74 #[str s]) :
    Calls Tryz.prog 41 #[.pointer (some ⟨g, 0, none⟩), .int .i64 u] w fun e w' => e = .returned (.int .u64 (crowd u s).1) ∧ Blk w' g 74 #[str (crowd u s).2] ∧ Chg (fun k => k = g) w w' := by
  have hp := pow_users u (by omega)
  have hb := take_bd (2 ^ u) hp.1 s
  have HT := Lib.hid (take_any g s (2 ^ u) w hp.1 k0)
  clear k0
  go_enter Tryz.func41, Tryz.ntmps41
  go_wp2_with fail
  refine HT.out.mono ?_
  rintro e w1 ⟨rfl, k1, hd1⟩
  go_wp2
  go_ret
  exact ⟨rfl, k1, hd1⟩
theorem crowds_any (g : Nat) (s : Bytes) (u : Nat) (w : World) (hu : (u : Int) ≤ 4) (k0 : Blk w g 74 #[str s]) :
    Calls Tryz.prog 36 #[.pointer (some ⟨g, 0, none⟩), .int .i64 u] w fun e w' =>
      e = .returned (.agg #[.int .u64 (crowds u s).1.rd, .int .u64 (crowds u s).1.wr, .int .u64 (crowds u s).1.ow]) ∧ Blk w' g 74 #[str (crowds u s).2] ∧ Chg (fun k => k = g) w w' := by
  have hg := k0.lt
  have K0 := Lib.hid k0
  clear k0
  go_enter Tryz.func36, Tryz.ntmps36
  go_wp2_with fail
  refine (crowd_any g s u _ hu (by have k0 := K0.out; exact (by repeat' (first | with_reducible exact k0 | with_reducible refine Blk.drew ?_ | with_reducible refine Blk.alloc ?_ _ | with_reducible refine Blk.far ?_ ?_ _ | (simp; done) | (simp; omega) | omega | exact k0)))).mono ?_
  rintro e w1 ⟨rfl, k1, hd1⟩
  have hz1 := hd1.size
  try simp at hz1
  have hD1 : Chg (fun k => k = g) w w1 := Chg.trans (by repeat' (first | with_reducible exact Chg.refl _ _ | with_reducible assumption | with_reducible refine Chg.alloc ?_ _ | with_reducible refine Chg.drew ?_ | with_reducible refine Chg.setCell ?_ (.inr ?_) _ | (simp; done) | (simp; omega) | omega)) (hd1.mono (fun k hk hs => hs))
  have hc1_0 : ∀ o, w1.cell? ⟨w.heap.size, o, none⟩ = _ := fun o => hd1.cell (p := ⟨w.heap.size, o, none⟩) (by first | (simp; done) | (simp; omega) | omega) (by first | omega | (simp; omega))
  have hl1_0 : w.heap.size < w1.heap.size := by omega
  have hm1_0 : w.heap.size ≤ w1.heap.size := by omega
  have hn1_0 : w.heap.size ≤ w1.heap.size + 1 := by omega
  have ho1_0 : w.heap.size ≤ w1.heap.size + 1 + 1 := by omega
  have hf1_0 : ∀ o, w1.frozen? ⟨w.heap.size, o, none⟩ = _ := fun o => hd1.frozen (p := ⟨w.heap.size, o, none⟩) (by first | (simp; done) | (simp; omega) | omega) (by first | omega | (simp; omega))
  go_wp2_with fail
  refine (crowd_any g _ u _ hu (by repeat' (first | with_reducible exact k1 | with_reducible refine Blk.drew ?_ | with_reducible refine Blk.alloc ?_ _ | with_reducible refine Blk.far ?_ ?_ _ | (simp; done) | (simp; omega) | omega | exact k1))).mono ?_
  rintro e w2 ⟨rfl, k2, hd2⟩
  have hz2 := hd2.size
  try simp at hz2
  have hD2 : Chg (fun k => k = g) w w2 := Chg.trans (by repeat' (first | with_reducible exact Chg.refl _ _ | with_reducible assumption | with_reducible refine Chg.alloc ?_ _ | with_reducible refine Chg.drew ?_ | with_reducible refine Chg.setCell ?_ (.inr ?_) _ | (simp; done) | (simp; omega) | omega)) (hd2.mono (fun k hk hs => hs))
  have hc2_0 : ∀ o, w2.cell? ⟨w.heap.size, o, none⟩ = _ := fun o => hd2.cell (p := ⟨w.heap.size, o, none⟩) (by first | (simp; done) | (simp; omega) | omega) (by first | omega | (simp; omega))
  have hl2_0 : w.heap.size < w2.heap.size := by omega
  have hm2_0 : w.heap.size ≤ w2.heap.size := by omega
  have hn2_0 : w.heap.size ≤ w2.heap.size + 1 := by omega
  have ho2_0 : w.heap.size ≤ w2.heap.size + 1 + 1 := by omega
  have hf2_0 : ∀ o, w2.frozen? ⟨w.heap.size, o, none⟩ = _ := fun o => hd2.frozen (p := ⟨w.heap.size, o, none⟩) (by first | (simp; done) | (simp; omega) | omega) (by first | omega | (simp; omega))
  go_wp2_with fail
  refine (crowd_any g _ u _ hu (by repeat' (first | with_reducible exact k2 | with_reducible refine Blk.drew ?_ | with_reducible refine Blk.alloc ?_ _ | with_reducible refine Blk.far ?_ ?_ _ | (simp; done) | (simp; omega) | omega | exact k2))).mono ?_
  rintro e w3 ⟨rfl, k3, hd3⟩
  have hz3 := hd3.size
  try simp at hz3
  have hD3 : Chg (fun k => k = g) w w3 := Chg.trans (by repeat' (first | with_reducible exact Chg.refl _ _ | with_reducible assumption | with_reducible refine Chg.alloc ?_ _ | with_reducible refine Chg.drew ?_ | with_reducible refine Chg.setCell ?_ (.inr ?_) _ | (simp; done) | (simp; omega) | omega)) (hd3.mono (fun k hk hs => hs))
  have hc3_0 : ∀ o, w3.cell? ⟨w.heap.size, o, none⟩ = _ := fun o => hd3.cell (p := ⟨w.heap.size, o, none⟩) (by first | (simp; done) | (simp; omega) | omega) (by first | omega | (simp; omega))
  have hl3_0 : w.heap.size < w3.heap.size := by omega
  have hm3_0 : w.heap.size ≤ w3.heap.size := by omega
  have hn3_0 : w.heap.size ≤ w3.heap.size + 1 := by omega
  have ho3_0 : w.heap.size ≤ w3.heap.size + 1 + 1 := by omega
  have hf3_0 : ∀ o, w3.frozen? ⟨w.heap.size, o, none⟩ = _ := fun o => hd3.frozen (p := ⟨w.heap.size, o, none⟩) (by first | (simp; done) | (simp; omega) | omega) (by first | omega | (simp; omega))
  go_wp2
  refine bodyPost_ret (v := .agg #[.int .u64 (crowd u s).1, .int .u64 (crowd u (crowd u s).2).1, .int .u64 (crowd u (crowd u (crowd u s).2).2).1]) (by simp (maxDischargeDepth := 9) [results, Tryz.results36, go_sem, hc1_0, hc2_0, hc3_0]) rfl ?_
  exact ⟨rfl, (by repeat' (first | with_reducible exact k3 | with_reducible refine Blk.drew ?_ | with_reducible refine Blk.alloc ?_ _ | with_reducible refine Blk.far ?_ ?_ _ | (simp; done) | (simp; omega) | omega | exact k3)), (by repeat' (first | with_reducible exact Chg.refl _ _ | with_reducible assumption | with_reducible refine Chg.alloc ?_ _ | with_reducible refine Chg.drew ?_ | with_reducible refine Chg.setCell ?_ (.inr ?_) _ | (simp; done) | (simp; omega) | omega))⟩
end Go.Proofs.YtamcgggmfghljaaGreatDoor
