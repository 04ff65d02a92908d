/- Contracts of the roster's functions: New, Login, Logout, Copy. -/
import Derived.Test.YtkemmjbaohoomaaA
namespace Go.Proofs.Ytkemmjbaohoomaa
open Go.RowKit

/-- The cells of a roster whose first k numbers are set. -/
def part_ (n k : Nat) : Array Value :=
  Array.ofFn (n := 129) fun i => if i.val = 0 then .int .i64 n else if i.val % 2 = 1 then .int .i64 (if i.val / 2 < k then (i.val / 2 : Nat) else 0) else .bool false

theorem part_done (n : Nat) : part_ n 64 = ros n (fun _ => false) := by
  apply Array.ext
  · simp [part_, ros]
  · intro i h1 h2
    have hi : i < 129 := by simpa [part_] using h1
    simp only [part_, ros, Array.getElem_ofFn]
    by_cases h0 : i = 0
    · simp [h0]
    · by_cases hm : i % 2 = 1
      · simp [h0, hm]; omega
      · simp [h0, hm]
theorem part_set (n k : Nat) : (part_ n k).setIfInBounds (1 + k * 2) (.int .i64 k) = part_ n (k + 1) := by
  apply Array.ext
  · simp [part_]
  · intro i h1 h2
    rw [Array.getElem_setIfInBounds (by simpa using h1)]
    simp only [part_, Array.getElem_ofFn]
    by_cases h0 : i = 0
    · subst h0; simp
    · by_cases hm : i % 2 = 1
      · by_cases e : 1 + k * 2 = i
        · subst e
          have h5 : (1 + k * 2) / 2 = k := by omega
          rw [if_pos rfl, if_neg h0, if_pos hm, h5, if_pos (by omega)]
        · have h5 : i / 2 < k + 1 ↔ i / 2 < k := by omega
          rw [if_neg e, if_neg h0, if_pos hm, if_neg h0, if_pos hm]; simp [h5]
      · rw [if_neg (by omega), if_neg h0, if_neg hm, if_neg h0, if_neg hm]

set_option maxHeartbeats 400000 in
theorem new_no (n : Int) (w : World) (hn : n < 1 ∨ 64 < n) :
    Calls Try.prog 8 #[.int .i64 n] w fun e w' => e = .returned (.tuple #[.pointer none, .int .i64 3]) ∧ w = w' := by
  by_cases h : n < 1
  · go_enter Try.func8, Try.ntmps8
    go_wp2
    go_ret2
    exact ⟨rfl, rfl⟩
  · go_enter Try.func8, Try.ntmps8
    go_wp2
    go_ret2
    exact ⟨rfl, rfl⟩

theorem zero45 (w : World) : (zeroValue 45).run Try.prog w = .ok (.agg (part_ 0 0)) w := by kernel_rfl
theorem part_n (n : Nat) : (part_ 0 0).setIfInBounds 0 (.int .i64 n) = part_ n 0 := by
  apply Array.ext
  · simp [part_]
  · intro i h1 h2
    rw [Array.getElem_setIfInBounds (by simpa using h1)]
    simp only [part_, Array.getElem_ofFn]
    by_cases h0 : i = 0
    · subst h0; simp
    · rw [if_neg (by omega), if_neg h0, if_neg h0]
theorem part_ne : ¬ part_ 0 0 = #[] := by
  intro h
  have := congrArg Array.size h
  simp [part_] at this
theorem part_get (n k j : Nat) (hj : j < 129) : ∃ v, (part_ n k)[j]? = some v := ⟨_, Array.getElem?_eq_getElem (by simpa [part_] using hj)⟩

set_option maxRecDepth 100000 in
set_option maxHeartbeats 400000 in
theorem new_yes (n : Nat) (w : World) (h1 : 1 ≤ (n : Int)) (h2 : (n : Int) ≤ 64) :
    Calls Try.prog 8 #[.int .i64 n] w fun e w' => e = .returned (.tuple #[.pointer (some ⟨w.heap.size, 0, none⟩), .int .i64 0]) ∧ w.alloc (.cells (ros n (fun _ => false)) 45) = w' := by
  have z := fun W => zero45 W
  have ne := part_ne
  have st := part_n n
  go_enter Try.func8, Try.ntmps8
  go_wp2
  clear z ne st
  go_loopw [5, 15] (fun _ i wr => ∃ k : Nat, k ≤ 64 ∧ i = .int .i64 k ∧ wr = w.alloc (.cells (part_ n k) 45)) (fun _ i _ => 64 - (intOf i).toNat)
  case atStart => exact ⟨0, by omega, rfl, rfl⟩
  case round =>
    obtain ⟨k, hk, rfl, rfl⟩ := hrel
    by_cases hlt : k < 64
    · obtain ⟨v, hv⟩ := part_get n k (1 + k * 2) (by omega)
      have hc : (w.alloc (.cells (part_ n k) 45)).cell? ⟨w.heap.size, 1 + k * 2, none⟩ = some v := ((Blk.new w 45 _).cell _).trans hv
      clear hv
      have HS := Lib.hid (part_set n k)
      generalize part_ n k = cs at *
      have hfz : (w.alloc (.cells cs 45)).frozen? ⟨w.heap.size, 1 + k * 2, none⟩ = false := (Blk.new w 45 _).frozen _
      go_wp2
      exact ⟨⟨k + 1, by omega, by go_num, by rw [HS.out]⟩, by simp [intOf]; omega⟩
    · go_wp2
      go_ret2
      have : k = 64 := by omega
      subst this
      exact ⟨rfl, by rw [part_done]⟩

theorem setRow_new (w : World) (cs cs' : Array Value) (t : TypeId) : (w.alloc (.cells cs t)).setRow w.heap.size cs' = w.alloc (.cells cs' t) := by
  have h : ((w.heap.push (Obj.cells cs t)).modify w.heap.size fun
      | .cells _ elem frozen => Obj.cells cs' elem frozen
      | o => o) = w.heap.push (.cells cs' t) := by
    apply Array.ext
    · simp
    · intro i h1 h2
      rw [Array.getElem_modify]
      by_cases e : w.heap.size = i
      · subst e; simp
      · rw [if_neg e, Array.getElem_push, Array.getElem_push]
        have : i < w.heap.size := by simp at h2; omega
        simp [this]
  show World.mk _ _ _ _ _ = World.mk _ _ _ _ _
  exact congrArg (fun H => World.mk H w.tape w.drawn w.os w.output) h

theorem ros_cells (n : Nat) (f : Nat → Bool) : (ros n f).all (·.oneCell') = true := by
  rw [Array.all_eq_true]
  intro i hi
  simp only [ros, Array.getElem_ofFn]
  split
  · rfl
  · split <;> rfl

set_option maxHeartbeats 400000 in
theorem copy_nil (w : World) : Calls Try.prog 14 #[.pointer none] w fun e w' => e = .returned (.pointer none) ∧ w = w' := by
  go_enter Try.func14, Try.ntmps14
  go_wp2
  go_ret
  exact ⟨rfl, rfl⟩

set_option maxHeartbeats 400000 in
theorem copy_any (g n : Nat) (f : Nat → Bool) (w : World) (hg : Blk w g 45 (ros n f)) :
    Calls Try.prog 14 #[.pointer (some ⟨g, 0, none⟩)] w fun e w' => e = .returned (.pointer (some ⟨w.heap.size, 0, none⟩)) ∧ w.alloc (.cells (ros n f) 45) = w' := by
  have hs : (ros n f).size = 129 := by simp [ros]
  have hs0 : (part_ 0 0).size = 129 := by simp [part_]
  have z := fun W => zero45 W
  have hn : (w.alloc (.cells (part_ 0 0) 45)).heap[w.heap.size]? = some (.cells (part_ 0 0) 45 (0, 0)) := Blk.new _ _ _
  have HN := Lib.hid hn
  have HS := Lib.hid hs
  have HS0 := Lib.hid hs0
  clear hs hs0 hn
  go_enter Try.func14, Try.ntmps14
  go_wp2_with (first
    | (refine wpList_load_row rfl 45 _ rfl g rfl 45 (ros n f) _ _ hg Try.underlying45 rfl (by rw [HS.out]; kernel_rfl) ?_)
    | (refine wpList_store_row rfl 45 _ _ rfl w.heap.size (ros n f) rfl rfl 45 (part_ 0 0) HN.out (by rw [HS.out]; kernel_rfl) (by rw [HS.out, HS0.out]) (ros_cells n f) ?_; rw [setRow_new]))
  go_ret
  exact ⟨rfl, rfl⟩

/-! Login, Logout: as 'change' does. -/
section
variable {R : Ending → World → Prop}
set_option maxHeartbeats 400000 in
theorem login_of {r : Value} {u : Int} {w : World} {c : Int} {w1 : World}
    (h : Calls Try.prog 17 #[r, .int .i64 u, .bool true] w fun e w' => e = .returned (.int .i64 c) ∧ w1 = w') :
    Calls Try.prog 10 #[r, .int .i64 u] w fun e w' => e = .returned (.int .i64 c) ∧ w1 = w' := by
  have H := Lib.hid h
  clear h
  go_enter Try.func10, Try.ntmps10
  go_wp2_with fail
  refine H.out.mono ?_
  rintro e w' ⟨rfl, rfl⟩
  go_wp2
  go_ret
  exact ⟨rfl, rfl⟩
set_option maxHeartbeats 400000 in
theorem logout_of {r : Value} {u : Int} {w : World} {c : Int} {w1 : World}
    (h : Calls Try.prog 17 #[r, .int .i64 u, .bool false] w fun e w' => e = .returned (.int .i64 c) ∧ w1 = w') :
    Calls Try.prog 9 #[r, .int .i64 u] w fun e w' => e = .returned (.int .i64 c) ∧ w1 = w' := by
  have H := Lib.hid h
  clear h
  go_enter Try.func9, Try.ntmps9
  go_wp2_with fail
  refine H.out.mono ?_
  rintro e w' ⟨rfl, rfl⟩
  go_wp2
  go_ret
  exact ⟨rfl, rfl⟩
end

/-- The roster behind a change, and what it returns. -/
def chF (n : Nat) (f : Nat → Bool) (u : Int) (b : Bool) : Nat → Bool := if u < 0 ∨ (n : Int) ≤ u then f else upd f u.toNat b

/-- One contract for a change, whatever the user. -/
structure Did (g n : Nat) (f : Nat → Bool) (w w' : World) : Prop where
  blk : Blk w' g 45 (ros n f)
  chg : Chg (fun k => k = g) w w'

theorem change_all (g n : Nat) (f : Nat → Bool) (u : Int) (b : Bool) (w : World) (hg : Blk w g 45 (ros n f)) (hn : n ≤ 64) :
    ∃ w1, Did g n (chF n f u b) w w1 ∧ Calls Try.prog 17 #[.pointer (some ⟨g, 0, none⟩), .int .i64 u, .bool b] w fun e w' => e = .returned (.int .i64 (chCode n f u b)) ∧ w1 = w' := by
  by_cases hr : u < 0 ∨ (n : Int) ≤ u
  · refine ⟨w, ⟨by rw [chF, if_pos hr]; exact hg, Chg.refl _ _⟩, ?_⟩
    rw [chCode, if_pos hr]
    exact change_range g n f u b w hg hr
  · obtain ⟨k, rfl⟩ : ∃ k : Nat, u = k := ⟨u.toNat, by omega⟩
    have hk : (k : Int) < n := by omega
    rw [chCode, if_neg hr, chF, if_neg hr, Int.toNat_natCast]
    by_cases hb : f k = b
    · subst hb
      refine ⟨w, ⟨?_, Chg.refl _ _⟩, ?_⟩
      · have : upd f k (f k) = f := by funext i; unfold upd; split <;> simp_all
        rw [this]; exact hg
      · rw [if_pos rfl]; exact change_state g n f k w hg hn hk
    · refine ⟨_, ⟨?_, ?_⟩, by rw [if_neg hb]; exact change_ok g n f k b w hg hn hk (by cases h1 : f k <;> cases b <;> simp_all)⟩
      · rw [← ros_set]; exact hg.set_ _ _
      · exact (Chg.refl (fun k => k = g) _).setCell (p := ⟨g, _, none⟩) (.inl rfl) _

theorem login_all (g n : Nat) (f : Nat → Bool) (u : Int) (w : World) (hg : Blk w g 45 (ros n f)) (hn : n ≤ 64) :
    ∃ w1, Did g n (chF n f u true) w w1 ∧ Calls Try.prog 10 #[.pointer (some ⟨g, 0, none⟩), .int .i64 u] w fun e w' => e = .returned (.int .i64 (chCode n f u true)) ∧ w1 = w' := by
  obtain ⟨w1, h1, h2⟩ := change_all g n f u true w hg hn
  exact ⟨w1, h1, login_of h2⟩
theorem logout_all (g n : Nat) (f : Nat → Bool) (u : Int) (w : World) (hg : Blk w g 45 (ros n f)) (hn : n ≤ 64) :
    ∃ w1, Did g n (chF n f u false) w w1 ∧ Calls Try.prog 9 #[.pointer (some ⟨g, 0, none⟩), .int .i64 u] w fun e w' => e = .returned (.int .i64 (chCode n f u false)) ∧ w1 = w' := by
  obtain ⟨w1, h1, h2⟩ := change_all g n f u false w hg hn
  exact ⟨w1, h1, logout_of h2⟩

end Go.Proofs.Ytkemmjbaohoomaa
