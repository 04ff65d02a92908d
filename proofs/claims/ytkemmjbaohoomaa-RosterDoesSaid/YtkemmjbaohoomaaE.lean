/- Contracts of the reference's roster. -/
import Derived.Test.YtkemmjbaohoomaaD
namespace Go.Proofs.Ytkemmjbaohoomaa
open Go.RowKit

/-- The cells of a list of n bools. -/
def bls (n : Nat) (f : Nat → Bool) : Array Value := Array.ofFn (n := n) fun i => .bool (f i.val)
theorem bls_get (n : Nat) (f : Nat → Bool) (k : Nat) (hk : k < n) : (bls n f)[k]? = some (.bool (f k)) := by simp [bls, hk]
theorem bls_set (n : Nat) (f : Nat → Bool) (k : Nat) (b : Bool) : (bls n f).setIfInBounds k (.bool b) = bls n (upd f k b) := by
  apply Array.ext
  · simp [bls]
  · intro i h1 h2
    rw [Array.getElem_setIfInBounds (by simpa using h1)]
    simp only [bls, Array.getElem_ofFn]
    by_cases e : k = i
    · subst e; rw [if_pos rfl, upd_self]
    · rw [if_neg e, upd_other _ _ (fun h => e h.symm)]

structure Ref (w : World) (g h n : Nat) (f : Nat → Bool) : Prop where
  head : Blk w g 49 #[.slice (some ⟨h, 0, none⟩) n n]
  row : Blk w h 4 (bls n f)

set_option maxHeartbeats 400000 in
theorem rnew_no (n : Int) (w : World) (hn : n < 1 ∨ 64 < n) :
    Calls Try.prog 12 #[.int .i64 n] w fun e w' => e = .returned (.tuple #[.pointer none, .int .i64 3]) ∧ w = w' := by
  by_cases h : n < 1
  · go_enter Try.func12, Try.ntmps12
    go_wp2
    go_ret2
    exact ⟨rfl, rfl⟩
  · go_enter Try.func12, Try.ntmps12
    go_wp2
    go_ret2
    exact ⟨rfl, rfl⟩

theorem make_bools (n : Nat) (W : World) (h2 : (n : Int) ≤ 64) :
    (Instr.makeSlice 47 (.int .i64 n) (.int .i64 n)).run Try.prog W = .ok (.slice (some ⟨W.heap.size, 0, none⟩) n n) (W.alloc (.cells (bls n fun _ => false) 4)) := by
  obtain ⟨i0, hi, hz0, hz1, hz2⟩ := info_parts (show (Try.prog.info? 4).map (fun i => (i.zero, i.size, i.bytes)) = some (some (.bool false), 1, 1) by kernel_rfl)
  have h := run_make (P := Try.prog) W 47 4 i0 _ Try.underlying47 hi hz0 .i64 .i64 n n (by omega) (by omega) (by rw [hz2]; omega) (by omega)
  rw [h, hz1]
  have e : madeCells (Value.bool false).cells ((n : Int).toNat * 1) = bls n fun _ => false := by
    apply Array.ext
    · simp [bls, madeCells]
    · intro i h1 h2
      simp [bls, madeCells, Value.cells, Nat.mod_one]
  rw [e]
  simp

set_option maxHeartbeats 400000 in
theorem rnew_yes (n : Nat) (w : World) (h1 : 1 ≤ (n : Int)) (h2 : (n : Int) ≤ 64) :
    Calls Try.prog 12 #[.int .i64 n] w fun e w' => e = .returned (.tuple #[.pointer (some ⟨w.heap.size + 1, 0, none⟩), .int .i64 0]) ∧
      (w.alloc (.cells (bls n fun _ => false) 4)).alloc (.cells #[.slice (some ⟨w.heap.size, 0, none⟩) n n] 49) = w' := by
  have hm : ∀ W, (Instr.makeSlice 47 (.int .i64 n) (.int .i64 n)).run Try.prog W = .ok (.slice (some ⟨W.heap.size, 0, none⟩) n n) (W.alloc (.cells (bls n fun _ => false) 4)) := fun W => make_bools n W h2
  go_enter Try.func12, Try.ntmps12
  go_wp2
  go_ret2
  exact ⟨rfl, rfl⟩

set_option maxHeartbeats 400000 in
theorem turn_range (g h n : Nat) (f : Nat → Bool) (u : Int) (b : Bool) (w : World) (hg : Ref w g h n f) (hu : u < 0 ∨ (n : Int) ≤ u) :
    Calls Try.prog 19 #[.pointer (some ⟨g, 0, none⟩), .int .i64 u, .bool b] w fun e w' => e = .returned (.int .i64 3) ∧ w = w' := by
  have hc0 : w.cell? ⟨g, 0, none⟩ = some (.slice (some ⟨h, 0, none⟩) n n) := hg.head.cell 0
  clear hg
  by_cases h : u < 0
  · go_enter Try.func19, Try.ntmps19
    go_wp2
    go_ret
    exact ⟨rfl, rfl⟩
  · go_enter Try.func19, Try.ntmps19
    go_wp2
    go_ret
    exact ⟨rfl, rfl⟩

set_option maxHeartbeats 400000 in
theorem turn_state (g h n : Nat) (f : Nat → Bool) (u : Nat) (w : World) (hg : Ref w g h n f) (hu : (u : Int) < n) :
    Calls Try.prog 19 #[.pointer (some ⟨g, 0, none⟩), .int .i64 u, .bool (f u)] w fun e w' => e = .returned (.int .i64 7) ∧ w = w' := by
  have hc0 : w.cell? ⟨g, 0, none⟩ = some (.slice (some ⟨h, 0, none⟩) n n) := hg.head.cell 0
  have hc1 : w.cell? ⟨h, u, none⟩ = some (.bool (f u)) := (hg.row.cell u).trans (bls_get n f u (by omega))
  clear hg
  go_enter Try.func19, Try.ntmps19
  go_wp2
  go_ret
  exact ⟨rfl, rfl⟩

set_option maxHeartbeats 400000 in
theorem turn_ok (g h n : Nat) (f : Nat → Bool) (u : Nat) (b : Bool) (w : World) (hg : Ref w g h n f) (hu : (u : Int) < n) (hb : f u = !b) :
    Calls Try.prog 19 #[.pointer (some ⟨g, 0, none⟩), .int .i64 u, .bool b] w fun e w' => e = .returned (.int .i64 0) ∧ w.setCell ⟨h, u, none⟩ (.bool b) = w' := by
  have hc0 : w.cell? ⟨g, 0, none⟩ = some (.slice (some ⟨h, 0, none⟩) n n) := hg.head.cell 0
  have hc1 : w.cell? ⟨h, u, none⟩ = some (.bool (!b)) := (hg.row.cell u).trans (by rw [bls_get n f u (by omega), hb])
  have hfz : w.frozen? ⟨h, u, none⟩ = false := hg.row.frozen _
  clear hg hb
  go_enter Try.func19, Try.ntmps19
  go_wp2
  go_ret
  exact ⟨rfl, rfl⟩

set_option maxHeartbeats 400000 in
theorem rlogin_of {r : Value} {u : Int} {w : World} {c : Int} {w1 : World}
    (h : Calls Try.prog 19 #[r, .int .i64 u, .bool true] w fun e w' => e = .returned (.int .i64 c) ∧ w1 = w') :
    Calls Try.prog 16 #[r, .int .i64 u] w fun e w' => e = .returned (.int .i64 c) ∧ w1 = w' := by
  have H := Lib.hid h
  clear h
  go_enter Try.func16, Try.ntmps16
  go_wp2_with fail
  refine H.out.mono ?_
  rintro e w' ⟨rfl, rfl⟩
  go_wp2
  go_ret
  exact ⟨rfl, rfl⟩
set_option maxHeartbeats 400000 in
theorem rlogout_of {r : Value} {u : Int} {w : World} {c : Int} {w1 : World}
    (h : Calls Try.prog 19 #[r, .int .i64 u, .bool false] w fun e w' => e = .returned (.int .i64 c) ∧ w1 = w') :
    Calls Try.prog 15 #[r, .int .i64 u] w fun e w' => e = .returned (.int .i64 c) ∧ w1 = w' := by
  have H := Lib.hid h
  clear h
  go_enter Try.func15, Try.ntmps15
  go_wp2_with fail
  refine H.out.mono ?_
  rintro e w' ⟨rfl, rfl⟩
  go_wp2
  go_ret
  exact ⟨rfl, rfl⟩

set_option maxHeartbeats 400000 in
theorem rin_nil (w : World) : Calls Try.prog 13 #[.pointer none] w fun e w' => e = .returned (.int .u64 0) ∧ w = w' := by
  go_enter Try.func13, Try.ntmps13
  go_wp2
  go_rounds 1
  go_ret
  exact ⟨rfl, rfl⟩

theorem add_step (f : Nat → Bool) (k : Nat) (hk : k < 64) : IntKind.u64.wrap (((msk f k : Nat) : Int) + IntKind.u64.wrap (2 ^ k)) = ((msk f k + 2 ^ k : Nat) : Int) := by
  have hm := msk_lt f k
  have hp : 2 ^ (k + 1) ≤ 18446744073709551616 := Nat.pow_le_pow_right (n := 2) (i := k + 1) (j := 64) (by decide) (by omega)
  rw [Nat.pow_succ] at hp
  have e : ((2 : Int) ^ k) = ((2 ^ k : Nat) : Int) := by simp
  rw [IntKind.wrap_u64, IntKind.wrap_u64, e, wrapped (by omega), ← Int.natCast_add, wrapped (by omega)]

set_option maxHeartbeats 400000 in
theorem rin_any (g h n : Nat) (f : Nat → Bool) (w : World) (hn : n ≤ 64) (hg : Ref w g h n f) :
    Calls Try.prog 13 #[.pointer (some ⟨g, 0, none⟩)] w fun e w' => e = .returned (.int .u64 (msk f n : Nat)) ∧ w = w' := by
  have hc0 : w.cell? ⟨g, 0, none⟩ = some (.slice (some ⟨h, 0, none⟩) n n) := hg.head.cell 0
  have hc1 := fun k hk => (hg.row.cell k).trans (bls_get n f k hk)
  have HC := Lib.hid hc1
  clear hg hc1
  go_enter Try.func13, Try.ntmps13
  go_wp2
  go_loop [3, 4] (fun o i => ∃ k : Nat, k ≤ n ∧ i = .int .i64 k ∧ o = .int .u64 (msk f k : Nat)) (fun _ i => n - (intOf i).toNat)
  case atStart => exact ⟨0, by omega, rfl, rfl⟩
  case round =>
    obtain ⟨k, hk, rfl, rfl⟩ := hrel
    by_cases hlt : k < n
    · have hx := HC.out k hlt
      have ht := Lib.hid (add_step f k (by omega))
      cases hf : f k with
      | true =>
        rw [hf] at hx
        have Hf := Lib.hid hf
        clear hf
        go_wp2
        exact ⟨⟨k + 1, by omega, by go_num, by rw [ht.out, msk, if_pos Hf.out]⟩, by simp [intOf]; omega⟩
      | false =>
        rw [hf] at hx
        have Hf := Lib.hid hf
        clear hf
        go_wp2
        exact ⟨⟨k + 1, by omega, by go_num, by rw [msk, if_neg (by rw [Hf.out]; simp), Nat.add_zero]⟩, by simp [intOf]; omega⟩
    · go_wp2
      go_ret
      have : k = n := by omega
      subst this
      exact ⟨rfl, rfl⟩

/-- What a change of the reference's roster leaves. -/
structure DidR (g h n : Nat) (f : Nat → Bool) (w w' : World) : Prop where
  ref : Ref w' g h n f
  chg : Chg (fun k => k = h) w w'

theorem turn_all (g h n : Nat) (f : Nat → Bool) (u : Int) (b : Bool) (w : World) (hg : Ref w g h n f) (hne : g ≠ h) :
    ∃ w1, DidR g h n (chF n f u b) w w1 ∧ Calls Try.prog 19 #[.pointer (some ⟨g, 0, none⟩), .int .i64 u, .bool b] w fun e w' => e = .returned (.int .i64 (chCode n f u b)) ∧ w1 = w' := by
  by_cases hr : u < 0 ∨ (n : Int) ≤ u
  · refine ⟨w, ⟨by rw [chF, if_pos hr]; exact hg, Chg.refl _ _⟩, ?_⟩
    rw [chCode, if_pos hr]
    exact turn_range g h n f u b w hg hr
  · obtain ⟨k, rfl⟩ : ∃ k : Nat, u = k := ⟨u.toNat, by omega⟩
    have hk : (k : Int) < n := by omega
    rw [chCode, if_neg hr, chF, if_neg hr, Int.toNat_natCast]
    by_cases hb : f k = b
    · subst hb
      refine ⟨w, ⟨?_, Chg.refl _ _⟩, ?_⟩
      · have : upd f k (f k) = f := by funext i; unfold upd; split <;> simp_all
        rw [this]; exact hg
      · rw [if_pos rfl]; exact turn_state g h n f k w hg hk
    · refine ⟨_, ⟨⟨?_, ?_⟩, ?_⟩, by rw [if_neg hb]; exact turn_ok g h n f k b w hg hk (by cases h1 : f k <;> cases b <;> simp_all)⟩
      · exact hg.head.far hne _
      · rw [← bls_set]; exact hg.row.set_ _ _
      · exact (Chg.refl (fun k => k = h) _).setCell (p := ⟨h, _, none⟩) (.inl rfl) _

theorem rlogin_any (g h n : Nat) (f : Nat → Bool) (u : Int) (w : World) (hg : Ref w g h n f) (hne : g ≠ h) :
    Calls Try.prog 16 #[.pointer (some ⟨g, 0, none⟩), .int .i64 u] w fun e w' => e = .returned (.int .i64 (chCode n f u true)) ∧ DidR g h n (chF n f u true) w w' := by
  obtain ⟨w1, h1, h2⟩ := turn_all g h n f u true w hg hne
  exact (rlogin_of h2).mono fun e w' ⟨he, hw⟩ => ⟨he, by rw [← hw]; exact h1⟩
theorem rlogout_any (g h n : Nat) (f : Nat → Bool) (u : Int) (w : World) (hg : Ref w g h n f) (hne : g ≠ h) :
    Calls Try.prog 15 #[.pointer (some ⟨g, 0, none⟩), .int .i64 u] w fun e w' => e = .returned (.int .i64 (chCode n f u false)) ∧ DidR g h n (chF n f u false) w w' := by
  obtain ⟨w1, h1, h2⟩ := turn_all g h n f u false w hg hne
  exact (rlogout_of h2).mono fun e w' ⟨he, hw⟩ => ⟨he, by rw [← hw]; exact h1⟩

/-- Both rosters, of the call's own. -/
structure Two (B m g h n : Nat) (f1 f2 : Nat → Bool) (w0 w : World) : Prop where
  mine : Blk w m 45 (ros n f1)
  ref : Ref w g h n f2
  lm : B ≤ m
  lg : B ≤ g
  lh : B ≤ h
  mg : m ≠ g
  mh : m ≠ h
  gh : g ≠ h
  bel : Below B w0 w

/-- Both, and a copy. -/
structure Three (B m g h c n : Nat) (f1 f2 f0 : Nat → Bool) (w0 w : World) : Prop extends Two B m g h n f1 f2 w0 w where
  copy : Blk w c 45 (ros n f0)
  cm : c ≠ m
  cg : c ≠ g
  ch : c ≠ h

theorem Below.of_chg {B : Nat} {S : Nat → Prop} {w w' : World} (h : Chg S w w') (hB : B ≤ w.heap.size) (hs : ∀ k, k < B → ¬ S k) : Below B w w' := ⟨h.os, h.tape, h.output, h.size, fun k hk => h.block k (by omega) (hs k hk)⟩
theorem Blk.below {B : Nat} {w w' : World} {g : Nat} {t : TypeId} {cs : Array Value} (h : Blk w g t cs) (hb : Below B w w') (hg : g < B) : Blk w' g t cs := (hb.block g hg).trans h

section
variable {B m g h c n : Nat} {f1 f2 f0 f' : Nat → Bool} {w0 w w' : World}
theorem Two.below (o : Two B m g h n f1 f2 w0 w) (hb : Below w.heap.size w w') : Two B m g h n f1 f2 w0 w' :=
  { o with
    mine := o.mine.below hb o.mine.lt
    ref := ⟨o.ref.head.below hb o.ref.head.lt, o.ref.row.below hb o.ref.row.lt⟩
    bel := o.bel.trans (hb.mono (Nat.le_trans o.lm (Nat.le_of_lt o.mine.lt))) }
theorem Three.below (o : Three B m g h c n f1 f2 f0 w0 w) (hb : Below w.heap.size w w') : Three B m g h c n f1 f2 f0 w0 w' :=
  { o with
    toTwo := o.toTwo.below hb
    copy := o.copy.below hb o.copy.lt }
theorem Three.did (o : Three B m g h c n f1 f2 f0 w0 w) (hd : Did m n f' w w') : Three B m g h c n f' f2 f0 w0 w' :=
  { o with
    mine := hd.blk
    ref := ⟨o.ref.head.chg hd.chg (fun e => o.mg e.symm), o.ref.row.chg hd.chg (fun e => o.mh e.symm)⟩
    copy := o.copy.chg hd.chg o.cm
    bel := o.bel.trans (Below.of_chg hd.chg (Nat.le_trans o.lm (Nat.le_of_lt o.mine.lt)) (fun k hk e => by have := o.lm; omega)) }
theorem Three.didR (o : Three B m g h c n f1 f2 f0 w0 w) (hd : DidR g h n f' w w') : Three B m g h c n f1 f' f0 w0 w' :=
  { o with
    mine := o.mine.chg hd.chg o.mh
    ref := hd.ref
    copy := o.copy.chg hd.chg o.ch
    bel := o.bel.trans (Below.of_chg hd.chg (Nat.le_trans o.lm (Nat.le_of_lt o.mine.lt)) (fun k hk e => by have := o.lh; omega)) }
theorem Two.copy_ (o : Two B m g h n f1 f2 w0 w) : Three B m g h w.heap.size n f1 f2 f1 w0 (w.alloc (.cells (ros n f1) 45)) :=
  { o with
    toTwo := o.below ((Below.refl _ _).alloc (Nat.le_refl _) _)
    copy := Blk.new _ _ _
    cm := by have := o.mine.lt; omega
    cg := by have := o.ref.head.lt; omega
    ch := by have := o.ref.row.lt; omega }
end

end Go.Proofs.Ytkemmjbaohoomaa
