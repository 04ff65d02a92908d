/- The third law's walk. -/
import Derived.Test.YtkemmjbaohoomaaE
import Derived.Deep.RegionHeld3
import Derived.Deep.QuietTactic
import Derived.BigQuiet
namespace Go.Proofs.Ytkemmjbaohoomaa
open Go.RowKit

theorem chF_high {n : Nat} {f : Nat → Bool} {u : Int} {b : Bool} (hz : ∀ i, n ≤ i → f i = false) : ∀ i, n ≤ i → chF n f u b i = false := by
  intro i hi
  unfold chF
  split
  · exact hz i hi
  · rw [upd_other _ _ (by omega)]; exact hz i hi

set_option maxHeartbeats 400000 in
theorem turn_nil (u : Int) (b : Bool) (w : World) :
    Calls Try.prog 19 #[.pointer none, .int .i64 u, .bool b] w fun e w' => e = .returned (.int .i64 1) ∧ w = w' := by
  go_enter Try.func19, Try.ntmps19
  go_wp2
  go_ret
  exact ⟨rfl, rfl⟩

theorem two_start (n : Nat) (w : World) : Two w.heap.size w.heap.size (w.heap.size + 1 + 1) (w.heap.size + 1) n (fun _ => false) (fun _ => false) w
      (((w.alloc (.cells (ros n fun _ => false) 45)).alloc (.cells (bls n fun _ => false) 4)).alloc (.cells #[.slice (some ⟨w.heap.size + 1, 0, none⟩) n n] 49)) := by
  have hb : Below w.heap.size w (w.alloc (.cells (ros n fun _ => false) 45)) := (Below.refl _ _).alloc (Nat.le_refl _) _
  have hm : Blk (w.alloc (.cells (ros n fun _ => false) 45)) w.heap.size 45 (ros n fun _ => false) := Blk.new _ _ _
  have hs : (w.alloc (.cells (ros n fun _ => false) 45)).heap.size = w.heap.size + 1 := by simp
  generalize w.alloc (.cells (ros n fun _ => false) 45) = x1 at *
  have hb2 : Below w.heap.size w (x1.alloc (.cells (bls n fun _ => false) 4)) := hb.alloc (by omega) _
  have hm2 := hm.alloc (.cells (bls n fun _ => false) 4)
  have hr2 : Blk (x1.alloc (.cells (bls n fun _ => false) 4)) (w.heap.size + 1) 4 (bls n fun _ => false) := by rw [← hs]; exact Blk.new _ _ _
  have hs2 : (x1.alloc (.cells (bls n fun _ => false) 4)).heap.size = w.heap.size + 1 + 1 := by simp; omega
  generalize x1.alloc (.cells (bls n fun _ => false) 4) = x2 at *
  refine ⟨hm2.alloc _, ⟨?_, hr2.alloc _⟩, by omega, by omega, by omega, by omega, by omega, by omega, hb2.alloc (by omega) _⟩
  rw [← hs2]
  exact Blk.new _ _ _

theorem Three.didD {B m g h c n : Nat} {f1 f2 f0 f' : Nat → Bool} {w0 w w' : World} (o : Three B m g h c n f1 f2 f0 w0 w) (hd : Did m n f' w.drew w') : Three B m g h c n f' f2 f0 w0 w' :=
  o.did ⟨hd.blk, ⟨hd.chg.os, hd.chg.tape, hd.chg.output, hd.chg.size, hd.chg.block⟩⟩

set_option maxRecDepth 100000 in
set_option maxHeartbeats 1000000 in
theorem does_walk (n : Nat) (A : Option Addr) (len cap : Nat) (us : Nat → Int) (os : Nat → Bool) (w : World) (h1 : 1 ≤ (n : Int)) (h2 : (n : Int) ≤ 64) (h3 : (len : Int) ≤ 200) (hl : Deeds w A len us os) :
    Calls Try.prog 5 #[.int .i64 n, .slice A len cap] w fun e w' => e = .returned (.bool true) ∧ Below w.heap.size w w' := by
  have HL := Lib.hid hl
  clear hl
  have z1 : Hid (((msk (fun _ => false) 64 : Nat) : Int) = 0) := by unfold Hid; rw [msk_none]; rfl
  have z2 : Hid (((msk (fun _ => false) n : Nat) : Int) = 0) := by unfold Hid; rw [msk_none]; rfl
  go_enter Try.func5, Try.ntmps5
  go_wp2_with fail
  refine (new_yes n w h1 h2).mono ?_
  rintro e w' ⟨rfl, rfl⟩
  go_wp2_with fail
  refine (rnew_yes n _ h1 h2).mono ?_
  rintro e w' ⟨rfl, rfl⟩
  go_wp2_with fail
  have o0 := two_start n w
  generalize ((w.alloc (.cells (ros n fun _ => false) 45)).alloc (.cells (bls n fun _ => false) 4)).alloc (.cells #[.slice (some ⟨w.heap.size + 1, 0, none⟩) n n] 49) = w1 at *
  refine (in_any _ n _ w1 o0.mine).mono ?_
  rintro e w2 ⟨rfl, hb⟩
  have o1 := o0.below hb
  rw [z1.out]
  go_wp2_with fail
  refine (rin_any _ _ n _ w2 (by omega) o1.ref).mono ?_
  rintro e w3 ⟨rfl, rfl⟩
  rw [z2.out]
  go_wp2_with fail
  clear o0 hb
  go_loopw [9] (fun i wr => ∃ (k : Nat) (f : Nat → Bool), k ≤ len ∧ i = .int .i64 k ∧ (∀ i, n ≤ i → f i = false) ∧ Two w.heap.size w.heap.size (w.heap.size + 1 + 1) (w.heap.size + 1) n f f w wr) (fun i _ => len - (intOf i).toNat)
  case atStart => exact ⟨0, fun _ => false, by omega, rfl, fun _ _ => rfl, o1⟩
  case round =>
    clear o1 w1 w2
    obtain ⟨k, f, hk, rfl, hz, o0⟩ := hrel
    have HZ := Lib.hid hz
    clear hz
    by_cases hlt : k < len
    · obtain ⟨b, off, rfl, hb, c0, c1, hu⟩ := HL.out k hlt
      generalize us k = u at *
      have c2 := Lib.hid c0
      go_wp2_with fail
      refine (copy_any _ n f wr o0.mine).mono ?_
      rintro e w1 ⟨rfl, rfl⟩
      have o1 := o0.copy_
      have hcs : Hid (¬ wr.heap.size < w.heap.size) := by have := o0.lm; have := o0.mine.lt; unfold Hid; omega
      generalize wr.alloc (.cells (ros n f) 45) = w1 at *
      generalize wr.heap.size = c at *
      clear o0
      go_wp2_with fail
      refine (in_any _ n f w1 o1.mine).mono ?_
      rintro e w2 ⟨rfl, hbb⟩
      have o2 := o1.below hbb
      clear o1 hbb
      have d0 : w2.cell? ⟨b, off + k * 2, none⟩ = _ := (o2.bel.cell (p := ⟨b, off + k * 2, none⟩) hb).trans c0
      have d1 : w2.cell? ⟨b, off + k * 2 + 1, none⟩ = _ := (o2.bel.cell (p := ⟨b, off + k * 2 + 1, none⟩) hb).trans c1
      clear c0 c1
      cases ho : os k with
      | true =>
        rw [ho] at d1
        clear ho
        go_wp2_with fail
        go_region_held3 (fun w' => w'.cell? ⟨b, off + k * 2, none⟩ = some (.int .i64 u))
          (first | exact d0 | exact (o3.bel.cell (p := ⟨b, off + k * 2, none⟩) hb).trans c2.out | exact (o4.bel.cell (p := ⟨b, off + k * 2, none⟩) hb).trans c2.out)
          (first
            | (go_at_call 9; refine (logout_any _ n f u _ (by exact o2.mine.drew) (by omega)).mono ?_; rintro e w3 ⟨rfl, hd⟩; have o3 := o2.didD hd)
            | (go_at_call 15; refine (rlogout_any _ _ n f u _ o3.ref o3.gh).mono ?_; rintro e w4 ⟨rfl, hd'⟩; have o4 := o3.didR hd'))
        have hq : Hid (msk (chF n f u false) n = msk (chF n f u false) 64) := (msk_cut _ (chF_high HZ.out) 64 (by omega)).symm
        go_wp2_with fail
        refine (in_any _ n _ w4 o4.mine).mono ?_
        rintro e w5 ⟨rfl, hb5⟩
        have o5 := o4.below hb5
        go_wp2_with fail
        refine (rin_any _ _ n _ w5 (by omega) o5.ref).mono ?_
        rintro e w6 ⟨rfl, rfl⟩
        rw [hq.out]
        go_wp2_with fail
        refine (in_any _ n _ w5 o5.copy).mono ?_
        rintro e w6 ⟨rfl, hb6⟩
        have o6 := o5.below hb6
        go_wp2
        exact ⟨⟨k + 1, _, by omega, by go_num, chF_high HZ.out, o6.toTwo⟩, by simp [intOf]; omega⟩
      | false =>
        rw [ho] at d1
        clear ho
        go_wp2_with fail
        go_region_held3 (fun w' => w'.cell? ⟨b, off + k * 2, none⟩ = some (.int .i64 u))
          (first | exact d0 | exact (o3.bel.cell (p := ⟨b, off + k * 2, none⟩) hb).trans c2.out | exact (o4.bel.cell (p := ⟨b, off + k * 2, none⟩) hb).trans c2.out)
          (first
            | (go_at_call 10; refine (login_any _ n f u _ (by exact o2.mine.drew) (by omega)).mono ?_; rintro e w3 ⟨rfl, hd⟩; have o3 := o2.didD hd)
            | (go_at_call 16; refine (rlogin_any _ _ n f u _ o3.ref o3.gh).mono ?_; rintro e w4 ⟨rfl, hd'⟩; have o4 := o3.didR hd'))
        have hq : Hid (msk (chF n f u true) n = msk (chF n f u true) 64) := (msk_cut _ (chF_high HZ.out) 64 (by omega)).symm
        go_wp2_with fail
        refine (in_any _ n _ w4 o4.mine).mono ?_
        rintro e w5 ⟨rfl, hb5⟩
        have o5 := o4.below hb5
        go_wp2_with fail
        refine (rin_any _ _ n _ w5 (by omega) o5.ref).mono ?_
        rintro e w6 ⟨rfl, rfl⟩
        rw [hq.out]
        go_wp2_with fail
        refine (in_any _ n _ w5 o5.copy).mono ?_
        rintro e w6 ⟨rfl, hb6⟩
        have o6 := o5.below hb6
        go_wp2
        exact ⟨⟨k + 1, _, by omega, by go_num, chF_high HZ.out, o6.toTwo⟩, by simp [intOf]; omega⟩
    · go_wp2
      go_ret
      exact ⟨rfl, o0.bel⟩

/-- The same world, but for draws. -/
structure Same (w w' : World) : Prop where
  heap : w'.heap = w.heap
  os : w'.os = w.os
  tape : w'.tape = w.tape
  output : w'.output = w.output
theorem Same.refl (w : World) : Same w w := ⟨rfl, rfl, rfl, rfl⟩
theorem Same.drewN {w w' : World} (h : Same w w') (n : Nat) : Same w (w'.drewN n) := ⟨h.heap, h.os, h.tape, h.output⟩
theorem Same.cell {w w' : World} (h : Same w w') (a : Addr) : w'.cell? a = w.cell? a := by unfold World.cell?; rw [h.heap]
theorem Same.below {w w' : World} (h : Same w w') (B : Nat) : Below B w w' := ⟨h.os, h.tape, h.output, by rw [h.heap]; exact Nat.le_refl _, fun k _ => by rw [h.heap]⟩

set_option maxRecDepth 100000 in
set_option maxHeartbeats 1000000 in
theorem does_nil (n : Int) (A : Option Addr) (len cap : Nat) (us : Nat → Int) (os : Nat → Bool) (w : World) (hn : n < 1 ∨ 64 < n) (h3 : (len : Int) ≤ 200) (hl : Deeds w A len us os) :
    Calls Try.prog 5 #[.int .i64 n, .slice A len cap] w fun e w' => e = .returned (.bool true) ∧ Below w.heap.size w w' := by
  have HL := Lib.hid hl
  have HN := Lib.hid hn
  clear hl hn
  go_enter Try.func5, Try.ntmps5
  go_wp2_with fail
  refine (new_no n w HN.out).mono ?_
  rintro e w' ⟨rfl, rfl⟩
  go_wp2_with fail
  refine (rnew_no n w HN.out).mono ?_
  rintro e w' ⟨rfl, rfl⟩
  go_wp2_with (first | (go_at_call 11; refine (in_nil _).mono ?_; rintro e w' ⟨rfl, rfl⟩) | (go_at_call 13; refine (rin_nil _).mono ?_; rintro e w' ⟨rfl, rfl⟩))
  go_loopw [9] (fun i wr => ∃ (k : Nat), k ≤ len ∧ i = .int .i64 k ∧ Same w wr) (fun i _ => len - (intOf i).toNat)
  case atStart => exact ⟨0, by omega, rfl, Same.refl _⟩
  case round =>
    obtain ⟨k, hk, rfl, HW⟩ := hrel
    by_cases hlt : k < len
    · obtain ⟨b, off, rfl, hb, c0, c1, hu⟩ := HL.out k hlt
      rw [← HW.cell] at c0 c1
      generalize us k = u at *
      cases ho : os k with
      | true =>
        rw [ho] at c1
        clear ho
        go_wp2_with (first | (go_at_call 14; refine (copy_nil _).mono ?_; rintro e w' ⟨rfl, rfl⟩) | (go_at_call 11; refine (in_nil _).mono ?_; rintro e w' ⟨rfl, rfl⟩) | (go_at_call 13; refine (rin_nil _).mono ?_; rintro e w' ⟨rfl, rfl⟩))
        go_quiet ((first | (go_at_call 9; exact Calls.quiet_of_same ((logout_of (change_nil _ _ _)).mono fun e w' h => ⟨h.1, h.2.symm⟩)) | (go_at_call 15; exact Calls.quiet_of_same ((rlogout_of (turn_nil _ _ _)).mono fun e w' h => ⟨h.1, h.2.symm⟩))))
        go_wp2_with (first | (go_at_call 11; refine (in_nil _).mono ?_; rintro e w' ⟨rfl, rfl⟩) | (go_at_call 13; refine (rin_nil _).mono ?_; rintro e w' ⟨rfl, rfl⟩))
        exact ⟨⟨k + 1, by omega, by go_num, Same.drewN HW nq⟩, by simp [intOf]; omega⟩
      | false =>
        rw [ho] at c1
        clear ho
        go_wp2_with (first | (go_at_call 14; refine (copy_nil _).mono ?_; rintro e w' ⟨rfl, rfl⟩) | (go_at_call 11; refine (in_nil _).mono ?_; rintro e w' ⟨rfl, rfl⟩) | (go_at_call 13; refine (rin_nil _).mono ?_; rintro e w' ⟨rfl, rfl⟩))
        go_quiet ((first | (go_at_call 10; exact Calls.quiet_of_same ((login_of (change_nil _ _ _)).mono fun e w' h => ⟨h.1, h.2.symm⟩)) | (go_at_call 16; exact Calls.quiet_of_same ((rlogin_of (turn_nil _ _ _)).mono fun e w' h => ⟨h.1, h.2.symm⟩))))
        go_wp2_with (first | (go_at_call 11; refine (in_nil _).mono ?_; rintro e w' ⟨rfl, rfl⟩) | (go_at_call 13; refine (rin_nil _).mono ?_; rintro e w' ⟨rfl, rfl⟩))
        exact ⟨⟨k + 1, by omega, by go_num, Same.drewN HW nq⟩, by simp [intOf]; omega⟩
    · go_wp2
      go_ret
      exact ⟨rfl, HW.below _⟩

set_option maxHeartbeats 400000 in
theorem does_long (n : Int) (A : Option Addr) (len cap : Nat) (w : World) (h3 : 200 < (len : Int)) :
    Calls Try.prog 5 #[.int .i64 n, .slice A len cap] w fun e w' => e = .returned (.bool true) ∧ Below w.heap.size w w' := by
  go_enter Try.func5, Try.ntmps5
  go_wp2_with (go_at_call 7; refine (known_any w).mono ?_; rintro e w' ⟨rfl, hb⟩)
  go_ret
  exact ⟨rfl, hb⟩

theorem does_all (n : Int) (A : Option Addr) (len cap : Nat) (us : Nat → Int) (os : Nat → Bool) (w : World) (hl : Deeds w A len us os) :
    Calls Try.prog 5 #[.int .i64 n, .slice A len cap] w fun e w' => e = .returned (.bool true) ∧ Below w.heap.size w w' := by
  by_cases h : 200 < (len : Int)
  · exact does_long n A len cap w h
  · by_cases hn : n < 1 ∨ 64 < n
    · exact does_nil n A len cap us os w hn (by omega) hl
    · obtain ⟨k, rfl⟩ : ∃ k : Nat, n = k := ⟨n.toNat, by omega⟩
      exact does_walk k A len cap us os w (by omega) (by omega) (by omega) hl

end Go.Proofs.Ytkemmjbaohoomaa
