/- Layer 41 (program): an entry put where there is none; the content that is a digit. -/
import Derived.Deep.QuietTactic
import Derived.BigQuiet
import Derived.Test.YtamcgggmfghljaaGreatDoorB12
set_option maxRecDepth 100000
set_option maxHeartbeats 8000000
namespace Go.Proofs.YtamcgggmfghljaaGreatDoor
open Go.RowKit
theorem content_1 (g : Nat) (s : Bytes) (w : World) (h1 : (take 12 s).1 = 1) (k0 : Blk w g 74 #[str s]) :
    Calls Tryz.prog 40 #[.pointer (some ⟨g, 0, none⟩)] w fun e w' =>
      e = .returned (str [dig (take 10 (take 12 s).2).1.toNat]) ∧ Blk w' g 74 #[str (take 10 (take 12 s).2).2] ∧ Chg (fun k => k = g) w w' := by
  have hg := k0.lt
  have K0 := Lib.hid k0
  have H1 := Lib.hid h1
  clear k0 h1
  go_enter Tryz.func40, Tryz.ntmps40
  go_wp2_with fail
  refine (take_any g s 12 _ (by decide) K0.out).mono ?_
  rintro e w1 ⟨rfl, k1, hd1⟩
  rw [H1.out]
  go_wp2_with fail
  refine (take_any g _ 10 _ (by decide) k1).mono ?_
  rintro e w2 ⟨rfl, k2, hd2⟩
  obtain ⟨n, hn, hn2⟩ : ∃ n : Nat, (take 10 (take 12 s).2).1 = (n : Int) ∧ n < 10 := by
    have := take_bd 10 (by decide) (take 12 s).2
    exact ⟨(take 10 (take 12 s).2).1.toNat, by omega, by omega⟩
  rw [hn]
  have HN := Lib.hid hn
  have K2 := Lib.hid k2
  have HD := Lib.hid (hd1.trans hd2)
  clear hn k1 k2 hd1 hd2
  go_wp2_with fail
  refine (itoa_small n hn2 _).mono ?_
  rintro e w3 ⟨rfl, rfl⟩
  go_wp2
  go_ret
  exact ⟨by rw [HN.out]; rfl, K2.out, HD.out⟩
theorem indexfunc_nil (cap : Nat) (A : Option Addr) (f : Value) (w : World) :
    Calls Tryz.prog 124 #[.slice A 0 cap, f] w fun e w' => e = .returned (.int .i64 (-1)) ∧ w = w' := by
  go_enter Tryz.func124, Tryz.ntmps124
  go_wp2
  refine wp_loop_rounds 1 ?_
  rw [rounds_succ]
  go_wp2
  go_ret
  exact ⟨rfl, rfl⟩
/-- A slice over one element. -/
theorem Sls.one {α : Type} {c : α → List Value} {w : World} {g : Nat} {t : TypeId} {cs : Array Value} {x : α} (h : Blk w g t cs) (hx : cs = (c x).toArray) : Sls c w w.heap.size (.slice (some ⟨g, 0, none⟩) 1 1) [x] :=
  ⟨_, 1, rfl, by simp, by simp [maxLen], fun _ => ⟨g, 0, rfl, h.lt, h.range fun j v hv => by
    rw [Nat.zero_add, hx]
    simpa using hv⟩⟩
theorem insert_nil (x : Ent) (sv : Value) (w : World) (hs : Sls cEnt w w.heap.size sv [x]) :
    Calls Tryz.prog 128 #[.slice none 0 0, .int .i64 0, sv] w fun e w' => ∃ v, e = .returned v ∧ SlsN cEnt w.heap.size w' v [x] ∧ Below w.heap.size w w' := by
  obtain ⟨A, cap, rfl, hc, hm, hr⟩ := id hs
  obtain ⟨i0, hi0, hz0, hz1, hz2⟩ := info_parts (show (Tryz.prog.info? 58).map (fun i => (i.zero, i.size, i.bytes)) = some (some (.agg #[.int .i64 0, .int .i64 0, .string ⟨#[]⟩]), 3, 32) by kernel_rfl)
  have HS := Lib.hid hs
  clear hs hr
  simp only [List.length_singleton]
  have HS2 := Lib.hid (show Sls cEnt w w.heap.size (.slice A 1 cap) [x] from HS.out)
  go_enter Tryz.func128, Tryz.ntmps128
  go_wp2_with (first
    | (at_builtin
       refine wpList_copy cEnt rfl _ _ 22 rfl 58 i0 _ 3 32 rfl hi0 hz0 hz1 hz2 rfl (by omega) rfl w.heap.size _ [x] rfl HS2.out cEnt_len cEnt_one (by simp) ?_
       intro v1 w1 hs1 hb1))
  go_ret
  exact ⟨v1, rfl, hs1, hb1⟩
theorem put_nil (x : Ent) (w : World) (h : x.input ≠ []) :
    Calls Tryz.prog 39 #[.slice none 0 0, .agg #[.int .i64 x.at_.col, .int .i64 x.at_.row, str x.input]] w fun e w' => ∃ v, e = .returned v ∧ SlsN cEnt w.heap.size w' v [x] ∧ Below w.heap.size w w' := by
  go_enter Tryz.func39, Tryz.ntmps39
  go_wp2_with fail
  refine (indexfunc_nil 0 none _ _).mono ?_
  rintro e w1 ⟨rfl, rfl⟩
  go_wp2_with fail
  go_quiet (fail)
  have h0 : (x.input == ([] : List UInt8)) = false := by simpa using h
  have HH := Lib.hid h
  clear h
  go_wp2_with fail
  have kk : Blk (((w.alloc (.cells #[.int .i64 x.at_.col, .int .i64 x.at_.row, str x.input] 58)).drewN nq).alloc (.cells #[.int .i64 x.at_.col, .int .i64 x.at_.row, str x.input] 58)) (w.heap.size + 1) 58 #[.int .i64 x.at_.col, .int .i64 x.at_.row, str x.input] := by
    have := Blk.new ((w.alloc (.cells #[.int .i64 x.at_.col, .int .i64 x.at_.row, str x.input] 58)).drewN nq) 58 #[.int .i64 x.at_.col, .int .i64 x.at_.row, str x.input]
    simpa using this
  refine (insert_nil x _ _ (Sls.one kk rfl)).mono ?_
  rintro e w2 ⟨v, rfl, hs, hb⟩
  have HS := Lib.hid hs
  have HB := Lib.hid (show Below w.heap.size w w2 from Below.next (Below.alloc (Below.drewN_ ((Below.refl w.heap.size w).alloc (Nat.le_refl _) _) nq) (by simp) _) hb (by simp; omega))
  obtain ⟨A, cap, rfl, _⟩ := id hs.1
  clear hs hb kk
  go_wp2
  go_ret
  exact ⟨_, rfl, HS.out.older (by simp; omega), HB.out⟩
end Go.Proofs.YtamcgggmfghljaaGreatDoor
