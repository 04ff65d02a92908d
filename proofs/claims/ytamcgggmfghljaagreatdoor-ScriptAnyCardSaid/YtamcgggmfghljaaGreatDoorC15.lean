/- Layer 41 (program): lists' bytes (printed by tools/gen_list.py). · Layer 41 (program): a script's bytes. · Layer 41 (program): a script's Encode, where its Check is fine. -/
import Derived.Deep.RegionHeld3
import Derived.Deep.QuietTactic
import Derived.BigQuiet
import Derived.Laws.IdiomStrings
import Derived.Test.YtamcgggmfghljaaGreatDoorC14
set_option maxRecDepth 100000
set_option maxHeartbeats 8000000
namespace Go.Proofs.YtamcgggmfghljaaGreatDoor
open Go.RowKit
theorem take_flat_le {α : Type} (f : α → Bytes) : ∀ (xs : List α) (k : Nat), ((xs.take k).flatMap f).length ≤ (xs.flatMap f).length
  | [], k => by simp
  | x :: xs, 0 => by simp
  | x :: xs, k + 1 => by
    have := take_flat_le f xs k
    rw [List.take_succ_cons, List.flatMap_cons, List.flatMap_cons, List.length_append, List.length_append]
    omega
/-- What a closure that writes an element does. -/
def Writes {α : Type} (c : α → List Value) (f : α → Bytes) (K : Nat) (x : α) : Prop :=
  ∀ (v : Value) (l : Bytes) (w : World), Out w v l → l.length ≤ 100000000 → Calls Tryz.prog K #[v, .agg (c x).toArray] w fun e w' => ∃ v', e = .returned v' ∧ Out w' v' (l ++ f x) ∧ OutTo w v w' v'
theorem list_ent (v sv : Value) (l : Bytes) (xs : List Ent) (B : Nat) (w : World) (h : Out w v l) (hB : B ≤ w.heap.size) (hv : ∀ k, v.ownBlock = some k → B ≤ k) (hs : Sls cEnt w B sv xs)
    (hg : ∀ x ∈ xs, Writes cEnt entB 86 x) (hl : l.length + (listB entB xs).length ≤ 100000000) :
    Calls Tryz.prog 85 #[v, sv, .func (.func 86) #[] #[]] w fun e w' => ∃ v', e = .returned v' ∧ Out w' v' (l ++ listB entB xs) ∧ OutTo w v w' v' := by
  obtain ⟨A, cap, rfl, hc, hm, hr⟩ := id hs
  have H := Lib.hid h
  have HS := Lib.hid hs
  have HG := Lib.hid hg
  clear h hs hr hg
  unfold maxLen at hm
  have n1 := numI_le xs.length
  have hl2 : l.length + (numI xs.length).length + (xs.flatMap entB).length ≤ 100000000 := by simpa [listB, Nat.add_assoc] using hl
  have HL := Lib.hid hl2
  clear hl
  go_enter Tryz.func85, Tryz.ntmps85
  go_wp2_with fail
  refine (num_int _ _ _ _ H.out (by omega)).mono ?_
  rintro e w1 ⟨v1, rfl, o1, t1⟩
  have O1 := Lib.hid o1
  have T1 := Lib.hid t1
  clear o1 t1 hl2
  go_wp2_with fail
  go_loopw [0, 15] (fun u i wr => ∃ k : Nat, k ≤ xs.length ∧ i = .int .i64 k ∧ Out wr u (l ++ numI xs.length ++ (xs.take k).flatMap entB) ∧ OutTo w v wr u) (fun _ i _ => xs.length - (intOf i).toNat)
  case atStart => exact ⟨0, by omega, rfl, by simpa using O1.out, T1.out⟩
  case round =>
    obtain ⟨k, hk, rfl, oo, tt⟩ := hrel
    have OO := Lib.hid oo
    have TT := Lib.hid tt
    clear oo
    by_cases hlt : k < xs.length
    · have hx : xs[k]? = some xs[k] := List.getElem?_eq_getElem hlt
      have HW := Lib.hid (HG.out _ (List.getElem_mem hlt))
      obtain ⟨b, o, rfl, hb, r⟩ := (HS.out.below (tt.old hB hv)).get 3 cEnt_len hx
      have htk : xs.take (k + 1) = xs.take k ++ [xs[k]] := by rw [List.take_succ_eq_append_getElem hlt]
      have HT := Lib.hid htk
      have hlk : (l ++ numI xs.length ++ (xs.take k).flatMap entB).length ≤ 100000000 := by
        have h1 := take_flat_le entB xs k
        have h2 := HL.out
        rw [List.length_append, List.length_append]
        omega
      have HK := Lib.hid hlk
      clear hx htk tt hlk
      generalize xs[k] = x at *
      have r0 : wr.cell? ⟨b, o + k * 3, none⟩ = some (.int .i64 x.at_.col) := r 0 _ rfl
      have r1 : wr.cell? ⟨b, o + k * 3 + 1, none⟩ = some (.int .i64 x.at_.row) := r 1 _ rfl
      have r2 : wr.cell? ⟨b, o + k * 3 + 2, none⟩ = some (str x.input) := r 2 _ rfl
      have hi0 : (0 : Int) ≤ (k : Int) := Int.natCast_nonneg _
      have hi1 : (k : Int) < (xs.length : Int) := by omega
      clear r
      go_wp2_with fail
      refine (HW.out _ _ _ (OO.out.alloc _) HK.out).mono ?_
      rintro e w2 ⟨v2, rfl, o2, t2⟩
      have O2 := Lib.hid o2
      have T2 := Lib.hid ((TT.out.alloc _).trans t2)
      clear o2 t2
      go_wp2
      refine ⟨⟨k + 1, by omega, by go_num, ?_, T2.out⟩, by simp [intOf]; omega⟩
      rw [HT.out]
      simpa using O2.out
    · go_wp2
      go_ret
      obtain rfl : k = xs.length := by omega
      exact ⟨_, rfl, by have := OO.out; rw [List.take_length] at this; simpa [listB] using this, TT.out⟩
theorem list_rul (v sv : Value) (l : Bytes) (xs : List Rul) (B : Nat) (w : World) (h : Out w v l) (hB : B ≤ w.heap.size) (hv : ∀ k, v.ownBlock = some k → B ≤ k) (hs : Sls cRul w B sv xs)
    (hg : ∀ x ∈ xs, Writes cRul rulB 90 x) (hl : l.length + (listB rulB xs).length ≤ 100000000) :
    Calls Tryz.prog 89 #[v, sv, .func (.func 90) #[] #[]] w fun e w' => ∃ v', e = .returned v' ∧ Out w' v' (l ++ listB rulB xs) ∧ OutTo w v w' v' := by
  obtain ⟨A, cap, rfl, hc, hm, hr⟩ := id hs
  have H := Lib.hid h
  have HS := Lib.hid hs
  have HG := Lib.hid hg
  clear h hs hr hg
  unfold maxLen at hm
  have n1 := numI_le xs.length
  have hl2 : l.length + (numI xs.length).length + (xs.flatMap rulB).length ≤ 100000000 := by simpa [listB, Nat.add_assoc] using hl
  have HL := Lib.hid hl2
  clear hl
  go_enter Tryz.func89, Tryz.ntmps89
  go_wp2_with fail
  refine (num_int _ _ _ _ H.out (by omega)).mono ?_
  rintro e w1 ⟨v1, rfl, o1, t1⟩
  have O1 := Lib.hid o1
  have T1 := Lib.hid t1
  clear o1 t1 hl2
  go_wp2_with fail
  go_loopw [0, 15] (fun u i wr => ∃ k : Nat, k ≤ xs.length ∧ i = .int .i64 k ∧ Out wr u (l ++ numI xs.length ++ (xs.take k).flatMap rulB) ∧ OutTo w v wr u) (fun _ i _ => xs.length - (intOf i).toNat)
  case atStart => exact ⟨0, by omega, rfl, by simpa using O1.out, T1.out⟩
  case round =>
    obtain ⟨k, hk, rfl, oo, tt⟩ := hrel
    have OO := Lib.hid oo
    have TT := Lib.hid tt
    clear oo
    by_cases hlt : k < xs.length
    · have hx : xs[k]? = some xs[k] := List.getElem?_eq_getElem hlt
      have HW := Lib.hid (HG.out _ (List.getElem_mem hlt))
      obtain ⟨b, o, rfl, hb, r⟩ := (HS.out.below (tt.old hB hv)).get 7 cRul_len hx
      have htk : xs.take (k + 1) = xs.take k ++ [xs[k]] := by rw [List.take_succ_eq_append_getElem hlt]
      have HT := Lib.hid htk
      have hlk : (l ++ numI xs.length ++ (xs.take k).flatMap rulB).length ≤ 100000000 := by
        have h1 := take_flat_le rulB xs k
        have h2 := HL.out
        rw [List.length_append, List.length_append]
        omega
      have HK := Lib.hid hlk
      clear hx htk tt hlk
      generalize xs[k] = x at *
      have r0 : wr.cell? ⟨b, o + k * 7, none⟩ = some (.int .i64 x.rect.c1) := r 0 _ rfl
      have r1 : wr.cell? ⟨b, o + k * 7 + 1, none⟩ = some (.int .i64 x.rect.r1) := r 1 _ rfl
      have r2 : wr.cell? ⟨b, o + k * 7 + 2, none⟩ = some (.int .i64 x.rect.c2) := r 2 _ rfl
      have r3 : wr.cell? ⟨b, o + k * 7 + 3, none⟩ = some (.int .i64 x.rect.r2) := r 3 _ rfl
      have r4 : wr.cell? ⟨b, o + k * 7 + 4, none⟩ = some (.int .u64 x.rights.rd) := r 4 _ rfl
      have r5 : wr.cell? ⟨b, o + k * 7 + 5, none⟩ = some (.int .u64 x.rights.wr) := r 5 _ rfl
      have r6 : wr.cell? ⟨b, o + k * 7 + 6, none⟩ = some (.int .u64 x.rights.ow) := r 6 _ rfl
      have hi0 : (0 : Int) ≤ (k : Int) := Int.natCast_nonneg _
      have hi1 : (k : Int) < (xs.length : Int) := by omega
      clear r
      go_wp2_with fail
      refine (HW.out _ _ _ (OO.out.alloc _) HK.out).mono ?_
      rintro e w2 ⟨v2, rfl, o2, t2⟩
      have O2 := Lib.hid o2
      have T2 := Lib.hid ((TT.out.alloc _).trans t2)
      clear o2 t2
      go_wp2
      refine ⟨⟨k + 1, by omega, by go_num, ?_, T2.out⟩, by simp [intOf]; omega⟩
      rw [HT.out]
      simpa using O2.out
    · go_wp2
      go_ret
      obtain rfl : k = xs.length := by omega
      exact ⟨_, rfl, by have := OO.out; rw [List.take_length] at this; simpa [listB] using this, TT.out⟩
theorem list_grt (v sv : Value) (l : Bytes) (xs : List Grt) (B : Nat) (w : World) (h : Out w v l) (hB : B ≤ w.heap.size) (hv : ∀ k, v.ownBlock = some k → B ≤ k) (hs : Sls cGrt w B sv xs)
    (hg : ∀ x ∈ xs, Writes cGrt grtB 94 x) (hl : l.length + (listB grtB xs).length ≤ 100000000) :
    Calls Tryz.prog 93 #[v, sv, .func (.func 94) #[] #[]] w fun e w' => ∃ v', e = .returned v' ∧ Out w' v' (l ++ listB grtB xs) ∧ OutTo w v w' v' := by
  obtain ⟨A, cap, rfl, hc, hm, hr⟩ := id hs
  have H := Lib.hid h
  have HS := Lib.hid hs
  have HG := Lib.hid hg
  clear h hs hr hg
  unfold maxLen at hm
  have n1 := numI_le xs.length
  have hl2 : l.length + (numI xs.length).length + (xs.flatMap grtB).length ≤ 100000000 := by simpa [listB, Nat.add_assoc] using hl
  have HL := Lib.hid hl2
  clear hl
  go_enter Tryz.func93, Tryz.ntmps93
  go_wp2_with fail
  refine (num_int _ _ _ _ H.out (by omega)).mono ?_
  rintro e w1 ⟨v1, rfl, o1, t1⟩
  have O1 := Lib.hid o1
  have T1 := Lib.hid t1
  clear o1 t1 hl2
  go_wp2_with fail
  go_loopw [0, 15] (fun u i wr => ∃ k : Nat, k ≤ xs.length ∧ i = .int .i64 k ∧ Out wr u (l ++ numI xs.length ++ (xs.take k).flatMap grtB) ∧ OutTo w v wr u) (fun _ i _ => xs.length - (intOf i).toNat)
  case atStart => exact ⟨0, by omega, rfl, by simpa using O1.out, T1.out⟩
  case round =>
    obtain ⟨k, hk, rfl, oo, tt⟩ := hrel
    have OO := Lib.hid oo
    have TT := Lib.hid tt
    clear oo
    by_cases hlt : k < xs.length
    · have hx : xs[k]? = some xs[k] := List.getElem?_eq_getElem hlt
      have HW := Lib.hid (HG.out _ (List.getElem_mem hlt))
      obtain ⟨b, o, rfl, hb, r⟩ := (HS.out.below (tt.old hB hv)).get 8 cGrt_len hx
      have htk : xs.take (k + 1) = xs.take k ++ [xs[k]] := by rw [List.take_succ_eq_append_getElem hlt]
      have HT := Lib.hid htk
      have hlk : (l ++ numI xs.length ++ (xs.take k).flatMap grtB).length ≤ 100000000 := by
        have h1 := take_flat_le grtB xs k
        have h2 := HL.out
        rw [List.length_append, List.length_append]
        omega
      have HK := Lib.hid hlk
      clear hx htk tt hlk
      generalize xs[k] = x at *
      have r0 : wr.cell? ⟨b, o + k * 8, none⟩ = some (.int .i64 x.rect.c1) := r 0 _ rfl
      have r1 : wr.cell? ⟨b, o + k * 8 + 1, none⟩ = some (.int .i64 x.rect.r1) := r 1 _ rfl
      have r2 : wr.cell? ⟨b, o + k * 8 + 2, none⟩ = some (.int .i64 x.rect.c2) := r 2 _ rfl
      have r3 : wr.cell? ⟨b, o + k * 8 + 3, none⟩ = some (.int .i64 x.rect.r2) := r 3 _ rfl
      have r4 : wr.cell? ⟨b, o + k * 8 + 4, none⟩ = some (.int .u8 x.fns) := r 4 _ rfl
      have r5 : wr.cell? ⟨b, o + k * 8 + 5, none⟩ = some (.int .u64 x.to_) := r 5 _ rfl
      have r6 : wr.cell? ⟨b, o + k * 8 + 6, none⟩ = some (.int .i64 x.by_) := r 6 _ rfl
      have r7 : wr.cell? ⟨b, o + k * 8 + 7, none⟩ = some (.bool x.revoked) := r 7 _ rfl
      have hi0 : (0 : Int) ≤ (k : Int) := Int.natCast_nonneg _
      have hi1 : (k : Int) < (xs.length : Int) := by omega
      clear r
      go_wp2_with fail
      refine (HW.out _ _ _ (OO.out.alloc _) HK.out).mono ?_
      rintro e w2 ⟨v2, rfl, o2, t2⟩
      have O2 := Lib.hid o2
      have T2 := Lib.hid ((TT.out.alloc _).trans t2)
      clear o2 t2
      go_wp2
      refine ⟨⟨k + 1, by omega, by go_num, ?_, T2.out⟩, by simp [intOf]; omega⟩
      rw [HT.out]
      simpa using O2.out
    · go_wp2
      go_ret
      obtain rfl : k = xs.length := by omega
      exact ⟨_, rfl, by have := OO.out; rw [List.take_length] at this; simpa [listB] using this, TT.out⟩
theorem list_evt (v sv : Value) (l : Bytes) (xs : List Evt) (B : Nat) (w : World) (h : Out w v l) (hB : B ≤ w.heap.size) (hv : ∀ k, v.ownBlock = some k → B ≤ k) (hs : Sls cEvt w B sv xs)
    (hg : ∀ x ∈ xs, Writes cEvt evtB 99 x) (hl : l.length + (listB evtB xs).length ≤ 100000000) :
    Calls Tryz.prog 98 #[v, sv, .func (.func 99) #[] #[]] w fun e w' => ∃ v', e = .returned v' ∧ Out w' v' (l ++ listB evtB xs) ∧ OutTo w v w' v' := by
  obtain ⟨A, cap, rfl, hc, hm, hr⟩ := id hs
  have H := Lib.hid h
  have HS := Lib.hid hs
  have HG := Lib.hid hg
  clear h hs hr hg
  unfold maxLen at hm
  have n1 := numI_le xs.length
  have hl2 : l.length + (numI xs.length).length + (xs.flatMap evtB).length ≤ 100000000 := by simpa [listB, Nat.add_assoc] using hl
  have HL := Lib.hid hl2
  clear hl
  go_enter Tryz.func98, Tryz.ntmps98
  go_wp2_with fail
  refine (num_int _ _ _ _ H.out (by omega)).mono ?_
  rintro e w1 ⟨v1, rfl, o1, t1⟩
  have O1 := Lib.hid o1
  have T1 := Lib.hid t1
  clear o1 t1 hl2
  go_wp2_with fail
  go_loopw [0, 15] (fun u i wr => ∃ k : Nat, k ≤ xs.length ∧ i = .int .i64 k ∧ Out wr u (l ++ numI xs.length ++ (xs.take k).flatMap evtB) ∧ OutTo w v wr u) (fun _ i _ => xs.length - (intOf i).toNat)
  case atStart => exact ⟨0, by omega, rfl, by simpa using O1.out, T1.out⟩
  case round =>
    obtain ⟨k, hk, rfl, oo, tt⟩ := hrel
    have OO := Lib.hid oo
    have TT := Lib.hid tt
    clear oo
    by_cases hlt : k < xs.length
    · have hx : xs[k]? = some xs[k] := List.getElem?_eq_getElem hlt
      have HW := Lib.hid (HG.out _ (List.getElem_mem hlt))
      obtain ⟨b, o, rfl, hb, r⟩ := (HS.out.below (tt.old hB hv)).get 9 cEvt_len hx
      have htk : xs.take (k + 1) = xs.take k ++ [xs[k]] := by rw [List.take_succ_eq_append_getElem hlt]
      have HT := Lib.hid htk
      have hlk : (l ++ numI xs.length ++ (xs.take k).flatMap evtB).length ≤ 100000000 := by
        have h1 := take_flat_le evtB xs k
        have h2 := HL.out
        rw [List.length_append, List.length_append]
        omega
      have HK := Lib.hid hlk
      clear hx htk tt hlk
      generalize xs[k] = x at *
      have r0 : wr.cell? ⟨b, o + k * 9, none⟩ = some (.int .i64 x.step) := r 0 _ rfl
      have r1 : wr.cell? ⟨b, o + k * 9 + 1, none⟩ = some (.int .i64 x.user) := r 1 _ rfl
      have r2 : wr.cell? ⟨b, o + k * 9 + 2, none⟩ = some (.int .u8 x.kind) := r 2 _ rfl
      have r3 : wr.cell? ⟨b, o + k * 9 + 3, none⟩ = some (.int .i64 x.rect.c1) := r 3 _ rfl
      have r4 : wr.cell? ⟨b, o + k * 9 + 4, none⟩ = some (.int .i64 x.rect.r1) := r 4 _ rfl
      have r5 : wr.cell? ⟨b, o + k * 9 + 5, none⟩ = some (.int .i64 x.rect.c2) := r 5 _ rfl
      have r6 : wr.cell? ⟨b, o + k * 9 + 6, none⟩ = some (.int .i64 x.rect.r2) := r 6 _ rfl
      have r7 : wr.cell? ⟨b, o + k * 9 + 7, none⟩ = some (.bool x.done_) := r 7 _ rfl
      have r8 : wr.cell? ⟨b, o + k * 9 + 8, none⟩ = some (.int .u64 x.to_) := r 8 _ rfl
      have hi0 : (0 : Int) ≤ (k : Int) := Int.natCast_nonneg _
      have hi1 : (k : Int) < (xs.length : Int) := by omega
      clear r
      go_wp2_with fail
      refine (HW.out _ _ _ (OO.out.alloc _) HK.out).mono ?_
      rintro e w2 ⟨v2, rfl, o2, t2⟩
      have O2 := Lib.hid o2
      have T2 := Lib.hid ((TT.out.alloc _).trans t2)
      clear o2 t2
      go_wp2
      refine ⟨⟨k + 1, by omega, by go_num, ?_, T2.out⟩, by simp [intOf]; omega⟩
      rw [HT.out]
      simpa using O2.out
    · go_wp2
      go_ret
      obtain rfl : k = xs.length := by omega
      exact ⟨_, rfl, by have := OO.out; rw [List.take_length] at this; simpa [listB] using this, TT.out⟩
theorem list_rls (v sv : Value) (l : Bytes) (xs : List Rls) (B : Nat) (w : World) (h : Out w v l) (hB : B ≤ w.heap.size) (hv : ∀ k, v.ownBlock = some k → B ≤ k) (hs : Sls cRls w B sv xs)
    (hg : ∀ x ∈ xs, Writes cRls rlsB 101 x) (hl : l.length + (listB rlsB xs).length ≤ 100000000) :
    Calls Tryz.prog 100 #[v, sv, .func (.func 101) #[] #[]] w fun e w' => ∃ v', e = .returned v' ∧ Out w' v' (l ++ listB rlsB xs) ∧ OutTo w v w' v' := by
  obtain ⟨A, cap, rfl, hc, hm, hr⟩ := id hs
  have H := Lib.hid h
  have HS := Lib.hid hs
  have HG := Lib.hid hg
  clear h hs hr hg
  unfold maxLen at hm
  have n1 := numI_le xs.length
  have hl2 : l.length + (numI xs.length).length + (xs.flatMap rlsB).length ≤ 100000000 := by simpa [listB, Nat.add_assoc] using hl
  have HL := Lib.hid hl2
  clear hl
  go_enter Tryz.func100, Tryz.ntmps100
  go_wp2_with fail
  refine (num_int _ _ _ _ H.out (by omega)).mono ?_
  rintro e w1 ⟨v1, rfl, o1, t1⟩
  have O1 := Lib.hid o1
  have T1 := Lib.hid t1
  clear o1 t1 hl2
  go_wp2_with fail
  go_loopw [0, 15] (fun u i wr => ∃ k : Nat, k ≤ xs.length ∧ i = .int .i64 k ∧ Out wr u (l ++ numI xs.length ++ (xs.take k).flatMap rlsB) ∧ OutTo w v wr u) (fun _ i _ => xs.length - (intOf i).toNat)
  case atStart => exact ⟨0, by omega, rfl, by simpa using O1.out, T1.out⟩
  case round =>
    obtain ⟨k, hk, rfl, oo, tt⟩ := hrel
    have OO := Lib.hid oo
    have TT := Lib.hid tt
    clear oo
    by_cases hlt : k < xs.length
    · have hx : xs[k]? = some xs[k] := List.getElem?_eq_getElem hlt
      have HW := Lib.hid (HG.out _ (List.getElem_mem hlt))
      obtain ⟨b, o, rfl, hb, r⟩ := (HS.out.below (tt.old hB hv)).get 11 cRls_len hx
      have htk : xs.take (k + 1) = xs.take k ++ [xs[k]] := by rw [List.take_succ_eq_append_getElem hlt]
      have HT := Lib.hid htk
      have hlk : (l ++ numI xs.length ++ (xs.take k).flatMap rlsB).length ≤ 100000000 := by
        have h1 := take_flat_le rlsB xs k
        have h2 := HL.out
        rw [List.length_append, List.length_append]
        omega
      have HK := Lib.hid hlk
      clear hx htk tt hlk
      generalize xs[k] = x at *
      have r0 : wr.cell? ⟨b, o + k * 11, none⟩ = some (.int .i64 x.step) := r 0 _ rfl
      have r1 : wr.cell? ⟨b, o + k * 11 + 1, none⟩ = some (.int .i64 x.at_.col) := r 1 _ rfl
      have r2 : wr.cell? ⟨b, o + k * 11 + 2, none⟩ = some (.int .i64 x.at_.row) := r 2 _ rfl
      have r3 : wr.cell? ⟨b, o + k * 11 + 3, none⟩ = some (.int .i64 x.node) := r 3 _ rfl
      have r4 : wr.cell? ⟨b, o + k * 11 + 4, none⟩ = some (.int .u8 x.fn) := r 4 _ rfl
      have r5 : wr.cell? ⟨b, o + k * 11 + 5, none⟩ = some (.int .i64 x.rect.c1) := r 5 _ rfl
      have r6 : wr.cell? ⟨b, o + k * 11 + 6, none⟩ = some (.int .i64 x.rect.r1) := r 6 _ rfl
      have r7 : wr.cell? ⟨b, o + k * 11 + 7, none⟩ = some (.int .i64 x.rect.c2) := r 7 _ rfl
      have r8 : wr.cell? ⟨b, o + k * 11 + 8, none⟩ = some (.int .i64 x.rect.r2) := r 8 _ rfl
      have r9 : wr.cell? ⟨b, o + k * 11 + 9, none⟩ = some (.int .i64 x.grant) := r 9 _ rfl
      have r10 : wr.cell? ⟨b, o + k * 11 + 10, none⟩ = some (.int .u64 x.to_) := r 10 _ rfl
      have hi0 : (0 : Int) ≤ (k : Int) := Int.natCast_nonneg _
      have hi1 : (k : Int) < (xs.length : Int) := by omega
      clear r
      go_wp2_with fail
      refine (HW.out _ _ _ (OO.out.alloc _) HK.out).mono ?_
      rintro e w2 ⟨v2, rfl, o2, t2⟩
      have O2 := Lib.hid o2
      have T2 := Lib.hid ((TT.out.alloc _).trans t2)
      clear o2 t2
      go_wp2
      refine ⟨⟨k + 1, by omega, by go_num, ?_, T2.out⟩, by simp [intOf]; omega⟩
      rw [HT.out]
      simpa using O2.out
    · go_wp2
      go_ret
      obtain rfl : k = xs.length := by omega
      exact ⟨_, rfl, by have := OO.out; rw [List.take_length] at this; simpa [listB] using this, TT.out⟩
theorem list_opr (v sv : Value) (l : Bytes) (xs : List Opr) (B : Nat) (w : World) (h : Out w v l) (hB : B ≤ w.heap.size) (hv : ∀ k, v.ownBlock = some k → B ≤ k) (hs : Sls cOpr w B sv xs)
    (hg : ∀ x ∈ xs, Writes cOpr oprB 103 x) (hl : l.length + (listB oprB xs).length ≤ 100000000) :
    Calls Tryz.prog 102 #[v, sv, .func (.func 103) #[] #[]] w fun e w' => ∃ v', e = .returned v' ∧ Out w' v' (l ++ listB oprB xs) ∧ OutTo w v w' v' := by
  obtain ⟨A, cap, rfl, hc, hm, hr⟩ := id hs
  have H := Lib.hid h
  have HS := Lib.hid hs
  have HG := Lib.hid hg
  clear h hs hr hg
  unfold maxLen at hm
  have n1 := numI_le xs.length
  have hl2 : l.length + (numI xs.length).length + (xs.flatMap oprB).length ≤ 100000000 := by simpa [listB, Nat.add_assoc] using hl
  have HL := Lib.hid hl2
  clear hl
  go_enter Tryz.func102, Tryz.ntmps102
  go_wp2_with fail
  refine (num_int _ _ _ _ H.out (by omega)).mono ?_
  rintro e w1 ⟨v1, rfl, o1, t1⟩
  have O1 := Lib.hid o1
  have T1 := Lib.hid t1
  clear o1 t1 hl2
  go_wp2_with fail
  go_loopw [0, 15] (fun u i wr => ∃ k : Nat, k ≤ xs.length ∧ i = .int .i64 k ∧ Out wr u (l ++ numI xs.length ++ (xs.take k).flatMap oprB) ∧ OutTo w v wr u) (fun _ i _ => xs.length - (intOf i).toNat)
  case atStart => exact ⟨0, by omega, rfl, by simpa using O1.out, T1.out⟩
  case round =>
    obtain ⟨k, hk, rfl, oo, tt⟩ := hrel
    have OO := Lib.hid oo
    have TT := Lib.hid tt
    clear oo
    by_cases hlt : k < xs.length
    · have hx : xs[k]? = some xs[k] := List.getElem?_eq_getElem hlt
      have HW := Lib.hid (HG.out _ (List.getElem_mem hlt))
      obtain ⟨b, o, rfl, hb, r⟩ := (HS.out.below (tt.old hB hv)).get 13 cOpr_len hx
      have htk : xs.take (k + 1) = xs.take k ++ [xs[k]] := by rw [List.take_succ_eq_append_getElem hlt]
      have HT := Lib.hid htk
      have hlk : (l ++ numI xs.length ++ (xs.take k).flatMap oprB).length ≤ 100000000 := by
        have h1 := take_flat_le oprB xs k
        have h2 := HL.out
        rw [List.length_append, List.length_append]
        omega
      have HK := Lib.hid hlk
      clear hx htk tt hlk
      generalize xs[k] = x at *
      have r0 : wr.cell? ⟨b, o + k * 13, none⟩ = some (.int .u8 x.kind) := r 0 _ rfl
      have r1 : wr.cell? ⟨b, o + k * 13 + 1, none⟩ = some (.int .i64 x.user) := r 1 _ rfl
      have r2 : wr.cell? ⟨b, o + k * 13 + 2, none⟩ = some (.int .i64 x.rect.c1) := r 2 _ rfl
      have r3 : wr.cell? ⟨b, o + k * 13 + 3, none⟩ = some (.int .i64 x.rect.r1) := r 3 _ rfl
      have r4 : wr.cell? ⟨b, o + k * 13 + 4, none⟩ = some (.int .i64 x.rect.c2) := r 4 _ rfl
      have r5 : wr.cell? ⟨b, o + k * 13 + 5, none⟩ = some (.int .i64 x.rect.r2) := r 5 _ rfl
      have r6 : wr.cell? ⟨b, o + k * 13 + 6, none⟩ = some (str x.input) := r 6 _ rfl
      have r7 : wr.cell? ⟨b, o + k * 13 + 7, none⟩ = some (.int .u64 x.rights.rd) := r 7 _ rfl
      have r8 : wr.cell? ⟨b, o + k * 13 + 8, none⟩ = some (.int .u64 x.rights.wr) := r 8 _ rfl
      have r9 : wr.cell? ⟨b, o + k * 13 + 9, none⟩ = some (.int .u64 x.rights.ow) := r 9 _ rfl
      have r10 : wr.cell? ⟨b, o + k * 13 + 10, none⟩ = some (.int .u8 x.fns) := r 10 _ rfl
      have r11 : wr.cell? ⟨b, o + k * 13 + 11, none⟩ = some (.int .u64 x.to_) := r 11 _ rfl
      have r12 : wr.cell? ⟨b, o + k * 13 + 12, none⟩ = some (.int .i64 x.index) := r 12 _ rfl
      have hi0 : (0 : Int) ≤ (k : Int) := Int.natCast_nonneg _
      have hi1 : (k : Int) < (xs.length : Int) := by omega
      clear r
      go_wp2_with fail
      refine (HW.out _ _ _ (OO.out.alloc _) HK.out).mono ?_
      rintro e w2 ⟨v2, rfl, o2, t2⟩
      have O2 := Lib.hid o2
      have T2 := Lib.hid ((TT.out.alloc _).trans t2)
      clear o2 t2
      go_wp2
      refine ⟨⟨k + 1, by omega, by go_num, ?_, T2.out⟩, by simp [intOf]; omega⟩
      rw [HT.out]
      simpa using O2.out
    · go_wp2
      go_ret
      obtain rfl : k = xs.length := by omega
      exact ⟨_, rfl, by have := OO.out; rw [List.take_length] at this; simpa [listB] using this, TT.out⟩
/-- Each element of a script can be written. -/
structure WritesS (s : Scp) : Prop where
  ents : ∀ x ∈ s.book.entries, Writes cEnt entB 86 x
  ruls : ∀ x ∈ s.book.rules, Writes cRul rulB 90 x
  grts : ∀ x ∈ s.book.grants, Writes cGrt grtB 94 x
  evts : ∀ x ∈ s.book.log, Writes cEvt evtB 99 x
  rlss : ∀ x ∈ s.book.releases, Writes cRls rlsB 101 x
  oprs : ∀ x ∈ s.ops, Writes cOpr oprB 103 x
theorem written_any (s : Scp) (e r g l x o : Value) (B : Nat) (w : World) (hB : B ≤ w.heap.size) (hb : RdScp w B s e r g l x o) (hs : WritesS s) (hl : (scpB s).length ≤ 100000000) :
    Calls Tryz.prog 27 #[vScp s e r g l x o] w fun u w' => ∃ v', u = .returned v' ∧ Out w' v' (scpB s) ∧ OutTo w (.slice none 0 0) w' v' := by
  obtain ⟨Ae, ce, rfl, _⟩ := id hb.book.ents
  obtain ⟨Ar, cr, rfl, _⟩ := id hb.book.ruls
  obtain ⟨Ag, cg, rfl, _⟩ := id hb.book.grts
  obtain ⟨Al, cl, rfl, _⟩ := id hb.book.evts
  obtain ⟨Ax, cx, rfl, _⟩ := id hb.book.rlss
  obtain ⟨Ao, co, rfl, _⟩ := id hb.ops
  have HB := Lib.hid hb
  clear hb
  have hl2 : (numI s.book.users).length + (listB entB s.book.entries).length + (listB rulB s.book.rules).length + (listB grtB s.book.grants).length + (listB evtB s.book.log).length + (listB rlsB s.book.releases).length + (numI s.book.step).length + (listB oprB s.ops).length ≤ 100000000 := by
    simpa [scpB, Nat.add_assoc] using hl
  clear hl
  go_enter Tryz.func27, Tryz.ntmps27
  go_wp2_with fail
  have kA : Blk ((w.alloc (.cells #[.int .i64 s.book.users, .slice Ae s.book.entries.length ce, .slice Ar s.book.rules.length cr, .slice Ag s.book.grants.length cg, .slice Al s.book.log.length cl, .slice Ax s.book.releases.length cx, .int .i64 s.book.step, .slice Ao s.ops.length co] 31)).alloc (.cells #[.int .i64 s.book.users, .slice Ae s.book.entries.length ce, .slice Ar s.book.rules.length cr, .slice Ag s.book.grants.length cg, .slice Al s.book.log.length cl, .slice Ax s.book.releases.length cx, .int .i64 s.book.step] 28)) w.heap.size 31 #[.int .i64 s.book.users, .slice Ae s.book.entries.length ce, .slice Ar s.book.rules.length cr, .slice Ag s.book.grants.length cg, .slice Al s.book.log.length cl, .slice Ax s.book.releases.length cx, .int .i64 s.book.step, .slice Ao s.ops.length co] := (Blk.new w _ _).alloc _
  have kB : Blk ((w.alloc (.cells #[.int .i64 s.book.users, .slice Ae s.book.entries.length ce, .slice Ar s.book.rules.length cr, .slice Ag s.book.grants.length cg, .slice Al s.book.log.length cl, .slice Ax s.book.releases.length cx, .int .i64 s.book.step, .slice Ao s.ops.length co] 31)).alloc (.cells #[.int .i64 s.book.users, .slice Ae s.book.entries.length ce, .slice Ar s.book.rules.length cr, .slice Ag s.book.grants.length cg, .slice Al s.book.log.length cl, .slice Ax s.book.releases.length cx, .int .i64 s.book.step] 28)) (w.heap.size + 1) 28 #[.int .i64 s.book.users, .slice Ae s.book.entries.length ce, .slice Ar s.book.rules.length cr, .slice Ag s.book.grants.length cg, .slice Al s.book.log.length cl, .slice Ax s.book.releases.length cx, .int .i64 s.book.step] := by have := Blk.new (w.alloc (.cells #[.int .i64 s.book.users, .slice Ae s.book.entries.length ce, .slice Ar s.book.rules.length cr, .slice Ag s.book.grants.length cg, .slice Al s.book.log.length cl, .slice Ax s.book.releases.length cx, .int .i64 s.book.step, .slice Ao s.ops.length co] 31)) 28 #[.int .i64 s.book.users, .slice Ae s.book.entries.length ce, .slice Ar s.book.rules.length cr, .slice Ag s.book.grants.length cg, .slice Al s.book.log.length cl, .slice Ax s.book.releases.length cx, .int .i64 s.book.step]; simpa using this
  have tt : OutTo w (.slice none 0 0) ((w.alloc (.cells #[.int .i64 s.book.users, .slice Ae s.book.entries.length ce, .slice Ar s.book.rules.length cr, .slice Ag s.book.grants.length cg, .slice Al s.book.log.length cl, .slice Ax s.book.releases.length cx, .int .i64 s.book.step, .slice Ao s.ops.length co] 31)).alloc (.cells #[.int .i64 s.book.users, .slice Ae s.book.entries.length ce, .slice Ar s.book.rules.length cr, .slice Ag s.book.grants.length cg, .slice Al s.book.log.length cl, .slice Ax s.book.releases.length cx, .int .i64 s.book.step] 28)) (.slice none 0 0) := ((OutTo.refl w _).alloc _).alloc _
  have hA : (Value.slice none 0 0).ownBlock ≠ some w.heap.size := by simp [Value.ownBlock]
  have hB2 : (Value.slice none 0 0).ownBlock ≠ some (w.heap.size + 1) := by simp [Value.ownBlock]
  have KA := Lib.hid kA
  have KB := Lib.hid kB
  have TT := Lib.hid tt
  clear kA kB tt
  refine (num_int _ [] _ _ (Out.nil _) (by simp)).mono ?_
  rintro e w1 ⟨v1, rfl, o1, t1⟩
  have KA1 := Lib.hid (KA.out.outTo t1 hA)
  have KB1 := Lib.hid (KB.out.outTo t1 hB2)
  have hA := t1.ne KA.out.lt hA
  have hB2 := t1.ne KB.out.lt hB2
  have TT1 := Lib.hid (TT.out.trans t1)
  have OO := Lib.hid o1
  clear KA KB TT
  have KA := KA1
  have KB := KB1
  have TT := TT1
  have hz := TT.out.chg.size
  clear o1 t1 KA1 KB1 TT1
  have q0 : w1.cell? ⟨w.heap.size + 1, 0, none⟩ = some (.int .i64 s.book.users) := KB.out.cell 0
  have q1 : w1.cell? ⟨w.heap.size + 1, 1, none⟩ = some (.slice Ae s.book.entries.length ce) := KB.out.cell 1
  have q2 : w1.cell? ⟨w.heap.size + 1, 2, none⟩ = some (.slice Ar s.book.rules.length cr) := KB.out.cell 2
  have q3 : w1.cell? ⟨w.heap.size + 1, 3, none⟩ = some (.slice Ag s.book.grants.length cg) := KB.out.cell 3
  have q4 : w1.cell? ⟨w.heap.size + 1, 4, none⟩ = some (.slice Al s.book.log.length cl) := KB.out.cell 4
  have q5 : w1.cell? ⟨w.heap.size + 1, 5, none⟩ = some (.slice Ax s.book.releases.length cx) := KB.out.cell 5
  have q6 : w1.cell? ⟨w.heap.size + 1, 6, none⟩ = some (.int .i64 s.book.step) := KB.out.cell 6
  go_wp2_with fail
  refine (list_ent _ _ _ _ B _ OO.out (by omega) (TT.out.newer hB (by simp [Value.ownBlock])) ((HB.out.book.ents).below (TT.out.old hB (by simp [Value.ownBlock]))) hs.ents (by (try simp); omega)).mono ?_
  rintro e w2 ⟨v2, rfl, o2, t2⟩
  clear q0 q1 q2 q3 q4 q5 q6
  have KA2 := Lib.hid (KA.out.outTo t2 hA)
  have KB2 := Lib.hid (KB.out.outTo t2 hB2)
  have hA := t2.ne KA.out.lt hA
  have hB2 := t2.ne KB.out.lt hB2
  have TT2 := Lib.hid (TT.out.trans t2)
  have OO := Lib.hid o2
  clear KA KB TT
  have KA := KA2
  have KB := KB2
  have TT := TT2
  have hz := TT.out.chg.size
  clear o2 t2 KA2 KB2 TT2
  have q0 : w2.cell? ⟨w.heap.size + 1, 0, none⟩ = some (.int .i64 s.book.users) := KB.out.cell 0
  have q1 : w2.cell? ⟨w.heap.size + 1, 1, none⟩ = some (.slice Ae s.book.entries.length ce) := KB.out.cell 1
  have q2 : w2.cell? ⟨w.heap.size + 1, 2, none⟩ = some (.slice Ar s.book.rules.length cr) := KB.out.cell 2
  have q3 : w2.cell? ⟨w.heap.size + 1, 3, none⟩ = some (.slice Ag s.book.grants.length cg) := KB.out.cell 3
  have q4 : w2.cell? ⟨w.heap.size + 1, 4, none⟩ = some (.slice Al s.book.log.length cl) := KB.out.cell 4
  have q5 : w2.cell? ⟨w.heap.size + 1, 5, none⟩ = some (.slice Ax s.book.releases.length cx) := KB.out.cell 5
  have q6 : w2.cell? ⟨w.heap.size + 1, 6, none⟩ = some (.int .i64 s.book.step) := KB.out.cell 6
  go_wp2_with fail
  refine (list_rul _ _ _ _ B _ OO.out (by omega) (TT.out.newer hB (by simp [Value.ownBlock])) ((HB.out.book.ruls).below (TT.out.old hB (by simp [Value.ownBlock]))) hs.ruls (by (try simp); omega)).mono ?_
  rintro e w3 ⟨v3, rfl, o3, t3⟩
  clear q0 q1 q2 q3 q4 q5 q6
  have KA3 := Lib.hid (KA.out.outTo t3 hA)
  have KB3 := Lib.hid (KB.out.outTo t3 hB2)
  have hA := t3.ne KA.out.lt hA
  have hB2 := t3.ne KB.out.lt hB2
  have TT3 := Lib.hid (TT.out.trans t3)
  have OO := Lib.hid o3
  clear KA KB TT
  have KA := KA3
  have KB := KB3
  have TT := TT3
  have hz := TT.out.chg.size
  clear o3 t3 KA3 KB3 TT3
  have q0 : w3.cell? ⟨w.heap.size + 1, 0, none⟩ = some (.int .i64 s.book.users) := KB.out.cell 0
  have q1 : w3.cell? ⟨w.heap.size + 1, 1, none⟩ = some (.slice Ae s.book.entries.length ce) := KB.out.cell 1
  have q2 : w3.cell? ⟨w.heap.size + 1, 2, none⟩ = some (.slice Ar s.book.rules.length cr) := KB.out.cell 2
  have q3 : w3.cell? ⟨w.heap.size + 1, 3, none⟩ = some (.slice Ag s.book.grants.length cg) := KB.out.cell 3
  have q4 : w3.cell? ⟨w.heap.size + 1, 4, none⟩ = some (.slice Al s.book.log.length cl) := KB.out.cell 4
  have q5 : w3.cell? ⟨w.heap.size + 1, 5, none⟩ = some (.slice Ax s.book.releases.length cx) := KB.out.cell 5
  have q6 : w3.cell? ⟨w.heap.size + 1, 6, none⟩ = some (.int .i64 s.book.step) := KB.out.cell 6
  go_wp2_with fail
  refine (list_grt _ _ _ _ B _ OO.out (by omega) (TT.out.newer hB (by simp [Value.ownBlock])) ((HB.out.book.grts).below (TT.out.old hB (by simp [Value.ownBlock]))) hs.grts (by (try simp); omega)).mono ?_
  rintro e w4 ⟨v4, rfl, o4, t4⟩
  clear q0 q1 q2 q3 q4 q5 q6
  have KA4 := Lib.hid (KA.out.outTo t4 hA)
  have KB4 := Lib.hid (KB.out.outTo t4 hB2)
  have hA := t4.ne KA.out.lt hA
  have hB2 := t4.ne KB.out.lt hB2
  have TT4 := Lib.hid (TT.out.trans t4)
  have OO := Lib.hid o4
  clear KA KB TT
  have KA := KA4
  have KB := KB4
  have TT := TT4
  have hz := TT.out.chg.size
  clear o4 t4 KA4 KB4 TT4
  have q0 : w4.cell? ⟨w.heap.size + 1, 0, none⟩ = some (.int .i64 s.book.users) := KB.out.cell 0
  have q1 : w4.cell? ⟨w.heap.size + 1, 1, none⟩ = some (.slice Ae s.book.entries.length ce) := KB.out.cell 1
  have q2 : w4.cell? ⟨w.heap.size + 1, 2, none⟩ = some (.slice Ar s.book.rules.length cr) := KB.out.cell 2
  have q3 : w4.cell? ⟨w.heap.size + 1, 3, none⟩ = some (.slice Ag s.book.grants.length cg) := KB.out.cell 3
  have q4 : w4.cell? ⟨w.heap.size + 1, 4, none⟩ = some (.slice Al s.book.log.length cl) := KB.out.cell 4
  have q5 : w4.cell? ⟨w.heap.size + 1, 5, none⟩ = some (.slice Ax s.book.releases.length cx) := KB.out.cell 5
  have q6 : w4.cell? ⟨w.heap.size + 1, 6, none⟩ = some (.int .i64 s.book.step) := KB.out.cell 6
  go_wp2_with fail
  refine (list_evt _ _ _ _ B _ OO.out (by omega) (TT.out.newer hB (by simp [Value.ownBlock])) ((HB.out.book.evts).below (TT.out.old hB (by simp [Value.ownBlock]))) hs.evts (by (try simp); omega)).mono ?_
  rintro e w5 ⟨v5, rfl, o5, t5⟩
  clear q0 q1 q2 q3 q4 q5 q6
  have KA5 := Lib.hid (KA.out.outTo t5 hA)
  have KB5 := Lib.hid (KB.out.outTo t5 hB2)
  have hA := t5.ne KA.out.lt hA
  have hB2 := t5.ne KB.out.lt hB2
  have TT5 := Lib.hid (TT.out.trans t5)
  have OO := Lib.hid o5
  clear KA KB TT
  have KA := KA5
  have KB := KB5
  have TT := TT5
  have hz := TT.out.chg.size
  clear o5 t5 KA5 KB5 TT5
  have q0 : w5.cell? ⟨w.heap.size + 1, 0, none⟩ = some (.int .i64 s.book.users) := KB.out.cell 0
  have q1 : w5.cell? ⟨w.heap.size + 1, 1, none⟩ = some (.slice Ae s.book.entries.length ce) := KB.out.cell 1
  have q2 : w5.cell? ⟨w.heap.size + 1, 2, none⟩ = some (.slice Ar s.book.rules.length cr) := KB.out.cell 2
  have q3 : w5.cell? ⟨w.heap.size + 1, 3, none⟩ = some (.slice Ag s.book.grants.length cg) := KB.out.cell 3
  have q4 : w5.cell? ⟨w.heap.size + 1, 4, none⟩ = some (.slice Al s.book.log.length cl) := KB.out.cell 4
  have q5 : w5.cell? ⟨w.heap.size + 1, 5, none⟩ = some (.slice Ax s.book.releases.length cx) := KB.out.cell 5
  have q6 : w5.cell? ⟨w.heap.size + 1, 6, none⟩ = some (.int .i64 s.book.step) := KB.out.cell 6
  go_wp2_with fail
  refine (list_rls _ _ _ _ B _ OO.out (by omega) (TT.out.newer hB (by simp [Value.ownBlock])) ((HB.out.book.rlss).below (TT.out.old hB (by simp [Value.ownBlock]))) hs.rlss (by (try simp); omega)).mono ?_
  rintro e w6 ⟨v6, rfl, o6, t6⟩
  clear q0 q1 q2 q3 q4 q5 q6
  have KA6 := Lib.hid (KA.out.outTo t6 hA)
  have KB6 := Lib.hid (KB.out.outTo t6 hB2)
  have hA := t6.ne KA.out.lt hA
  have hB2 := t6.ne KB.out.lt hB2
  have TT6 := Lib.hid (TT.out.trans t6)
  have OO := Lib.hid o6
  clear KA KB TT
  have KA := KA6
  have KB := KB6
  have TT := TT6
  have hz := TT.out.chg.size
  clear o6 t6 KA6 KB6 TT6
  have q0 : w6.cell? ⟨w.heap.size + 1, 0, none⟩ = some (.int .i64 s.book.users) := KB.out.cell 0
  have q1 : w6.cell? ⟨w.heap.size + 1, 1, none⟩ = some (.slice Ae s.book.entries.length ce) := KB.out.cell 1
  have q2 : w6.cell? ⟨w.heap.size + 1, 2, none⟩ = some (.slice Ar s.book.rules.length cr) := KB.out.cell 2
  have q3 : w6.cell? ⟨w.heap.size + 1, 3, none⟩ = some (.slice Ag s.book.grants.length cg) := KB.out.cell 3
  have q4 : w6.cell? ⟨w.heap.size + 1, 4, none⟩ = some (.slice Al s.book.log.length cl) := KB.out.cell 4
  have q5 : w6.cell? ⟨w.heap.size + 1, 5, none⟩ = some (.slice Ax s.book.releases.length cx) := KB.out.cell 5
  have q6 : w6.cell? ⟨w.heap.size + 1, 6, none⟩ = some (.int .i64 s.book.step) := KB.out.cell 6
  clear q0 q1 q2 q3 q4 q5
  go_wp2_with fail
  have q7 : w6.cell? ⟨w.heap.size, 7, none⟩ = some (.slice Ao s.ops.length co) := KA.out.cell 7
  have oo := OO.out.drew
  have kA := KA.out.drew
  have kB := KB.out.drew
  have tt := TT.out.drew
  clear OO KA KB TT
  go_region_held3 (fun W : World => W.cell? ⟨w.heap.size + 1, 6, none⟩ = some (.int .i64 s.book.step) ∧ W.cell? ⟨w.heap.size, 7, none⟩ = some (.slice Ao s.ops.length co))
    (first
     | exact ⟨kB.cell 6, kA.cell 7⟩)
    (first
     | (go_at_call 84; refine (num_int _ _ _ _ oo (by (try simp); omega)).mono ?_; rintro e w7 ⟨v7, rfl, oo, t7⟩; have hA' := t7.ne kA.lt hA; have hB' := t7.ne kB.lt hB2; have kA := kA.outTo t7 hA; have kB := kB.outTo t7 hB2; have tt := tt.trans t7; clear t7)
     | (go_at_call 102; refine (list_opr _ _ _ _ B _ oo (by have := tt.chg.size; omega) (tt.newer hB (by simp [Value.ownBlock])) (HB.out.ops.below (tt.old hB (by simp [Value.ownBlock]))) hs.oprs (by (try simp); omega)).mono ?_; rintro e w8 ⟨v8, rfl, oo, t8⟩; have kA := kA.outTo t8 hA'; have kB := kB.outTo t8 hB'; have tt := tt.trans t8; clear t8))
  go_wp2
  go_ret
  exact ⟨_, rfl, by simpa [scpB] using oo, tt⟩
/-- What the call owns, as a string. -/
theorem out_str {w : World} {v : Value} {l : Bytes} (h : Out w v l) (hp : 0 < l.length) : ∃ g cap, v = .slice (some ⟨g, 0, none⟩) l.length cap ∧ (convert 59 9 (.slice (some ⟨g, 0, none⟩) l.length cap)).run Tryz.prog w = .ok (str l) w := by
  obtain ⟨g, cap, rfl, _, hlt⟩ := World.ownsRow.form h hp
  refine ⟨g, cap, rfl, run_convert_bytes_back (P := Tryz.prog) w 59 9 5 ⟨g, 0, none⟩ cap l Tryz.underlying59 Tryz.underlying5 Tryz.underlying9 (fun j hj => ?_)⟩
  exact World.ownsRow.cells h (g := g) rfl j _ (by simp [u8s, List.getElem?_eq_getElem hj])
theorem script_check (s : Scp) (e r g l x o : Value) (E : Int) (B : Nat) (w : World) (_hB : B ≤ w.heap.size) (hb : RdScp w B s e r g l x o)
    (hc : ∀ W, Below w.heap.size w W → Calls Tryz.prog 31 #[vBok s.book e r g l x] W fun u w' => u = .returned (.int .i64 E) ∧ Below W.heap.size W w') :
    Calls Tryz.prog 14 #[vScp s e r g l x o] w fun u w' => u = .returned (.int .i64 (if E ≠ 0 then E else if 4096 < s.ops.length then 5 else 0)) ∧ Below w.heap.size w w' := by
  obtain ⟨Ae, ce, rfl, _⟩ := id hb.book.ents
  obtain ⟨Ar, cr, rfl, _⟩ := id hb.book.ruls
  obtain ⟨Ag, cg, rfl, _⟩ := id hb.book.grts
  obtain ⟨Al, cl, rfl, _⟩ := id hb.book.evts
  obtain ⟨Ax, cx, rfl, _⟩ := id hb.book.rlss
  obtain ⟨Ao, co, rfl, _⟩ := id hb.ops
  have HC := Lib.hid hc
  clear hb hc
  by_cases hE : E = 0
  · subst hE
    by_cases ho : 4096 < s.ops.length
    · skip
      go_enter Tryz.func14, Tryz.ntmps14
      go_wp2_with fail
      refine (HC.out _ (by go_grown)).mono ?_
      rintro e w1 ⟨rfl, hb1⟩
      have g7 : w1.cell? ⟨w.heap.size, 7, none⟩ = some (.slice Ao s.ops.length co) := (hb1.cell (p := ⟨w.heap.size, 7, none⟩) (by simp)).trans (by go_simp)
      have HB1 := Lib.hid (show Below w.heap.size w w1 from Below.next (by go_grown) hb1 (by simp))
      clear hb1
      go_wp2
      go_ret
      exact ⟨by simp [], HB1.out⟩
    · skip
      go_enter Tryz.func14, Tryz.ntmps14
      go_wp2_with fail
      refine (HC.out _ (by go_grown)).mono ?_
      rintro e w1 ⟨rfl, hb1⟩
      have g7 : w1.cell? ⟨w.heap.size, 7, none⟩ = some (.slice Ao s.ops.length co) := (hb1.cell (p := ⟨w.heap.size, 7, none⟩) (by simp)).trans (by go_simp)
      have HB1 := Lib.hid (show Below w.heap.size w w1 from Below.next (by go_grown) hb1 (by simp))
      clear hb1
      go_wp2
      go_ret
      exact ⟨by simp [], HB1.out⟩
  · have e0 : (E == 0) = false := by simpa using hE
    have e1 : (E != 0) = true := by simpa using hE
    go_enter Tryz.func14, Tryz.ntmps14
    go_wp2_with fail
    refine (HC.out _ (by go_grown)).mono ?_
    rintro e w1 ⟨rfl, hb1⟩
    have HB1 := Lib.hid (show Below w.heap.size w w1 from Below.next (by go_grown) hb1 (by simp))
    clear hb1
    go_wp2
    go_ret
    exact ⟨by simp [], HB1.out⟩
theorem encode_ok (s : Scp) (e r g l x o : Value) (B : Nat) (w : World) (hB : B ≤ w.heap.size) (hb : RdScp w B s e r g l x o) (hs : WritesS s) (hl : (scpB s).length ≤ 65536)
    (hc : ∀ W, Below w.heap.size w W → Calls Tryz.prog 14 #[vScp s e r g l x o] W fun u w' => u = .returned (.int .i64 0) ∧ Below W.heap.size W w') :
    Calls Tryz.prog 12 #[vScp s e r g l x o] w fun u w' => u = .returned (.tuple #[str (scpB s), .int .i64 0]) ∧ Below w.heap.size w w' := by
  obtain ⟨Ae, ce, rfl, _⟩ := id hb.book.ents
  obtain ⟨Ar, cr, rfl, _⟩ := id hb.book.ruls
  obtain ⟨Ag, cg, rfl, _⟩ := id hb.book.grts
  obtain ⟨Al, cl, rfl, _⟩ := id hb.book.evts
  obtain ⟨Ax, cx, rfl, _⟩ := id hb.book.rlss
  obtain ⟨Ao, co, rfl, _⟩ := id hb.ops
  have HC := Lib.hid hc
  have HB := Lib.hid hb
  clear hb hc
  go_enter Tryz.func12, Tryz.ntmps12
  go_wp2_with fail
  refine (HC.out _ (by go_grown)).mono ?_
  rintro e w1 ⟨rfl, hb1⟩
  have KB := Lib.hid ((Blk.new w 31 #[.int .i64 s.book.users, .slice Ae s.book.entries.length ce, .slice Ar s.book.rules.length cr, .slice Ag s.book.grants.length cg, .slice Al s.book.log.length cl, .slice Ax s.book.releases.length cx, .int .i64 s.book.step, .slice Ao s.ops.length co]).below_ hb1)
  have HB1 := Lib.hid (show Below w.heap.size w w1 from Below.next (by go_grown) hb1 (by simp))
  have g0 := KB.out.cell 0
  have g1 := KB.out.cell 1
  have g2 := KB.out.cell 2
  have g3 := KB.out.cell 3
  have g4 := KB.out.cell 4
  have g5 := KB.out.cell 5
  have g6 := KB.out.cell 6
  have g7 := KB.out.cell 7
  clear hb1
  go_wp2_with fail
  refine (written_any s _ _ _ _ _ _ B _ (by have := HB1.out.size; omega) (HB.out.below (HB1.out.mono hB)) hs (by omega)).mono ?_
  rintro e w2 ⟨v, rfl, ho, ht⟩
  have HB2 := Lib.hid (Below.trans HB1.out ((ht.old (Nat.le_refl _) (by simp [Value.ownBlock])).mono HB1.out.size))
  have hpos : 0 < (scpB s).length := by simp [scpB, numI, numB]
  obtain ⟨gb, cap, rfl, hcv⟩ := out_str ho hpos
  clear ho ht g0 g1 g2 g3 g4 g5 g6 g7 KB hpos
  generalize hq : scpB s = q at *
  have HQ := Lib.hid hq
  clear hq
  go_wp2
  go_ret2
  exact ⟨by rw [HQ.out]; rfl, HB2.out⟩
end Go.Proofs.YtamcgggmfghljaaGreatDoor
