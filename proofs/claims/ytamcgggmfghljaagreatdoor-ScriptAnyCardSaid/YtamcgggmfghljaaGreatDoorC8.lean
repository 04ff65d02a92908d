/- Layer 41 (program): put (printed by tools/gen_put.py). · Layer 41 (program): Read (printed by tools/gen_read.py). -/
import Derived.Deep.QuietTactic
import Derived.BigQuiet
import Derived.Test.YtamcgggmfghljaaGreatDoorC6
import Derived.Test.YtamcgggmfghljaaGreatDoorC7
set_option maxRecDepth 100000
set_option maxHeartbeats 8000000
namespace Go.Proofs.YtamcgggmfghljaaGreatDoor
open Go.RowKit
theorem putI_le (l : List Ent) (a : Ref) : putI l a ≤ l.length := List.findIdx_le_length
theorem delB_same_at {l : List Ent} {a : Ref} {y : Ent} (h : l[putI l a]? = some y) (he : y.at_ = a) : delB l a = l.eraseIdx (putI l a) := by unfold delB; rw [h]; simp [he]
theorem delB_other {l : List Ent} {a : Ref} {y : Ent} (h : l[putI l a]? = some y) (he : y.at_ ≠ a) : delB l a = l := by unfold delB; rw [h]; simp [he]
theorem delB_end {l : List Ent} {a : Ref} (h : ¬ putI l a < l.length) : delB l a = l := by unfold delB; rw [List.getElem?_eq_none (by omega)]
theorem put_any (v : Value) (l : List Ent) (x : Ent) (w : World) (hown : Own cEnt 58 3 w v l) (hl : l.length ≤ 900) :
    Calls Tryz.prog 39 #[v, .agg #[.int .i64 x.at_.col, .int .i64 x.at_.row, str x.input]] w fun e w' => ∃ v', e = .returned v' ∧ Own cEnt 58 3 w' v' (putB l x) ∧ OutTo w v w' v' := by
  have hsls := hown.sls (by unfold maxLen; omega)
  obtain ⟨A, cap, rfl, hcap, -⟩ := id hsls
  have hvb : ∀ q, (Value.slice A l.length cap).ownBlock = some q → q < w.heap.size := hown.lt
  have HO := Lib.hid hown
  have HS := Lib.hid hsls
  have HV := Lib.hid hvb
  have hk0 : Blk (w.alloc (.cells #[.int .i64 x.at_.col, .int .i64 x.at_.row, str x.input] 58)) w.heap.size 58 #[.int .i64 x.at_.col, .int .i64 x.at_.row, str x.input] := Blk.new _ _ _
  have HK0 := Lib.hid hk0
  have hT : Tests (.func (.func 125) #[] #[.pointer (some ⟨w.heap.size, 0, none⟩)]) (fun y => !lessB y.at_ x.at_) (w.alloc (.cells #[.int .i64 x.at_.col, .int .i64 x.at_.row, str x.input] 58)) :=
    ⟨_, _, rfl, fun args w => by simp [go_sem], fun y W hb => put_test _ _ y w.heap.size W ((hk0.below_ hb).cell 0) ((hk0.below_ hb).cell 1) (hk0.below_ hb).lt⟩
  have HT := Lib.hid hT
  clear hown hsls hvb hk0 hT
  go_enter Tryz.func39, Tryz.ntmps39
  go_wp2_with fail
  refine (indexfunc_any l A cap _ (fun y => !lessB y.at_ x.at_) w.heap.size _ (by simp) (HS.out.below (by go_grown)) HT.out (by omega)).mono ?_
  rintro e w2 ⟨rfl, hb2⟩
  have K2 := Lib.hid (HK0.out.below_ hb2)
  have hz2 := hb2.size
  simp at hz2
  have B2 := Lib.hid (show Below w.heap.size w w2 from Below.next (by go_grown) hb2 (by simp))
  clear hb2
  have O2 := Lib.hid (HO.out.below B2.out)
  have hd2 : OutTo w (.slice A l.length cap) w2 (.slice A l.length cap) := (OutTo.refl w _).below B2.out
  have D2 := Lib.hid hd2
  clear hd2
  have b0 : w2.cell? ⟨w.heap.size, 0, none⟩ = some (.int .i64 x.at_.col) := K2.out.cell 0
  have b1 : w2.cell? ⟨w.heap.size, 1, none⟩ = some (.int .i64 x.at_.row) := K2.out.cell 1
  have b2 : w2.cell? ⟨w.heap.size, 2, none⟩ = some (str x.input) := K2.out.cell 2
  have hpi := putI_le l x.at_
  have HI0 := Lib.hid hpi
  by_cases hlt : putI l x.at_ < l.length
  · rw [show idxI (fun y => !lessB y.at_ x.at_) l = (putI l x.at_ : Int) from if_pos hlt]
    have hx : l[putI l x.at_]? = some (l[putI l x.at_]) := List.getElem?_eq_getElem hlt
    obtain ⟨b, o, rfl, hbb, r⟩ := (HS.out.below B2.out).get 3 cEnt_len hx
    generalize l[putI l x.at_] = y at *
    have HX := Lib.hid hx
    have r0 : w2.cell? ⟨b, o + putI l x.at_ * 3, none⟩ = some (.int .i64 y.at_.col) := r 0 _ rfl
    have r1 : w2.cell? ⟨b, o + putI l x.at_ * 3 + 1, none⟩ = some (.int .i64 y.at_.row) := r 1 _ rfl
    clear hx r
    have hi0 : (0 : Int) ≤ (putI l x.at_ : Int) := Int.natCast_nonneg _
    have hi1 : (putI l x.at_ : Int) < (l.length : Int) := by omega
    by_cases hs : y.at_ = x.at_
    · have HQ : ∀ W, (binOp .eql 56 (.agg #[.int .i64 y.at_.col, .int .i64 y.at_.row]) (.agg #[.int .i64 x.at_.col, .int .i64 x.at_.row])).run Tryz.prog W = .ok (.bool true) W := fun W => (eql_ref y.at_ x.at_ W).trans (by rw [decide_eq_true hs])
      have HD := Lib.hid (delB_same_at HX.out hs)
      have HI := Lib.hid (show putI l x.at_ ≤ (l.eraseIdx (putI l x.at_)).length by rw [List.length_eraseIdx, if_pos hlt]; omega)
      have HLL := Lib.hid (show (l.eraseIdx (putI l x.at_)).length ≤ 1000 by rw [List.length_eraseIdx, if_pos hlt]; omega)
      clear hs
      go_wp2_with fail
      go_quiet (fail)
      go_wp2_with fail
      refine (delete_any _ l (putI l x.at_) _ (O2.out.drewN nq) hlt (by omega)).mono ?_
      rintro e w3 ⟨v3, rfl, o3, t3⟩
      have hne : (Value.slice (some ⟨b, o, none⟩) l.length cap).ownBlock ≠ some w.heap.size := fun e => by have := HV.out _ e; omega
      have K3 := Lib.hid ((K2.out.drewN nq).outTo t3 hne)
      have O3 := Lib.hid o3
      have D3 := Lib.hid ((D2.out.drewN nq).trans t3)
      clear o3 t3 b0 b1 b2 r0 r1 hne
      have b2 : w3.cell? ⟨w.heap.size, 2, none⟩ = some (str x.input) := K3.out.cell 2
      have b0 : w3.cell? ⟨w.heap.size, 0, none⟩ = some (.int .i64 x.at_.col) := K3.out.cell 0
      have b1 : w3.cell? ⟨w.heap.size, 1, none⟩ = some (.int .i64 x.at_.row) := K3.out.cell 1
      by_cases he : x.input = []
      · have e0 : (x.input == ([] : List UInt8)) = true := by simpa using he
        have HR := Lib.hid (show putB l x = l.eraseIdx (putI l x.at_) by unfold putB; rw [if_pos he]; exact HD.out)
        clear he
        go_wp2_with fail
        go_ret
        exact ⟨_, rfl, by rw [HR.out]; exact O3.out, D3.out⟩
      · have e0 : (x.input == ([] : List UInt8)) = false := by simpa using he
        have HR := Lib.hid (show putB l x = (l.eraseIdx (putI l x.at_)).insertIdx (putI l x.at_) x by unfold putB; rw [if_neg he, HD.out])
        clear he
        go_wp2_with fail
        refine (insert_any _ (l.eraseIdx (putI l x.at_)) x (putI l x.at_) _ _ (O3.out.alloc _) (Blk.new _ _ _) (fun e => by have := O3.out.lt _ e; omega) HI.out HLL.out).mono ?_
        rintro e w9 ⟨v9, rfl, o9, t9⟩
        go_wp2_with fail
        go_ret
        exact ⟨_, rfl, by rw [HR.out]; exact o9, (D3.out.alloc _).trans t9⟩
    · have HQ : ∀ W, (binOp .eql 56 (.agg #[.int .i64 y.at_.col, .int .i64 y.at_.row]) (.agg #[.int .i64 x.at_.col, .int .i64 x.at_.row])).run Tryz.prog W = .ok (.bool false) W := fun W => (eql_ref y.at_ x.at_ W).trans (by rw [decide_eq_false hs])
      have HD := Lib.hid (delB_other HX.out hs)
      have HI := HI0
      have HLL := Lib.hid (show l.length ≤ 1000 by omega)
      clear hs
      go_wp2_with fail
      go_quiet (fail)
      have O3 := Lib.hid (O2.out.drewN nq)
      have D3 := Lib.hid (D2.out.drewN nq)
      by_cases he : x.input = []
      · have e0 : (x.input == ([] : List UInt8)) = true := by simpa using he
        have HR := Lib.hid (show putB l x = l by unfold putB; rw [if_pos he]; exact HD.out)
        clear he
        go_wp2_with fail
        go_ret
        exact ⟨_, rfl, by rw [HR.out]; exact O3.out, D3.out⟩
      · have e0 : (x.input == ([] : List UInt8)) = false := by simpa using he
        have HR := Lib.hid (show putB l x = (l).insertIdx (putI l x.at_) x by unfold putB; rw [if_neg he, HD.out])
        clear he
        go_wp2_with fail
        refine (insert_any _ (l) x (putI l x.at_) _ _ (O3.out.alloc _) (Blk.new _ _ _) (fun e => by have := O3.out.lt _ e; omega) HI.out HLL.out).mono ?_
        rintro e w9 ⟨v9, rfl, o9, t9⟩
        go_wp2_with fail
        go_ret
        exact ⟨_, rfl, by rw [HR.out]; exact o9, (D3.out.alloc _).trans t9⟩
  · rw [show idxI (fun y => !lessB y.at_ x.at_) l = -1 from if_neg hlt]
    have hpl : putI l x.at_ = l.length := by omega
    have HP := Lib.hid hpl
    have HD := Lib.hid (delB_end hlt)
    have HI := HI0
    have HLL := Lib.hid (show l.length ≤ 1000 by omega)
    clear hpl hlt hpi
    go_wp2_with fail
    go_quiet (fail)
    have O3 := Lib.hid (O2.out.drewN nq)
    have D3 := Lib.hid (D2.out.drewN nq)
    by_cases he : x.input = []
    · have e0 : (x.input == ([] : List UInt8)) = true := by simpa using he
      have HR := Lib.hid (show putB l x = l by unfold putB; rw [if_pos he]; exact HD.out)
      clear he
      go_wp2_with fail
      go_ret
      exact ⟨_, rfl, by rw [HR.out]; exact O3.out, D3.out⟩
    · have e0 : (x.input == ([] : List UInt8)) = false := by simpa using he
      have HR := Lib.hid (show putB l x = (l).insertIdx (putI l x.at_) x by unfold putB; rw [if_neg he, HD.out])
      clear he
      go_wp2_with fail
      refine (insert_any _ l x l.length _ _ (O3.out.alloc _) (Blk.new _ _ _) (fun e => by have := O3.out.lt _ e; omega) (Nat.le_refl _) HLL.out).mono ?_
      rintro e w9 ⟨v9, rfl, o9, t9⟩
      go_wp2_with fail
      go_ret
      exact ⟨_, rfl, by rw [HR.out, HP.out]; exact o9, (D3.out.alloc _).trans t9⟩
section
variable {w0 W W' : World} {s : Bytes} {u : Int} {e r g o : Value} {le : List Ent} {lr : List Rul} {lg : List Grt} {lo : List Opr}
theorem PS.putU (h : PS w0 W s u e r g o le lr lg lo) (v : Int) : PS w0 (W.setCell ⟨w0.heap.size + 1 + 1, 0, none⟩ (.int .i64 v)) s v e r g o le lr lg lo :=
  ⟨h.rs.far (by simp; omega) _, h.tk.far (by simp) _, h.bx.set_ 0 _, h.ls.set (h.ls.away (by show w0.heap.size + 1 + 1 < _; omega)) _, h.bw.setCell (by show _ ≤ w0.heap.size + 1 + 1; omega) _⟩
theorem PS.start (w : World) (s : Bytes) : PS w (((w.alloc (.cells #[.int .i64 0, .slice none 0 0, .slice none 0 0, .slice none 0 0, .slice none 0 0, .slice none 0 0, .int .i64 0, .slice none 0 0] 31)).alloc (.cells #[str s] 74)).alloc (.cells #[.int .i64 0, .slice none 0 0, .slice none 0 0, .slice none 0 0, .slice none 0 0, .slice none 0 0, .int .i64 0, .slice none 0 0] 31)) s 0 (.slice none 0 0) (.slice none 0 0) (.slice none 0 0) (.slice none 0 0) [] [] [] [] where
  rs := ((Blk.new w _ _).alloc _).alloc _
  tk := by
    have := (Blk.new (w.alloc (.cells #[.int .i64 0, .slice none 0 0, .slice none 0 0, .slice none 0 0, .slice none 0 0, .slice none 0 0, .int .i64 0, .slice none 0 0] 31)) 74 #[str s]).alloc (.cells #[.int .i64 0, .slice none 0 0, .slice none 0 0, .slice none 0 0, .slice none 0 0, .slice none 0 0, .int .i64 0, .slice none 0 0] 31)
    simpa using this
  bx := by
    have := Blk.new ((w.alloc (.cells #[.int .i64 0, .slice none 0 0, .slice none 0 0, .slice none 0 0, .slice none 0 0, .slice none 0 0, .int .i64 0, .slice none 0 0] 31)).alloc (.cells #[str s] 74)) 31 #[.int .i64 0, .slice none 0 0, .slice none 0 0, .slice none 0 0, .slice none 0 0, .slice none 0 0, .int .i64 0, .slice none 0 0]
    simpa using this
  ls := ⟨Own.nil _ _ _ _, Own.nil _ _ _ _, Own.nil _ _ _ _, Own.nil _ _ _ _, by simp [Value.ownBlock], by simp [Value.ownBlock], by simp [Value.ownBlock], by simp [Value.ownBlock], by simp [Value.ownBlock], by simp [Value.ownBlock], by simp [Value.ownBlock], by simp [Value.ownBlock], by simp [Value.ownBlock], by simp [Value.ownBlock]⟩
  bw := by go_grown
end
theorem info_rul : ∃ i, Tryz.prog.info? 79 = some i ∧ i.zero = some (.agg #[.int .i64 0, .int .i64 0, .int .i64 0, .int .i64 0, .int .u64 0, .int .u64 0, .int .u64 0]) ∧ i.size = 7 ∧ i.bytes = 56 :=
  info_parts (show (Tryz.prog.info? 79).map (fun i => (i.zero, i.size, i.bytes)) = some (some (.agg #[.int .i64 0, .int .i64 0, .int .i64 0, .int .i64 0, .int .u64 0, .int .u64 0, .int .u64 0]), 7, 56) by kernel_rfl)
theorem info_grt : ∃ i, Tryz.prog.info? 85 = some i ∧ i.zero = some (.agg #[.int .i64 0, .int .i64 0, .int .i64 0, .int .i64 0, .int .u8 0, .int .u64 0, .int .i64 0, .bool false]) ∧ i.size = 8 ∧ i.bytes = 64 :=
  info_parts (show (Tryz.prog.info? 85).map (fun i => (i.zero, i.size, i.bytes)) = some (some (.agg #[.int .i64 0, .int .i64 0, .int .i64 0, .int .i64 0, .int .u8 0, .int .u64 0, .int .i64 0, .bool false]), 8, 64) by kernel_rfl)
theorem info_opr : ∃ i, Tryz.prog.info? 48 = some i ∧ i.zero = some (.agg #[.int .u8 0, .int .i64 0, .int .i64 0, .int .i64 0, .int .i64 0, .int .i64 0, .string ⟨#[]⟩, .int .u64 0, .int .u64 0, .int .u64 0, .int .u8 0, .int .u64 0, .int .i64 0]) ∧ i.size = 13 ∧ i.bytes = 112 :=
  info_parts (show (Tryz.prog.info? 48).map (fun i => (i.zero, i.size, i.bytes)) = some (some (.agg #[.int .u8 0, .int .i64 0, .int .i64 0, .int .i64 0, .int .i64 0, .int .i64 0, .string ⟨#[]⟩, .int .u64 0, .int .u64 0, .int .u64 0, .int .u8 0, .int .u64 0, .int .i64 0]), 13, 112) by kernel_rfl)
theorem own_one {α : Type} {c : α → List Value} {t : TypeId} {k : Nat} (hk : ∀ x, (c x).length = k) (w : World) (x : α) : Own c t k (w.alloc (.cells (c x).toArray t)) (.slice (some ⟨w.heap.size, 0, none⟩) 1 1) [x] :=
  Own.of_row (l := [x]) hk (Blk.new w t (c x).toArray) (by simp) (by simp [maxLen]) (by simp [hk]) (by simp [List.take_of_length_le, hk])
theorem putB_len (l : List Ent) (x : Ent) : (putB l x).length ≤ l.length + 1 := by
  have h : (delB l x.at_).length ≤ l.length := by
    unfold delB
    split
    · split
      · exact List.length_eraseIdx_le _ _
      · exact Nat.le_refl _
    · exact Nat.le_refl _
  unfold putB
  split
  · omega
  · have : ((delB l x.at_).insertIdx (putI l x.at_) x).length ≤ (delB l x.at_).length + 1 := List.length_insertIdx_le_succ
    omega
theorem entsS_len (s : Bytes) : ∀ k, (entsS putB s k).1.length ≤ k
  | 0 => Nat.le_refl _
  | k + 1 => by
    have := entsS_len s k
    simp only [entsS]
    have := putB_len (entsS putB s k).1 ⟨(spot (entsS putB s k).2).1, (content (spot (entsS putB s k).2).2).1⟩
    omega
theorem grtsS_len (u : Nat) (s : Bytes) : ∀ k, (grtsS u s k).1.length = k
  | 0 => rfl
  | k + 1 => by simp only [grtsS, List.length_append, grtsS_len u s k]; rfl
theorem spot_le (s : Bytes) : (spot s).2.length ≤ s.length := Nat.le_trans (take_le 4 _) (take_le 3 s)
theorem field_le (s : Bytes) : (field s).2.length ≤ s.length := Nat.le_trans (take_le 3 _) (Nat.le_trans (take_le 2 _) (spot_le s))
theorem crowd_le (u : Nat) (s : Bytes) : (crowd u s).2.length ≤ s.length := take_le _ s
theorem crowds_le (u : Nat) (s : Bytes) : (crowds u s).2.length ≤ s.length := Nat.le_trans (crowd_le u _) (Nat.le_trans (crowd_le u _) (crowd_le u s))
theorem content_le (s : Bytes) : (content s).2.length ≤ s.length := by
  have h := take_le 12 s
  have h1 := take_le 10 (take 12 s).2
  have h2 := spot_le (take 12 s).2
  have h3 := spot_le (spot (take 12 s).2).2
  have h4 := field_le (take 12 s).2
  unfold content
  simp only
  by_cases c0 : (take 12 s).1 = 0
  · rw [if_pos c0]
    exact h
  rw [if_neg c0]
  by_cases c1 : (take 12 s).1 = 1
  · rw [if_pos c1]
    exact Nat.le_trans h1 h
  rw [if_neg c1]
  by_cases c2 : (take 12 s).1 = 2
  · rw [if_pos c2]
    exact h
  rw [if_neg c2]
  by_cases c3 : (take 12 s).1 = 3
  · rw [if_pos c3]
    exact h
  rw [if_neg c3]
  by_cases c4 : (take 12 s).1 = 4
  · rw [if_pos c4]
    exact h
  rw [if_neg c4]
  by_cases c5 : (take 12 s).1 = 5
  · rw [if_pos c5]
    exact Nat.le_trans h2 h
  rw [if_neg c5]
  by_cases c6 : (take 12 s).1 = 6
  · rw [if_pos c6]
    exact Nat.le_trans (Nat.le_trans h3 h2) h
  rw [if_neg c6]
  by_cases c7 : (take 12 s).1 = 7
  · rw [if_pos c7]
    exact Nat.le_trans h4 h
  rw [if_neg c7]
  by_cases c8 : (take 12 s).1 = 8
  · rw [if_pos c8]
    exact Nat.le_trans h4 h
  rw [if_neg c8]
  by_cases c9 : (take 12 s).1 = 9
  · rw [if_pos c9]
    exact Nat.le_trans h4 h
  rw [if_neg c9]
  by_cases c10 : (take 12 s).1 = 10
  · rw [if_pos c10]
    exact Nat.le_trans h2 h
  rw [if_neg c10]
  exact Nat.le_trans h2 h
theorem oper_lt (u : Nat) (s : Bytes) (hs : s ≠ []) : (oper u s).2.length < s.length := by
  have h := take_lt 10 s hs
  have h1 := take_le u (take 10 s).2
  unfold oper
  simp only
  generalize (take u (take 10 s).2).2 = a at *
  have k3 := spot_le a
  have k4 := field_le a
  have e : ∀ r : Rct × Bytes, r.2.length ≤ a.length → r.2.length ≤ a.length ∧ (content r.2).2.length ≤ a.length ∧ (crowds u r.2).2.length ≤ a.length ∧ (crowd u (take 31 r.2).2).2.length ≤ a.length ∧ (take 4 r.2).2.length ≤ a.length := fun r hr => by
    have := content_le r.2
    have := crowds_le u r.2
    have := take_le 31 r.2
    have := crowd_le u (take 31 r.2).2
    have := take_le 4 r.2
    omega
  have fin : ∀ (r : Rct × Bytes), r.2.length ≤ a.length → ∀ (A B C D F : Opr) (p q x y : Prop) [Decidable p] [Decidable q] [Decidable x] [Decidable y], (if p then (A, (content r.2).2) else if q then (B, (crowds u r.2).2) else if x then (C, (crowd u (take 31 r.2).2).2) else if y then (D, (take 4 r.2).2) else (F, r.2)).2.length ≤ a.length := by
    intro r hr A B C D F p q x y _ _ _ _
    obtain ⟨h0, h1, h2, h3, h4⟩ := e r hr
    repeat' split
    all_goals assumption
  refine Nat.lt_of_le_of_lt (fin _ ?_ _ _ _ _ _ _ _ _ _) (by omega)
  repeat' split
  · exact k3
  · exact k4
  · exact Nat.le_refl _
def opsAll (u : Nat) (s : Bytes) : List Opr := opsR u 4096 s
def opsRest (u n : Nat) (s : Bytes) : List Opr := opsR u (4096 - n) s
theorem opsRest_zero (u : Nat) (s : Bytes) : opsRest u 0 s = opsAll u s := by unfold opsRest opsAll; rw [Nat.sub_zero]
theorem opsRest_step (u : Nat) {n : Nat} {s : Bytes} (h : n < 4096) (hs : s ≠ []) : opsRest u n s = (oper u s).1 :: opsRest u (n + 1) (oper u s).2 := by
  unfold opsRest
  obtain ⟨m, hm⟩ : ∃ m, 4096 - n = m + 1 := ⟨4096 - (n + 1), by omega⟩
  have hm2 : 4096 - (n + 1) = m := by omega
  rw [hm, hm2, opsR, if_neg hs]
theorem opsRest_nil (u : Nat) {n : Nat} (h : n < 4096) : opsRest u n [] = [] := by
  unfold opsRest
  obtain ⟨m, hm⟩ : ∃ m, 4096 - n = m + 1 := ⟨4096 - (n + 1), by omega⟩
  rw [hm, opsR, if_pos rfl]
theorem opsRest_full (u : Nat) {n : Nat} {s : Bytes} (h : 4096 ≤ n) : opsRest u n s = [] := by
  unfold opsRest
  rw [show 4096 - n = 0 by omega, opsR]
def sizeAt (g : Nat) (W : World) : Nat := match W.cell? ⟨g, 0, none⟩ with
  | some (.string b) => b.size
  | _ => 0
theorem sizeAt_eq {g : Nat} {W : World} {t : TypeId} {s : Bytes} (h : Blk W g t #[str s]) : sizeAt g W = s.length := by
  have hc : W.cell? ⟨g, 0, none⟩ = some (str s) := h.cell 0
  unfold sizeAt
  rw [hc]
  exact str_size s
theorem rulesS_len (u : Nat) (r : Rul) (s : Bytes) : ∀ k, (rulesS u r s k).1.length = k + 1
  | 0 => rfl
  | k + 1 => by simp only [rulesS, List.length_append, rulesS_len u r s k]; rfl
end Go.Proofs.YtamcgggmfghljaaGreatDoor
