/- Our own machine's append. -/
import Derived.Test.YtmemadmjgcpobaaGreatDoorEvM7
import Derived.Lib.AppendZerosOnto
set_option maxRecDepth 10000
namespace Go.Proofs.YtmemadmjgcpobaaGreatDoor
namespace Ev
variable {P : Program} {r : Ren} {h : H} {w : World} {n : Nat} {t : T Value} {a : Act} {o : Oper} {v : Value}
theorem zeroCells_size (z : Array Value) (n : Nat) : (Builtin.zeroCells z n).size = n * z.size := by simp [Builtin.zeroCells]
/-- The arm that makes a new row. -/
theorem app_grow (hr : HR r h w) {ty tx oty e : TypeId} (hu : P.underlying ty = some (.slice e)) {i : TypeInfo} (hi : P.info? e = some i) {z : Value} (hz : i.zero = some z) (hzs : z.cells.size = i.size) (hb0 : 0 < i.bytes) (hb1 : i.bytes ≤ 1048576)
    {base : Option Addr} {l c m : Nat} {old old' vs vs' : List Value} {x' : Value} (hold : VRL r old old') (hrun : (Builtin.firstCells i.size l (.slice base l c)).run P w.drew = .ok old'.toArray w.drew) (holdl : old'.length = l * i.size)
    (hvs : VRL r vs vs') (hs : Src P i.size tx x' m vs' w) (hg : c < l + m) (hbound : (l + m) * i.bytes ≤ 1099511627776) :
    ∃ w', Step r h w (r.put (2 * h.k + 1) ⟨w.heap.size, 0, grownCap w (l + m) c e * i.size, i.size⟩) { (h.set (2 * h.k + 1) (.cells (old ++ vs).length .e (old ++ vs) i.size)) with k := h.k + 1 } w' ∧
      VR (r.put (2 * h.k + 1) ⟨w.heap.size, 0, grownCap w (l + m) c e * i.size, i.size⟩) (.slice (some ⟨2 * h.k + 1, 0, none⟩) (l + m) 0) (.slice (some ⟨w.heap.size, 0, none⟩) (l + m) (grownCap w (l + m) c e)) ∧
      (Builtin.append_ #[ty, tx] oty #[.slice base l c, x']).run P w = .ok (.slice (some ⟨w.heap.size, 0, none⟩) (l + m) (grownCap w (l + m) c e)) w' := by
  have hcap := grownCap_ge w (l + m) c e
  have hlm : l + m ≤ (l + m) * i.bytes := Nat.le_mul_of_pos_right _ hb0
  have hnx : Builtin.nextslicecap (l + m) c * i.bytes ≤ 281474976710656 := by
    have h1 := nextslicecap_le (l + m) c hg
    have h2 : Builtin.nextslicecap (l + m) c * i.bytes ≤ (4 * (l + m) + 4096) * i.bytes := Nat.mul_le_mul_right _ h1
    have h3 : (4 * (l + m) + 4096) * i.bytes = 4 * ((l + m) * i.bytes) + 4096 * i.bytes := by rw [Nat.add_mul, Nat.mul_assoc]
    omega
  have hap := run_append_grow_src (P := P) w ty tx oty e i z hu hi hz base l c old' hrun x' m vs' hs hg (by omega) hnx
  have hCs : ((old' ++ vs').toArray ++ Builtin.zeroCells z.cells (grownCap w (l + m) c e - (l + m))).size = grownCap w (l + m) c e * i.size := by
    rw [Array.size_append, zeroCells_size, hzs, List.size_toArray, List.length_append, holdl, hs.newsLen, ← Nat.add_mul, ← Nat.add_mul]
    congr 1; omega
  have hs0 := Step.drew hr (w.drawn + 1)
  have hs1 := new_cells (s := i.size) (e := e) (f := (0, 0)) hs0.hr true (l := old ++ vs) (C := (old' ++ vs').toArray ++ Builtin.zeroCells z.cells (grownCap w (l + m) c e - (l + m)))
    ⟨old' ++ vs', _, hold.append hvs, by rw [Array.toList_append], fun q => by cases q⟩ (by simp)
  rw [hCs] at hs1
  refine ⟨_, hs0.trans hs1, .slo (put_self _ _ _) (by omega) (by simp) hcap, ?_⟩
  rw [hap]
  rfl
theorem app0_ok (hr : HR r h w) {ty tx oty : TypeId} {s s' x x' : Value} (h1 : VR r s s') (h2 : VR r x x') {h' : H} (hv : app0 P ty tx s x h = some (v, h')) :
    ∃ r' v' w', Step r h w r' h' w' ∧ VR r' v v' ∧ (Builtin.append_ #[ty, tx] oty #[s', x']).run P w = .ok v' w' := by
  unfold app0 at hv
  simp only [inf_eq, und_eq] at hv
  split at hv
  · rename_i e d hu htx
    split at hv
    · rename_i i hi
      split at hv
      · rename_i z hz
        split at hv
        · rename_i m vs hc
          obtain ⟨hp, hv⟩ := bif_some hv
          simp only [Bool.and_eq_true, Bool.not_eq_true'] at hp
          obtain ⟨⟨⟨⟨⟨hk, hsz0⟩, hby0⟩, hby1⟩, hzs⟩, hone⟩ := hp
          have hi0 : 0 < i.size := by have := ne_of_beq hsz0; omega
          have hb0 : 0 < i.bytes := by have := ne_of_beq hby0; omega
          have hb1 := Nat.le_of_ble_eq_true hby1
          have hzs : z.cells.size = i.size := by simpa using Nat.eq_of_beq_eq_true hzs
          obtain ⟨vs', hvs, hs⟩ := cellsOf_ok hr h2 hc hone htx (by unfold okSrc at hk; split at hk <;> simp_all)
            (fun b l c q => by subst q; unfold okSrc at hk; split at hk <;> simp_all) (fun s q => by subst q; unfold okSrc at hk; split at hk <;> simp_all)
            (fun l c q => by subst q; unfold okSrc at hk; split at hk <;> simp_all)
          split at hv
          · cases h1
            cases hn : Nat.beq m 0 with
            | true =>
              have hm := Nat.eq_of_beq_eq_true hn
              subst hm
              rw [hn] at hv
              simp only [cond_true, Option.some.injEq, Prod.mk.injEq] at hv
              obtain ⟨rfl, rfl⟩ := hv
              refine ⟨r, _, w, Step.refl hr, .sl0 0 0, ?_⟩
              rcases hs.kind with ⟨e', hk'⟩ | hk' <;> simp [Builtin.append_, run_underlying hu, run_underlying hk', sizeOf, typeInfo, hi, hs.len, hs.cells]
            | false =>
              rw [hn] at hv
              simp only [cond_false] at hv
              obtain ⟨hbd, hv⟩ := bif_some hv
              simp only [Option.some.injEq, Prod.mk.injEq] at hv
              obtain ⟨rfl, rfl⟩ := hv
              have hm0 := ne_of_beq hn
              obtain ⟨w', q1, q2, q3⟩ := app_grow (oty := oty) hr hu hi hz hzs hb0 hb1 (base := none) (l := 0) (c := 0) (old := []) (old' := []) .nil (run_firstCells_none _ i.size 0 0 0) (by simp) hvs hs (by omega) (by rw [Nat.zero_add]; exact Nat.le_of_ble_eq_true hbd)
              simp only [Nat.zero_add, List.nil_append] at q1 q2 q3
              exact ⟨_, _, w', q1, q2, q3⟩
          · rename_i b k l c _
            split at hv
            · rename_i mm cs dz q hb
              cases hpar : Nat.beq (b % 2) 0 with
              | true =>
                have hev := Nat.eq_of_beq_eq_true hpar
                rw [hpar] at hv
                simp only [cond_true] at hv
                cases h1 with
                | slo _ hodd => omega
                | slz _ hodd => omega
                | slk _ hodd => omega
                | @sl _ _ _ _ E' he _ =>
                  cases hroom : Nat.ble (l + m) c with
                  | true =>
                    rw [hroom] at hv
                    simp only [cond_true] at hv
                    split at hv
                    · rename_i hh hput
                      simp only [Option.some.injEq, Prod.mk.injEq] at hv
                      obtain ⟨rfl, rfl⟩ := hv
                      obtain ⟨p1, p2, p3⟩ := putC_ok hr he hvs hput
                      refine ⟨r, _, _, p1, .sl he hev, ?_⟩
                      have := run_append_room_src (P := P) w ty tx oty e i hu hi E'.blk (E'.base + k) l c x' m vs' hs (Nat.le_of_ble_eq_true hroom) (fun j hj => by rw [Nat.add_assoc E'.base]; exact (p2 j hj).1) (fun j hj => by rw [Nat.add_assoc E'.base]; exact (p2 j hj).2)
                      rw [this, Nat.add_assoc E'.base]
                    · cases hv
                  | false =>
                    rw [hroom] at hv
                    simp only [cond_false] at hv
                    obtain ⟨hbd, hv⟩ := bif_some hv
                    simp only [Bool.and_eq_true] at hbd
                    split at hv
                    · rename_i old hold
                      simp only [Option.some.injEq, Prod.mk.injEq] at hv
                      obtain ⟨rfl, rfl⟩ := hv
                      obtain ⟨old', o1, o2, o3⟩ := ldN_ok hr hb he _ k hold (Nat.le_of_ble_eq_true hbd.1)
                      have hlt : c < l + m := by
                        rcases Nat.lt_or_ge c (l + m) with q | q
                        · exact q
                        · rw [Nat.ble_eq_true_of_le q] at hroom; cases hroom
                      obtain ⟨w', q1, q2, q3⟩ := app_grow (oty := oty) hr hu hi hz hzs hb0 hb1 (base := some ⟨E'.blk, E'.base + k, none⟩) (l := l) (c := c) o1 (run_firstCells_some _ i.size l ⟨E'.blk, E'.base + k, none⟩ l c old' o2 (fun j u hu => by rw [Addr.add_mid]; exact o3 j u hu)) o2 hvs hs hlt (Nat.le_of_ble_eq_true hbd.2)
                      exact ⟨_, _, w', q1, q2, q3⟩
                    · cases hv
              | false =>
                rw [hpar] at hv
                simp only [cond_false] at hv
                obtain ⟨hq, hv⟩ := bif_some hv
                have hq := Nat.eq_of_beq_eq_true hq
                have hodd : b % 2 = 1 := by have := ne_of_beq hpar; omega
                have hEx : ∀ E', r b = some E' → E'.base + mm ≤ E'.size ∧ E'.sz = i.size ∧ E'.blk < w.heap.size ∧ ∃ C ty f, w.heap[E'.blk]? = some (.cells C ty f) ∧ C.size = E'.size ∧ ∀ j, j < C.size → ¬ (f.1 ≤ j ∧ j < f.2) := fun E' he => by
                  obtain ⟨e', p1, hlt, C, ty', fz, p2, p3, p4, p5, p6⟩ := hr.blk b _ hb
                  rw [he] at p1; cases p1
                  rw [if_neg (by omega)] at p6
                  exact ⟨p6.1, p6.2.trans hq, hlt, C, ty', fz, p2, p3, fun j hj => p5 (wrt_odd hodd) j (by omega)⟩
                rcases hc0 : Nat.beq c 0 with _ | _
                · rw [hc0] at hv
                  simp only [cond_false] at hv
                  have hcne := ne_of_beq hc0
                  cases h1 with
                  | sl _ hev => omega
                  | slo => omega
                  | slz => omega
                  | @slk _ _ _ c' xx E' he hodd' hxx hcap' hll' =>
                    cases hroom : Nat.ble (l + m + 1) (c' + 1) with
                    | true =>
                      rw [hroom] at hv
                      simp only [cond_true] at hv
                      have hroom' := Nat.le_of_ble_eq_true hroom
                      obtain ⟨_, hv⟩ := bif_some hv
                      split at hv
                      · rename_i hh hput
                        simp only [Option.some.injEq, Prod.mk.injEq] at hv
                        obtain ⟨rfl, rfl⟩ := hv
                        obtain ⟨p1, p2, p3⟩ := putC_ok hr he hvs hput
                        refine ⟨r, _, _, p1, VR.slk (x := xx) he hodd hxx hcap' (by omega), ?_⟩
                        by_cases hc1 : c' = 0
                        · have hl1 : l = 0 := by omega
                          have hm1 : m = 0 := by omega
                          subst hl1
                          subst hm1
                          have hl0 : vs' = [] := List.eq_nil_of_length_eq_zero (by rw [hs.newsLen]; simp)
                          subst hl0
                          exact run_append_room_src (P := P) w ty tx oty e i hu hi E'.blk xx 0 c' x' 0 [] hs (by omega) (fun j hj => by simp at hj) (fun j hj => by simp at hj)
                        · obtain rfl := hxx hc1
                          have := run_append_room_src (P := P) w ty tx oty e i hu hi E'.blk (E'.base + k) l c' x' m vs' hs (by omega) (fun j hj => by rw [Nat.add_assoc E'.base]; exact (p2 j hj).1) (fun j hj => by rw [Nat.add_assoc E'.base]; exact (p2 j hj).2)
                          rw [this, Nat.add_assoc E'.base]
                      · cases hv
                    | false =>
                      rw [hroom] at hv
                      simp only [cond_false] at hv
                      obtain ⟨hbd, hv⟩ := bif_some hv
                      simp only [Bool.and_eq_true] at hbd
                      split at hv
                      · rename_i old hold
                        simp only [Option.some.injEq, Prod.mk.injEq] at hv
                        obtain ⟨rfl, rfl⟩ := hv
                        have hlt : c' < l + m := by
                          rcases Nat.lt_or_ge c' (l + m) with q | q
                          · exact q
                          · rw [Nat.ble_eq_true_of_le (by omega)] at hroom; cases hroom
                        obtain ⟨old', o1, o2, o3⟩ := ldN_ok hr hb he _ k hold (Nat.le_of_ble_eq_true hbd.1)
                        have o4 : ∀ j u, old'[j]? = some u → w.cell? (Addr.add ⟨E'.blk, xx, none⟩ j) = some u := fun j u hu => by
                          by_cases hc1 : c' = 0
                          · have hl1 : l = 0 := by omega
                            subst hl1
                            have : old' = [] := List.eq_nil_of_length_eq_zero (by rw [o2]; simp)
                            subst this
                            simp at hu
                          · obtain rfl := hxx hc1
                            rw [Addr.add_mid]; exact o3 j u hu
                        obtain ⟨w', q1, q2, q3⟩ := app_grow (oty := oty) hr hu hi hz hzs hb0 hb1 (base := some ⟨E'.blk, xx, none⟩) (l := l) (c := c') o1 (run_firstCells_some _ i.size l ⟨E'.blk, xx, none⟩ l c' old' o2 o4) o2 hvs hs hlt (Nat.le_of_ble_eq_true hbd.2)
                        exact ⟨_, _, w', q1, q2, q3⟩
                      · cases hv
                rw [hc0] at hv
                simp only [cond_true] at hv
                have hcz := Nat.eq_of_beq_eq_true hc0
                cases hin : Nat.ble (k + (l + m) * i.size) mm with
                | true =>
                  have hin' := Nat.le_of_ble_eq_true hin
                  rw [hin] at hv
                  simp only [cond_true] at hv
                  split at hv
                  · rename_i hh hput
                    simp only [Option.some.injEq, Prod.mk.injEq] at hv
                    obtain ⟨rfl, rfl⟩ := hv
                    cases h1 with
                    | sl _ hev => omega
                    | slk => omega
                    | @slo _ _ _ c' E' he _ hcq hl =>
                      obtain ⟨f1, f2, f3, _⟩ := hEx E' he
                      obtain ⟨p1, p2, p3⟩ := putC_ok hr he hvs hput
                      have hle : l + m ≤ c' := by
                        rw [f2] at hcq
                        have : (l + m) * i.size ≤ c' * i.size := by omega
                        exact Nat.le_of_mul_le_mul_right this hi0
                      refine ⟨r, _, _, p1, .slo he hodd hcq hle, ?_⟩
                      have := run_append_room_src (P := P) w ty tx oty e i hu hi E'.blk (E'.base + k) l c' x' m vs' hs hle (fun j hj => by rw [Nat.add_assoc E'.base]; exact (p2 j hj).1) (fun j hj => by rw [Nat.add_assoc E'.base]; exact (p2 j hj).2)
                      rw [this, Nat.add_assoc E'.base]
                    | @slz _ _ xx E' he _ hcq =>
                      obtain ⟨f1, f2, f3, _⟩ := hEx E' he
                      have hm0 : m = 0 := by
                        rcases Nat.eq_zero_or_pos m with q | q
                        · exact q
                        · have : i.size ≤ m * i.size := Nat.le_mul_of_pos_left _ q
                          simp only [Nat.zero_add] at hin'
                          omega
                      subst hm0
                      have hl0 : vs' = [] := List.eq_nil_of_length_eq_zero (by rw [hs.newsLen]; simp)
                      subst hl0
                      obtain ⟨p1, p2, p3⟩ := putC_ok hr he hvs hput
                      refine ⟨r, _, _, p1, VR.slz (x := xx) he hodd hcq, ?_⟩
                      exact run_append_room_src (P := P) w ty tx oty e i hu hi E'.blk xx 0 0 x' 0 [] hs (by omega) (fun j hj => by simp at hj) (fun j hj => by simp at hj)
                  · cases hv
                | false =>
                  rw [hin] at hv
                  simp only [cond_false] at hv
                  obtain ⟨hbd, hv⟩ := bif_some hv
                  simp only [Bool.and_eq_true] at hbd
                  have hlo := Nat.le_of_ble_eq_true hbd.2
                  have hkl := Nat.le_of_ble_eq_true hbd.1.1
                  have hbnd := Nat.le_of_ble_eq_true hbd.1.2
                  split at hv
                  · rename_i old hold
                    simp only [Option.some.injEq, Prod.mk.injEq] at hv
                    obtain ⟨rfl, rfl⟩ := hv
                    have hd := Step.del hr b
                    cases h1 with
                    | sl _ hev => omega
                    | slk => omega
                    | @slo _ _ _ c' E' he _ hcq hl =>
                      obtain ⟨f1, f2, f3, C, ty', fz, g1, g2, g3⟩ := hEx E' he
                      obtain ⟨old', o1, o2, o3⟩ := ldN_ok hr hb he _ k hold hkl
                      rcases Nat.lt_or_ge c' (l + m) with hlt | hge
                      · obtain ⟨w', q1, q2, q3⟩ := app_grow (oty := oty) hd.hr hu hi hz hzs hb0 hb1 (base := some ⟨E'.blk, E'.base + k, none⟩) (l := l) (c := c') o1 (run_firstCells_some _ i.size l ⟨E'.blk, E'.base + k, none⟩ l c' old' o2 (fun j u hu => by rw [Addr.add_mid]; exact o3 j u hu)) o2 hvs hs hlt hbnd
                        exact ⟨_, _, w', hd.trans q1, q2, q3⟩
                      · have hsz' : E'.base + k + (l + m) * i.size ≤ E'.size := by
                          rw [f2] at hcq
                          have : (l + m) * i.size ≤ c' * i.size := Nat.mul_le_mul_right _ hge
                          omega
                        have hlen := hs.newsLen
                        have hmul : (l + m) * i.size = l * i.size + m * i.size := Nat.add_mul _ _ _
                        have hap := run_append_room_src (P := P) w ty tx oty e i hu hi E'.blk (E'.base + k) l c' x' m vs' hs hge
                          (fun j hj => by simp only [World.cell?, g1]; simp; omega)
                          (fun j hj => by
                            simp only [World.frozen?, g1]
                            have := g3 (E'.base + k + l * i.size + j) (by omega)
                            simp only [Bool.and_eq_false_iff, decide_eq_false_iff_not]
                            omega)
                        have holdl : old.length = l * i.size := by rw [← o1.length]; exact o2
                        have hvl : vs.length = m * i.size := by rw [← hvs.length]; exact hlen
                        refine ⟨_, _, _, HR.move (e' := ⟨E'.blk, E'.base + k, E'.size, i.size⟩) (nb := .cells (old ++ vs).length .e (old ++ vs) i.size) hr hb he hlo rfl (setCells_size _ _ _) (fun j hj => setCells_heap_ne hj _ _ _) (setCells_os _ _ _)
                          ⟨wr C (E'.base + k + l * i.size) vs', ty', fz, setCells_heap _ _ _ _ g1, by rw [wr_size]; exact g2, fun j hj => ?_, fun _ j hj => g3 j (by rw [wr_size] at hj; omega), ?_⟩, .slo (c := c') (put_self _ _ _) (by omega) (by rw [f2] at hcq; exact hcq) hge, hap⟩
                        · have hx : Ext r (r.put (2 * h.k + 1) ⟨E'.blk, E'.base + k, E'.size, i.size⟩) := Ren.put_ext (hr.new _ (by omega))
                          have hall : VRL r (old ++ vs) (old' ++ vs') := o1.append hvs
                          obtain ⟨u', q1, q2⟩ := hall.get (List.getElem?_eq_getElem hj)
                          refine ⟨_, u', cg_e hj, ?_, q2.ext hx⟩
                          rw [wr_get _ _ _ _ (by omega)]
                          simp only [List.length_append] at hj
                          by_cases hjo : j < old.length
                          · rw [if_neg (by simp; omega)]
                            rw [List.getElem?_append_left (by rw [o2]; omega)] at q1
                            have := o3 j u' q1
                            simp only [World.cell?, g1] at this
                            simpa using this
                          · rw [if_pos (by simp; omega)]
                            rw [List.getElem?_append_right (by rw [o2]; omega)] at q1
                            rw [o2] at q1
                            simp only []
                            rw [show E'.base + k + j - (E'.base + k + l * i.size) = j - l * i.size by omega]
                            exact q1
                        · rw [if_neg (by omega)]
                          simp only [List.length_append, and_true]
                          omega
                    | @slz _ _ xx E' he _ hcq =>
                      simp only [Nat.zero_mul, ldN, Option.some.injEq] at hold
                      subst hold
                      have hm1 : 0 < 0 + m := by
                        rcases Nat.eq_zero_or_pos m with q | q
                        · subst q
                          simp only [Nat.zero_mul, Nat.add_zero] at hin hkl
                          rw [Nat.ble_eq_true_of_le hkl] at hin; cases hin
                        · omega
                      obtain ⟨w', q1, q2, q3⟩ := app_grow (oty := oty) hd.hr hu hi hz hzs hb0 hb1 (base := some ⟨E'.blk, xx, none⟩) (l := 0) (c := 0) (old := []) (old' := []) .nil (run_firstCells_some _ i.size 0 ⟨E'.blk, xx, none⟩ 0 0 [] (by simp) (fun j u hu => by simp at hu)) (by simp) hvs hs hm1 hbnd
                      exact ⟨_, _, w', hd.trans q1, q2, q3⟩
                  · cases hv
            · cases hv
          · cases hv
        · cases hv
      · cases hv
    · cases hv
  · cases hv
/-- The same cells, written otherwise. -/
theorem Step.same {r1 : Ren} {h1 : H} {w1 : World} (s : Step r h w r1 h1 w1) {x n : Nat} {c c' : T Value} {d d' : List Value} {q : Nat} (hx : h1.get x = some (.cells n c d q)) (he : ∀ i, i < n → cg c' d' i = cg c d i) : Step r h w r1 (h1.set x (.cells n c' d' q)) w1 := by
  have hr := s.hr
  have hal : ∀ y b, (h1.set x (.cells n c' d' q)).get y = some b → ∃ b', h1.get y = some b' := fun y b hy => by
    rw [H.get_set] at hy
    split at hy
    · rename_i z; subst z; exact ⟨_, hx⟩
    · exact ⟨b, hy⟩
  refine ⟨s.ext, s.keep, ⟨fun y b hy => ?_, fun y z b b' e f hy hz => ?_, hr.new, hr.lo, hr.gl, hr.bnd⟩, s.k, s.lo, s.g, s.size, fun k hk ho => ⟨(s.old k hk ho).1, fun ⟨y, b, e, h1', h2, h3, h4⟩ => ?_⟩, s.os, s.tape, s.output⟩
  · rw [H.get_set] at hy
    split at hy
    · rename_i z; subst z; cases hy
      obtain ⟨e, p1, p2, C, t, f, q1, q2, q3, q4, q5⟩ := hr.blk y _ hx
      exact ⟨e, p1, p2, C, t, f, q1, q2, fun i hi => by rw [he i hi]; exact q3 i hi, q4, q5⟩
    · exact hr.blk y b hy
  · obtain ⟨b1, hb1⟩ := hal y b hy
    obtain ⟨b2, hb2⟩ := hal z b' hz
    exact hr.inj y z b1 b2 e f hb1 hb2
  · obtain ⟨b1, hb1⟩ := hal y b h1'
    exact (s.old k hk ho).2 ⟨y, b1, e, hb1, h2, h3, h4⟩
theorem ldN_some {c : T Value} {d : List Value} : ∀ (m k : Nat), (∀ i, k ≤ i → i < k + m → ∃ v, cg c d i = some v) → ∃ l, ldN c d m k = some l ∧ ∀ i, i < m → l[i]? = cg c d (k + i) := by
  intro m
  induction m with
  | zero => intro k _; exact ⟨[], rfl, fun i hi => by omega⟩
  | succ m ih =>
    intro k hk
    obtain ⟨v, hv⟩ := hk k (Nat.le_refl _) (by omega)
    obtain ⟨l, q1, q2⟩ := ih (k + 1) (fun i h1 h2 => hk i (by omega) (by omega))
    refine ⟨v :: l, by simp only [ldN, hv, q1], fun i hi => ?_⟩
    cases i with
    | zero => simp [hv]
    | succ i => rw [List.getElem?_cons_succ, q2 i (by omega)]; congr 1; omega
theorem appZ_ok (hr : HR r h w) {ty tx oty : TypeId} {s s' x x' : Value} (h1 : VR r s s') (h2 : VR r x x') {h' : H} (hv : appZ P ty tx s x h = some (v, h')) :
    ∃ r' v' w', Step r h w r' h' w' ∧ VR r' v v' ∧ (Builtin.append_ #[ty, tx] oty #[s', x']).run P w = .ok v' w' := by
  unfold appZ at hv
  simp only [inf_eq, und_eq] at hv
  split at hv
  · rename_i b k l c n
    split at hv
    · rename_i m cs dz q hb
      split at hv
      · rename_i e kn hu htx
        split at hv
        · rename_i i hi
          split at hv
          · rename_i z hz
            obtain ⟨hp, hv⟩ := bif_some hv
            simp only [Bool.and_eq_true, Bool.not_eq_true'] at hp
            obtain ⟨⟨⟨⟨⟨⟨⟨⟨⟨⟨p1, p2⟩, p3⟩, p4⟩, p5⟩, p6⟩, p7⟩, p8⟩, p9⟩, p10⟩, p11⟩ := hp
            have hodd : b % 2 ≠ 0 := ne_of_beq p1
            have p2 := Nat.eq_of_beq_eq_true p2
            have p3 : 0 < n := Nat.le_of_ble_eq_true p3
            have p4 : c < l + n := Nat.le_of_ble_eq_true p4
            have p5 := Nat.le_of_ble_eq_true p5
            have p6 : 0 < i.size := by have := ne_of_beq p6; omega
            have hb0 : 0 < i.bytes := by have := ne_of_beq p7; omega
            have hb1 := Nat.le_of_ble_eq_true p8
            have hzs : z.cells.size = i.size := by simpa using Nat.eq_of_beq_eq_true p9
            have hbound := Nat.le_of_ble_eq_true p11
            split at hv
            · rename_i old hold
              simp only [Option.some.injEq, Prod.mk.injEq] at hv
              obtain ⟨rfl, rfl⟩ := hv
              cases h2
              cases h1 with
              | sl _ hev => omega
              | @slk _ _ _ _ xx E' he hodd' hxx hcap' hll' =>
                obtain ⟨old', o1, o2, o3⟩ := ldN_ok hr hb he _ k hold p5
                have o4 : ∀ j u, old'[j]? = some u → w.cell? (Addr.add ⟨E'.blk, xx, none⟩ j) = some u := fun j u hu => by
                  by_cases hc1 : c = 0
                  · have hl1 : l = 0 := by omega
                    subst hl1
                    have : old' = [] := List.eq_nil_of_length_eq_zero (by rw [o2]; simp)
                    subst this
                    simp at hu
                  · obtain rfl := hxx hc1
                    rw [Addr.add_mid]; exact o3 j u hu
                have hcap := grownCap_ge w (l + n) c e
                have hlm : l + n ≤ (l + n) * i.bytes := Nat.le_mul_of_pos_right _ hb0
                have hnx : Builtin.nextslicecap (l + n) c * i.bytes ≤ 281474976710656 := by
                  have h1 := nextslicecap_le (l + n) c p4
                  have h2 : Builtin.nextslicecap (l + n) c * i.bytes ≤ (4 * (l + n) + 4096) * i.bytes := Nat.mul_le_mul_right _ h1
                  have h3 : (4 * (l + n) + 4096) * i.bytes = 4 * ((l + n) * i.bytes) + 4096 * i.bytes := by rw [Nat.add_mul, Nat.mul_assoc]
                  omega
                have hnb : n * i.bytes ≤ (l + n) * i.bytes := Nat.mul_le_mul_right _ (by omega)
                have hap := Lib.run_append_grow_zeros (P := P) w ty tx oty e i z .i64 kn hu htx hi hz (some ⟨E'.blk, xx, none⟩) l c old' (run_firstCells_some _ i.size l ⟨E'.blk, xx, none⟩ l c old' o2 o4) n p3 p6 p4 (by omega) (by omega) hnx
                have hCs : (old'.toArray ++ Builtin.zeroCells z.cells n ++ Builtin.zeroCells z.cells (grownCap w (l + n) c e - (l + n))).size = grownCap w (l + n) c e * i.size := by
                  rw [Array.size_append, Array.size_append, zeroCells_size, zeroCells_size, hzs, List.size_toArray, o2, ← Nat.add_mul, ← Nat.add_mul]
                  congr 1; omega
                have hs0 := Step.drew hr (w.drawn + 1)
                have hs1 := new_cells (s := i.size) (e := e) (f := (0, 0)) hs0.hr true (l := old ++ (Builtin.zeroCells z.cells n).toList) (C := old'.toArray ++ Builtin.zeroCells z.cells n ++ Builtin.zeroCells z.cells (grownCap w (l + n) c e - (l + n)))
                  ⟨old' ++ (Builtin.zeroCells z.cells n).toList, _, o1.append (VRL.of_plain r _ p10), by rw [Array.toList_append, Array.toList_append], fun q => by cases q⟩ (by simp)
                rw [hCs] at hs1
                refine ⟨_, _, _, hs0.trans hs1, .slo (put_self _ _ _) (by omega) (by simp) hcap, ?_⟩
                have hap : (Builtin.append_ #[ty, tx] oty #[.slice (some ⟨E'.blk, xx, none⟩) l c, .int .i64 (Int.ofNat n)]).run P w = _ := hap
                rw [hap]
                rfl
            · cases hv
          · cases hv
        · cases hv
      · cases hv
    · cases hv
  · cases hv
theorem app_ok (hr : HR r h w) {ty tx oty : TypeId} {s s' x x' : Value} (h1 : VR r s s') (h2 : VR r x x') {h' : H} (hv : app P ty tx s x h = some (v, h')) :
    ∃ r' v' w', Step r h w r' h' w' ∧ VR r' v v' ∧ (Builtin.append_ #[ty, tx] oty #[s', x']).run P w = .ok v' w' := by
  unfold app at hv
  split at hv
  · rename_i y hs
    cases hv
    unfold share at hs
    simp only [inf_eq, und_eq] at hs
    split at hs
    · rename_i b l c
      split at hs
      · rename_i m cs dz q hb
        split at hs
        · rename_i e d hu htx
          split at hs
          · rename_i i hi
            split at hs
            · rename_i z hz
              split at hs
              · rename_i n vs hc
                obtain ⟨hp, hs⟩ := bif_some hs
                simp only [Bool.and_eq_true, Bool.not_eq_true'] at hp
                obtain ⟨⟨⟨⟨⟨⟨⟨⟨⟨⟨⟨⟨p1, p2⟩, p3⟩, p4⟩, p5⟩, p6⟩, p7⟩, p8⟩, p9⟩, p10⟩, p11⟩, p12⟩, p13⟩ := hp
                have hlm := Nat.eq_of_beq_eq_true p1
                obtain ⟨E', f1, f2, C, t, f, f3, f4, f5, f6, f7⟩ := hr.blk b _ hb
                obtain ⟨old, o1, o2⟩ := ldN_some (c := cs) (d := dz) m 0 (fun j _ hj => by obtain ⟨u, _, g1, _⟩ := f5 j (by omega); exact ⟨u, g1⟩)
                have holdl : old.length = m := by
                  have : ∀ (m k : Nat) (l : List Value), ldN cs dz m k = some l → l.length = m := fun m => by
                    induction m with
                    | zero => intro k l hl; simp only [ldN, Option.some.injEq] at hl; subst hl; rfl
                    | succ m ih =>
                      intro k l hl
                      simp only [ldN] at hl
                      split at hl
                      · split at hl
                        · rename_i l' hl'
                          simp only [Option.some.injEq] at hl; subst hl
                          simp [ih _ _ hl']
                        · cases hl
                      · cases hl
                  exact this _ _ _ o1
                have h0 : app0 P ty tx (.slice (some ⟨b, 0, none⟩) l c) x h = some (.slice (some ⟨2 * h.k + 1, 0, none⟩) (l + n) 0, { ((h.del b).set (2 * h.k + 1) (.cells (old ++ vs).length .e (old ++ vs) i.size)) with k := h.k + 1 }) := by
                  have hle : Nat.ble (0 + m) m = true := Nat.ble_eq_true_of_le (by omega)
                  simp only [app0, inf_eq, und_eq, hu, htx, hi, hz, hc, hb, p2, p3, p4, p5, p6, p7, p8, p9, p10, p11, p12, p13, hle, hlm, o1, Bool.not_false, Bool.and_true, cond_true, cond_false]
                obtain ⟨r', v', w', q1, q2, q3⟩ := app0_ok (oty := oty) hr h1 h2 h0
                have hs := Option.some.inj hs
                rw [Prod.mk.injEq] at hs
                obtain ⟨rfl, rfl⟩ := hs
                have hnew : ({ ((h.del b).set (2 * h.k + 1) (.cells (old ++ vs).length .e (old ++ vs) i.size)) with k := h.k + 1 } : H).get (2 * h.k + 1) = some (.cells (m + vs.length) .e (old ++ vs) i.size) := by
                  have : ({ ((h.del b).set (2 * h.k + 1) (.cells (old ++ vs).length .e (old ++ vs) i.size)) with k := h.k + 1 } : H).get (2 * h.k + 1) = ((h.del b).set (2 * h.k + 1) (.cells (old ++ vs).length .e (old ++ vs) i.size)).get (2 * h.k + 1) := rfl
                  rw [this, H.get_set, if_pos rfl, List.length_append, holdl]
                have hst := q1.same hnew (c' := stN cs vs m) (d' := dz) (fun j hj => by
                  rw [stN_cg]
                  have hlen : (old ++ vs).length = m + vs.length := by rw [List.length_append, holdl]
                  rw [cg_e (by omega)]
                  split
                  · rename_i hjm
                    rw [List.getElem_append_right (by omega)]
                    rw [← List.getElem?_eq_getElem]
                    congr 1
                    omega
                  · have hjm : j < m := by omega
                    have := o2 j hjm
                    rw [Nat.zero_add] at this
                    rw [← this, List.getElem_append_left (by omega), ← List.getElem?_eq_getElem])
                refine ⟨r', v', w', ?_, q2, q3⟩
                have hfin : ({ ((h.del b).set (2 * h.k + 1) (.cells (m + vs.length) (stN cs vs m) dz i.size)) with k := h.k + 1 } : H) = ({ ((h.del b).set (2 * h.k + 1) (.cells (old ++ vs).length .e (old ++ vs) i.size)) with k := h.k + 1 } : H).set (2 * h.k + 1) (.cells (m + vs.length) (stN cs vs m) dz i.size) := by
                  simp only [H.set]
                  congr 1
                  exact (T.set_set _ _ _ _ (by omega)).symm
                rw [hfin]
                exact hst
              · cases hs
            · cases hs
          · cases hs
        · cases hs
      · cases hs
    · cases hs
  · split at hv
    · rename_i y h0
      cases hv
      exact app0_ok hr h1 h2 h0
    · exact appZ_ok hr h1 h2 hv
end Ev
end Go.Proofs.YtmemadmjgcpobaaGreatDoor
/- Our own machine's steps over a string and map writes. -/
set_option maxRecDepth 10000
namespace Go.Proofs.YtmemadmjgcpobaaGreatDoor
namespace Ev
variable {P : Program} {r : Ren} {h : H} {w : World} {n : Nat} {t : T Value} {a : Act} {o : Oper}
theorem ef_next (hr : HR r h w) (ha : AR r h n t a) {it : Operand} (ho : o.op = .next it true) {b : Nat} (hx : evO h.g t it = some (.pointer (some ⟨b, 0, none⟩))) {s : ByteArray} {pos : Nat} (hb : h.get b = some (.sit s pos)) (hlo : h.lo ≤ b) :
    (pos < s.size → StOk P r h w o a (.tuple #[.bool true, goInt pos, .int .i32 (Utf8.decode s pos).1]) (h.set b (.sit s (pos + (Utf8.decode s pos).2)))) ∧
    (¬ pos < s.size → StOk P r h w o a (.tuple #[.bool false]) h) := by
  have h1 := evO_ok hr ha hx
  generalize hq : a.eval it = z at h1
  cases h1 with
  | ptr he =>
    rename_i e
    obtain ⟨e', p1, hlt, p2, p3⟩ := hr.blk b _ hb
    rw [he] at p1; cases p1
    refine ⟨fun hp => ?_, fun hp => ?_⟩
    · have hs : Step r h w r (h.set b (.sit s (pos + (Utf8.decode s pos).2))) { w with heap := w.heap.setIfInBounds e.blk (.stringIter s (pos + (Utf8.decode s pos).2)) } :=
        HR.set_ hr hb he hlo (by simp) (fun k hk => by simp [Ne.symm hk]) rfl rfl rfl ⟨p2, by simp [hlt]⟩
      refine ⟨r, _, _, hs, VR.of_plain r _ rfl, .inl ?_⟩
      simp [execOp, ho, hq, Instr.next, getObj, setObj, Sem.run, p2, p3, hp]
    · refine ⟨r, _, w, Step.refl hr, VR.of_plain r _ rfl, .inl ?_⟩
      simp [execOp, ho, hq, Instr.next, getObj, setObj, Sem.run, p2, p3, hp]
end Ev
end Go.Proofs.YtmemadmjgcpobaaGreatDoor
