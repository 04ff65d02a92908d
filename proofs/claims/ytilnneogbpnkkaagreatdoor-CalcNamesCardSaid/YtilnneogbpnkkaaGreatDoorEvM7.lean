/- Our own machine's new blocks. -/
import Derived.Test.YtilnneogbpnkkaaGreatDoorEvM6
import Derived.Great.BuildSlice
import Derived.Laws.MakeOwn
import Derived.Laws.IdiomStrings
import Derived.Laws.AppendOwn
import Derived.Deep.AppendSrc
set_option maxRecDepth 10000
namespace Go.Proofs.YtilnneogbpnkkaaGreatDoor
namespace Ev
noncomputable section
variable {P : Program} {r : Ren} {h : H} {w : World} {n : Nat} {t : T Value} {a : Act} {o : Oper} {v : Value}
/-- What an operation that has ended promises. -/
def StOk (P : Program) (r : Ren) (h : H) (w : World) (o : Oper) (a : Act) (v : Value) (h' : H) : Prop :=
  ∃ r' v' w', Step r h w r' h' w' ∧ VR r' v v' ∧ ((execOp a.eval o).run P w = .ok (.value v') w' ∨ ((execOp a.eval o).run P w = .ok .skip w' ∧ v' = undef))
theorem Step.drew {r : Ren} {h : H} {w : World} (hr : HR r h w) (m : Nat) : Step r h w r h { w with drawn := m } :=
  ⟨Ext.refl r, fun _ _ => rfl, hr.drew m, Nat.le_refl _, rfl, rfl, Nat.le_refl _, fun _ _ ho => ⟨rfl, ho⟩, rfl, rfl, rfl⟩
theorem cg_e {d : List Value} {i : Nat} (hi : i < d.length) : cg .e d i = some d[i] := by
  simp only [cg, T.get_e, Nat.mod_eq_of_lt hi]
  exact List.getElem?_eq_getElem hi
/-- A new row of cells. -/
theorem br_cells (op : Bool) {x : Nat} (hx : x % 2 = bif op then 1 else 0) (hn : r x = none) {l : List Value} {C : Array Value} {e : TypeId} {f : Nat × Nat} {s : Nat} (hl : ∃ l' m, VRL r l l' ∧ C.toList = l' ++ m ∧ (op = false → m = [])) (hf : ∀ i, i < C.size + (bif op then 0 else 1) → ¬ (f.1 ≤ i ∧ i < f.2)) :
    BR (r.put x ⟨w.heap.size, 0, C.size, s⟩) x ⟨w.heap.size, 0, C.size, s⟩ { w with heap := w.heap.push (.cells C e f) } (.cells l.length .e l s) := by
  obtain ⟨l', m, h1, h2, h3⟩ := hl
  have hext : Ext r (r.put x ⟨w.heap.size, 0, C.size, s⟩) := Ren.put_ext hn
  have hsz : C.size = l.length + m.length := by have := congrArg List.length h2; simp at this; rw [this, h1.length]
  refine ⟨C, e, f, by simp, rfl, fun i hi => ?_, fun _ i hi => hf i (by rw [hx] at hi; cases op <;> simpa using hi), ?_⟩
  · obtain ⟨v', q1, q2⟩ := h1.get (List.getElem?_eq_getElem hi)
    refine ⟨l[i], v', cg_e hi, ?_, q2.ext hext⟩
    have : C.toList[i]? = some v' := by rw [h2, List.getElem?_append_left (by rw [h1.length]; exact hi)]; exact q1
    simpa using this
  · cases op with
    | false =>
      have := h3 rfl
      subst this
      have hx : x % 2 = 0 := hx
      simp [hsz, hx]
    | true =>
      have hx : x % 2 = 1 := hx
      rw [if_neg (by omega)]
      simp [hsz]
theorem new_cells (hr : HR r h w) (op : Bool) {l : List Value} {C : Array Value} {e : TypeId} {f : Nat × Nat} {s : Nat} (hl : ∃ l' m, VRL r l l' ∧ C.toList = l' ++ m ∧ (op = false → m = [])) (hf : ∀ i, i < C.size + (bif op then 0 else 1) → ¬ (f.1 ≤ i ∧ i < f.2)) :
    Step r h w (r.put (bif op then 2 * h.k + 1 else 2 * h.k) ⟨w.heap.size, 0, C.size, s⟩) { (h.set (bif op then 2 * h.k + 1 else 2 * h.k) (.cells l.length .e l s)) with k := h.k + 1 } { w with heap := w.heap.push (.cells C e f) } :=
  HR.new_ hr (by cases op <;> simp) (by omega) (by cases op <;> simp <;> omega) rfl (br_cells op (by cases op <;> simp <;> omega) (hr.new _ (by cases op <;> simp)) hl hf)
theorem new_other (hr : HR r h w) {b : Blk} {ob : Obj} (hb : BR (r.put (2 * h.k) ⟨w.heap.size, 0, 0, 0⟩) (2 * h.k) ⟨w.heap.size, 0, 0, 0⟩ { w with heap := w.heap.push ob } b) :
    Step r h w (r.put (2 * h.k) ⟨w.heap.size, 0, 0, 0⟩) { (h.set (2 * h.k) b) with k := h.k + 1 } { w with heap := w.heap.push ob } :=
  HR.new_ hr (Nat.le_refl _) (by omega) (by omega) rfl hb
theorem put_self (r : Ren) (x : Nat) (e : E) : r.put x e x = some e := by simp [Ren.put]
def newId (h : H) (q : Bool) : Nat := bif q then 2 * h.k + 1 else 2 * h.k
theorem al_at (hr : HR r h w) (ha : AR r h n t a) {b : Blk} {q : Bool} {mk : Nat → Value} (hv : al P h t o = some (b, q, mk)) {x₀ : Nat} (hx₀ : x₀ % 2 = bif q then 1 else 0) (hn : r x₀ = none) :
    ∃ m e ob v', e.blk = w.heap.size ∧ BR (r.put x₀ e) x₀ e { w with drawn := m, heap := w.heap.push ob } b ∧ VR (r.put x₀ e) (mk x₀) v' ∧ (execOp a.eval o).run P w = .ok (.value v') { w with drawn := m, heap := w.heap.push ob } := by
  unfold al at hv
  simp only [inf_eq, und_eq] at hv
  split at hv
  · rename_i e ho
    split at hv
    · rename_i i hi
      split at hv
      · rename_i z hz
        obtain ⟨hp, hv⟩ := bif_some hv
        cases hv
        have hs := br_cells (w := w) (s := 0) false hx₀ hn (l := z.cells.toList) (C := z.cells) (e := e) (f := (0, 0)) ⟨_, [], VRL.of_plain r _ hp, by simp, fun _ => rfl⟩ (by simp)
        have hzr : (zeroValue e).run P w = .ok z w := by simp [zeroValue, typeInfo, hi, hz]
        refine ⟨w.drawn, _, _, _, rfl, hs, .ptr (put_self _ _ _), ?_⟩
        simp [execOp, ho, Instr.alloc, hzr, newVar, newRow]
      · cases hv
    · cases hv
  · rename_i e x ho
    split at hv
    · rename_i u hx
      cases hv
      have hs := br_cells (w := w) (s := 0) false hx₀ hn (l := u.cells.toList) (C := (a.eval x).cells) (e := e) (f := (0, 0)) ⟨_, [], (evO_ok hr ha hx).cells (evO_J hx), by simp, fun _ => rfl⟩ (by simp)
      refine ⟨w.drawn, _, _, _, rfl, hs, .ptr (put_self _ _ _), ?_⟩
      simp [execOp, ho, Instr.box, newVar, newRow]
    · cases hv
  · rename_i ty len parts ho
    split at hv
    · rename_i e hu
      split at hv
      · rename_i i hi
        cases hl0 : Nat.beq len 0 with
        | true =>
          rw [hl0] at hv
          simp only [cond_true] at hv
          split at hv
          · rename_i hp0
            cases hv
            have hl0 := Nat.eq_of_beq_eq_true hl0
            subst hl0
            have hp0' : parts = #[] := by simpa using hp0
            subst hp0'
            have hs := br_cells (w := w) (s := 0) false hx₀ hn (l := []) (C := #[]) (e := e) (f := (0, 0)) ⟨[], [], .nil, rfl, fun _ => rfl⟩ (by simp)
            refine ⟨w.drawn, _, _, _, rfl, hs, .sl (put_self _ _ _) hx₀, ?_⟩
            simp [execOp, ho, Instr.buildSlice, run_underlying hu, sizeOf, typeInfo, hi, Instr.fill, newRow]
            congr 2
            exact Array.eq_empty_of_size_eq_zero (by simp)
          · cases hv
        | false =>
        rw [hl0] at hv
        simp only [cond_false] at hv
        split at hv
        · rename_i z hz
          split at hv
          · rename_i vs hvs
            obtain ⟨hp, hv⟩ := bif_some hv
            split at hv
            · rename_i cs hfill
              cases hv
              simp only [Bool.and_eq_true, Bool.not_eq_true'] at hp
              obtain ⟨⟨⟨hp, hlen⟩, hle⟩, hpos⟩ := hp
              have hzl := Nat.eq_of_beq_eq_true hlen
              have hpr := evL_parts hr ha hvs
              have hz0 : VRL r ((Array.range (len * i.size)).map (z.cells[· % z.cells.size]!)).toList ((Array.range (len * i.size)).map (z.cells[· % z.cells.size]!)).toList := by
                refine VRL.of_plain r _ ?_
                have hall : ∀ (l : List Value), (∀ x ∈ l, plain x = true) → plainL l = true := fun l => by
                  induction l with
                  | nil => intro _; rfl
                  | cons y l ih => intro hh; simp [plainL, hh y (by simp), ih (fun x hx => hh x (by simp [hx]))]
                have hall' : ∀ (l : List Value), plainL l = true → ∀ x ∈ l, plain x = true := fun l => by
                  induction l with
                  | nil => intro _ x hx; cases hx
                  | cons y l ih =>
                    intro hh x hx
                    simp only [plainL, Bool.and_eq_true] at hh
                    cases hx with
                    | head => exact hh.1
                    | tail _ hx => exact ih hh.2 x hx
                refine hall _ fun x hx => ?_
                simp only [Array.toList_map, List.mem_map] at hx
                obtain ⟨k, hk, rfl⟩ := hx
                have hzs : z.cells.size = i.size := by simpa using hzl
                have hi0 : 0 < i.size := by
                  rcases Nat.eq_zero_or_pos i.size with q | q
                  · have := ne_of_beq hpos; rw [q] at this; simp at this
                  · exact q
                have hlt : k % z.cells.size < z.cells.size := Nat.mod_lt _ (by omega)
                rw [getElem!_pos z.cells _ hlt]
                exact hall' _ hp _ (by simp)
              obtain ⟨cs', h1, h2⟩ := fill_ok _ hpr hz0 hfill
              have hs := br_cells (w := w) (s := 0) false hx₀ hn (l := cs.toList) (C := cs') (e := e) (f := (0, 0)) ⟨_, [], h2, by simp, fun _ => rfl⟩ (by simp)
              have hcs : cs.toList.length = len * i.size := by
                have hfl : ∀ (place : Nat → Option (Nat × Nat)) (ps : List (Nat × Value)) (A B : Array Value), Instr.fill place A ps = some B → B.size = A.size := fun place ps => by
                  induction ps with
                  | nil => intro A B hB; simp only [Instr.fill, Option.some.injEq] at hB; rw [hB]
                  | cons p l ih =>
                    intro A B hB
                    obtain ⟨j, u⟩ := p
                    simp only [Instr.fill] at hB
                    split at hB
                    · cases hB
                    · split at hB
                      · cases hB
                      · have hfold : ∀ (off : Nat) (l : List (Value × Nat)) (A : Array Value), (l.foldl (fun cs (x : Value × Nat) => cs.setIfInBounds (off + x.2) x.1) A).size = A.size := fun off l => by
                          induction l with
                          | nil => intro A; rfl
                          | cons y l ih => intro A; simp only [List.foldl_cons]; rw [ih]; simp
                        rw [ih _ _ hB, ← Array.foldl_toList]
                        exact hfold _ _ _
                have := hfl _ _ _ _ hfill
                simpa using this
              rw [hcs] at hs
              have e' : (parts.map fun (p : Nat × Operand) => (p.1, a.eval p.2)).toList = parts.toList.map fun p => (p.1, a.eval p.2) := by simp
              have hrun := run_buildSlice (P := P) w ty e len (parts.map fun (p : Nat × Operand) => (p.1, a.eval p.2)) cs' i z hu hi hz (by have := Nat.le_of_ble_eq_true hle; omega) (ne_of_beq hpos) (by rw [e']; exact h1)
              refine ⟨w.drawn, _, _, _, rfl, hs, .sl (put_self _ _ _) hx₀, ?_⟩
              simp [execOp, ho, hrun]
            · cases hv
          · cases hv
        · cases hv
      · cases hv
    · cases hv
  · rename_i ty l c ho
    split at hv
    · rename_i kl l kc c hl hc
      split at hv
      · rename_i e hu
        split at hv
        · rename_i i hi
          split at hv
          · rename_i z hz
            obtain ⟨hp, hv⟩ := bif_some hv
            cases hv
            simp only [Bool.and_eq_true, Bool.not_eq_true'] at hp
            obtain ⟨⟨⟨⟨⟨hp, hlen⟩, hlc⟩, hb⟩, hc1⟩, hpos⟩ := hp
            have hzl : z.cells.size = i.size := by simpa using Nat.eq_of_beq_eq_true hlen
            have hlc := Nat.le_of_ble_eq_true hlc
            have hb := Nat.le_of_ble_eq_true hb
            have hc1 := Nat.le_of_ble_eq_true hc1
            have hi0 := ne_of_beq hpos
            have h1 := evO_ok hr ha hl
            have h2 := evO_ok hr ha hc
            generalize hql : a.eval _ = zl at h1
            generalize hqc : a.eval _ = zc at h2
            cases h1; cases h2
            have hbi : (i.bytes : Int) * (c : Int) ≤ 281474976710656 := by rw [← Int.natCast_mul]; omega
            have hrun := run_make (P := P) w ty e i z hu hi hz kl kc (l : Int) (c : Int) (by omega) (by omega) hbi (by omega)
            simp only [Int.toNat_natCast] at hrun
            have hC : (madeCells z.cells (c * i.size)).size = c * i.size := size_madeCells _ _
            refine ⟨w.drawn, ⟨w.heap.size, 0, c * i.size, 0⟩, .cells (madeCells z.cells (c * i.size)) e, _, rfl, ?_, .sl (put_self _ _ _) hx₀, by simp [execOp, ho, hql, hqc, hrun]⟩
            refine ⟨madeCells z.cells (c * i.size), e, (0, 0), by simp, hC, fun j hj => ?_, fun _ => by simp, by have hx₀ : x₀ % 2 = 0 := hx₀; simp [hx₀]⟩
            have hlt : j % z.cells.size < z.cells.size := Nat.mod_lt _ (by omega)
            have hcell : cg .e z.cells.toList j = some z.cells[j % z.cells.size] := by
              simp only [cg, T.get_e, Array.length_toList]
              simp [hlt]
            refine ⟨_, _, hcell, by simp [madeCells, hj, hlt], VR.of_plain _ _ ?_⟩
            have hall' : ∀ (l : List Value), plainL l = true → ∀ x ∈ l, plain x = true := fun l => by
              induction l with
              | nil => intro _ x hx; cases hx
              | cons y l ih =>
                intro hh x hx
                simp only [plainL, Bool.and_eq_true] at hh
                cases hx with
                | head => exact hh.1
                | tail _ hx => exact ih hh.2 x hx
            exact hall' _ hp _ (by simp)
          · cases hv
        · cases hv
      · cases hv
    · cases hv
  · rename_i ty ho
    cases hv
    refine ⟨w.drawn, ⟨w.heap.size, 0, 0, 0⟩, .map #[] 0, _, rfl, ⟨#[], by simp, .nil⟩, .map (put_self _ _ _), ?_⟩
    simp [execOp, ho, Instr.makeMap]
  · rename_i sr d x ho
    split at hv
    · rename_i s hx
      split at hv
      · rename_i e hsr hd
        split at hv
        · rename_i he
          cases hv
          have h1 := evO_ok hr ha hx
          generalize hq : a.eval x = z at h1
          cases h1
          have hcap := grownCap_ge w s.size 0 e
          have hS : s.size = s.data.toList.length := by show s.data.size = _; rw [Array.length_toList]
          have hsz : (bytesRow s (grownCap w s.size 0 e)).size = grownCap w s.size 0 e := by
            unfold bytesRow
            rw [Array.size_append, Array.size_map, Array.size_replicate]
            have : s.data.size = s.size := rfl
            omega
          have hs := br_cells (w := { w with drawn := w.drawn + 1 }) (s := 1) true hx₀ hn (l := s.data.toList.map fun b => .int .u8 b.toNat) (C := bytesRow s (grownCap w s.size 0 e)) (e := e) (f := ((bytesRow s (grownCap w s.size 0 e)).size, (bytesRow s (grownCap w s.size 0 e)).size + 1))
            ⟨s.data.toList.map fun b => .int .u8 b.toNat, List.replicate (grownCap w s.size 0 e - s.size) (.int .u8 0), VRL.of_plain r _ (by induction s.data.toList with | nil => rfl | cons y l ih => simpa [plainL, plain] using ih), by simp [bytesRow], fun q => by cases q⟩ (fun i hi => by have hi : i < (bytesRow s (grownCap w s.size 0 e)).size + 0 := hi; omega)
          rw [List.length_map] at hs
          refine ⟨w.drawn + 1, _, _, _, rfl, hs, .slo (put_self _ _ _) hx₀ (c := grownCap w s.size 0 e) (by simp [hsz]) (by rw [← hS]; exact hcap), ?_⟩
          have hrun := run_bytes_of_string (P := P) w sr d e s hsr hd he
          simp only [execOp, ho, hq, Sem.run_bind, hrun, Result.andThen_ok, Sem.run_pure]
          rw [hS]
          rfl
        · cases hv
      · cases hv
    · cases hv
  · rename_i ty x ho
    split at hv
    · rename_i s hu hx
      cases hv
      have h1 := evO_ok hr ha hx
      generalize hq : a.eval x = z at h1
      cases h1
      have hs : BR (r.put x₀ ⟨w.heap.size, 0, 0, 0⟩) x₀ ⟨w.heap.size, 0, 0, 0⟩ { w with heap := w.heap.push (.stringIter s 0) } (.sit s 0) := ⟨rfl, by simp⟩
      refine ⟨w.drawn, _, _, _, rfl, hs, .ptr (put_self _ _ _), ?_⟩
      simp [execOp, ho, hq, Instr.range, run_underlying hu]
    · cases hv
  · cases hv
theorem al_ok (hr : HR r h w) (ha : AR r h n t a) {b : Blk} {q : Bool} {mk : Nat → Value} (hv : al P h t o = some (b, q, mk)) :
    StOk P r h w o a (mk (newId h q)) { (h.set (newId h q) b) with k := h.k + 1 } := by
  have hge : 2 * h.k ≤ newId h q := by cases q <;> simp [newId]
  obtain ⟨m, e, ob, v', h1, h2, h3, h4⟩ := al_at hr ha hv (x₀ := newId h q) (by cases q <;> simp [newId] <;> omega) (hr.new _ hge)
  have hs := HR.new_ (hr.drew m) hge (Nat.le_succ _) (by cases q <;> simp [newId] <;> omega) h1 h2
  exact ⟨_, v', _, (Step.drew hr m).trans hs, h3, .inl h4⟩
end
end Ev
end Go.Proofs.YtilnneogbpnkkaaGreatDoor
/- Our own machine's stores. -/
set_option maxRecDepth 10000
namespace Go.Proofs.YtilnneogbpnkkaaGreatDoor
namespace Ev
noncomputable section
variable {P : Program} {r : Ren} {h : H} {w : World} {n : Nat} {t : T Value} {a : Act} {o : Oper} {v : Value}
theorem stN_cg (d : List Value) : ∀ (vs : List Value) (c : T Value) (f i : Nat), cg (stN c vs f) d i = if f ≤ i ∧ i < f + vs.length then vs[i - f]? else cg c d i
  | [], c, f, i => by rw [if_neg (by simp)]; rfl
  | v :: l, c, f, i => by
    simp only [stN]
    rw [stN_cg d l]
    by_cases h1 : f + 1 ≤ i ∧ i < f + 1 + l.length
    · rw [if_pos h1, if_pos (by simp; omega)]
      obtain ⟨k, rfl⟩ : ∃ k, i = f + 1 + k := ⟨i - (f + 1), by omega⟩
      rw [show f + 1 + k - (f + 1) = k by omega, show f + 1 + k - f = k + 1 by omega]
      rfl
    · rw [if_neg h1]
      by_cases h2 : i = f
      · subst h2
        rw [if_pos (by simp)]
        simp [cg, T.set_get v c (i + 1) (i + 1) (by omega)]
      · rw [if_neg (by simp; omega)]
        simp only [cg, T.set_get v c (f + 1) (i + 1) (by omega)]
        rw [if_neg (by omega)]
def wr (C : Array Value) (o : Nat) : List Value → Array Value
  | [] => C
  | v :: l => wr (C.setIfInBounds o v) (o + 1) l
theorem wr_size : ∀ (l : List Value) (C : Array Value) (o : Nat), (wr C o l).size = C.size
  | [], _, _ => rfl
  | v :: l, C, o => by simp only [wr]; rw [wr_size l]; simp
theorem wr_get : ∀ (l : List Value) (C : Array Value) (o i : Nat), o + l.length ≤ C.size → (wr C o l)[i]? = if o ≤ i ∧ i < o + l.length then l[i - o]? else C[i]?
  | [], C, o, i, _ => by rw [if_neg (by simp)]; rfl
  | v :: l, C, o, i, hs => by
    simp only [wr]
    rw [wr_get l _ _ _ (by simp at hs ⊢; omega)]
    by_cases h1 : o + 1 ≤ i ∧ i < o + 1 + l.length
    · rw [if_pos h1, if_pos (by simp; omega)]
      obtain ⟨k, rfl⟩ : ∃ k, i = o + 1 + k := ⟨i - (o + 1), by omega⟩
      rw [show o + 1 + k - (o + 1) = k by omega, show o + 1 + k - o = k + 1 by omega]
      rfl
    · rw [if_neg h1]
      by_cases h2 : i = o
      · subst h2
        rw [if_pos (by simp)]
        simp only [Nat.sub_self, List.getElem?_cons_zero]
        rw [Array.getElem?_setIfInBounds_self_of_lt (by simp at hs; omega)]
      · rw [if_neg (by simp; omega), Array.getElem?_setIfInBounds_ne (by omega)]
theorem setCell_heap {b o : Nat} {v : Value} {C : Array Value} {ty : TypeId} {f : Nat × Nat} (hb : w.heap[b]? = some (.cells C ty f)) : (w.setCell ⟨b, o, none⟩ v).heap[b]? = some (.cells (C.setIfInBounds o v) ty f) := by
  obtain ⟨hlt, he⟩ := Array.getElem?_eq_some_iff.1 hb
  show (w.heap.modify b _)[b]? = _
  rw [Array.getElem?_eq_getElem (by rw [Array.size_modify]; exact hlt), Array.getElem_modify_self, he]
  rfl
theorem setCell_heap_ne {b o k : Nat} {v : Value} (hk : k ≠ b) : (w.setCell ⟨b, o, none⟩ v).heap[k]? = w.heap[k]? := by
  show (w.heap.modify b _)[k]? = _
  by_cases hlt : k < w.heap.size
  · rw [Array.getElem?_eq_getElem (by rw [Array.size_modify]; exact hlt), Array.getElem?_eq_getElem hlt, Array.getElem_modify_of_ne (fun e => hk e.symm)]
  · rw [Array.getElem?_eq_none (by rw [Array.size_modify]; omega), Array.getElem?_eq_none (by omega)]
theorem setCells_heap {b : Nat} {ty : TypeId} {f : Nat × Nat} : ∀ (l : List Value) (o : Nat) (w : World) (C : Array Value), w.heap[b]? = some (.cells C ty f) → (w.setCells b o l).heap[b]? = some (.cells (wr C o l) ty f)
  | [], _, _, _, hb => hb
  | _v :: l, o, _w, _C, hb => setCells_heap l (o + 1) _ _ (setCell_heap hb)
theorem setCells_heap_ne {b k : Nat} (hk : k ≠ b) : ∀ (l : List Value) (o : Nat) (w : World), (w.setCells b o l).heap[k]? = w.heap[k]?
  | [], _, _ => rfl
  | _v :: l, o, _w => (setCells_heap_ne hk l (o + 1) _).trans (setCell_heap_ne hk)
theorem setCells_size {b : Nat} : ∀ (l : List Value) (o : Nat) (w : World), (w.setCells b o l).heap.size = w.heap.size
  | [], _, _ => rfl
  | v :: l, o, w => (setCells_size l (o + 1) _).trans (by show (w.heap.modify b _).size = _; simp)
theorem setCells_os {b : Nat} : ∀ (l : List Value) (o : Nat) (w : World), (w.setCells b o l).os = w.os ∧ (w.setCells b o l).tape = w.tape ∧ (w.setCells b o l).output = w.output
  | [], _, _ => ⟨rfl, rfl, rfl⟩
  | v :: l, o, w => setCells_os l (o + 1) (w.setCell ⟨b, o, none⟩ v)
theorem one_cell {v : Value} (h : one v = true) : v.oneCell' = true := by cases v <;> first | rfl | cases h
theorem VRL.all_one {l l' : List Value} (h : VRL r l l') (h1 : l.all one = true) : ∀ v ∈ l', v.oneCell' = true := by
  induction l generalizing l' with
  | nil => cases h; intro v hv; cases hv
  | cons x l ih =>
    cases h with
    | cons hx ht =>
      simp only [List.all_cons, Bool.and_eq_true] at h1
      intro v hv
      cases hv with
      | head => exact one_cell (hx.one h1.1)
      | tail _ hv => exact ih ht h1.2 v hv
/-- What a store into a block of ours promises. -/
theorem putC_ok (hr : HR r h w) {b f : Nat} {e : E} (he : r b = some e) {vs vs' : List Value} (hvs : VRL r vs vs') {h' : H} (hp : putC h b f vs = some h') :
    Step r h w r h' (w.setCells e.blk (e.base + f) vs') ∧ w.there e.blk (e.base + f) vs'.length ∧ ∀ v ∈ vs', v.oneCell' = true := by
  unfold putC at hp
  obtain ⟨hc, hp⟩ := bif_some hp
  simp only [Bool.and_eq_true] at hc
  have hlo := Nat.le_of_ble_eq_true hc.1
  split at hp
  · rename_i m c d s hb
    obtain ⟨hle, hp⟩ := bif_some hp
    simp only [Bool.and_eq_true] at hle
    have hwr := hle.2
    have hle := Nat.le_of_ble_eq_true hle.1
    simp only [Option.some.injEq] at hp
    subst hp
    obtain ⟨e', p1, hlt, C, ty, fz, p2, p3, p4, p5, p6⟩ := hr.blk b _ hb
    rw [he] at p1; cases p1
    have hlen := hvs.length
    have hbase : e.base + m ≤ C.size := by
      rw [p3]
      split at p6
      · omega
      · exact p6.1
    refine ⟨?_, fun j hj => ?_, hvs.all_one hc.2⟩
    · obtain ⟨o1, o2, o3⟩ := setCells_os (b := e.blk) vs' (e.base + f) w
      refine hr.set_ hb he hlo (setCells_size _ _ _) (fun k hk => setCells_heap_ne hk _ _ _) o1 o2 o3 ⟨wr C (e.base + f) vs', ty, fz, setCells_heap _ _ _ _ p2, by rw [wr_size]; exact p3, fun i hi => ?_, fun hw i hi => p5 hw i (by rw [wr_size] at hi; exact hi), p6⟩
      rw [stN_cg, wr_get _ _ _ _ (by omega)]
      by_cases hin : f ≤ i ∧ i < f + vs.length
      · rw [if_pos hin, if_pos (by omega)]
        obtain ⟨v', q1, q2⟩ := hvs.get (List.getElem?_eq_getElem (l := vs) (i := i - f) (by omega))
        exact ⟨_, v', List.getElem?_eq_getElem (by omega), by rw [show e.base + i - (e.base + f) = i - f by omega]; exact q1, q2⟩
      · rw [if_neg hin, if_neg (by omega)]
        exact p4 i hi
    · have hj' : e.base + f + j < C.size := by omega
      refine ⟨by simp [World.cell?, p2, hj'], ?_⟩
      simp only [World.frozen?, p2]
      have := p5 hwr (e.base + f + j) (by omega)
      simp only [Bool.and_eq_false_iff, decide_eq_false_iff_not]
      omega
  · cases hp
theorem ef_store (hr : HR r h w) (ha : AR r h n t a) {ty : TypeId} {x y : Operand} (ho : o.op = .store ty x y) {b f : Nat} (hx : evO h.g t x = some (.pointer (some ⟨b, f, none⟩))) {u : Value} (hy : evO h.g t y = some u) {i : TypeInfo} (hi : P.info? ty = some i) (hl : u.cells.toList.length = i.size)
    {h' : H} (hp : putC h b f u.cells.toList = some h') : StOk P r h w o a undef h' := by
  have h1 := evO_ok hr ha hx
  have h2 := evO_ok hr ha hy
  generalize hq : a.eval x = z at h1
  generalize hqy : a.eval y = u' at h2
  cases h1 with
  | ptr he =>
    rename_i e
    obtain ⟨hs, hth, hone⟩ := putC_ok hr he (h2.cells (evO_J hy)) hp
    have hsz : u'.cells.size = i.size := by have := (h2.cells (evO_J hy)).length; simp at this hl; omega
    have hst := run_storeCells_cells (P := P) e.blk (e.base + f) u'.cells.toList 0 w (fun j hj => by simpa using (hth j hj).1) (fun j hj => by simpa using (hth j hj).2) hone
    simp only [Nat.add_zero] at hst
    refine ⟨r, undef, _, hs, VR.of_plain r _ rfl, .inr ⟨?_, rfl⟩⟩
    simp [execOp, ho, hq, hqy, Instr.storeAt, Instr.sureAddr, storeVar, sizeOf, typeInfo, hi, hsz, hst]
end
end Ev
end Go.Proofs.YtilnneogbpnkkaaGreatDoor
/- Our own machine's appends and copies. -/
set_option maxRecDepth 10000
namespace Go.Proofs.YtilnneogbpnkkaaGreatDoor
namespace Ev
variable {P : Program} {r : Ren} {h : H} {w : World} {n : Nat} {t : T Value} {a : Act} {o : Oper} {v : Value}
theorem plainL_bytes (l : List UInt8) : plainL (l.map fun b => Value.int .u8 (b.toNat : Int)) = true := by
  induction l with
  | nil => rfl
  | cons n l ih => simpa [plainL, plain] using ih
/-- What an append's or a copy's second operand holds. -/
theorem cellsOf_ok (hr : HR r h w) {sz : Nat} {x x' : Value} (hx : VR r x x') {m : Nat} {vs : List Value} (hc : cellsOf h sz x = some (m, vs)) (h1 : vs.all one = true) {tx : TypeId} {d : TypeDesc} (htx : P.underlying tx = some d) (hd : (∃ e, d = .slice e) ∨ d = .string)
    (hk : ∀ b l c, x = .slice b l c → ∃ e, d = .slice e) (hk2 : ∀ s, x = .string s → d = .string) (h0 : ∀ l c, x = .slice none l c → l = 0) :
    ∃ vs', VRL r vs vs' ∧ Src P sz tx x' m vs' w := by
  have key : ∀ (A : Addr) (l c : Nat), x' = .slice (some A) l c → (∃ e, d = .slice e) → (∃ l', VRL r vs l' ∧ l'.length = l * sz ∧ ∀ j v, l'[j]? = some v → w.cell? (A.add j) = some v) → m = l → ∃ vs', VRL r vs vs' ∧ Src P sz tx x' m vs' w := fun A l c hx' ⟨e, hde⟩ ⟨l', p1, p2, p3⟩ hm => by
    subst hx' hm
    exact ⟨l', p1, Src.ofSlice w (by rw [htx, hde]) A m c l' p2 p3 (p1.all_one h1)⟩
  unfold cellsOf at hc
  split at hc
  · rename_i l c
    simp only [Option.some.injEq, Prod.mk.injEq] at hc
    obtain ⟨rfl, rfl⟩ := hc
    cases hx
    obtain ⟨e, hde⟩ := hk _ _ _ rfl
    have := h0 _ _ rfl
    subst this
    exact ⟨[], .nil, Src.ofNil w (e' := e) (by rw [htx, hde]) _⟩
  · rename_i b k l c
    split at hc
    · rename_i mm cs dz s hb
      obtain ⟨hle, hc⟩ := bif_some hc
      have hle := Nat.le_of_ble_eq_true hle
      split at hc
      · rename_i us hl
        simp only [Option.some.injEq, Prod.mk.injEq] at hc
        obtain ⟨rfl, rfl⟩ := hc
        have hde := hk _ _ _ rfl
        cases hx with
        | sl he _ =>
          obtain ⟨l', p1, p2, p3⟩ := ldN_ok hr hb he _ k hl hle
          exact key _ _ _ rfl hde ⟨l', p1, p2, fun j v hj => by rw [Addr.add_mid]; exact p3 j v hj⟩ rfl
        | slo he _ _ _ =>
          obtain ⟨l', p1, p2, p3⟩ := ldN_ok hr hb he _ k hl hle
          exact key _ _ _ rfl hde ⟨l', p1, p2, fun j v hj => by rw [Addr.add_mid]; exact p3 j v hj⟩ rfl
        | slk he hodd' hx' hcap' hl' =>
          rename_i c' x' e'
          by_cases hc0 : c' = 0
          · have hl0 : l = 0 := by omega
            subst hl0
            simp only [Nat.zero_mul, ldN, Option.some.injEq] at hl
            subst hl
            exact key _ _ _ rfl hde ⟨[], .nil, by simp, fun j v hj => by simp at hj⟩ rfl
          · obtain rfl := hx' hc0
            obtain ⟨l', p1, p2, p3⟩ := ldN_ok hr hb he _ k hl hle
            exact key _ _ _ rfl hde ⟨l', p1, p2, fun j v hj => by rw [Addr.add_mid]; exact p3 j v hj⟩ rfl
        | slz he _ _ =>
          simp only [Nat.zero_mul, ldN, Option.some.injEq] at hl
          subst hl
          exact key _ _ _ rfl hde ⟨[], .nil, by simp, fun j v hj => by simp at hj⟩ rfl
      · cases hc
    · cases hc
  · rename_i s
    obtain ⟨hs1, hc⟩ := bif_some hc
    have hs1 := Nat.eq_of_beq_eq_true hs1
    subst hs1
    have hc := Option.some.inj hc
    rw [Prod.mk.injEq] at hc
    obtain ⟨rfl, rfl⟩ := hc
    cases hx
    have hde := hk2 _ rfl
    subst hde
    have hS : s.data.toList.length = s.size := by rw [Array.length_toList]; rfl
    rw [hS]
    exact ⟨byteCells s, VRL.of_plain r _ (plainL_bytes _), Src.ofString w htx s⟩
  · cases hc
theorem nextslicecap_le (need cap : Nat) (h : cap < need) : Builtin.nextslicecap need cap ≤ 4 * need + 4096 := by
  have hg : ∀ (k c : Nat), c ≤ need → Builtin.growBy need k c ≤ 2 * need + 768 := fun k => by
    induction k with
    | zero => intro c hc; simp [Builtin.growBy]; omega
    | succ k ih =>
      intro c hc
      simp only [Builtin.growBy]
      split
      · omega
      · by_cases hq : c + (c + 768) / 4 ≤ need
        · exact ih _ hq
        · have : ∀ (j c' : Nat), need ≤ c' → Builtin.growBy need j c' = c' := fun j c' hc' => by
            cases j with
            | zero => rfl
            | succ j => simp [Builtin.growBy, hc']
          rw [this k _ (by omega)]
          omega
  unfold Builtin.nextslicecap
  split
  · omega
  · split
    · omega
    · have := hg 4 cap (by omega); omega
/-- A block of ours is forgotten. -/
theorem HR.del_ (hr : HR r h w) (b : Nat) : HR r (h.del b) w := by
  have hget : ∀ y c, (h.del b).get y = some c → h.get y = some c := fun y c hy => by
    rw [H.get_del] at hy
    split at hy
    · cases hy
    · exact hy
  exact ⟨fun x c hx => hr.blk x c (hget x c hx), fun x y c d e f hx hy => hr.inj x y c d e f (hget x c hx) (hget y d hy), hr.new, hr.lo, hr.gl, hr.bnd⟩
theorem Step.del (hr : HR r h w) (b : Nat) : Step r h w r (h.del b) w :=
  ⟨Ext.refl r, fun _ _ => rfl, hr.del_ b, Nat.le_refl _, rfl, rfl, Nat.le_refl _, fun k _ ho => ⟨rfl, fun ⟨y, c, f, h1, h2, h3, h4⟩ => by
    rw [H.get_del] at h1
    split at h1
    · cases h1
    · exact ho ⟨y, c, f, h1, h2, h3, h4⟩⟩, rfl, rfl, rfl⟩
/-- A block of the model's goes over from one of ours, b, to a new one. -/
theorem HR.move (hr : HR r h w) {b : Nat} {B : Blk} {e e' : E} {w' : World} {nb : Blk} (hb : h.get b = some B) (he : r b = some e) (hlo : h.lo ≤ b) (heb : e'.blk = e.blk)
    (hsz : w'.heap.size = w.heap.size) (hw : ∀ k, k ≠ e.blk → w'.heap[k]? = w.heap[k]?) (hos : w'.os = w.os ∧ w'.tape = w.tape ∧ w'.output = w.output)
    (hn : BR (r.put (2 * h.k + 1) e') (2 * h.k + 1) e' w' nb) : Step r h w (r.put (2 * h.k + 1) e') { ((h.del b).set (2 * h.k + 1) nb) with k := h.k + 1 } w' := by
  have hext : Ext r (r.put (2 * h.k + 1) e') := Ren.put_ext (hr.new _ (by omega))
  have hget : ∀ y, ({ ((h.del b).set (2 * h.k + 1) nb) with k := h.k + 1 } : H).get y = if y = 2 * h.k + 1 then some nb else if y = b then none else h.get y := fun y => by
    have : ({ ((h.del b).set (2 * h.k + 1) nb) with k := h.k + 1 } : H).get y = ((h.del b).set (2 * h.k + 1) nb).get y := rfl
    rw [this, H.get_set, H.get_del]
  have hlt : e.blk < w.heap.size := by obtain ⟨f, h1, h2, _⟩ := hr.blk b B hb; rw [he] at h1; cases h1; exact h2
  have hfar : ∀ y c f, y ≠ b → h.get y = some c → r y = some f → f.blk ≠ e.blk := fun y c f hy hc hf q => hr.inj b y B c e f hb hc he hf hlo (fun s => hy s.symm) q.symm
  refine ⟨hext, fun y hy => if_neg (by omega), ⟨?_, ?_, ?_, ?_, fun i hi => by obtain ⟨f, h1, h2⟩ := hr.gl i hi; exact ⟨f, hext _ _ h1, h2⟩, Ren.put_bnd hr.bnd (by omega) (by omega)⟩, Nat.le_succ _, rfl, rfl, by omega, ?_, hos.1, hos.2.1, hos.2.2⟩
  · intro y c hy
    rw [hget] at hy
    split at hy
    · rename_i q
      subst q
      simp only [Option.some.injEq] at hy; subst hy
      exact ⟨e', put_self _ _ _, by omega, hn⟩
    · split at hy
      · cases hy
      · rename_i q1 q2
        obtain ⟨f, h1, h2, h3⟩ := hr.blk y c hy
        exact ⟨f, hext _ _ h1, by omega, h3.same hext (hw _ (hfar y c f q2 hy h1))⟩
  · intro y z c d f g hy hz hf hg hl hne
    have cas : ∀ y c f, ({ ((h.del b).set (2 * h.k + 1) nb) with k := h.k + 1 } : H).get y = some c → r.put (2 * h.k + 1) e' y = some f → (y = 2 * h.k + 1 ∧ f.blk = e.blk) ∨ (y ≠ 2 * h.k + 1 ∧ y ≠ b ∧ h.get y = some c ∧ r y = some f) := fun y c f hy hf => by
      rw [hget] at hy
      unfold Ren.put at hf
      split at hy
      · rename_i q
        rw [if_pos q] at hf
        cases hf
        exact .inl ⟨q, heb⟩
      · rename_i q
        rw [if_neg q] at hf
        split at hy
        · cases hy
        · rename_i q2; exact .inr ⟨q, q2, hy, hf⟩
    rcases cas y c f hy hf with ⟨y1, y2⟩ | ⟨y1, y2, y3, y4⟩ <;> rcases cas z d g hz hg with ⟨z1, z2⟩ | ⟨z1, z2, z3, z4⟩
    · exact absurd (y1.trans z1.symm) hne
    · rw [y2]; exact fun q => hfar z d g z2 z3 z4 q.symm
    · rw [z2]; exact hfar y c f y2 y3 y4
    · exact hr.inj y z c d f g y3 z3 y4 z4 hl hne
  · intro y hy
    have : y ≠ 2 * h.k + 1 := by simp at hy; omega
    simp only [Ren.put, if_neg this]
    exact hr.new y (by simp at hy; omega)
  · have := hr.lo
    show h.lo ≤ 2 * (h.k + 1)
    omega
  · intro k hk ho
    have hkB : k ≠ e.blk := fun q => ho ⟨b, B, e, hb, hlo, he, q.symm⟩
    refine ⟨hw k hkB, fun ⟨y, c, f, h1, h2, h3, h4⟩ => ?_⟩
    rw [hget] at h1
    unfold Ren.put at h3
    split at h1
    · rename_i q
      rw [if_pos q] at h3
      cases h3
      exact hkB (by omega)
    · rename_i q
      rw [if_neg q] at h3
      split at h1
      · cases h1
      · exact ho ⟨y, c, f, h1, h2, h3, h4⟩
end Ev
end Go.Proofs.YtilnneogbpnkkaaGreatDoor
