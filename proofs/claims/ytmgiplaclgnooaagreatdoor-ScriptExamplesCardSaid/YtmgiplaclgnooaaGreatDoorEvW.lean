/- Our own machine's new blocks. -/
import Derived.Test.YtmgiplaclgnooaaGreatDoorEvVA
import Derived.Great.BuildSlice
import Derived.Laws.MakeOwn
import Derived.Laws.IdiomStrings
import Derived.Laws.AppendOwn
set_option maxRecDepth 10000
namespace Go.Proofs.YtmgiplaclgnooaaGreatDoor
namespace Ev
noncomputable section
variable {P : Program} {r : Ren} {h : H} {w : World} {n : Nat} {t : T Value} {a : Act} {o : Oper} {v : Value}
/-- What an operation that has ended promises. -/
def StOk (P : Program) (r : Ren) (h : H) (w : World) (o : Oper) (a : Act) (v : Value) (h' : H) : Prop :=
  ∃ r' v' w', Step r h w r' h' w' ∧ VR r' v v' ∧ ((execOp a.eval o).run P w = .ok (.value v') w' ∨ ((execOp a.eval o).run P w = .ok .skip w' ∧ v' = undef))
theorem Step.drew {r : Ren} {h : H} {w : World} (hr : HR r h w) (m : Nat) : Step r h w r h { w with drawn := m } :=
  ⟨Ext.refl r, fun _ _ => rfl, hr.drew m, Nat.le_refl _, rfl, rfl, Nat.le_refl _, fun _ _ ho => ⟨rfl, ho⟩, rfl, rfl, rfl⟩
theorem cg_e {d : List Value} {i : Nat} (hi : i < d.length) : cg .e d i = some d[i] := by
  simp only [cg, T.get_e, Nat.mod_eq_of_lt hi]
  exact List.getElem?_eq_getElem hi
/-- A new row of cells. -/
theorem br_cells (op : Bool) {x : Nat} (hx : x % 2 = bif op then 1 else 0) (hn : r x = none) {l : List Value} {C : Array Value} {e : TypeId} {f : Nat × Nat} {s : Nat} (hl : ∃ l' m, VRL r l l' ∧ C.toList = l' ++ m ∧ (op = false → m = [])) (hf : ∀ i, i < C.size → ¬ (f.1 ≤ i ∧ i < f.2)) :
    BR (r.put x ⟨w.heap.size, 0, C.size, s⟩) x ⟨w.heap.size, 0, C.size, s⟩ { w with heap := w.heap.push (.cells C e f) } (.cells l.length .e l s) := by
  obtain ⟨l', m, h1, h2, h3⟩ := hl
  have hext : Ext r (r.put x ⟨w.heap.size, 0, C.size, s⟩) := Ren.put_ext hn
  have hsz : C.size = l.length + m.length := by have := congrArg List.length h2; simp at this; rw [this, h1.length]
  refine ⟨C, e, f, by simp, rfl, fun i hi => ?_, fun _ => hf, ?_⟩
  · obtain ⟨v', q1, q2⟩ := h1.get (List.getElem?_eq_getElem hi)
    refine ⟨l[i], v', cg_e hi, ?_, q2.ext hext⟩
    have : C.toList[i]? = some v' := by rw [h2, List.getElem?_append_left (by rw [h1.length]; exact hi)]; exact q1
    simpa using this
  · cases op with
    | false =>
      have := h3 rfl
      subst this
      have hx : x % 2 = 0 := hx
      simp [hsz, hx]
    | true =>
      have hx : x % 2 = 1 := hx
      rw [if_neg (by omega)]
      simp [hsz]
theorem new_cells (hr : HR r h w) (op : Bool) {l : List Value} {C : Array Value} {e : TypeId} {f : Nat × Nat} {s : Nat} (hl : ∃ l' m, VRL r l l' ∧ C.toList = l' ++ m ∧ (op = false → m = [])) (hf : ∀ i, i < C.size → ¬ (f.1 ≤ i ∧ i < f.2)) :
    Step r h w (r.put (bif op then 2 * h.k + 1 else 2 * h.k) ⟨w.heap.size, 0, C.size, s⟩) { (h.set (bif op then 2 * h.k + 1 else 2 * h.k) (.cells l.length .e l s)) with k := h.k + 1 } { w with heap := w.heap.push (.cells C e f) } :=
  HR.new_ hr (by cases op <;> simp) (by omega) (by cases op <;> simp <;> omega) rfl (br_cells op (by cases op <;> simp <;> omega) (hr.new _ (by cases op <;> simp)) hl hf)
theorem new_other (hr : HR r h w) {b : Blk} {ob : Obj} (hb : BR (r.put (2 * h.k) ⟨w.heap.size, 0, 0, 0⟩) (2 * h.k) ⟨w.heap.size, 0, 0, 0⟩ { w with heap := w.heap.push ob } b) :
    Step r h w (r.put (2 * h.k) ⟨w.heap.size, 0, 0, 0⟩) { (h.set (2 * h.k) b) with k := h.k + 1 } { w with heap := w.heap.push ob } :=
  HR.new_ hr (Nat.le_refl _) (by omega) (by omega) rfl hb
theorem put_self (r : Ren) (x : Nat) (e : E) : r.put x e x = some e := by simp [Ren.put]
def newId (h : H) (q : Bool) : Nat := bif q then 2 * h.k + 1 else 2 * h.k
theorem al_at (hr : HR r h w) (ha : AR r h n t a) {b : Blk} {q : Bool} {mk : Nat → Value} (hv : al P h t o = some (b, q, mk)) {x₀ : Nat} (hx₀ : x₀ % 2 = bif q then 1 else 0) (hn : r x₀ = none) :
    ∃ m e ob v', e.blk = w.heap.size ∧ BR (r.put x₀ e) x₀ e { w with drawn := m, heap := w.heap.push ob } b ∧ VR (r.put x₀ e) (mk x₀) v' ∧ (execOp a.eval o).run P w = .ok (.value v') { w with drawn := m, heap := w.heap.push ob } := by
  unfold al at hv
  simp only [inf_eq, und_eq] at hv
  split at hv
  · rename_i e ho
    split at hv
    · rename_i i hi
      split at hv
      · rename_i z hz
        obtain ⟨hp, hv⟩ := bif_some hv
        cases hv
        have hs := br_cells (w := w) (s := 0) false hx₀ hn (l := z.cells.toList) (C := z.cells) (e := e) (f := (0, 0)) ⟨_, [], VRL.of_plain r _ hp, by simp, fun _ => rfl⟩ (by simp)
        have hzr : (zeroValue e).run P w = .ok z w := by simp [zeroValue, typeInfo, hi, hz]
        refine ⟨w.drawn, _, _, _, rfl, hs, .ptr (put_self _ _ _), ?_⟩
        simp [execOp, ho, Instr.alloc, hzr, newVar, newRow]
      · cases hv
    · cases hv
  · rename_i e x ho
    split at hv
    · rename_i u hx
      cases hv
      have hs := br_cells (w := w) (s := 0) false hx₀ hn (l := u.cells.toList) (C := (a.eval x).cells) (e := e) (f := (0, 0)) ⟨_, [], (evO_ok hr ha hx).cells, by simp, fun _ => rfl⟩ (by simp)
      refine ⟨w.drawn, _, _, _, rfl, hs, .ptr (put_self _ _ _), ?_⟩
      simp [execOp, ho, Instr.box, newVar, newRow]
    · cases hv
  · rename_i ty len parts ho
    split at hv
    · rename_i e hu
      split at hv
      · rename_i i hi
        cases hl0 : Nat.beq len 0 with
        | true =>
          rw [hl0] at hv
          simp only [cond_true] at hv
          split at hv
          · rename_i hp0
            cases hv
            have hl0 := Nat.eq_of_beq_eq_true hl0
            subst hl0
            have hp0' : parts = #[] := by simpa using hp0
            subst hp0'
            have hs := br_cells (w := w) (s := 0) false hx₀ hn (l := []) (C := #[]) (e := e) (f := (0, 0)) ⟨[], [], .nil, rfl, fun _ => rfl⟩ (by simp)
            refine ⟨w.drawn, _, _, _, rfl, hs, .sl (put_self _ _ _) hx₀, ?_⟩
            simp [execOp, ho, Instr.buildSlice, run_underlying hu, sizeOf, typeInfo, hi, Instr.fill, newRow]
            congr 2
            exact Array.eq_empty_of_size_eq_zero (by simp)
          · cases hv
        | false =>
        rw [hl0] at hv
        simp only [cond_false] at hv
        split at hv
        · rename_i z hz
          split at hv
          · rename_i vs hvs
            obtain ⟨hp, hv⟩ := bif_some hv
            split at hv
            · rename_i cs hfill
              cases hv
              simp only [Bool.and_eq_true, Bool.not_eq_true'] at hp
              obtain ⟨⟨⟨hp, hlen⟩, hle⟩, hpos⟩ := hp
              have hzl := Nat.eq_of_beq_eq_true hlen
              have hpr := evL_parts hr ha hvs
              have hz0 : VRL r ((Array.range (len * i.size)).map (z.cells[· % z.cells.size]!)).toList ((Array.range (len * i.size)).map (z.cells[· % z.cells.size]!)).toList := by
                refine VRL.of_plain r _ ?_
                have hall : ∀ (l : List Value), (∀ x ∈ l, plain x = true) → plainL l = true := fun l => by
                  induction l with
                  | nil => intro _; rfl
                  | cons y l ih => intro hh; simp [plainL, hh y (by simp), ih (fun x hx => hh x (by simp [hx]))]
                have hall' : ∀ (l : List Value), plainL l = true → ∀ x ∈ l, plain x = true := fun l => by
                  induction l with
                  | nil => intro _ x hx; cases hx
                  | cons y l ih =>
                    intro hh x hx
                    simp only [plainL, Bool.and_eq_true] at hh
                    cases hx with
                    | head => exact hh.1
                    | tail _ hx => exact ih hh.2 x hx
                refine hall _ fun x hx => ?_
                simp only [Array.toList_map, List.mem_map] at hx
                obtain ⟨k, hk, rfl⟩ := hx
                have hzs : z.cells.size = i.size := by simpa using hzl
                have hi0 : 0 < i.size := by
                  rcases Nat.eq_zero_or_pos i.size with q | q
                  · have := ne_of_beq hpos; rw [q] at this; simp at this
                  · exact q
                have hlt : k % z.cells.size < z.cells.size := Nat.mod_lt _ (by omega)
                rw [getElem!_pos z.cells _ hlt]
                exact hall' _ hp _ (by simp)
              obtain ⟨cs', h1, h2⟩ := fill_ok _ hpr hz0 hfill
              have hs := br_cells (w := w) (s := 0) false hx₀ hn (l := cs.toList) (C := cs') (e := e) (f := (0, 0)) ⟨_, [], h2, by simp, fun _ => rfl⟩ (by simp)
              have hcs : cs.toList.length = len * i.size := by
                have hfl : ∀ (place : Nat → Option (Nat × Nat)) (ps : List (Nat × Value)) (A B : Array Value), Instr.fill place A ps = some B → B.size = A.size := fun place ps => by
                  induction ps with
                  | nil => intro A B hB; simp only [Instr.fill, Option.some.injEq] at hB; rw [hB]
                  | cons p l ih =>
                    intro A B hB
                    obtain ⟨j, u⟩ := p
                    simp only [Instr.fill] at hB
                    split at hB
                    · cases hB
                    · split at hB
                      · cases hB
                      · have hfold : ∀ (off : Nat) (l : List (Value × Nat)) (A : Array Value), (l.foldl (fun cs (x : Value × Nat) => cs.setIfInBounds (off + x.2) x.1) A).size = A.size := fun off l => by
                          induction l with
                          | nil => intro A; rfl
                          | cons y l ih => intro A; simp only [List.foldl_cons]; rw [ih]; simp
                        rw [ih _ _ hB, ← Array.foldl_toList]
                        exact hfold _ _ _
                have := hfl _ _ _ _ hfill
                simpa using this
              rw [hcs] at hs
              have e' : (parts.map fun (p : Nat × Operand) => (p.1, a.eval p.2)).toList = parts.toList.map fun p => (p.1, a.eval p.2) := by simp
              have hrun := run_buildSlice (P := P) w ty e len (parts.map fun (p : Nat × Operand) => (p.1, a.eval p.2)) cs' i z hu hi hz (by have := Nat.le_of_ble_eq_true hle; omega) (ne_of_beq hpos) (by rw [e']; exact h1)
              refine ⟨w.drawn, _, _, _, rfl, hs, .sl (put_self _ _ _) hx₀, ?_⟩
              simp [execOp, ho, hrun]
            · cases hv
          · cases hv
        · cases hv
      · cases hv
    · cases hv
  · rename_i ty l c ho
    split at hv
    · rename_i kl l kc c hl hc
      split at hv
      · rename_i e hu
        split at hv
        · rename_i i hi
          split at hv
          · rename_i z hz
            obtain ⟨hp, hv⟩ := bif_some hv
            cases hv
            simp only [Bool.and_eq_true, Bool.not_eq_true'] at hp
            obtain ⟨⟨⟨⟨⟨hp, hlen⟩, hlc⟩, hb⟩, hc1⟩, hpos⟩ := hp
            have hzl : z.cells.size = i.size := by simpa using Nat.eq_of_beq_eq_true hlen
            have hlc := Nat.le_of_ble_eq_true hlc
            have hb := Nat.le_of_ble_eq_true hb
            have hc1 := Nat.le_of_ble_eq_true hc1
            have hi0 := ne_of_beq hpos
            have h1 := evO_ok hr ha hl
            have h2 := evO_ok hr ha hc
            generalize hql : a.eval _ = zl at h1
            generalize hqc : a.eval _ = zc at h2
            cases h1; cases h2
            have hbi : (i.bytes : Int) * (c : Int) ≤ 281474976710656 := by rw [← Int.natCast_mul]; omega
            have hrun := run_make (P := P) w ty e i z hu hi hz kl kc (l : Int) (c : Int) (by omega) (by omega) hbi (by omega)
            simp only [Int.toNat_natCast] at hrun
            have hC : (madeCells z.cells (c * i.size)).size = c * i.size := size_madeCells _ _
            refine ⟨w.drawn, ⟨w.heap.size, 0, c * i.size, 0⟩, .cells (madeCells z.cells (c * i.size)) e, _, rfl, ?_, .sl (put_self _ _ _) hx₀, by simp [execOp, ho, hql, hqc, hrun]⟩
            refine ⟨madeCells z.cells (c * i.size), e, (0, 0), by simp, hC, fun j hj => ?_, fun _ => by simp, by have hx₀ : x₀ % 2 = 0 := hx₀; simp [hx₀]⟩
            have hlt : j % z.cells.size < z.cells.size := Nat.mod_lt _ (by omega)
            have hcell : cg .e z.cells.toList j = some z.cells[j % z.cells.size] := by
              simp only [cg, T.get_e, Array.length_toList]
              simp [hlt]
            refine ⟨_, _, hcell, by simp [madeCells, hj, hlt], VR.of_plain _ _ ?_⟩
            have hall' : ∀ (l : List Value), plainL l = true → ∀ x ∈ l, plain x = true := fun l => by
              induction l with
              | nil => intro _ x hx; cases hx
              | cons y l ih =>
                intro hh x hx
                simp only [plainL, Bool.and_eq_true] at hh
                cases hx with
                | head => exact hh.1
                | tail _ hx => exact ih hh.2 x hx
            exact hall' _ hp _ (by simp)
          · cases hv
        · cases hv
      · cases hv
    · cases hv
  · rename_i ty ho
    cases hv
    refine ⟨w.drawn, ⟨w.heap.size, 0, 0, 0⟩, .map #[] 0, _, rfl, ⟨#[], by simp, .nil⟩, .map (put_self _ _ _), ?_⟩
    simp [execOp, ho, Instr.makeMap]
  · rename_i sr d x ho
    split at hv
    · rename_i s hx
      split at hv
      · rename_i e hsr hd
        split at hv
        · rename_i he
          cases hv
          have h1 := evO_ok hr ha hx
          generalize hq : a.eval x = z at h1
          cases h1
          have hcap := grownCap_ge w s.size 0 e
          have hS : s.size = s.data.toList.length := by show s.data.size = _; rw [Array.length_toList]
          have hsz : (bytesRow s (grownCap w s.size 0 e)).size = grownCap w s.size 0 e := by
            unfold bytesRow
            rw [Array.size_append, Array.size_map, Array.size_replicate]
            have : s.data.size = s.size := rfl
            omega
          have hs := br_cells (w := { w with drawn := w.drawn + 1 }) (s := 1) true hx₀ hn (l := s.data.toList.map fun b => .int .u8 b.toNat) (C := bytesRow s (grownCap w s.size 0 e)) (e := e) (f := ((bytesRow s (grownCap w s.size 0 e)).size, (bytesRow s (grownCap w s.size 0 e)).size + 1))
            ⟨s.data.toList.map fun b => .int .u8 b.toNat, List.replicate (grownCap w s.size 0 e - s.size) (.int .u8 0), VRL.of_plain r _ (by induction s.data.toList with | nil => rfl | cons y l ih => simpa [plainL, plain] using ih), by simp [bytesRow], fun q => by cases q⟩ (fun i hi => by omega)
          rw [List.length_map] at hs
          refine ⟨w.drawn + 1, _, _, _, rfl, hs, .slo (put_self _ _ _) hx₀ (c := grownCap w s.size 0 e) (by simp [hsz]) (by rw [← hS]; exact hcap), ?_⟩
          have hrun := run_bytes_of_string (P := P) w sr d e s hsr hd he
          simp only [execOp, ho, hq, Sem.run_bind, hrun, Result.andThen_ok, Sem.run_pure]
          rw [hS]
          rfl
        · cases hv
      · cases hv
    · cases hv
  · rename_i ty x ho
    split at hv
    · rename_i s hu hx
      cases hv
      have h1 := evO_ok hr ha hx
      generalize hq : a.eval x = z at h1
      cases h1
      have hs : BR (r.put x₀ ⟨w.heap.size, 0, 0, 0⟩) x₀ ⟨w.heap.size, 0, 0, 0⟩ { w with heap := w.heap.push (.stringIter s 0) } (.sit s 0) := ⟨rfl, by simp⟩
      refine ⟨w.drawn, _, _, _, rfl, hs, .ptr (put_self _ _ _), ?_⟩
      simp [execOp, ho, hq, Instr.range, run_underlying hu]
    · cases hv
  · cases hv
theorem al_ok (hr : HR r h w) (ha : AR r h n t a) {b : Blk} {q : Bool} {mk : Nat → Value} (hv : al P h t o = some (b, q, mk)) :
    StOk P r h w o a (mk (newId h q)) { (h.set (newId h q) b) with k := h.k + 1 } := by
  have hge : 2 * h.k ≤ newId h q := by cases q <;> simp [newId]
  obtain ⟨m, e, ob, v', h1, h2, h3, h4⟩ := al_at hr ha hv (x₀ := newId h q) (by cases q <;> simp [newId] <;> omega) (hr.new _ hge)
  have hs := HR.new_ (hr.drew m) hge (Nat.le_succ _) (by cases q <;> simp [newId] <;> omega) h1 h2
  exact ⟨_, v', _, (Step.drew hr m).trans hs, h3, .inl h4⟩
end
end Ev
end Go.Proofs.YtmgiplaclgnooaaGreatDoor
