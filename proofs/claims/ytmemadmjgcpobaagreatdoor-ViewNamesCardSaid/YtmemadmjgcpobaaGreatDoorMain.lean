/- ViewNames (louvrelaw36): the law returns true. Conditions: the package-level tables that the row lists hold what the program's text lays (the card ties them). -/
import Derived.Test.YtmemadmjgcpobaaGreatDoorCards
import Derived.Test.YtmemadmjgcpobaaGreatDoorTie
import Derived.Test.YtmemadmjgcpobaaGreatDoorFacts
import Derived.Test.YtmemadmjgcpobaaGreatDoorFactsB
import Derived.Test.YtmemadmjgcpobaaGreatDoorRun
import Derived.WalkKit
import Derived.ProofKit
import Derived.OpenShut
import Derived.Deep.DeepHandedRow
import Derived.Lib.LaidTab
import Derived.JoinedOf
namespace Go.Proofs.YtmemadmjgcpobaaGreatDoor
namespace viewNames
open Go.ChangeShapes Go.WideShapes Go.ChangeAt Go.RowKit

theorem own : ownKnob Tryz.prog.godebug = none := by kernel_rfl
theorem laidOut : laidOutB Tryz.prog = true := facts.laid
theorem cells_of_strs {H : Type} {enc : TypeId × Value → H} {P : Program} {w : World} {base : Nat} {sp : Nat → Bool} {held : Bool} {fuel : Nat} {t e : TypeId} {n : Nat} {cs : List Value} {zs : List (List UInt8)} {p : List MemPlace}
    (ht : P.underlying t = some (.array n e)) (he : P.underlying e = some .string) (hce : P.cellsOf e = 1) (hct : P.cellsOf t = n)
    (h : DataW.trod enc P w base sp held fuel t cs = some (.agg (zs.map fun z => .lit (.string z)), p)) : cs = zs.map fun z => Value.string ⟨⟨z⟩⟩ := by
  cases fuel with
  | zero => simp [DataW.trod] at h
  | succ fuel =>
    simp only [DataW.trod, ht, hce, hct, Nat.mul_one] at h
    split at h
    · rename_i hl
      obtain ⟨xs, hm, hx⟩ := Option.map_eq_some_iff.1 h
      have hxs : xs.map (·.1) = zs.map fun z => (DataW.lit (.string z) : DataW H) := by
        have := congrArg Prod.fst hx
        simpa using this
      have hxl : xs.length = n := by simpa using Lib.mapM_length hm
      have hzl : zs.length = n := by
        have := congrArg List.length hxs
        simp at this
        omega
      apply List.ext_getElem?
      intro i
      by_cases hi : i < n
      · obtain ⟨b, hb, hf⟩ := Lib.mapM_at hm i i (by simp [hi])
        obtain ⟨z, hc, rfl, _⟩ := DataW.trod_string he hf
        have h1 : cs[i]? = some (.string z) := by
          have := congrArg (·[0]?) hc
          simpa [List.getElem?_take, List.getElem?_drop] using this
        have h2 : (xs.map (·.1))[i]? = some (DataW.lit (.string z.data.toList) : DataW H) := by simp [hb]
        rw [hxs] at h2
        simp only [List.getElem?_map, Option.map_eq_some_iff, DataW.lit.injEq, Lit.string.injEq] at h2
        obtain ⟨z', hz', rfl⟩ := h2
        simp [h1, hz']
      · rw [List.getElem?_eq_none (by omega), List.getElem?_eq_none (by simp; omega)]
    · cases h
/-- The texts' bytes. -/
def wordsB : List (List UInt8) := [[], [35, 68, 73, 86, 47, 48, 33], [35, 86, 65, 76, 85, 69, 33], [35, 78, 85, 77, 33], [35, 78, 47, 65], [35, 82, 69, 70, 33], [35, 67, 89, 67, 76, 69, 33], [35, 68, 69, 78, 73, 69, 68]]
theorem words_laid {l : List (String × DataW Unit)} {W : World} (h : laidMet Tryz.prog (("unicode/utf8.acceptRanges", Rows.laid_unicode_utf8_acceptRanges) :: ("louvre/val.words", .agg (wordsB.map fun z => .lit (.string z))) :: l) W) : ∃ t fz, W.heap[0]? = some (.cells Ev.wordsV.toArray t fz) := by
  obtain ⟨ps, ⟨_, _, _, _, _, _, _, _, _, _, ⟨g', t', cs, fuel, p, q, hg', ht', hvar, hd, _, _⟩, _⟩, _⟩ := h
  have hg : Tryz.prog.globalNamed "louvre/val.words" = some 0 := by kernel_rfl
  have hty : (Tryz.prog.globals[0]?).map (·.type) = some 109 := by kernel_rfl
  obtain rfl := Option.some.inj (hg.symm.trans hg')
  obtain rfl := Option.some.inj (hty.symm.trans ht')
  have hcs := cells_of_strs (P := Tryz.prog) (n := 8) (e := 9) (by kernel_rfl) (by kernel_rfl) (by kernel_rfl) (by kernel_rfl) hd
  have hw : (wordsB.map fun z => Value.string ⟨⟨z⟩⟩) = Ev.wordsV := rfl
  have hcs' : cs = Ev.wordsV.toArray := by rw [← hw, ← hcs]
  rw [hcs'] at hvar
  simp only [World.var?, hg, Option.bind_some] at hvar
  split at hvar
  · rename_i C t fz hb
    simp only [Option.some.injEq] at hvar
    subst hvar
    exact ⟨t, fz, hb⟩
  · cases hvar

set_option maxRecDepth 100000 in
theorem contract (H : Type) (enc : TypeId × Value → H) (W : World) (base : Nat) (args : Array Value) (ds gs : List (DataW H)) (before : List MemPlace)
    (hval0 : ∀ (j : Nat) t v, Tryz.f3.params[j]? = some t → args[j]? = some v → Value.okWide Tryz.prog W .any base t v)
    (hW : DataW.Whole enc Tryz.prog Tryz.f3.params.toList Rows.viewNamesSpec.vars false W args.toList ds gs before)
    (hL : laidMetH Tryz.prog Rows.viewNamesRow.laid W) :
    Calls Tryz.prog 3 args W fun e W' => ∃ v, e = .returned v ∧ Rows.viewNamesSpec.post enc Tryz.prog Tryz.f3 false true false false W args v W' := by
  have hW' := hW
  obtain ⟨p, q, hA0, hV, rfl, hfz, hnd⟩ := hW
  have hA : DataW.TrodAll enc Tryz.prog W 0 (fun _ => true) true Tryz.f3.params.toList args.toList ds p := hA0
  rw [Tryz.params3] at hA
  obtain ⟨rfl, rfl, rfl⟩ := trodAll_none hA
  obtain ⟨rfl, rfl⟩ := trodVars_none hV
  have HW := words_laid (l := _) hL
  clear hA0 hval0 hL
  have hcall : Calls Tryz.prog 3 #[] W fun e w' => e = .returned (.bool true) ∧ Below W.heap.size W w' := Ev.law_run HW
  refine hcall.mono fun e W' ⟨he, bel⟩ => ?_
  subst he
  exact ⟨_, rfl, _, _, _, [], _, [], hW', trodAll_mk1 (shut_bool Tryz.underlying4 _), trodAll_mk0, rfl, bel.frame _, fun h => by cases h⟩

/-- A table's cells. -/
def litV : Lit → Value
  | .int k n => .int k n
  | .string s => .string ⟨⟨s⟩⟩
  | .bool b => .bool b
  | _ => .bool false
def layAt (g : Nat) (l : List Value) (h : Array Obj) : Array Obj := h.modify g fun
  | .cells _ t frozen => .cells l.toArray t frozen
  | o => o
def one1 : DataW Unit → List Value
  | .lit l => [litV l]
  | _ => []
def one2 : DataW Unit → List Value
  | .lit l => [litV l]
  | .agg ds => ds.flatMap one1
  | _ => []
def cells2 : DataW Unit → List Value
  | .agg ds => ds.flatMap one2
  | _ => []
/-- The tables, laid. -/
def lay6 (h : Array Obj) : Array Obj := layAt 0 (cells2 Rows.laid_louvre_val_words) (layAt 5 (cells2 Rows.laid_unicode_utf8_acceptRanges) (layAt 4 (cells2 Rows.laid_unicode_utf8_first) h))
/-- A world for the witness: the settled one, the tables holding what their initialisers lay. -/
noncomputable def laidWorld (os : Os) : World :=
  { World.holding Tryz.prog os ⟨#[], #[], []⟩ with heap := lay6 (World.holding Tryz.prog os ⟨#[], #[], []⟩).heap }
set_option maxRecDepth 100000 in
theorem laid_met (os : Os) : laidMet Tryz.prog Rows.viewNamesRow.laid ((laidWorld os).forCall (fun _ _ => 0) ⟨#[], #[], []⟩).memory :=
  laidMet_of_run' 8 (by kernel_rfl) (by kernel_rfl)
theorem reads (os : Os) {H : Type} (enc : TypeId × Value → H) : ∃ places, DataW.whole enc Tryz.prog ((laidWorld os).forCall (fun _ _ => 0) ⟨#[], #[], []⟩).memory Tryz.f3.params.toList Rows.viewNamesSpec.vars false (#[] : Array Value).toList 8 = some ([], [], places) :=
  ⟨[], by kernel_rfl⟩

set_option maxRecDepth 100000 in
theorem lifted (os : Os) (started : os.Started) (H : Type) (enc : TypeId × Value → H) (F : Stop.Interp) :
    ReturnsInHanded {} Tryz.checked os 3 .any ((OpenSpec.ofChange Rows.viewNamesSpec).preRow enc Tryz.prog Tryz.f3 Rows.viewNamesRow.domain false Rows.viewNamesRow.laid) (((OpenSpec.ofChange Rows.viewNamesSpec).at F).post enc Tryz.prog Tryz.f3 false true false false) := by
  obtain ⟨places, hx⟩ := reads os enc
  refine returnsInHanded_of_row (C := Tryz.checked) (s := OpenSpec.ofChange Rows.viewNamesSpec) own started (by kernel_rfl) Tryz.func3
    (witness_row_at (enc := enc) (C := Tryz.checked) false (laidWorld os) #[] rfl (by kernel_rfl) (by kernel_rfl) (by kernel_rfl)
      (OpenSpec.preRow_of_cond 8 hx (by kernel_rfl) (fun k hk => by cases hk) (by kernel_rfl) (laid_met os))) ?_
  intro W base args ds gs before hval hW _ _ _ hL _ _
  exact contract H enc W base args ds gs before hval hW hL
theorem closed : joinedFacts Tryz.pinned.checked.prog 3 Tryz.f3 (OpenSpec.ofChange Rows.viewNamesSpec).bare Rows.viewNamesRow = true := by
  unfold joinedFacts
  simp only [Bool.and_eq_true]
  exact ⟨⟨⟨⟨⟨⟨⟨⟨⟨⟨⟨⟨⟨⟨⟨⟨⟨⟨⟨⟨⟨⟨⟨⟨⟨⟨⟨⟨⟨⟨⟨(by as_aux_lemma => kernel_rfl), facts.laid⟩, facts.rowed⟩, (by as_aux_lemma => kernel_rfl)⟩, (by as_aux_lemma => kernel_rfl)⟩, (by as_aux_lemma => kernel_rfl)⟩, (by as_aux_lemma => kernel_rfl)⟩, (by as_aux_lemma => kernel_rfl)⟩, (by as_aux_lemma => kernel_rfl)⟩, facts.fInPlace⟩, facts.fUnfollowed⟩, facts.fRecurses⟩, facts.fNamed⟩, (by as_aux_lemma => kernel_rfl)⟩, (by as_aux_lemma => kernel_rfl)⟩, (by as_aux_lemma => kernel_rfl)⟩, (by as_aux_lemma => kernel_rfl)⟩, (by as_aux_lemma => kernel_rfl)⟩, (by as_aux_lemma => kernel_rfl)⟩, (by as_aux_lemma => kernel_rfl)⟩, (by as_aux_lemma => kernel_rfl)⟩, (by as_aux_lemma => kernel_rfl)⟩, facts.keys⟩, (by as_aux_lemma => kernel_rfl)⟩, facts.heard⟩, facts.enter⟩, facts.lift⟩, facts.make⟩, (by as_aux_lemma => kernel_rfl)⟩, (by as_aux_lemma => kernel_rfl)⟩, (by as_aux_lemma => kernel_rfl)⟩, (by as_aux_lemma => kernel_rfl)⟩

theorem said : Rows.ViewNamesSaid :=
  OpenClaim.holds_of_cond 3 Tryz.f3 rfl rfl rfl rfl rfl rfl rfl ⟨rfl, rfl, rfl, rfl, rfl⟩ rfl rfl rfl rfl rfl (by kernel_rfl) Tryz.func3 closed
    (of_decide_eq_true (by kernel_rfl)) (by unfold Func.isWrapper; first | (rw [if_pos (by decide +kernel)]; kernel_rfl) | (rw [if_neg (by decide +kernel)]; exact ⟨rfl, rfl⟩))
    (fun os started H enc _ F => by rw [OpenClaim.pre_eq_preRow]; exact lifted os started H enc F)

theorem plain (f : FuncId) (fn : Func) (hf : Tryz.pinned.checked.prog.funcNamed "louvre/louvrelaw36.ViewNames" = some f) (hfn : Tryz.pinned.checked.prog.funcs[f]? = some fn) :
    true = Tryz.pinned.checked.prog.looks [] ∧ ∀ (j : Nat) t, fn.params[j]? = some t → Tryz.pinned.checked.prog.wantsStandIn t = false := by
  obtain rfl : f = 3 := Option.some.inj ((show Tryz.prog.funcNamed "louvre/louvrelaw36.ViewNames" = some 3 by kernel_rfl).symm.trans hf) |>.symm
  obtain rfl : fn = Tryz.f3 := (Option.some.inj (Tryz.func3.symm.trans hfn)).symm
  refine ⟨by kernel_rfl, fun j t ht => ?_⟩
  rw [Tryz.params3] at ht
  simp at ht

theorem named3 : Tryz.prog.funcNamed "louvre/louvrelaw36.ViewNames" = some 3 := by kernel_rfl
/-- No body of the translation holds a go statement. -/
theorem nogo : (Tryz.prog.funcs.toList.any Func.goes) = false := by kernel_rfl
theorem goesF : Tryz.prog.goes 3 = false := by
  unfold Program.goes
  have h : ∀ g : Nat, (Tryz.prog.funcs[g]?).any Func.goes = false := fun g => by
    cases hq : Tryz.prog.funcs[g]? with
    | none => rfl
    | some fn =>
      have := List.any_eq_false.1 nogo fn (List.mem_of_getElem? (by rw [Array.getElem?_toList]; exact hq))
      simpa using this
  have h1 : ((Tryz.prog.closure 3).any fun g => (Tryz.prog.funcs[g]?).any Func.goes) = false := List.any_eq_false.2 fun g _ => by rw [h g]; simp
  rw [h1, ← Array.any_toList, nogo]
  simp
theorem goesBy : false = Rows.viewNamesRow.goesBy Tryz.pinned.checked.prog := by
  show false = ((Tryz.prog.funcNamed "louvre/louvrelaw36.ViewNames").any Tryz.prog.goes || false)
  rw [named3, Option.any_some, goesF]
  rfl
theorem wfT : Rows.viewNamesRow.wfByText (OpenSpec.ofChange Rows.viewNamesSpec) = true := by kernel_rfl
theorem mainT : Tryz.pinned.checked.prog.mainIs = some (true, "ce557836a9b3aab67199621eaf686095189240a3b9f8338e1170c33d11db356e".toList) := by kernel_rfl
/-- THE CARD. -/
theorem proved : Rows.ViewNamesCardSaid :=
  Claim7.holds_tied_plain_at .later [] _ _ _ _ said (fun _ h => by cases h) wfT (fun _ h => by cases h) viewNames_row_tie rfl ⟨rfl, rfl⟩ mainT rfl plain goesBy
#print axioms proved
end viewNames
end Go.Proofs.YtmemadmjgcpobaaGreatDoor
