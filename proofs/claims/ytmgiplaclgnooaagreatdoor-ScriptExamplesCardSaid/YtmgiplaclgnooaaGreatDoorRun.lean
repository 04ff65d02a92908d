/- ScriptExamples: the law's run. -/
import Derived.Test.YtmgiplaclgnooaaGreatDoorRows
import Derived.Test.YtmgiplaclgnooaaGreatDoorEvFE
namespace Go.Proofs.YtmgiplaclgnooaaGreatDoor
open Go.RowKit
theorem law_mixed : Tryz.prog.follows .mixedOrders = true := by kernel_rfl
theorem law_names : (Tryz.prog.funcs.toList.all fun fn => !(fn.name == "runtime.NumGoroutine")) = true := by kernel_rfl
theorem law_yes : Ev.yes (Ev.callFF Tryz.prog (Ev.mkT Tryz.prog.funcs.toList 1 .e) (Ev.fast Tryz.prog (Ev.mkT Tryz.prog.funcs.toList 1 .e) 100000) 3 [] Ev.H0) = true := by kernel_rfl
theorem law_run {W : World} (hW : ∃ t fz, W.heap[1]? = some (.cells Ev.wordsV.toArray t fz)) : Calls Tryz.prog 3 #[] W fun e w' => e = .returned (.bool true) ∧ Below W.heap.size W w' := by
  obtain ⟨h', hr⟩ := Ev.yes_ok law_yes
  exact Ev.closed_ok law_mixed (Ev.noNG_of law_names) hW hr
end Go.Proofs.YtmgiplaclgnooaaGreatDoor
