/- The law's run. -/
import Derived.Test.YtbeebgdnnedabaaGreatDoorK0
import Derived.Test.YtbeebgdnnedabaaGreatDoorK1
import Derived.Test.YtbeebgdnnedabaaGreatDoorK2
import Derived.Test.YtbeebgdnnedabaaGreatDoorK3
import Derived.Test.YtbeebgdnnedabaaGreatDoorK4
import Derived.Test.YtbeebgdnnedabaaGreatDoorK5
import Derived.Test.YtbeebgdnnedabaaGreatDoorK6
import Derived.Test.YtbeebgdnnedabaaGreatDoorK7
import Derived.Test.YtbeebgdnnedabaaGreatDoorK8
import Derived.Test.YtbeebgdnnedabaaGreatDoorK9
import Derived.Test.YtbeebgdnnedabaaGreatDoorK10
import Derived.Test.YtbeebgdnnedabaaGreatDoorKL
set_option maxRecDepth 100000
namespace Go.Proofs.YtbeebgdnnedabaaGreatDoor
noncomputable section
namespace Ev
theorem law_mixed : Tryz.prog.follows .mixedOrders = true := by kernel_rfl
theorem law_names : (Tryz.prog.funcs.toList.all fun fn => !(fn.name == "runtime.NumGoroutine")) = true := by kernel_rfl
theorem htab : ∀ f fn, tab.get (f + 1) = some fn → Tryz.prog.funcs[f]? = some fn := mkT_tab Tryz.prog
theorem good_0 : ∀ c ∈ l_0, c.Good Tryz.prog := fun c h => by cases h
theorem good_1 : ∀ c ∈ l_1, c.Good Tryz.prog := fun c h => by
  rcases List.mem_append.1 h with h | h
  · exact good_0 c h
  · simp only [List.mem_cons, List.mem_nil_iff, or_false] at h
    rcases h with rfl | rfl | rfl | rfl
    · exact MC.ofN htab (noNG_of law_names) (ways_ok law_mixed (noNG_of law_names) htab (ovA_ok law_mixed (noNG_of law_names) htab (ovM_ok (mkM_ok _ _ good_0 goodT_e)) 58 100000) 100000 _) w_6024
    · exact MC.ofN htab (noNG_of law_names) (ways_ok law_mixed (noNG_of law_names) htab (ovA_ok law_mixed (noNG_of law_names) htab (ovM_ok (mkM_ok _ _ good_0 goodT_e)) 58 100000) 100000 _) w_6450
    · exact MC.ofN htab (noNG_of law_names) (ways_ok law_mixed (noNG_of law_names) htab (ovA_ok law_mixed (noNG_of law_names) htab (ovM_ok (mkM_ok _ _ good_0 goodT_e)) 58 100000) 100000 _) w_15247
    · exact MC.ofN htab (noNG_of law_names) (ways_ok law_mixed (noNG_of law_names) htab (ovA_ok law_mixed (noNG_of law_names) htab (ovM_ok (mkM_ok _ _ good_0 goodT_e)) 58 100000) 100000 _) w_21729
theorem good_2 : ∀ c ∈ l_2, c.Good Tryz.prog := fun c h => by
  rcases List.mem_append.1 h with h | h
  · exact good_1 c h
  · exact allHold_ok (mach_ok law_mixed (noNG_of law_names) htab (ovM_ok (mkM_ok _ _ good_1 goodT_e)) 58 100000) _ k_1 c h
theorem good_3 : ∀ c ∈ l_3, c.Good Tryz.prog := fun c h => by
  rcases List.mem_append.1 h with h | h
  · exact good_2 c h
  · exact allHold_ok (mach_ok law_mixed (noNG_of law_names) htab (ovM_ok (mkM_ok _ _ good_2 goodT_e)) 58 100000) _ k_2 c h
theorem good_4 : ∀ c ∈ l_4, c.Good Tryz.prog := fun c h => by
  rcases List.mem_append.1 h with h | h
  · exact good_3 c h
  · exact allHold_ok (mach_ok law_mixed (noNG_of law_names) htab (ovM_ok (mkM_ok _ _ good_3 goodT_e)) 58 100000) _ k_3 c h
theorem good_5 : ∀ c ∈ l_5, c.Good Tryz.prog := fun c h => by
  rcases List.mem_append.1 h with h | h
  · exact good_4 c h
  · exact allHold_ok (mach_ok law_mixed (noNG_of law_names) htab (ovM_ok (mkM_ok _ _ good_4 goodT_e)) 58 100000) _ k_4 c h
theorem good_6 : ∀ c ∈ l_6, c.Good Tryz.prog := fun c h => by
  rcases List.mem_append.1 h with h | h
  · exact good_5 c h
  · exact allHold_ok (mach_ok law_mixed (noNG_of law_names) htab (ovM_ok (mkM_ok _ _ good_5 goodT_e)) 58 100000) _ k_5 c h
theorem good_7 : ∀ c ∈ l_7, c.Good Tryz.prog := fun c h => by
  rcases List.mem_append.1 h with h | h
  · exact good_6 c h
  · exact allHold_ok (mach_ok law_mixed (noNG_of law_names) htab (ovM_ok (mkM_ok _ _ good_6 goodT_e)) 58 100000) _ k_6 c h
theorem good_8 : ∀ c ∈ l_8, c.Good Tryz.prog := fun c h => by
  rcases List.mem_append.1 h with h | h
  · exact good_7 c h
  · exact allHold_ok (mach_ok law_mixed (noNG_of law_names) htab (ovM_ok (mkM_ok _ _ good_7 goodT_e)) 58 100000) _ k_7 c h
theorem good_9 : ∀ c ∈ l_9, c.Good Tryz.prog := fun c h => by
  rcases List.mem_append.1 h with h | h
  · exact good_8 c h
  · exact allHold_ok (mach_ok law_mixed (noNG_of law_names) htab (ovM_ok (mkM_ok _ _ good_8 goodT_e)) 58 100000) _ k_8 c h
theorem good_10 : ∀ c ∈ l_10, c.Good Tryz.prog := fun c h => by
  rcases List.mem_append.1 h with h | h
  · exact good_9 c h
  · exact allHold_ok (mach_ok law_mixed (noNG_of law_names) htab (ovM_ok (mkM_ok _ _ good_9 goodT_e)) 58 100000) _ k_9 c h
theorem good_11 : ∀ c ∈ l_11, c.Good Tryz.prog := fun c h => by
  rcases List.mem_append.1 h with h | h
  · exact good_10 c h
  · exact allHold_ok (mach_ok law_mixed (noNG_of law_names) htab (ovM_ok (mkM_ok _ _ good_10 goodT_e)) 58 100000) _ k_10 c h
theorem law_run {W : World} (hW : ∃ t fz, W.heap[0]? = some (.cells wordsV.toArray t fz)) : Calls Tryz.prog 3 #[] W fun e w' => e = .returned (.bool true) ∧ RowKit.Below W.heap.size W w' := by
  obtain ⟨h', hr⟩ := yes_ok law
  exact closed_of (mach_ok law_mixed (noNG_of law_names) htab (ovM_ok (mkM_ok _ _ good_11 goodT_e)) 58 100000) hW hr
end Ev
end
end Go.Proofs.YtbeebgdnnedabaaGreatDoor
