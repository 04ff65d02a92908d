/- The law's run. -/
import Derived.Test.YtfhilhjdlkhilaaGreatDoorK0
import Derived.Test.YtfhilhjdlkhilaaGreatDoorK1
import Derived.Test.YtfhilhjdlkhilaaGreatDoorK2
import Derived.Test.YtfhilhjdlkhilaaGreatDoorK3
import Derived.Test.YtfhilhjdlkhilaaGreatDoorK4
import Derived.Test.YtfhilhjdlkhilaaGreatDoorK5
import Derived.Test.YtfhilhjdlkhilaaGreatDoorK6
import Derived.Test.YtfhilhjdlkhilaaGreatDoorK7
import Derived.Test.YtfhilhjdlkhilaaGreatDoorK8
import Derived.Test.YtfhilhjdlkhilaaGreatDoorK9
import Derived.Test.YtfhilhjdlkhilaaGreatDoorK10
import Derived.Test.YtfhilhjdlkhilaaGreatDoorKL
set_option maxRecDepth 100000
namespace Go.Proofs.YtfhilhjdlkhilaaGreatDoor
noncomputable section
namespace Ev
theorem law_mixed : Tryz.prog.follows .mixedOrders = true := by kernel_rfl
theorem law_names : (Tryz.prog.funcs.toList.all fun fn => !(fn.name == "runtime.NumGoroutine")) = true := by kernel_rfl
theorem htab : ∀ f fn, tab.get (f + 1) = some fn → Tryz.prog.funcs[f]? = some fn := mkT_tab Tryz.prog
theorem good_0 : ∀ c ∈ l_0, c.Good Tryz.prog := fun c h => by cases h
theorem good_1 : ∀ c ∈ l_1, c.Good Tryz.prog := fun c h => by
  rcases List.mem_append.1 h with h | h
  · exact good_0 c h
  · simp only [List.mem_cons, List.mem_nil_iff, or_false] at h
    rcases h with rfl | rfl | rfl | rfl
    · exact MC.ofN htab (noNG_of law_names) (ways_ok law_mixed (noNG_of law_names) htab (ovA_ok law_mixed (noNG_of law_names) htab (ovM_ok (mkM_ok _ _ good_0 goodT_e)) 111 100000) 100000 _) w_4552
    · exact MC.ofN htab (noNG_of law_names) (ways_ok law_mixed (noNG_of law_names) htab (ovA_ok law_mixed (noNG_of law_names) htab (ovM_ok (mkM_ok _ _ good_0 goodT_e)) 111 100000) 100000 _) w_34191
    · exact MC.ofN htab (noNG_of law_names) (ways_ok law_mixed (noNG_of law_names) htab (ovA_ok law_mixed (noNG_of law_names) htab (ovM_ok (mkM_ok _ _ good_0 goodT_e)) 111 100000) 100000 _) w_77509
    · exact MC.ofN htab (noNG_of law_names) (ways_ok law_mixed (noNG_of law_names) htab (ovA_ok law_mixed (noNG_of law_names) htab (ovM_ok (mkM_ok _ _ good_0 goodT_e)) 111 100000) 100000 _) w_109428
theorem good_2 : ∀ c ∈ l_2, c.Good Tryz.prog := fun c h => by
  rcases List.mem_append.1 h with h | h
  · exact good_1 c h
  · exact allHold_ok (mach_ok law_mixed (noNG_of law_names) htab (ovM_ok (mkM_ok _ _ good_1 goodT_e)) 111 100000) _ k_1 c h
theorem good_3 : ∀ c ∈ l_3, c.Good Tryz.prog := fun c h => by
  rcases List.mem_append.1 h with h | h
  · exact good_2 c h
  · exact allHold_ok (mach_ok law_mixed (noNG_of law_names) htab (ovM_ok (mkM_ok _ _ good_2 goodT_e)) 111 100000) _ k_2 c h
theorem good_4 : ∀ c ∈ l_4, c.Good Tryz.prog := fun c h => by
  rcases List.mem_append.1 h with h | h
  · exact good_3 c h
  · exact allHold_ok (mach_ok law_mixed (noNG_of law_names) htab (ovM_ok (mkM_ok _ _ good_3 goodT_e)) 111 100000) _ k_3 c h
theorem good_5 : ∀ c ∈ l_5, c.Good Tryz.prog := fun c h => by
  rcases List.mem_append.1 h with h | h
  · exact good_4 c h
  · exact allHold_ok (mach_ok law_mixed (noNG_of law_names) htab (ovM_ok (mkM_ok _ _ good_4 goodT_e)) 111 100000) _ k_4 c h
theorem good_6 : ∀ c ∈ l_6, c.Good Tryz.prog := fun c h => by
  rcases List.mem_append.1 h with h | h
  · exact good_5 c h
  · exact allHold_ok (mach_ok law_mixed (noNG_of law_names) htab (ovM_ok (mkM_ok _ _ good_5 goodT_e)) 111 100000) _ k_5 c h
theorem good_7 : ∀ c ∈ l_7, c.Good Tryz.prog := fun c h => by
  rcases List.mem_append.1 h with h | h
  · exact good_6 c h
  · exact allHold_ok (mach_ok law_mixed (noNG_of law_names) htab (ovM_ok (mkM_ok _ _ good_6 goodT_e)) 111 100000) _ k_6 c h
theorem good_8 : ∀ c ∈ l_8, c.Good Tryz.prog := fun c h => by
  rcases List.mem_append.1 h with h | h
  · exact good_7 c h
  · exact allHold_ok (mach_ok law_mixed (noNG_of law_names) htab (ovM_ok (mkM_ok _ _ good_7 goodT_e)) 111 100000) _ k_7 c h
theorem good_9 : ∀ c ∈ l_9, c.Good Tryz.prog := fun c h => by
  rcases List.mem_append.1 h with h | h
  · exact good_8 c h
  · exact allHold_ok (mach_ok law_mixed (noNG_of law_names) htab (ovM_ok (mkM_ok _ _ good_8 goodT_e)) 111 100000) _ k_8 c h
theorem good_10 : ∀ c ∈ l_10, c.Good Tryz.prog := fun c h => by
  rcases List.mem_append.1 h with h | h
  · exact good_9 c h
  · exact allHold_ok (mach_ok law_mixed (noNG_of law_names) htab (ovM_ok (mkM_ok _ _ good_9 goodT_e)) 111 100000) _ k_9 c h
theorem good_11 : ∀ c ∈ l_11, c.Good Tryz.prog := fun c h => by
  rcases List.mem_append.1 h with h | h
  · exact good_10 c h
  · exact allHold_ok (mach_ok law_mixed (noNG_of law_names) htab (ovM_ok (mkM_ok _ _ good_10 goodT_e)) 111 100000) _ k_10 c h
theorem good_12 : ∀ c ∈ l_12, c.Good Tryz.prog := fun c h => by
  rcases List.mem_append.1 h with h | h
  · exact good_11 c h
  · exact allHold_ok (mach_ok law_mixed (noNG_of law_names) htab (ovM_ok (mkM_ok _ _ good_11 goodT_e)) 111 100000) _ k_11 c h
theorem good_13 : ∀ c ∈ l_13, c.Good Tryz.prog := fun c h => by
  rcases List.mem_append.1 h with h | h
  · exact good_12 c h
  · exact allHold_ok (mach_ok law_mixed (noNG_of law_names) htab (ovM_ok (mkM_ok _ _ good_12 goodT_e)) 111 100000) _ k_12 c h
theorem good_14 : ∀ c ∈ l_14, c.Good Tryz.prog := fun c h => by
  rcases List.mem_append.1 h with h | h
  · exact good_13 c h
  · exact allHold_ok (mach_ok law_mixed (noNG_of law_names) htab (ovM_ok (mkM_ok _ _ good_13 goodT_e)) 111 100000) _ k_13 c h
theorem good_15 : ∀ c ∈ l_15, c.Good Tryz.prog := fun c h => by
  rcases List.mem_append.1 h with h | h
  · exact good_14 c h
  · simp only [List.mem_cons, List.mem_nil_iff, or_false] at h
    rcases h with rfl | rfl | rfl | rfl
    · exact allHold_ok (mach_ok law_mixed (noNG_of law_names) htab (ovM_ok (mkM_ok _ _ good_14 goodT_e)) 111 100000) _ k_14 _ (by simp)
    · exact MC.ofN htab (noNG_of law_names) (ways_ok law_mixed (noNG_of law_names) htab (ovA_ok law_mixed (noNG_of law_names) htab (ovM_ok (mkM_ok _ _ good_14 goodT_e)) 111 100000) 100000 _) w_114736
    · exact MC.ofN htab (noNG_of law_names) (ways_ok law_mixed (noNG_of law_names) htab (ovA_ok law_mixed (noNG_of law_names) htab (ovM_ok (mkM_ok _ _ good_14 goodT_e)) 111 100000) 100000 _) w_114755
    · exact MC.ofN htab (noNG_of law_names) (ways_ok law_mixed (noNG_of law_names) htab (ovA_ok law_mixed (noNG_of law_names) htab (ovM_ok (mkM_ok _ _ good_14 goodT_e)) 111 100000) 100000 _) w_114798
theorem good_16 : ∀ c ∈ l_16, c.Good Tryz.prog := fun c h => by
  rcases List.mem_append.1 h with h | h
  · exact good_15 c h
  · exact allHold_ok (mach_ok law_mixed (noNG_of law_names) htab (ovM_ok (mkM_ok _ _ good_15 goodT_e)) 111 100000) _ k_15 c h
theorem good_17 : ∀ c ∈ l_17, c.Good Tryz.prog := fun c h => by
  rcases List.mem_append.1 h with h | h
  · exact good_16 c h
  · exact allHold_ok (mach_ok law_mixed (noNG_of law_names) htab (ovM_ok (mkM_ok _ _ good_16 goodT_e)) 111 100000) _ k_16 c h
theorem good_18 : ∀ c ∈ l_18, c.Good Tryz.prog := fun c h => by
  rcases List.mem_append.1 h with h | h
  · exact good_17 c h
  · exact allHold_ok (mach_ok law_mixed (noNG_of law_names) htab (ovM_ok (mkM_ok _ _ good_17 goodT_e)) 111 100000) _ k_17 c h
theorem good_19 : ∀ c ∈ l_19, c.Good Tryz.prog := fun c h => by
  rcases List.mem_append.1 h with h | h
  · exact good_18 c h
  · exact allHold_ok (mach_ok law_mixed (noNG_of law_names) htab (ovM_ok (mkM_ok _ _ good_18 goodT_e)) 111 100000) _ k_18 c h
theorem good_20 : ∀ c ∈ l_20, c.Good Tryz.prog := fun c h => by
  rcases List.mem_append.1 h with h | h
  · exact good_19 c h
  · exact allHold_ok (mach_ok law_mixed (noNG_of law_names) htab (ovM_ok (mkM_ok _ _ good_19 goodT_e)) 111 100000) _ k_19 c h
theorem good_21 : ∀ c ∈ l_21, c.Good Tryz.prog := fun c h => by
  rcases List.mem_append.1 h with h | h
  · exact good_20 c h
  · exact allHold_ok (mach_ok law_mixed (noNG_of law_names) htab (ovM_ok (mkM_ok _ _ good_20 goodT_e)) 111 100000) _ k_20 c h
theorem law_run {W : World} (hW : ∃ t fz, W.heap[0]? = some (.cells wordsV.toArray t fz)) : Calls Tryz.prog 3 #[] W fun e w' => e = .returned (.bool true) ∧ RowKit.Below W.heap.size W w' := by
  obtain ⟨h', hr⟩ := yes_ok law
  exact closed_of (mach_ok law_mixed (noNG_of law_names) htab (ovM_ok (mkM_ok _ _ good_21 goodT_e)) 111 100000) hW hr
end Ev
end
end Go.Proofs.YtfhilhjdlkhilaaGreatDoor
