/- The law's run. -/
import Derived.Test.YtikefhdgnbhoaaaGreatDoorK0
import Derived.Test.YtikefhdgnbhoaaaGreatDoorK1
import Derived.Test.YtikefhdgnbhoaaaGreatDoorK2
import Derived.Test.YtikefhdgnbhoaaaGreatDoorK3
import Derived.Test.YtikefhdgnbhoaaaGreatDoorK4
import Derived.Test.YtikefhdgnbhoaaaGreatDoorK5
import Derived.Test.YtikefhdgnbhoaaaGreatDoorK6
import Derived.Test.YtikefhdgnbhoaaaGreatDoorK7
import Derived.Test.YtikefhdgnbhoaaaGreatDoorK8
import Derived.Test.YtikefhdgnbhoaaaGreatDoorK9
import Derived.Test.YtikefhdgnbhoaaaGreatDoorK10
import Derived.Test.YtikefhdgnbhoaaaGreatDoorK11
import Derived.Test.YtikefhdgnbhoaaaGreatDoorK12
import Derived.Test.YtikefhdgnbhoaaaGreatDoorK13
import Derived.Test.YtikefhdgnbhoaaaGreatDoorK14
import Derived.Test.YtikefhdgnbhoaaaGreatDoorK15
import Derived.Test.YtikefhdgnbhoaaaGreatDoorK16
import Derived.Test.YtikefhdgnbhoaaaGreatDoorK17
import Derived.Test.YtikefhdgnbhoaaaGreatDoorK18
import Derived.Test.YtikefhdgnbhoaaaGreatDoorKL
set_option maxRecDepth 100000
namespace Go.Proofs.YtikefhdgnbhoaaaGreatDoor
noncomputable section
namespace Ev
theorem law_mixed : Tryz.prog.follows .mixedOrders = true := by kernel_rfl
theorem law_names : (Tryz.prog.funcs.toList.all fun fn => !(fn.name == "runtime.NumGoroutine")) = true := by kernel_rfl
theorem htab : ∀ f fn, tab.get (f + 1) = some fn → Tryz.prog.funcs[f]? = some fn := mkT_tab Tryz.prog
theorem good_0 : ∀ c ∈ l_0, c.Good Tryz.prog := fun c h => by cases h
theorem good_1 : ∀ c ∈ l_1, c.Good Tryz.prog := fun c h => by
  rcases List.mem_append.1 h with h | h
  · exact good_0 c h
  · simp only [List.mem_cons, List.mem_nil_iff, or_false] at h
    rcases h with rfl | rfl | rfl | rfl | rfl
    · exact MC.of1 (mach_ok law_mixed (noNG_of law_names) htab (ovM_ok (mkM_ok _ _ good_0 goodT_e)) 48 100000) i_900000
    · exact MC.of1 (mach_ok law_mixed (noNG_of law_names) htab (ovM_ok (mkM_ok _ _ good_0 goodT_e)) 48 100000) i_900001
    · exact MC.of1 (mach_ok law_mixed (noNG_of law_names) htab (ovM_ok (mkM_ok _ _ good_0 goodT_e)) 48 100000) i_900002
    · exact MC.of2 (mach_ok law_mixed (noNG_of law_names) htab (ovM_ok (mkM_ok _ _ good_0 goodT_e)) 48 100000) rfl i_900003
    · exact MC.of2 (mach_ok law_mixed (noNG_of law_names) htab (ovM_ok (mkM_ok _ _ good_0 goodT_e)) 48 100000) rfl i_900004
theorem good_2 : ∀ c ∈ l_2, c.Good Tryz.prog := fun c h => by
  rcases List.mem_append.1 h with h | h
  · exact good_1 c h
  · simp only [List.mem_cons, List.mem_nil_iff, or_false] at h
    rcases h with rfl | rfl | rfl | rfl | rfl | rfl | rfl | rfl | rfl | rfl | rfl | rfl
    · exact MC.ofN htab (noNG_of law_names) (waysM_ok law_mixed (noNG_of law_names) htab (ovA_ok law_mixed (noNG_of law_names) htab (ovM_ok (mkM_ok _ _ good_1 goodT_e)) 48 100000) 100000 _ _) w_12361
    · exact MC.ofN htab (noNG_of law_names) (waysM_ok law_mixed (noNG_of law_names) htab (ovA_ok law_mixed (noNG_of law_names) htab (ovM_ok (mkM_ok _ _ good_1 goodT_e)) 48 100000) 100000 _ _) w_12787
    · exact MC.ofN htab (noNG_of law_names) (waysM_ok law_mixed (noNG_of law_names) htab (ovA_ok law_mixed (noNG_of law_names) htab (ovM_ok (mkM_ok _ _ good_1 goodT_e)) 48 100000) 100000 _ _) w_14082
    · exact MC.ofN htab (noNG_of law_names) (waysM_ok law_mixed (noNG_of law_names) htab (ovA_ok law_mixed (noNG_of law_names) htab (ovM_ok (mkM_ok _ _ good_1 goodT_e)) 48 100000) 100000 _ _) w_28520
    · exact MC.ofN htab (noNG_of law_names) (waysM_ok law_mixed (noNG_of law_names) htab (ovA_ok law_mixed (noNG_of law_names) htab (ovM_ok (mkM_ok _ _ good_1 goodT_e)) 48 100000) 100000 _ _) w_29815
    · exact MC.ofN htab (noNG_of law_names) (waysM_ok law_mixed (noNG_of law_names) htab (ovA_ok law_mixed (noNG_of law_names) htab (ovM_ok (mkM_ok _ _ good_1 goodT_e)) 48 100000) 100000 _ _) w_64944
    · exact MC.ofN htab (noNG_of law_names) (waysM_ok law_mixed (noNG_of law_names) htab (ovA_ok law_mixed (noNG_of law_names) htab (ovM_ok (mkM_ok _ _ good_1 goodT_e)) 48 100000) 100000 _ _) w_75588
    · exact MC.ofN htab (noNG_of law_names) (waysM_ok law_mixed (noNG_of law_names) htab (ovA_ok law_mixed (noNG_of law_names) htab (ovM_ok (mkM_ok _ _ good_1 goodT_e)) 48 100000) 100000 _ _) w_368024
    · exact MC.ofN htab (noNG_of law_names) (waysM_ok law_mixed (noNG_of law_names) htab (ovA_ok law_mixed (noNG_of law_names) htab (ovM_ok (mkM_ok _ _ good_1 goodT_e)) 48 100000) 100000 _ _) w_368403
    · exact MC.ofN htab (noNG_of law_names) (waysM_ok law_mixed (noNG_of law_names) htab (ovA_ok law_mixed (noNG_of law_names) htab (ovM_ok (mkM_ok _ _ good_1 goodT_e)) 48 100000) 100000 _ _) w_395770
    · exact MC.ofN htab (noNG_of law_names) (waysM_ok law_mixed (noNG_of law_names) htab (ovA_ok law_mixed (noNG_of law_names) htab (ovM_ok (mkM_ok _ _ good_1 goodT_e)) 48 100000) 100000 _ _) w_415864
    · exact MC.ofN htab (noNG_of law_names) (waysM_ok law_mixed (noNG_of law_names) htab (ovA_ok law_mixed (noNG_of law_names) htab (ovM_ok (mkM_ok _ _ good_1 goodT_e)) 48 100000) 100000 _ _) w_422478
theorem good_3 : ∀ c ∈ l_3, c.Good Tryz.prog := fun c h => by
  rcases List.mem_append.1 h with h | h
  · exact good_2 c h
  · exact allHold_ok (mach_ok law_mixed (noNG_of law_names) htab (ovM_ok (mkM_ok _ _ good_2 goodT_e)) 48 100000) _ k_2 c h
theorem good_4 : ∀ c ∈ l_4, c.Good Tryz.prog := fun c h => by
  rcases List.mem_append.1 h with h | h
  · exact good_3 c h
  · exact allHold_ok (mach_ok law_mixed (noNG_of law_names) htab (ovM_ok (mkM_ok _ _ good_3 goodT_e)) 48 100000) _ k_3 c h
theorem good_5 : ∀ c ∈ l_5, c.Good Tryz.prog := fun c h => by
  rcases List.mem_append.1 h with h | h
  · exact good_4 c h
  · exact allHold_ok (mach_ok law_mixed (noNG_of law_names) htab (ovM_ok (mkM_ok _ _ good_4 goodT_e)) 48 100000) _ k_4 c h
theorem good_6 : ∀ c ∈ l_6, c.Good Tryz.prog := fun c h => by
  rcases List.mem_append.1 h with h | h
  · exact good_5 c h
  · exact allHold_ok (mach_ok law_mixed (noNG_of law_names) htab (ovM_ok (mkM_ok _ _ good_5 goodT_e)) 48 100000) _ k_5 c h
theorem good_7 : ∀ c ∈ l_7, c.Good Tryz.prog := fun c h => by
  rcases List.mem_append.1 h with h | h
  · exact good_6 c h
  · exact allHold_ok (mach_ok law_mixed (noNG_of law_names) htab (ovM_ok (mkM_ok _ _ good_6 goodT_e)) 48 100000) _ k_6 c h
theorem good_8 : ∀ c ∈ l_8, c.Good Tryz.prog := fun c h => by
  rcases List.mem_append.1 h with h | h
  · exact good_7 c h
  · exact allHold_ok (mach_ok law_mixed (noNG_of law_names) htab (ovM_ok (mkM_ok _ _ good_7 goodT_e)) 48 100000) _ k_7 c h
theorem good_9 : ∀ c ∈ l_9, c.Good Tryz.prog := fun c h => by
  rcases List.mem_append.1 h with h | h
  · exact good_8 c h
  · exact allHold_ok (mach_ok law_mixed (noNG_of law_names) htab (ovM_ok (mkM_ok _ _ good_8 goodT_e)) 48 100000) _ k_8 c h
theorem good_10 : ∀ c ∈ l_10, c.Good Tryz.prog := fun c h => by
  rcases List.mem_append.1 h with h | h
  · exact good_9 c h
  · exact allHold_ok (mach_ok law_mixed (noNG_of law_names) htab (ovM_ok (mkM_ok _ _ good_9 goodT_e)) 48 100000) _ k_9 c h
theorem good_11 : ∀ c ∈ l_11, c.Good Tryz.prog := fun c h => by
  rcases List.mem_append.1 h with h | h
  · exact good_10 c h
  · exact allHold_ok (mach_ok law_mixed (noNG_of law_names) htab (ovM_ok (mkM_ok _ _ good_10 goodT_e)) 48 100000) _ k_10 c h
theorem good_12 : ∀ c ∈ l_12, c.Good Tryz.prog := fun c h => by
  rcases List.mem_append.1 h with h | h
  · exact good_11 c h
  · exact allHold_ok (mach_ok law_mixed (noNG_of law_names) htab (ovM_ok (mkM_ok _ _ good_11 goodT_e)) 48 100000) _ k_11 c h
theorem good_13 : ∀ c ∈ l_13, c.Good Tryz.prog := fun c h => by
  rcases List.mem_append.1 h with h | h
  · exact good_12 c h
  · exact allHold_ok (mach_ok law_mixed (noNG_of law_names) htab (ovM_ok (mkM_ok _ _ good_12 goodT_e)) 48 100000) _ k_12 c h
theorem good_14 : ∀ c ∈ l_14, c.Good Tryz.prog := fun c h => by
  rcases List.mem_append.1 h with h | h
  · exact good_13 c h
  · exact allHold_ok (mach_ok law_mixed (noNG_of law_names) htab (ovM_ok (mkM_ok _ _ good_13 goodT_e)) 48 100000) _ k_13 c h
theorem good_15 : ∀ c ∈ l_15, c.Good Tryz.prog := fun c h => by
  rcases List.mem_append.1 h with h | h
  · exact good_14 c h
  · exact allHold_ok (mach_ok law_mixed (noNG_of law_names) htab (ovM_ok (mkM_ok _ _ good_14 goodT_e)) 48 100000) _ k_14 c h
theorem good_16 : ∀ c ∈ l_16, c.Good Tryz.prog := fun c h => by
  rcases List.mem_append.1 h with h | h
  · exact good_15 c h
  · exact allHold_ok (mach_ok law_mixed (noNG_of law_names) htab (ovM_ok (mkM_ok _ _ good_15 goodT_e)) 48 100000) _ k_15 c h
theorem good_17 : ∀ c ∈ l_17, c.Good Tryz.prog := fun c h => by
  rcases List.mem_append.1 h with h | h
  · exact good_16 c h
  · exact allHold_ok (mach_ok law_mixed (noNG_of law_names) htab (ovM_ok (mkM_ok _ _ good_16 goodT_e)) 48 100000) _ k_16 c h
theorem good_18 : ∀ c ∈ l_18, c.Good Tryz.prog := fun c h => by
  rcases List.mem_append.1 h with h | h
  · exact good_17 c h
  · exact allHold_ok (mach_ok law_mixed (noNG_of law_names) htab (ovM_ok (mkM_ok _ _ good_17 goodT_e)) 48 100000) _ k_17 c h
theorem good_19 : ∀ c ∈ l_19, c.Good Tryz.prog := fun c h => by
  rcases List.mem_append.1 h with h | h
  · exact good_18 c h
  · exact allHold_ok (mach_ok law_mixed (noNG_of law_names) htab (ovM_ok (mkM_ok _ _ good_18 goodT_e)) 48 100000) _ k_18 c h
theorem good_20 : ∀ c ∈ l_20, c.Good Tryz.prog := fun c h => by
  rcases List.mem_append.1 h with h | h
  · exact good_19 c h
  · exact allHold_ok (mach_ok law_mixed (noNG_of law_names) htab (ovM_ok (mkM_ok _ _ good_19 goodT_e)) 48 100000) _ k_19 c h
theorem good_21 : ∀ c ∈ l_21, c.Good Tryz.prog := fun c h => by
  rcases List.mem_append.1 h with h | h
  · exact good_20 c h
  · exact allHold_ok (mach_ok law_mixed (noNG_of law_names) htab (ovM_ok (mkM_ok _ _ good_20 goodT_e)) 48 100000) _ k_20 c h
theorem good_22 : ∀ c ∈ l_22, c.Good Tryz.prog := fun c h => by
  rcases List.mem_append.1 h with h | h
  · exact good_21 c h
  · exact allHold_ok (mach_ok law_mixed (noNG_of law_names) htab (ovM_ok (mkM_ok _ _ good_21 goodT_e)) 48 100000) _ k_21 c h
theorem good_23 : ∀ c ∈ l_23, c.Good Tryz.prog := fun c h => by
  rcases List.mem_append.1 h with h | h
  · exact good_22 c h
  · exact allHold_ok (mach_ok law_mixed (noNG_of law_names) htab (ovM_ok (mkM_ok _ _ good_22 goodT_e)) 48 100000) _ k_22 c h
theorem good_24 : ∀ c ∈ l_24, c.Good Tryz.prog := fun c h => by
  rcases List.mem_append.1 h with h | h
  · exact good_23 c h
  · exact allHold_ok (mach_ok law_mixed (noNG_of law_names) htab (ovM_ok (mkM_ok _ _ good_23 goodT_e)) 48 100000) _ k_23 c h
theorem good_25 : ∀ c ∈ l_25, c.Good Tryz.prog := fun c h => by
  rcases List.mem_append.1 h with h | h
  · exact good_24 c h
  · exact allHold_ok (mach_ok law_mixed (noNG_of law_names) htab (ovM_ok (mkM_ok _ _ good_24 goodT_e)) 48 100000) _ k_24 c h
theorem good_26 : ∀ c ∈ l_26, c.Good Tryz.prog := fun c h => by
  rcases List.mem_append.1 h with h | h
  · exact good_25 c h
  · simp only [List.mem_cons, List.mem_nil_iff, or_false] at h
    rcases h with rfl | rfl | rfl | rfl | rfl | rfl | rfl
    · exact allHold_ok (mach_ok law_mixed (noNG_of law_names) htab (ovM_ok (mkM_ok _ _ good_25 goodT_e)) 48 100000) _ k_25 _ (by simp)
    · exact allHold_ok (panO_ok law_mixed (noNG_of law_names) htab (ovM_ok (mkM_ok _ _ good_25 goodT_e)) 48 100000 _) _ q_258546 _ (by simp)
    · exact allHold_ok (mach_ok law_mixed (noNG_of law_names) htab (ovM_ok (mkM_ok _ _ good_25 goodT_e)) 48 100000) _ k_25 _ (by simp)
    · exact allHold_ok (mach_ok law_mixed (noNG_of law_names) htab (ovM_ok (mkM_ok _ _ good_25 goodT_e)) 48 100000) _ k_25 _ (by simp)
    · exact allHold_ok (mach_ok law_mixed (noNG_of law_names) htab (ovM_ok (mkM_ok _ _ good_25 goodT_e)) 48 100000) _ k_25 _ (by simp)
    · exact allHold_ok (mach_ok law_mixed (noNG_of law_names) htab (ovM_ok (mkM_ok _ _ good_25 goodT_e)) 48 100000) _ k_25 _ (by simp)
    · exact allHold_ok (mach_ok law_mixed (noNG_of law_names) htab (ovM_ok (mkM_ok _ _ good_25 goodT_e)) 48 100000) _ k_25 _ (by simp)
theorem good_27 : ∀ c ∈ l_27, c.Good Tryz.prog := fun c h => by
  rcases List.mem_append.1 h with h | h
  · exact good_26 c h
  · exact allHold_ok (mach_ok law_mixed (noNG_of law_names) htab (ovM_ok (mkM_ok _ _ good_26 goodT_e)) 48 100000) _ k_26 c h
theorem good_28 : ∀ c ∈ l_28, c.Good Tryz.prog := fun c h => by
  rcases List.mem_append.1 h with h | h
  · exact good_27 c h
  · simp only [List.mem_cons, List.mem_nil_iff, or_false] at h
    rcases h with rfl | rfl | rfl | rfl
    · exact allHold_ok (mach_ok law_mixed (noNG_of law_names) htab (ovM_ok (mkM_ok _ _ good_27 goodT_e)) 48 100000) _ k_27 _ (by simp)
    · exact MC.ofN htab (noNG_of law_names) (waysM_ok law_mixed (noNG_of law_names) htab (ovA_ok law_mixed (noNG_of law_names) htab (ovM_ok (mkM_ok _ _ good_27 goodT_e)) 48 100000) 100000 _ _) w_383373
    · exact MC.ofN htab (noNG_of law_names) (waysM_ok law_mixed (noNG_of law_names) htab (ovA_ok law_mixed (noNG_of law_names) htab (ovM_ok (mkM_ok _ _ good_27 goodT_e)) 48 100000) 100000 _ _) w_383395
    · exact MC.ofN htab (noNG_of law_names) (waysM_ok law_mixed (noNG_of law_names) htab (ovA_ok law_mixed (noNG_of law_names) htab (ovM_ok (mkM_ok _ _ good_27 goodT_e)) 48 100000) 100000 _ _) w_383436
theorem good_29 : ∀ c ∈ l_29, c.Good Tryz.prog := fun c h => by
  rcases List.mem_append.1 h with h | h
  · exact good_28 c h
  · exact allHold_ok (mach_ok law_mixed (noNG_of law_names) htab (ovM_ok (mkM_ok _ _ good_28 goodT_e)) 48 100000) _ k_28 c h
theorem good_30 : ∀ c ∈ l_30, c.Good Tryz.prog := fun c h => by
  rcases List.mem_append.1 h with h | h
  · exact good_29 c h
  · exact allHold_ok (mach_ok law_mixed (noNG_of law_names) htab (ovM_ok (mkM_ok _ _ good_29 goodT_e)) 48 100000) _ k_29 c h
theorem good_31 : ∀ c ∈ l_31, c.Good Tryz.prog := fun c h => by
  rcases List.mem_append.1 h with h | h
  · exact good_30 c h
  · exact allHold_ok (mach_ok law_mixed (noNG_of law_names) htab (ovM_ok (mkM_ok _ _ good_30 goodT_e)) 48 100000) _ k_30 c h
theorem good_32 : ∀ c ∈ l_32, c.Good Tryz.prog := fun c h => by
  rcases List.mem_append.1 h with h | h
  · exact good_31 c h
  · exact allHold_ok (mach_ok law_mixed (noNG_of law_names) htab (ovM_ok (mkM_ok _ _ good_31 goodT_e)) 48 100000) _ k_31 c h
theorem good_33 : ∀ c ∈ l_33, c.Good Tryz.prog := fun c h => by
  rcases List.mem_append.1 h with h | h
  · exact good_32 c h
  · exact allHold_ok (mach_ok law_mixed (noNG_of law_names) htab (ovM_ok (mkM_ok _ _ good_32 goodT_e)) 48 100000) _ k_32 c h
theorem good_34 : ∀ c ∈ l_34, c.Good Tryz.prog := fun c h => by
  rcases List.mem_append.1 h with h | h
  · exact good_33 c h
  · exact allHold_ok (mach_ok law_mixed (noNG_of law_names) htab (ovM_ok (mkM_ok _ _ good_33 goodT_e)) 48 100000) _ k_33 c h
theorem good_35 : ∀ c ∈ l_35, c.Good Tryz.prog := fun c h => by
  rcases List.mem_append.1 h with h | h
  · exact good_34 c h
  · exact allHold_ok (mach_ok law_mixed (noNG_of law_names) htab (ovM_ok (mkM_ok _ _ good_34 goodT_e)) 48 100000) _ k_34 c h
theorem good_36 : ∀ c ∈ l_36, c.Good Tryz.prog := fun c h => by
  rcases List.mem_append.1 h with h | h
  · exact good_35 c h
  · exact allHold_ok (mach_ok law_mixed (noNG_of law_names) htab (ovM_ok (mkM_ok _ _ good_35 goodT_e)) 48 100000) _ k_35 c h
theorem law_run {W : World} (hW : ∃ t fz, W.heap[0]? = some (.cells wordsV.toArray t fz)) : Calls Tryz.prog 3 #[] W fun e w' => e = .returned (.bool true) ∧ RowKit.Below W.heap.size W w' := by
  obtain ⟨h', hr⟩ := yes_ok law
  exact closed_of (mach_ok law_mixed (noNG_of law_names) htab (ovM_ok (mkM_ok _ _ good_36 goodT_e)) 48 100000) hW hr
end Ev
end
end Go.Proofs.YtikefhdgnbhoaaaGreatDoor
