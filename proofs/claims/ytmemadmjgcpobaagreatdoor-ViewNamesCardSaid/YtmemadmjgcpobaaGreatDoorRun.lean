/- The law's run. -/
import Derived.Test.YtmemadmjgcpobaaGreatDoorK0
import Derived.Test.YtmemadmjgcpobaaGreatDoorK1
import Derived.Test.YtmemadmjgcpobaaGreatDoorK2
import Derived.Test.YtmemadmjgcpobaaGreatDoorK3
import Derived.Test.YtmemadmjgcpobaaGreatDoorK4
import Derived.Test.YtmemadmjgcpobaaGreatDoorK5
import Derived.Test.YtmemadmjgcpobaaGreatDoorK6
import Derived.Test.YtmemadmjgcpobaaGreatDoorK7
import Derived.Test.YtmemadmjgcpobaaGreatDoorK8
import Derived.Test.YtmemadmjgcpobaaGreatDoorK9
import Derived.Test.YtmemadmjgcpobaaGreatDoorK10
import Derived.Test.YtmemadmjgcpobaaGreatDoorK11
import Derived.Test.YtmemadmjgcpobaaGreatDoorK12
import Derived.Test.YtmemadmjgcpobaaGreatDoorKL
import Derived.Test.YtmemadmjgcpobaaGreatDoorShelf
set_option maxRecDepth 100000
namespace Go.Proofs.YtmemadmjgcpobaaGreatDoor
noncomputable section
namespace Ev
theorem law_mixed : Tryz.prog.follows .mixedOrders = true := by kernel_rfl
theorem law_names : (Tryz.prog.funcs.toList.all fun fn => !(fn.name == "runtime.NumGoroutine")) = true := by kernel_rfl
theorem joins : Joins Tryz.prog 42 := fun bk o c xs sep w h1 h2 h3 h4 h5 => Tryz.strings_Join bk o c xs sep w h1 h2 h3 h4 h5
theorem htab : ∀ f fn, tab.get (f + 1) = some fn → Tryz.prog.funcs[f]? = some fn := mkT_tab Tryz.prog
theorem good_0 : ∀ c ∈ l_0, c.Good Tryz.prog := fun c h => by cases h
theorem good_1 : ∀ c ∈ l_1, c.Good Tryz.prog := fun c h => by
  rcases List.mem_append.1 h with h | h
  · exact good_0 c h
  · simp only [List.mem_cons, List.mem_nil_iff, or_false] at h
    rcases h with rfl | rfl
    · exact MC.ofN htab (noNG_of law_names) (waysM_ok law_mixed (noNG_of law_names) htab (ovA_ok law_mixed (noNG_of law_names) htab (withO_ok (joinO_ok ⟨_, rfl, rfl, rfl⟩ joins) (ovM_ok (mkM_ok _ _ good_0 goodT_e))) 82 100000) 100000 _ _) w_10515
    · exact MC.ofN htab (noNG_of law_names) (waysM_ok law_mixed (noNG_of law_names) htab (ovA_ok law_mixed (noNG_of law_names) htab (withO_ok (joinO_ok ⟨_, rfl, rfl, rfl⟩ joins) (ovM_ok (mkM_ok _ _ good_0 goodT_e))) 82 100000) 100000 _ _) w_10941
theorem good_2 : ∀ c ∈ l_2, c.Good Tryz.prog := fun c h => by
  rcases List.mem_append.1 h with h | h
  · exact good_1 c h
  · exact allHold_ok (mach_ok law_mixed (noNG_of law_names) htab (withO_ok (joinO_ok ⟨_, rfl, rfl, rfl⟩ joins) (ovM_ok (mkM_ok _ _ good_1 goodT_e))) 82 100000) _ k_1 c h
theorem good_3 : ∀ c ∈ l_3, c.Good Tryz.prog := fun c h => by
  rcases List.mem_append.1 h with h | h
  · exact good_2 c h
  · exact allHold_ok (mach_ok law_mixed (noNG_of law_names) htab (withO_ok (joinO_ok ⟨_, rfl, rfl, rfl⟩ joins) (ovM_ok (mkM_ok _ _ good_2 goodT_e))) 82 100000) _ k_2 c h
theorem good_4 : ∀ c ∈ l_4, c.Good Tryz.prog := fun c h => by
  rcases List.mem_append.1 h with h | h
  · exact good_3 c h
  · exact allHold_ok (mach_ok law_mixed (noNG_of law_names) htab (withO_ok (joinO_ok ⟨_, rfl, rfl, rfl⟩ joins) (ovM_ok (mkM_ok _ _ good_3 goodT_e))) 82 100000) _ k_3 c h
theorem good_5 : ∀ c ∈ l_5, c.Good Tryz.prog := fun c h => by
  rcases List.mem_append.1 h with h | h
  · exact good_4 c h
  · exact allHold_ok (mach_ok law_mixed (noNG_of law_names) htab (withO_ok (joinO_ok ⟨_, rfl, rfl, rfl⟩ joins) (ovM_ok (mkM_ok _ _ good_4 goodT_e))) 82 100000) _ k_4 c h
theorem good_6 : ∀ c ∈ l_6, c.Good Tryz.prog := fun c h => by
  rcases List.mem_append.1 h with h | h
  · exact good_5 c h
  · simp only [List.mem_cons, List.mem_nil_iff, or_false] at h
    rcases h with rfl
    · have hex := (fastO_ok law_mixed (noNG_of law_names) htab (ovA_ok law_mixed (noNG_of law_names) htab (withO_ok (joinO_ok ⟨_, rfl, rfl, rfl⟩ joins) (ovM_ok (mkM_ok _ _ good_5 goodT_e))) 82 100000) 100000)
      exact MC.ofJ htab (noNG_of law_names) hex jn_4490 (klO_ok ((chunk_ok hex jc_4490_0).trans (chunk_ok hex jc_4490_1)) (ends_ok hex je_4490)) w_4490
theorem good_7 : ∀ c ∈ l_7, c.Good Tryz.prog := fun c h => by
  rcases List.mem_append.1 h with h | h
  · exact good_6 c h
  · exact allHold_ok (mach_ok law_mixed (noNG_of law_names) htab (withO_ok (joinO_ok ⟨_, rfl, rfl, rfl⟩ joins) (ovM_ok (mkM_ok _ _ good_6 goodT_e))) 82 100000) _ k_6 c h
theorem good_8 : ∀ c ∈ l_8, c.Good Tryz.prog := fun c h => by
  rcases List.mem_append.1 h with h | h
  · exact good_7 c h
  · exact allHold_ok (mach_ok law_mixed (noNG_of law_names) htab (withO_ok (joinO_ok ⟨_, rfl, rfl, rfl⟩ joins) (ovM_ok (mkM_ok _ _ good_7 goodT_e))) 82 100000) _ k_7 c h
theorem good_9 : ∀ c ∈ l_9, c.Good Tryz.prog := fun c h => by
  rcases List.mem_append.1 h with h | h
  · exact good_8 c h
  · exact allHold_ok (mach_ok law_mixed (noNG_of law_names) htab (withO_ok (joinO_ok ⟨_, rfl, rfl, rfl⟩ joins) (ovM_ok (mkM_ok _ _ good_8 goodT_e))) 82 100000) _ k_8 c h
theorem good_10 : ∀ c ∈ l_10, c.Good Tryz.prog := fun c h => by
  rcases List.mem_append.1 h with h | h
  · exact good_9 c h
  · simp only [List.mem_cons, List.mem_nil_iff, or_false] at h
    rcases h with rfl
    · have hex := (fastO_ok law_mixed (noNG_of law_names) htab (ovA_ok law_mixed (noNG_of law_names) htab (withO_ok (joinO_ok ⟨_, rfl, rfl, rfl⟩ joins) (ovM_ok (mkM_ok _ _ good_9 goodT_e))) 82 100000) 100000)
      exact MC.ofJ htab (noNG_of law_names) hex jn_2995 (klO_ok ((((((((((((((((chunk_ok hex jc_2995_0).trans (chunk_ok hex jc_2995_1)).trans (chunk_ok hex jc_2995_2)).trans (chunk_ok hex jc_2995_3)).trans (chunk_ok hex jc_2995_4)).trans (chunk_ok hex jc_2995_5)).trans (chunk_ok hex jc_2995_6)).trans (chunk_ok hex jc_2995_7)).trans (chunk_ok hex jc_2995_8)).trans (chunk_ok hex jc_2995_9)).trans (chunk_ok hex jc_2995_10)).trans (chunk_ok hex jc_2995_11)).trans (chunk_ok hex jc_2995_12)).trans (chunk_ok hex jc_2995_13)).trans (chunk_ok hex jc_2995_14)).trans (chunk_ok hex jc_2995_15)) (ends_ok hex je_2995)) w_2995
theorem good_11 : ∀ c ∈ l_11, c.Good Tryz.prog := fun c h => by
  rcases List.mem_append.1 h with h | h
  · exact good_10 c h
  · exact allHold_ok (mach_ok law_mixed (noNG_of law_names) htab (withO_ok (joinO_ok ⟨_, rfl, rfl, rfl⟩ joins) (ovM_ok (mkM_ok _ _ good_10 goodT_e))) 82 100000) _ k_10 c h
theorem law_run {W : World} (hW : ∃ t fz, W.heap[0]? = some (.cells wordsV.toArray t fz)) : Calls Tryz.prog 3 #[] W fun e w' => e = .returned (.bool true) ∧ RowKit.Below W.heap.size W w' := by
  obtain ⟨h', hr⟩ := yes_ok law
  exact closed_of (mach_ok law_mixed (noNG_of law_names) htab (withO_ok (joinO_ok ⟨_, rfl, rfl, rfl⟩ joins) (ovM_ok (mkM_ok _ _ good_11 goodT_e))) 82 100000) hW hr
end Ev
end
end Go.Proofs.YtmemadmjgcpobaaGreatDoor
