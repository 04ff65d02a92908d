/- Closed facts of the program that each row asks: one declaration each (all in one outgrow the lid on a Lean process's memory). -/
import Derived.Test.YtamcgggmfghljaaGreatDoorRows
import Derived.JoinedOf
namespace Go.Proofs.YtamcgggmfghljaaGreatDoor
namespace facts
theorem laid : laidOutB Tryz.prog = true := by kernel_rfl
theorem rowed : mapsRowed Tryz.prog = true := by kernel_rfl
theorem keys : (Rows.scriptEqualsRow.plainKeys == Tryz.prog.plainKeys) = true := by kernel_rfl
theorem heard : Tryz.prog.stopsHeard = true := by kernel_rfl
theorem enter : Tryz.prog.mayEnter = true := by kernel_rfl
theorem lift : (Rows.scriptEqualsRow.lifted == Tryz.prog.liftsFinal) = true := by kernel_rfl
theorem make : (Tryz.prog.make == some Rows.scriptEqualsRow.make) = true := by kernel_rfl
end facts
end Go.Proofs.YtamcgggmfghljaaGreatDoor
