/- LowExamples: the closed facts of its row that ask what the law reaches. No condition. -/
import Derived.Test.YtikefhdgnbhoaaaGreatDoorClo
namespace Go.Proofs.YtikefhdgnbhoaaaGreatDoor
namespace facts
theorem fInPlace : (Rows.lowExamplesRow.inPlace == Tryz.prog.inPlace 3) = true := by
  unfold Program.inPlace
  rw [clo_eq]
  kernel_rfl
theorem unf : Tryz.prog.unfollowed 3 = true := by
  unfold Program.unfollowed
  rw [clo_eq]
  kernel_rfl
theorem fUnfollowed : (Rows.lowExamplesRow.unfollowed == Tryz.prog.unfollowed 3) = true := by
  rw [unf]
  rfl
theorem fRecurses : (Rows.lowExamplesRow.recurses == Tryz.prog.recurses 3) = true := by
  unfold Program.recurses
  rw [unf]
  rfl
theorem fNamed : (Rows.lowExamplesRow.named == Tryz.prog.varsNamed 3) = true := by
  unfold Program.varsNamed
  rw [clo_eq]
  kernel_rfl
end facts
end Go.Proofs.YtikefhdgnbhoaaaGreatDoor
