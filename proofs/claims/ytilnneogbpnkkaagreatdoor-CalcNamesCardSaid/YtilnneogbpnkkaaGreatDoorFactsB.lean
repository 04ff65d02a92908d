/- CalcNames: the closed facts of its row that ask what the law reaches. No condition. -/
import Derived.Test.YtilnneogbpnkkaaGreatDoorClo
namespace Go.Proofs.YtilnneogbpnkkaaGreatDoor
namespace facts
theorem fInPlace : (Rows.calcNamesRow.inPlace == Tryz.prog.inPlace 3) = true := by
  unfold Program.inPlace
  rw [clo_eq]
  kernel_rfl
theorem unf : Tryz.prog.unfollowed 3 = true := by
  unfold Program.unfollowed
  rw [clo_eq]
  kernel_rfl
theorem fUnfollowed : (Rows.calcNamesRow.unfollowed == Tryz.prog.unfollowed 3) = true := by
  rw [unf]
  rfl
theorem fRecurses : (Rows.calcNamesRow.recurses == Tryz.prog.recurses 3) = true := by
  unfold Program.recurses
  rw [unf]
  rfl
theorem fNamed : (Rows.calcNamesRow.named == Tryz.prog.varsNamed 3) = true := by
  unfold Program.varsNamed
  rw [clo_eq]
  kernel_rfl
end facts
end Go.Proofs.YtilnneogbpnkkaaGreatDoor
