/- ViewNames: the closed facts of its row that ask what the law reaches. No condition. -/
import Derived.Test.YtmemadmjgcpobaaGreatDoorClo
namespace Go.Proofs.YtmemadmjgcpobaaGreatDoor
namespace facts
theorem fInPlace : (Rows.viewNamesRow.inPlace == Tryz.prog.inPlace 3) = true := by
  unfold Program.inPlace
  rw [clo_eq]
  kernel_rfl
theorem unf : Tryz.prog.unfollowed 3 = true := by
  unfold Program.unfollowed
  rw [clo_eq]
  kernel_rfl
theorem fUnfollowed : (Rows.viewNamesRow.unfollowed == Tryz.prog.unfollowed 3) = true := by
  rw [unf]
  rfl
theorem fRecurses : (Rows.viewNamesRow.recurses == Tryz.prog.recurses 3) = true := by
  unfold Program.recurses
  rw [unf]
  rfl
theorem fNamed : (Rows.viewNamesRow.named == Tryz.prog.varsNamed 3) = true := by
  unfold Program.varsNamed
  rw [clo_eq]
  kernel_rfl
end facts
end Go.Proofs.YtmemadmjgcpobaaGreatDoor
