/- DenoteExamples: the closed facts of its row that ask what the law reaches. No condition. -/
import Derived.Test.YtbeebgdnnedabaaGreatDoorClo
namespace Go.Proofs.YtbeebgdnnedabaaGreatDoor
namespace facts
theorem fInPlace : (Rows.denoteExamplesRow.inPlace == Tryz.prog.inPlace 3) = true := by
  unfold Program.inPlace
  rw [clo_eq]
  kernel_rfl
theorem unf : Tryz.prog.unfollowed 3 = true := by
  unfold Program.unfollowed
  rw [clo_eq]
  kernel_rfl
theorem fUnfollowed : (Rows.denoteExamplesRow.unfollowed == Tryz.prog.unfollowed 3) = true := by
  rw [unf]
  rfl
theorem fRecurses : (Rows.denoteExamplesRow.recurses == Tryz.prog.recurses 3) = true := by
  unfold Program.recurses
  rw [unf]
  rfl
theorem fNamed : (Rows.denoteExamplesRow.named == Tryz.prog.varsNamed 3) = true := by
  unfold Program.varsNamed
  rw [clo_eq]
  kernel_rfl
end facts
end Go.Proofs.YtbeebgdnnedabaaGreatDoor
