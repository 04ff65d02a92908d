/- ModelExamples: the closed facts of its row that ask what the law reaches. No condition. -/
import Derived.Test.YtfhilhjdlkhilaaGreatDoorClo
namespace Go.Proofs.YtfhilhjdlkhilaaGreatDoor
namespace facts
theorem fInPlace : (Rows.modelExamplesRow.inPlace == Tryz.prog.inPlace 3) = true := by
  unfold Program.inPlace
  rw [clo_eq]
  kernel_rfl
theorem unf : Tryz.prog.unfollowed 3 = true := by
  unfold Program.unfollowed
  rw [clo_eq]
  kernel_rfl
theorem fUnfollowed : (Rows.modelExamplesRow.unfollowed == Tryz.prog.unfollowed 3) = true := by
  rw [unf]
  rfl
theorem fRecurses : (Rows.modelExamplesRow.recurses == Tryz.prog.recurses 3) = true := by
  unfold Program.recurses
  rw [unf]
  rfl
theorem fNamed : (Rows.modelExamplesRow.named == Tryz.prog.varsNamed 3) = true := by
  unfold Program.varsNamed
  rw [clo_eq]
  kernel_rfl
end facts
end Go.Proofs.YtfhilhjdlkhilaaGreatDoor
