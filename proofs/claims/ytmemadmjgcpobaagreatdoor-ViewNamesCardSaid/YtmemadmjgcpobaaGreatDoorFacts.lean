/- Closed facts of the program that the row of ViewNames asks. No condition. -/
import Derived.Test.YtmemadmjgcpobaaGreatDoorClo
namespace Go.Proofs.YtmemadmjgcpobaaGreatDoor
namespace facts
theorem r0 : (List.range' 0 50).all (rowFine Tryz.prog) = true := by kernel_rfl
theorem r1 : (List.range' 50 50).all (rowFine Tryz.prog) = true := by kernel_rfl
theorem r2 : (List.range' 100 50).all (rowFine Tryz.prog) = true := by kernel_rfl
theorem r3 : (List.range' 150 50).all (rowFine Tryz.prog) = true := by kernel_rfl
theorem r4 : (List.range' 200 50).all (rowFine Tryz.prog) = true := by kernel_rfl
theorem r5 : (List.range' 250 50).all (rowFine Tryz.prog) = true := by kernel_rfl
theorem r6 : (List.range' 300 50).all (rowFine Tryz.prog) = true := by kernel_rfl
theorem r7 : (List.range' 350 50).all (rowFine Tryz.prog) = true := by kernel_rfl
theorem r8 : (List.range' 400 50).all (rowFine Tryz.prog) = true := by kernel_rfl
theorem r9 : (List.range' 450 50).all (rowFine Tryz.prog) = true := by kernel_rfl
theorem r10 : (List.range' 500 50).all (rowFine Tryz.prog) = true := by kernel_rfl
theorem r11 : (List.range' 550 30).all (rowFine Tryz.prog) = true := by kernel_rfl
theorem types : Tryz.prog.types.size = 580 := by kernel_rfl
theorem rows : (List.range Tryz.prog.types.size).all (rowFine Tryz.prog) = true := by
  rw [types, List.range_eq_range']
  refine Cl.all_parts (rowFine Tryz.prog) [(0, 50), (50, 50), (100, 50), (150, 50), (200, 50), (250, 50), (300, 50), (350, 50), (400, 50), (450, 50), (500, 50), (550, 30)] 0 580 rfl ?_ rfl
  intro x hx
  simp only [List.mem_cons, List.mem_nil_iff, or_false] at hx
  rcases hx with rfl | rfl | rfl | rfl | rfl | rfl | rfl | rfl | rfl | rfl | rfl | rfl
  · exact r0
  · exact r1
  · exact r2
  · exact r3
  · exact r4
  · exact r5
  · exact r6
  · exact r7
  · exact r8
  · exact r9
  · exact r10
  · exact r11
theorem gl : (Tryz.prog.globals.all fun g => decide (g.type < Tryz.prog.types.size)) = true := by kernel_rfl
theorem fp : (Tryz.prog.funcs.all fun f => f.params.all fun t => decide (t < Tryz.prog.types.size)) = true := by
  rw [types]
  kernel_rfl
theorem laid : laidOutB Tryz.prog = true := by
  unfold laidOutB
  rw [rows, gl, fp]
  rfl
theorem rowed : mapsRowed Tryz.prog = true := by kernel_rfl
theorem keys : (Rows.viewNamesRow.plainKeys == Tryz.prog.plainKeys) = true := by kernel_rfl
theorem heard : Tryz.prog.stopsHeard = true := by kernel_rfl
theorem enter : Tryz.prog.mayEnter = true := by kernel_rfl
theorem lift : (Rows.viewNamesRow.lifted == Tryz.prog.liftsFinal) = true := by kernel_rfl
theorem make : (Tryz.prog.make == some Rows.viewNamesRow.make) = true := by kernel_rfl
end facts
end Go.Proofs.YtmemadmjgcpobaaGreatDoor
