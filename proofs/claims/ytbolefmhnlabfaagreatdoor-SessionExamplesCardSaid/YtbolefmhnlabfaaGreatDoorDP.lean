/- Two places held against each other. -/
import Derived.Test.YtbolefmhnlabfaaGreatDoorD
set_option maxRecDepth 100000
namespace Go.Proofs.YtbolefmhnlabfaaGreatDoor
noncomputable section
namespace Ev
def mp (a b c d r : Int) : MC := ⟨153, [.agg #[.int .i64 a, .int .i64 b], .agg #[.int .i64 c, .int .i64 d]], 1, 1, [], .int .i64 r, 1, []⟩
def pm : List MC := [mp 1 1 1 2 (-1), mp 1 1 1 3 (-1), mp 1 1 2 3 (-1), mp 1 1 1 4 (-1), mp 1 2 1 1 1, mp 1 2 1 3 (-1), mp 1 2 2 3 (-1), mp 1 2 1 4 (-1), mp 1 3 1 1 1, mp 1 3 1 2 1, mp 1 3 2 3 (-1), mp 1 3 1 4 (-1), mp 2 3 1 1 1, mp 2 3 1 2 1, mp 2 3 1 3 1, mp 2 3 1 4 (-1), mp 1 4 1 1 1, mp 1 4 1 2 1, mp 1 4 1 3 1, mp 1 4 2 3 1]
end Ev
end
end Go.Proofs.YtbolefmhnlabfaaGreatDoor
