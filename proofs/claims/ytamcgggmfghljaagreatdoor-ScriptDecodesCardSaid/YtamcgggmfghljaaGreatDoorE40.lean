/- walk -/
import Derived.Test.YtamcgggmfghljaaGreatDoorRows
import Derived.JoinedOf
import Derived.Test.YtamcgggmfghljaaGreatDoorE3
set_option maxRecDepth 100000
set_option maxHeartbeats 8000000
open Go.Proofs.Tryz
namespace Go.Proofs.YtamcgggmfghljaaGreatDoor

namespace facts
theorem laid:laidOutB prog=true:=by kernel_rfl
theorem rowed:mapsRowed prog=true:=by kernel_rfl
theorem keys:(Rows.scriptEqualsRow.plainKeys==prog.plainKeys)=true:=by kernel_rfl
theorem heard:prog.stopsHeard=true:=by kernel_rfl
theorem enter:prog.mayEnter=true:=by kernel_rfl
theorem lift:(Rows.scriptEqualsRow.lifted==prog.liftsFinal)=true:=by kernel_rfl
theorem make:(prog.make==some Rows.scriptEqualsRow.make)=true:=by kernel_rfl
end facts
end Go.Proofs.YtamcgggmfghljaaGreatDoor
