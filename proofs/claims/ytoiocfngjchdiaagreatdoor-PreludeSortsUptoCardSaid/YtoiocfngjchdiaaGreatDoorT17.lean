import Derived.Test.YtoiocfngjchdiaaGreatDoorRows
import Derived.JoinedOf
set_option linter.all false
set_option maxRecDepth 100000
namespace Go.Proofs.YtoiocfngjchdiaaGreatDoor
theorem zb:Tryz.prog.stopsHeard=true:=by kernel_rfl
theorem y_:Tryz.prog.mayEnter=true:=by kernel_rfl
theorem aKw:(Rows.preludeSortsUptoRow.plainKeys==Tryz.prog.plainKeys)=true:=by kernel_rfl
theorem aKz:(Tryz.prog.make==some Rows.preludeSortsUptoRow.make)=true:=by kernel_rfl
theorem aKx:laidOutB Tryz.prog=true:=by kernel_rfl
theorem Z7:mapsRowed Tryz.prog=true:=by kernel_rfl
end Go.Proofs.YtoiocfngjchdiaaGreatDoor
