import Derived.Test.YtoiocfngjchdiaaGreatDoorRows
import Derived.JoinedOf
set_option linter.all false
set_option maxRecDepth 100000
namespace Go.Proofs.YtoiocfngjchdiaaGreatDoor
theorem aMa:Tryz.prog.stopsHeard=true:=by kernel_rfl
theorem aL9:Tryz.prog.mayEnter=true:=by kernel_rfl
theorem aSj:(Rows.preludeStepsUptoRow.plainKeys==Tryz.prog.plainKeys)=true:=by kernel_rfl
theorem aSm:(Tryz.prog.make==some Rows.preludeStepsUptoRow.make)=true:=by kernel_rfl
theorem aSk:laidOutB Tryz.prog=true:=by kernel_rfl
theorem aYC:mapsRowed Tryz.prog=true:=by kernel_rfl
end Go.Proofs.YtoiocfngjchdiaaGreatDoor
