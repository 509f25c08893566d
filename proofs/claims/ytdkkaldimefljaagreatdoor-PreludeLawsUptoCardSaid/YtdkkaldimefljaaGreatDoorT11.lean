import Derived.Test.YtdkkaldimefljaaGreatDoorRows
import Derived.JoinedOf
set_option linter.all false
set_option maxRecDepth 100000
namespace Go.Proofs.YtdkkaldimefljaaGreatDoor
theorem aLF:Tryz.prog.stopsHeard=true:=by kernel_rfl
theorem aLE:Tryz.prog.mayEnter=true:=by kernel_rfl
theorem aOL:(Rows.preludeLawsUptoRow.plainKeys==Tryz.prog.plainKeys)=true:=by kernel_rfl
theorem aOO:(Tryz.prog.make==some Rows.preludeLawsUptoRow.make)=true:=by kernel_rfl
theorem aOM:laidOutB Tryz.prog=true:=by kernel_rfl
theorem aRg:mapsRowed Tryz.prog=true:=by kernel_rfl
end Go.Proofs.YtdkkaldimefljaaGreatDoor
