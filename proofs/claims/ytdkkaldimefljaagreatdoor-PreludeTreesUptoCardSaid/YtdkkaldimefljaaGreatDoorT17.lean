import Derived.Test.YtdkkaldimefljaaGreatDoorRows
import Derived.JoinedOf
import Derived.KernelRfl
set_option linter.all false
section
namespace Go.Proofs.YtdkkaldimefljaaGreatDoor
set_option maxRecDepth 100000
theorem aGw:Tryz.prog.stopsHeard=true:=by kernel_rfl
theorem aHW:Tryz.prog.mayEnter=true:=by kernel_rfl
theorem aI5:(Rows.preludeTreesUptoRow.plainKeys==Tryz.prog.plainKeys)=true:=by kernel_rfl
theorem aJJ:(Tryz.prog.make==some Rows.preludeTreesUptoRow.make)=true:=by kernel_rfl
theorem aJ6:laidOutB Tryz.prog=true:=by kernel_rfl
theorem aLH:mapsRowed Tryz.prog=true:=by kernel_rfl
end Go.Proofs.YtdkkaldimefljaaGreatDoor
end
