import Derived.Test.YtdkkaldimefljaaGreatDoorRows
import Derived.JoinedOf
import Derived.KernelRfl
set_option linter.all false
section
namespace Go.Proofs.YtdkkaldimefljaaGreatDoor
set_option maxRecDepth 100000
theorem jHeard : Tryz.prog.stopsHeard = true := by kernel_rfl
theorem jEnter : Tryz.prog.mayEnter = true := by kernel_rfl
theorem jKeys : (Rows.preludeListsUptoRow.plainKeys == Tryz.prog.plainKeys) = true := by kernel_rfl
theorem jMake : (Tryz.prog.make == some Rows.preludeListsUptoRow.make) = true := by kernel_rfl
theorem jLaid : laidOutB Tryz.prog = true := by kernel_rfl
theorem jRow : mapsRowed Tryz.prog = true := by kernel_rfl
end Go.Proofs.YtdkkaldimefljaaGreatDoor
end
