import Derived.Test.YtdkkaldimefljaaGreatDoorRows
import Derived.JoinedOf
import Derived.KernelRfl
set_option linter.all false
section
namespace Go.Proofs.YtdkkaldimefljaaGreatDoor
set_option maxRecDepth 100000
theorem aMN:(Rows.preludeTreesUptoRow.recurses==Tryz.prog.recurses 3)=true:=by kernel_rfl
end Go.Proofs.YtdkkaldimefljaaGreatDoor
end
