import Derived.Test.YtdkkaldimefljaaGreatDoorRows
import Derived.JoinedOf
set_option linter.all false
set_option maxRecDepth 100000
namespace Go.Proofs.YtdkkaldimefljaaGreatDoor
theorem aRf:(Rows.preludeLawsUptoRow.recurses==Tryz.prog.recurses 4)=true:=by kernel_rfl
end Go.Proofs.YtdkkaldimefljaaGreatDoor
