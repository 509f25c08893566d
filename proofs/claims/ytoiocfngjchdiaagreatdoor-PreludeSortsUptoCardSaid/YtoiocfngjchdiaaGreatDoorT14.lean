import Derived.Test.YtoiocfngjchdiaaGreatDoorRows
import Derived.JoinedOf
set_option linter.all false
set_option maxRecDepth 100000
namespace Go.Proofs.YtoiocfngjchdiaaGreatDoor
theorem Z8:(Rows.preludeSortsUptoRow.recurses==Tryz.prog.recurses 5)=true:=by kernel_rfl
end Go.Proofs.YtoiocfngjchdiaaGreatDoor
