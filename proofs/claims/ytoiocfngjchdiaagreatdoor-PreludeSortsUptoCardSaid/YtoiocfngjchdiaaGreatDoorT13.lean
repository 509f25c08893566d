import Derived.Test.YtoiocfngjchdiaaGreatDoorRows
import Derived.JoinedOf
set_option linter.all false
set_option maxRecDepth 100000
namespace Go.Proofs.YtoiocfngjchdiaaGreatDoor
theorem Z6:(Rows.preludeSortsUptoRow.unfollowed==Tryz.prog.unfollowed 5)=true:=by kernel_rfl
end Go.Proofs.YtoiocfngjchdiaaGreatDoor
