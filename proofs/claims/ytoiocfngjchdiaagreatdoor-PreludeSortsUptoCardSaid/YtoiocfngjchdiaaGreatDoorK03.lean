import Derived.Test.YtoiocfngjchdiaaGreatDoorK00
import Derived.Test.YtoiocfngjchdiaaGreatDoorT20
set_option linter.all false
set_option maxRecDepth 1000000
set_option maxHeartbeats 0
noncomputable section
namespace Go.CM
open Go.AM Go.Proofs.YtoiocfngjchdiaaGreatDoor
theorem a6L:my lw 1000 (qn 20) [.str 0 0] (qn 8)=.ok (.aj [(ae.agg [.slice (c7.map ax.enc)]).v,.int .i64 0,.int .i64 0]):=by kernel_rfl
end Go.CM
end
