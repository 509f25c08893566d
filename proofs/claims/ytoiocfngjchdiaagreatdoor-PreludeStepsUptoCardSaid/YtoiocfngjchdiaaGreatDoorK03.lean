import Derived.Test.YtoiocfngjchdiaaGreatDoorK00
import Derived.Test.YtoiocfngjchdiaaGreatDoorT07
set_option linter.all false
set_option maxRecDepth 1000000
set_option maxHeartbeats 0
noncomputable section
namespace Go.CM
open Go.AM Go.Proofs.YtoiocfngjchdiaaGreatDoor
theorem prog_run:runF fe26 1000 (qn 20) [.str 0 0] (qn 8)=.ok (.tup [(AVal.agg [.slice (lib.map DeD.enc)]).v,.int .i64 0,.int .i64 0]):=by kernel_rfl
end Go.CM
end
