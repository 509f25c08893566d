import Derived.Test.YtoiocfngjchdiaaGreatDoorK00
set_option linter.all false
set_option maxRecDepth 1000000
set_option maxHeartbeats 0
noncomputable section
namespace Go.CM
theorem a64:my lw 1000 (qn 6) [] (qn 8)=.ok (.bool true):=by kernel_rfl
end Go.CM
end
