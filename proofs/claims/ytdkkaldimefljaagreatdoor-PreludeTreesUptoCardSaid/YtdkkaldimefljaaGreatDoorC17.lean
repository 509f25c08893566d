import Derived.Test.YtdkkaldimefljaaGreatDoorC15
set_option linter.all false
noncomputable section
namespace Go.CM
set_option maxRecDepth 1000000
set_option maxHeartbeats 0
theorem qb:runF fe26 1000 (qn 6) [] (qn 8)=.ok (.bool true):=by kernel_rfl
end Go.CM
end
