/- The law's run at one kind. -/
import Derived.Test.YtclndhhiccdjnaaGreatDoorEvM
set_option maxRecDepth 1000000
set_option maxHeartbeats 400000
namespace Go.Ev
set_option maxHeartbeats 0 in
theorem run_crt : lawRun [99, 114, 116] = some true := by kernel_rfl
end Go.Ev
