/- The law's runs at three kinds. -/
import Derived.Test.YtclndhhiccdjnaaGreatDoorEvM
set_option maxRecDepth 1000000
set_option maxHeartbeats 400000
namespace Go.Ev
set_option maxHeartbeats 0 in
theorem run_modexp4 : lawRun [109, 111, 100, 101, 120, 112, 52] = some true := by kernel_rfl
end Go.Ev
namespace Go.Ev
set_option maxHeartbeats 0 in
theorem run_modexp5 : lawRun [109, 111, 100, 101, 120, 112, 53] = some true := by kernel_rfl
end Go.Ev
namespace Go.Ev
set_option maxHeartbeats 0 in
theorem run_modexp6 : lawRun [109, 111, 100, 101, 120, 112, 54] = some true := by kernel_rfl
end Go.Ev
