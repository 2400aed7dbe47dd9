/- The law's runs at four kinds. -/
import Derived.Test.YtclndhhiccdjnaaGreatDoorEvM
set_option maxRecDepth 1000000
set_option maxHeartbeats 400000
namespace Go.Ev
set_option maxHeartbeats 0 in
theorem run_dh : lawRun [100, 104] = some true := by kernel_rfl
end Go.Ev
namespace Go.Ev
set_option maxHeartbeats 0 in
theorem run_add : lawRun [97, 100, 100] = some true := by kernel_rfl
end Go.Ev
namespace Go.Ev
set_option maxHeartbeats 0 in
theorem run_mul : lawRun [109, 117, 108] = some true := by kernel_rfl
end Go.Ev
namespace Go.Ev
set_option maxHeartbeats 0 in
theorem run_swap : lawRun [115, 119, 97, 112] = some true := by kernel_rfl
end Go.Ev
