/- The law's runs at four kinds. -/
import Derived.Test.YtclndhhiccdjnaaGreatDoorEvM
set_option maxRecDepth 1000000
set_option maxHeartbeats 400000
namespace Go.Ev
set_option maxHeartbeats 0 in
theorem run_modexp1 : lawRun [109, 111, 100, 101, 120, 112, 49] = some true := by kernel_rfl
end Go.Ev
namespace Go.Ev
set_option maxHeartbeats 0 in
theorem run_modexp2 : lawRun [109, 111, 100, 101, 120, 112, 50] = some true := by kernel_rfl
end Go.Ev
namespace Go.Ev
set_option maxHeartbeats 0 in
theorem run_modexp3 : lawRun [109, 111, 100, 101, 120, 112, 51] = some true := by kernel_rfl
end Go.Ev
namespace Go.Ev
set_option maxHeartbeats 0 in
theorem run_rsapublic : lawRun [114, 115, 97, 112, 117, 98, 108, 105, 99] = some true := by kernel_rfl
end Go.Ev
