/- The closed facts of the row of LibraryKinds. -/
import Derived.Test.YtclndhhiccdjnaaGreatDoorRows
import Derived.JoinedOf
import Derived.KernelRfl
set_option maxRecDepth 1000000
set_option maxHeartbeats 400000
namespace Go.Proofs.YtclndhhiccdjnaaGreatDoor
open Go
set_option maxHeartbeats 0 in
theorem facts : joinedFacts Tryz.prog 3 Tryz.f3 Rows.libraryKindsSpec Rows.libraryKindsRow = true := by
  unfold joinedFacts
  simp only [Bool.and_eq_true]
  repeat' apply And.intro
  all_goals (as_aux_lemma => kernel_rfl)
end Go.Proofs.YtclndhhiccdjnaaGreatDoor
