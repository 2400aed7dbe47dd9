/- The table of this program's code is right. -/
import Derived.Test.YtclndhhiccdjnaaGreatDoorEvH
import Derived.Test.YtclndhhiccdjnaaGreatDoorEvI
import Derived.Test.YtclndhhiccdjnaaGreatDoorEvJ
import Derived.Test.YtclndhhiccdjnaaGreatDoorEvK
set_option maxRecDepth 1000000
set_option maxHeartbeats 400000
namespace Go.Ev
open Go Go.RowKit Go.Proofs Go.Shelf
noncomputable def seen19 : List Tmp := match Tryz.f19.body with | some c => seenF Tryz.f19 c | none => []
def rs19 : List CR := [.cell (.i .one) none, .cell (.o (.o .one)) none, .cell (.i (.o .one)) none]
theorem readOK {β : Type} : IntrOK (β := β) Tryz.prog E0 19 (iDefer read0 read1 read2 read3 rs19) :=
  intr_defer (X := fun t => seen19.contains t) env0 Tryz.still43 Tryz.func19 rfl (by decide) rfl rfl rfl rfl rfl rfl rfl rfl (by decide) (by kernel_rfl) (by kernel_rfl) (by kernel_rfl) (by kernel_rfl) (by kernel_rfl) (resRel_of (fun r hr => by
    rw [show Tryz.f19.results.toList = [.cell 2 57, .cell 3 3, .cell 4 30] from rfl] at hr
    simp only [List.mem_cons, List.not_mem_nil, or_false] at hr
    rcases hr with rfl | rfl | rfl <;> (simp only; kernel_rfl)) (by kernel_rfl)) (by kernel_rfl) (by kernel_rfl) (by kernel_rfl) (by kernel_rfl)
noncomputable def cfs : List (Nat × CF) := cfsA ++ cfsB ++ cfsC ++ cfsD
noncomputable def intrs {β : Type} : List (Nat × Intr β) := [(67, iReplaceAll), (359, iIndexByte), (305, iClone), (167, iVisible), (189, iSorted), (265, iDelFunc), (19, iDefer read0 read1 read2 read3 rs19)]
noncomputable def T0 (β : Type) : Tab β := ⟨mkPT cfs .e, mkPT intrs .e⟩
theorem tab0 {β : Type} : TabOK Tryz.prog E0 (T0 β) := tabOK_of (((allA.append allB).append allC).append allD) (.cons replOK <| .cons ixOK <| .cons cloneOK <| .cons visOK <| .cons sortedOK <| .cons delOK <| .cons readOK <| .nil)
theorem mixed0 : Tryz.prog.follows .mixedOrders = true := by kernel_rfl
end Go.Ev
