/- LibraryKinds: for every input the law returns true and its arguments read as before. Conditions: the row's own (the two listed tables of unicode/utf8 lie as the program's text lays them). -/
import Derived.Test.YtclndhhiccdjnaaGreatDoorCards
import Derived.Test.YtclndhhiccdjnaaGreatDoorTie
import Derived.Test.YtclndhhiccdjnaaGreatDoorEvS
import Derived.Test.YtclndhhiccdjnaaGreatDoorEvT
import Derived.Test.YtclndhhiccdjnaaGreatDoorEvO
import Derived.Test.YtclndhhiccdjnaaGreatDoorEvN
import Derived.Test.YtclndhhiccdjnaaGreatDoorEvP
import Derived.Test.YtclndhhiccdjnaaGreatDoorEvQ
set_option maxRecDepth 1000000
set_option maxHeartbeats 400000
namespace Go.Proofs.YtclndhhiccdjnaaGreatDoor
open Go Go.ChangeShapes Go.WideShapes Go.ChangeAt Go.RowKit Go.Ev
set_option maxHeartbeats 0 in
theorem row_holds (hruns : LawRuns) : Rows.LibraryKindsSaid :=
  OpenClaim.holds_of_wide 3 Tryz.f3 rfl rfl rfl rfl rfl rfl rfl ⟨rfl, rfl, rfl, rfl, rfl⟩ rfl rfl rfl rfl rfl (by as_aux_lemma => kernel_rfl) Tryz.func3 facts
    (of_decide_eq_true (by as_aux_lemma => kernel_rfl)) (by unfold Func.isWrapper; rw [if_neg (of_decide_eq_false (by as_aux_lemma => kernel_rfl))]; exact ⟨rfl, rfl⟩)
    (fun os started H enc _ => lifted hruns os started H enc)
set_option maxHeartbeats 0 in
theorem card_of (hruns : LawRuns) : Rows.LibraryKindsCardSaid :=
  Claim7.holds_tied_plain_at .later [] [.data, .pinned] true (true, "c6dfe436515bb85940aedfd53352dfc11067a417ccd42119d6c3c4152a5fa113") true
    (row_holds hruns) (fun _ h => by cases h) (by as_aux_lemma => kernel_rfl) (fun _ h => by cases h) libraryKinds_row_tie rfl ⟨rfl, rfl⟩ (by as_aux_lemma => kernel_rfl) rfl
    (fun f fn hf hfn => by
      obtain rfl : f = 3 := Option.some.inj ((show Tryz.prog.funcNamed "keysmith/keysmithlaw28.LibraryKinds" = some 3 by as_aux_lemma => kernel_rfl).symm.trans hf) |>.symm
      obtain rfl : fn = Tryz.f3 := (Option.some.inj (Tryz.func3.symm.trans hfn)).symm
      exact ⟨by as_aux_lemma => kernel_rfl, fun j t ht => by
        rw [Tryz.params3] at ht
        have h3 : t = 3 := by
          rcases j with _ | _ | _ | j
          · simpa using ht.symm
          · simpa using ht.symm
          · simpa using ht.symm
          · simp at ht
        subst h3
        exact (show Tryz.prog.wantsStandIn 3 = false by as_aux_lemma => kernel_rfl)⟩)
    (by as_aux_lemma => kernel_rfl)
end Go.Proofs.YtclndhhiccdjnaaGreatDoor
namespace Go.Ev
open Go Go.RowKit Go.Proofs
theorem law_runs : ∀ s ∈ namesL, lawRun s = some true := by
  intro s hs
  simp only [namesL, List.mem_cons, List.not_mem_nil, or_false] at hs
  rcases hs with rfl | rfl | rfl | rfl | rfl | rfl | rfl | rfl | rfl | rfl | rfl | rfl
  · exact run_add
  · exact run_crt
  · exact run_dh
  · exact run_modexp1
  · exact run_modexp2
  · exact run_modexp3
  · exact run_modexp4
  · exact run_modexp5
  · exact run_modexp6
  · exact run_mul
  · exact run_rsapublic
  · exact run_swap
end Go.Ev
namespace Go.Proofs.YtclndhhiccdjnaaGreatDoor
/-- LibraryKinds: for every input the law returns true, and each argument reads afterwards as it read before. -/
theorem libraryKinds_holds : Rows.LibraryKindsCardSaid := card_of Go.Ev.law_runs
end Go.Proofs.YtclndhhiccdjnaaGreatDoor
