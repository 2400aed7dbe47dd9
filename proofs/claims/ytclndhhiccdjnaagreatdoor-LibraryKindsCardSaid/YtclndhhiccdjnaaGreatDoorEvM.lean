/- Pick, lives and Names answer as they should. -/
import Derived.WalkSpells
import Derived.StillTailTactics
import Derived.Test.YtclndhhiccdjnaaGreatDoorEvL
set_option maxRecDepth 1000000
set_option maxHeartbeats 400000
namespace Go.Ev
open Go Go.RowKit Go.Proofs
/-! the law from behind Pick on -/
noncomputable def hk : AH := ⟨.nd (some (.cells 1 2 [[.lin .i64 0 1 0, .lin .i64 0 0 1]] false none)) .e .e, .o .one, .e⟩
noncomputable def Lk (s : List UInt8) : PT AV := mkPT [(11, .str s), (12, .slice .one 0 2 (some 2))] .e
noncomputable def Ll (v w : AV) : PT AV := mkPT [(7, v), (8, w)] .e
noncomputable def lawEnd : AX → PT AV → AH → Option Bool := fun x L _ => match x with
  | .ret => (match L.get (posOf 6) with | some (.bool true) => some true | _ => none)
  | _ => none
noncomputable def kernEnd : AX → PT AV → AH → Option Bool := fun x L h => match x with
  | .ret => (match L.get (posOf 8), L.get (posOf 9) with
    | some v, some w => run (T0 Bool) 1000000 lawC (Ll v w) h lawEnd
    | _, _ => none)
  | _ => none
noncomputable def lawRun (s : List UInt8) : Option Bool := run (T0 Bool) 1000000 kernC (Lk s) hk kernEnd
end Go.Ev
namespace Go.Ev
open Go Go.RowKit Go.Proofs
/-! ### Pick -/
set_option maxHeartbeats 1000000 in
theorem pick_any (a : Int) (n : Nat) (hn : 0 < n) (hn2 : n < 1000) (w : World) : Calls Tryz.prog 17 #[.int .i64 a, .int .i64 n] w fun e w' => (∃ p : Nat, e = .returned (.int .i64 p) ∧ p < n) ∧ w' = w := by
  have h1 : decide ((n : Int) < 1) = false := by simp; omega
  have hz : (n : Int) ≠ 0 := by omega
  obtain ⟨r, hr⟩ : ∃ r, r = Int.tmod a n := ⟨_, rfl⟩
  go_enter Tryz.func17, Tryz.ntmps17
  have hlo : -(n : Int) < Int.tmod a n := by have := Int.lt_tmod_of_pos a (b := (n : Int)) (by omega); omega
  have hhi : Int.tmod a n < n := Int.tmod_lt_of_pos a (by omega)
  go_wp2
  all_goals
    rename_i h
    go_ret
  · exact ⟨⟨(Int.tmod a n + n).toNat, by rw [Int.toNat_of_nonneg (by omega)]; rfl, by omega⟩, rfl⟩
  · exact ⟨⟨(Int.tmod a n).toNat, by rw [Int.toNat_of_nonneg h]; rfl, by omega⟩, rfl⟩
/-! ### a fresh heap -/
theorem HR.empty {ν : Nu} {w : World} (hs : Start w) (hp : ν.priv = []) : HR ν w (fun _ => none) h0 w := {
  below := Below.refl _ _
  fr := fun p _ => ⟨rfl, PT.get_e p, PT.get_e p⟩
  ob := fun p i h => by cases h
  inj := fun p q i j h => by cases h
  chain := fun c l h => by rw [show h0.cls.get c = none from PT.get_e c] at h; cases h
  memb := fun c l p h => by rw [show h0.cls.get c = none from PT.get_e c] at h; cases h
  start := hs
  priv := fun k o h => by rw [hp] at h; cases h }
def nu1 : Nu := { x := 1, y := 1, hx := by decide, hy := by decide }
/-! ### lives -/
noncomputable def livesR : Option Bool := callTop (T0 Bool) 1000000 (posOf 4) [] h0 (fun x v _ => match x, v with | .ret, .bool true => some true | _, _ => none)
theorem lives_true : livesR = some true := by kernel_rfl
theorem lives_calls {w : World} (hs : Start w) : Calls Tryz.prog 4 #[] w fun e w' => e = .returned (.bool true) ∧ Below w.heap.size w w' := by
  obtain ⟨p, v, h', h1, h2⟩ := callTop_spec env0 mixed0 tab0 lives_true
  cases p with
  | true => cases h1
  | false =>
    have hv : v = .bool true := by
      simp only [cond_false] at h1
      split at h1
      · rfl
      · cases h1
    subst hv
    have e4 : (callFunc 4 #[]).run Tryz.prog w = .ok (.enter 4 #[]) w := run_callFunc Tryz.func4 rfl (by decide)
    rcases h2 (fun _ => none) nu1 w w [] (HR.empty hs rfl) rfl with ⟨_, hc⟩ | ⟨u, w', hc, _⟩
    · refine hc.mono ?_
      rintro e w' ⟨φ', u, _, H, hu, hm⟩
      simp only [conc, Option.some.injEq] at hu
      subst hu
      cases e with
      | returned x => exact ⟨by rw [hm.2], H.below⟩
      | panicked c => exact absurd hm.1 (by simp)
      | outgrown => exact hm.elim
    · have hc : (callFunc 4 #[]).run Tryz.prog w = .ok (.value u) w' := hc
      rw [e4] at hc; cases hc
/-! ### Names -/
def namesL : List (List UInt8) := [[97, 100, 100], [99, 114, 116], [100, 104], [109, 111, 100, 101, 120, 112, 49], [109, 111, 100, 101, 120, 112, 50], [109, 111, 100, 101, 120, 112, 51], [109, 111, 100, 101, 120, 112, 52], [109, 111, 100, 101, 120, 112, 53], [109, 111, 100, 101, 120, 112, 54], [109, 117, 108], [114, 115, 97, 112, 117, 98, 108, 105, 99], [115, 119, 97, 112]]
noncomputable def namesR : Option (AV × AH) := callTop (T0 (AV × AH)) 1000 (posOf 16) [] h0 (fun x v h => match x with | .ret => some (v, h) | _ => none)
noncomputable def namesH : AH := ⟨.nd (some (.cells 1 12 (chunk (namesL.map .str)) false none)) .e .e, .o .one, .e⟩
theorem names_are : namesR = some (.slice .one 0 12 (some 12), namesH) := by kernel_rfl
theorem names_calls {w : World} (hs : Start w) : Calls Tryz.prog 16 #[] w fun e w' => ∃ B o, e = .returned (.slice (some ⟨B, o, none⟩) 12 12) ∧ Below w.heap.size w w' ∧ ∀ (j : Nat) (s : List UInt8), namesL[j]? = some s → w'.cell? ⟨B, o + j, none⟩ = some (.string ⟨s.toArray⟩) := by
  obtain ⟨p, v, h', h1, h2⟩ := callTop_spec env0 mixed0 tab0 names_are
  cases p with
  | true => cases h1
  | false =>
    simp only [cond_false, Option.some.injEq, Prod.mk.injEq] at h1
    obtain ⟨rfl, rfl⟩ := h1
    have e4 : (callFunc 16 #[]).run Tryz.prog w = .ok (.enter 16 #[]) w := run_callFunc Tryz.func16 rfl (by decide)
    rcases h2 (fun _ => none) nu1 w w [] (HR.empty hs rfl) rfl with ⟨_, hc⟩ | ⟨u, w', hc, _⟩
    · refine hc.mono ?_
      rintro e w' ⟨φ', u, _, H, hu, hm⟩
      obtain ⟨i, hi, rfl⟩ := conc_slice hu
      obtain ⟨_, o, ho, hok⟩ := H.ob .one i hi
      have hobj : namesH.objs.get .one = some (.cells 1 12 (chunk (namesL.map .str)) false none) := rfl
      rw [hobj] at ho; cases ho
      obtain ⟨_, _, _, _, c, t, fz, g5, _, _, _, g9⟩ := hok
      have hcell : ∀ (j : Nat) (s : List UInt8), namesL[j]? = some s → w'.cell? ⟨i.blk, i.off + 0 + j, none⟩ = some (.string ⟨s.toArray⟩) := by
        intro j s hj
        obtain ⟨u, q1, q2⟩ := g9 (fun c hc => by cases hc) j (.str s) (by rw [chunk_get, List.getElem?_map, hj]; rfl)
        simp only [conc, Option.some.injEq] at q1
        subst q1
        simp [World.cell?, g5, q2]
      cases e with
      | returned x => exact ⟨i.blk, i.off + 0, by rw [hm.2]; rfl, H.below, hcell⟩
      | panicked c => exact absurd hm.1 (by simp)
      | outgrown => exact hm.elim
    · have hc : (callFunc 16 #[]).run Tryz.prog w = .ok (.value u) w' := hc
      rw [e4] at hc; cases hc
end Go.Ev
