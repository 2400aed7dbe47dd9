/- Those contracts at this program. No condition. -/
import Derived.Shelf.SlGeneric
import Derived.Shelf.SlSortCmp.WholeK
import Derived.Shelf.Strings.Replace
import Derived.Test.YtclndhhiccdjnaaGreatDoorProg
import Derived.WalkKit
import Derived.WalkSpells
import Derived.StillTailTactics
import Derived.Sort.Grow
import Derived.Deep.Draws
import Derived.Lib.Hide
import Derived.Shelf.SlSortCmp.NoneTotal
import Derived.Test.YtclndhhiccdjnaaGreatDoorEvD
set_option maxRecDepth 1000000
set_option maxHeartbeats 400000
namespace Go.Proofs
open Go.Shelf
def Tryz.lays155_ren : Go.Shelf.Ren := ⟨fun | 155 => 67 | 154 => 116 | 138 => 195 | 165 => 196 | 143 => 197 | 166 => 198 | 197 => 199 | 169 => 200 | 195 => 274 | 218 => 275 | 240 => 276 | 241 => 277 | 219 => 278 | 260 => 279 | 276 => 329 | 277 => 330 | 217 => 331 | 225 => 332 | 224 => 333 | 267 => 334 | 266 => 359 | 314 => 360 | n => n, fun | 9 => 9 | 3 => 3 | 4 => 4 | 72 => 268 | 0 => 0 | 76 => 272 | 105 => 274 | 21 => 21 | 5 => 5 | 70 => 265 | 20 => 20 | 37 => 266 | 75 => 271 | 127 => 331 | 164 => 370 | 46 => 128 | 119 => 373 | 139 => 376 | 138 => 375 | 146 => 362 | 51 => 361 | 80 => 160 | n => n, fun | 1 => 0 | 3 => 1 | 4 => 2 | n => n⟩
theorem Tryz.lays155 : Go.Proofs.Lays.n155 Tryz.prog Tryz.lays155_ren := {
  mixed := by kernel_rfl
  f138 := Tryz.func195.trans (congrArg some (by kernel_rfl))
  f143 := Tryz.func197.trans (congrArg some (by kernel_rfl))
  f154 := Tryz.func116.trans (congrArg some (by kernel_rfl))
  f155 := Tryz.func67.trans (congrArg some (by kernel_rfl))
  f165 := Tryz.func196.trans (congrArg some (by kernel_rfl))
  f166 := Tryz.func198.trans (congrArg some (by kernel_rfl))
  f169 := Tryz.func200.trans (congrArg some (by kernel_rfl))
  f195 := Tryz.func274.trans (congrArg some (by kernel_rfl))
  f197 := Tryz.func199.trans (congrArg some (by kernel_rfl))
  f217 := Tryz.func331.trans (congrArg some (by kernel_rfl))
  f218 := Tryz.func275.trans (congrArg some (by kernel_rfl))
  f219 := Tryz.func278.trans (congrArg some (by kernel_rfl))
  f224 := Tryz.func333.trans (congrArg some (by kernel_rfl))
  f225 := Tryz.func332.trans (congrArg some (by kernel_rfl))
  f240 := Tryz.func276.trans (congrArg some (by kernel_rfl))
  f241 := Tryz.func277.trans (congrArg some (by kernel_rfl))
  f260 := Tryz.func279.trans (congrArg some (by kernel_rfl))
  f266 := Tryz.func359.trans (congrArg some (by kernel_rfl))
  f267 := Tryz.func334.trans (congrArg some (by kernel_rfl))
  f276 := Tryz.func329.trans (congrArg some (by kernel_rfl))
  f277 := Tryz.func330.trans (congrArg some (by kernel_rfl))
  f314 := Tryz.func360.trans (congrArg some (by kernel_rfl))
  t0 := Tryz.underlying0
  a0 := Tryz.isAgg0
  z0 := Tryz.sizeOf0
  v0 := Tryz.zeroValue0
  t3 := Tryz.underlying3
  a3 := Tryz.isAgg3
  z3 := Tryz.sizeOf3
  v3 := Tryz.zeroValue3
  t4 := Tryz.underlying4
  a4 := Tryz.isAgg4
  z4 := Tryz.sizeOf4
  v4 := Tryz.zeroValue4
  t5 := Tryz.underlying5
  a5 := Tryz.isAgg5
  z5 := Tryz.sizeOf5
  v5 := Tryz.zeroValue5
  t9 := Tryz.underlying9
  a9 := Tryz.isAgg9
  z9 := Tryz.sizeOf9
  v9 := Tryz.zeroValue9
  t20 := Tryz.underlying20
  a20 := Tryz.isAgg20
  z20 := Tryz.sizeOf20
  v20 := Tryz.zeroValue20
  t21 := Tryz.underlying21
  a21 := Tryz.isAgg21
  z21 := Tryz.sizeOf21
  v21 := Tryz.zeroValue21
  t37 := Tryz.underlying266
  a37 := Tryz.isAgg266
  z37 := Tryz.sizeOf266
  v37 := Tryz.zeroValue266
  t46 := Tryz.underlying128
  a46 := Tryz.isAgg128
  z46 := Tryz.sizeOf128
  v46 := Tryz.zeroValue128
  t51 := Tryz.underlying361
  a51 := Tryz.isAgg361
  z51 := Tryz.sizeOf361
  v51 := Tryz.zeroValue361
  t70 := Tryz.underlying265
  a70 := Tryz.isAgg265
  z70 := Tryz.sizeOf265
  v70 := Tryz.zeroValue265
  t72 := Tryz.underlying268
  a72 := Tryz.isAgg268
  z72 := Tryz.sizeOf268
  v72 := Tryz.zeroValue268
  t75 := Tryz.underlying271
  a75 := Tryz.isAgg271
  z75 := Tryz.sizeOf271
  v75 := Tryz.zeroValue271
  t76 := Tryz.underlying272
  a76 := Tryz.isAgg272
  z76 := Tryz.sizeOf272
  v76 := Tryz.zeroValue272
  t105 := Tryz.underlying274
  a105 := Tryz.isAgg274
  z105 := Tryz.sizeOf274
  v105 := Tryz.zeroValue274
  t119 := Tryz.underlying373
  a119 := Tryz.isAgg373
  z119 := Tryz.sizeOf373
  t127 := Tryz.underlying331
  a127 := Tryz.isAgg331
  z127 := Tryz.sizeOf331
  v127 := Tryz.zeroValue331
  t138 := Tryz.underlying375
  a138 := Tryz.isAgg375
  z138 := Tryz.sizeOf375
  v138 := Tryz.zeroValue375
  t139 := Tryz.underlying376
  a139 := Tryz.isAgg376
  z139 := Tryz.sizeOf376
  v139 := Tryz.zeroValue376
  t146 := Tryz.underlying362
  a146 := Tryz.isAgg362
  z146 := Tryz.sizeOf362
  v146 := Tryz.zeroValue362
  t164 := Tryz.underlying370
  a164 := Tryz.isAgg370
  z164 := Tryz.sizeOf370
  v164 := Tryz.zeroValue370
  g1 := by kernel_rfl
  g3 := by kernel_rfl
  g4 := by kernel_rfl }
def Tryz.laysSF_ren : Go.Shelf.Ren := ⟨fun | 6 => 325 | 15 => 357 | 14 => 356 | 28 => 375 | 29 => 376 | 20 => 367 | 21 => 368 | 22 => 369 | 23 => 370 | 24 => 371 | 25 => 372 | 26 => 373 | 27 => 374 | 46 => 379 | 47 => 380 | 48 => 381 | 49 => 382 | 50 => 383 | 57 => 384 | n => n, fun | 22 => 69 | 24 => 73 | 25 => 329 | 3 => 3 | 39 => 128 | 0 => 0 | 53 => 361 | 55 => 49 | 4 => 4 | 46 => 396 | 45 => 395 | 50 => 251 | 5 => 5 | 9 => 9 | 66 => 404 | 70 => 313 | 76 => 409 | 77 => 410 | n => n, fun | n => n⟩
theorem Tryz.laysSF : Go.Proofs.SlLaysF0.n6 Tryz.prog Tryz.laysSF_ren := {
  mixed := by kernel_rfl
  f6 := ⟨Tryz.f325.name, by decide, Tryz.func325.trans (congrArg some (by kernel_rfl))⟩
  f14 := ⟨Tryz.f356.name, by decide, Tryz.func356.trans (congrArg some (by kernel_rfl))⟩
  f15 := Tryz.func357.trans (congrArg some (by kernel_rfl))
  f20 := ⟨Tryz.f367.name, by decide, Tryz.func367.trans (congrArg some (by kernel_rfl))⟩
  f21 := ⟨Tryz.f368.name, by decide, Tryz.func368.trans (congrArg some (by kernel_rfl))⟩
  f22 := ⟨Tryz.f369.name, by decide, Tryz.func369.trans (congrArg some (by kernel_rfl))⟩
  f23 := ⟨Tryz.f370.name, by decide, Tryz.func370.trans (congrArg some (by kernel_rfl))⟩
  f24 := ⟨Tryz.f371.name, by decide, Tryz.func371.trans (congrArg some (by kernel_rfl))⟩
  f25 := ⟨Tryz.f372.name, by decide, Tryz.func372.trans (congrArg some (by kernel_rfl))⟩
  f26 := ⟨Tryz.f373.name, by decide, Tryz.func373.trans (congrArg some (by kernel_rfl))⟩
  f27 := ⟨Tryz.f374.name, by decide, Tryz.func374.trans (congrArg some (by kernel_rfl))⟩
  f28 := Tryz.func375.trans (congrArg some (by kernel_rfl))
  f29 := Tryz.func376.trans (congrArg some (by kernel_rfl))
  f46 := ⟨Tryz.f379.name, by decide, Tryz.func379.trans (congrArg some (by kernel_rfl))⟩
  f47 := Tryz.func380.trans (congrArg some (by kernel_rfl))
  f48 := Tryz.func381.trans (congrArg some (by kernel_rfl))
  f49 := ⟨Tryz.f382.name, by decide, Tryz.func382.trans (congrArg some (by kernel_rfl))⟩
  f50 := ⟨Tryz.f383.name, by decide, Tryz.func383.trans (congrArg some (by kernel_rfl))⟩
  f57 := ⟨Tryz.f384.name, by decide, Tryz.func384.trans (congrArg some (by kernel_rfl))⟩
  t0 := Tryz.underlying0
  a0 := Tryz.isAgg0
  z0 := Tryz.sizeOf0
  v0 := Tryz.zeroValue0
  t3 := Tryz.underlying3
  a3 := Tryz.isAgg3
  z3 := Tryz.sizeOf3
  v3 := Tryz.zeroValue3
  t4 := Tryz.underlying4
  a4 := Tryz.isAgg4
  z4 := Tryz.sizeOf4
  v4 := Tryz.zeroValue4
  t5 := Tryz.underlying5
  a5 := Tryz.isAgg5
  z5 := Tryz.sizeOf5
  v5 := Tryz.zeroValue5
  t9 := Tryz.underlying9
  a9 := Tryz.isAgg9
  z9 := Tryz.sizeOf9
  v9 := Tryz.zeroValue9
  t22 := Tryz.underlying69
  a22 := Tryz.isAgg69
  z22 := Tryz.sizeOf69
  v22 := Tryz.zeroValue69
  t25 := Tryz.underlying329
  a25 := Tryz.isAgg329
  z25 := Tryz.sizeOf329
  v25 := Tryz.zeroValue329
  t39 := Tryz.underlying128
  a39 := Tryz.isAgg128
  z39 := Tryz.sizeOf128
  v39 := Tryz.zeroValue128
  t45 := Tryz.underlying395
  a45 := Tryz.isAgg395
  z45 := Tryz.sizeOf395
  v45 := Tryz.zeroValue395
  t46 := Tryz.underlying396
  a46 := Tryz.isAgg396
  z46 := Tryz.sizeOf396
  v46 := Tryz.zeroValue396
  t50 := Tryz.underlying251
  a50 := Tryz.isAgg251
  z50 := Tryz.sizeOf251
  v50 := Tryz.zeroValue251
  t53 := Tryz.underlying361
  a53 := Tryz.isAgg361
  z53 := Tryz.sizeOf361
  v53 := Tryz.zeroValue361
  t55 := Tryz.underlying49
  a55 := Tryz.isAgg49
  z55 := Tryz.sizeOf49
  v55 := Tryz.zeroValue49
  t66 := Tryz.underlying404
  a66 := Tryz.isAgg404
  z66 := Tryz.sizeOf404
  v66 := Tryz.zeroValue404
  t70 := Tryz.underlying313
  a70 := Tryz.isAgg313
  z70 := Tryz.sizeOf313
  v70 := Tryz.zeroValue313
  t76 := Tryz.underlying409
  a76 := Tryz.isAgg409
  z76 := Tryz.sizeOf409
  v76 := Tryz.zeroValue409
  t77 := Tryz.underlying410
  a77 := Tryz.isAgg410
  z77 := Tryz.sizeOf410
  v77 := Tryz.zeroValue410 }
end Go.Proofs
namespace Go.Proofs
open Go Go.RowKit
def cmpI (x y : Int) : Int := if x < y then -1 else if y < x then 1 else 0
set_option maxHeartbeats 400000 in
theorem isNaN_any (x : Int) (w : World) : Calls Tryz.prog 358 #[.int .i64 x] w fun e w' => e = .returned (.bool false) ∧ w = w' := by
  go_enter Tryz.func358, Tryz.ntmps358
  go_wp2
  go_ret
  exact ⟨rfl, rfl⟩
set_option maxHeartbeats 400000 in
theorem cmp_any (x y : Int) (w : World) : Calls Tryz.prog 328 #[.int .i64 x, .int .i64 y] w fun e w' => e = .returned (.int .i64 (cmpI x y)) ∧ w = w' := by
  unfold cmpI
  by_cases h1 : x < y
  · rw [if_pos h1]
    have h1' : decide (x < y) = true := by simpa using h1
    go_enter Tryz.func328, Tryz.ntmps328
    go_wp2_with (go_at_call 358; refine (isNaN_any _ _).mono ?_; rintro e w' ⟨rfl, rfl⟩)
    go_ret
    exact ⟨rfl, rfl⟩
  · rw [if_neg h1]
    have h1' : decide (x < y) = false := by simpa using h1
    by_cases h2 : y < x
    · rw [if_pos h2]
      have h2' : decide (x > y) = true := by simpa using h2
      go_enter Tryz.func328, Tryz.ntmps328
      go_wp2_with (go_at_call 358; refine (isNaN_any _ _).mono ?_; rintro e w' ⟨rfl, rfl⟩)
      go_ret
      exact ⟨rfl, rfl⟩
    · rw [if_neg h2]
      have h2' : decide (x > y) = false := by simpa using h2
      go_enter Tryz.func328, Tryz.ntmps328
      go_wp2_with (go_at_call 358; refine (isNaN_any _ _).mono ?_; rintro e w' ⟨rfl, rfl⟩)
      go_ret
      exact ⟨rfl, rfl⟩
def or3 (x y z : Int) : Int := if x ≠ 0 then x else if y ≠ 0 then y else z
set_option maxHeartbeats 1000000 in
theorem or_any (b : Nat) (x y z : Int) (w : World) (hx : w.cell? ⟨b, 0, none⟩ = some (.int .i64 x)) (hy : w.cell? ⟨b, 1, none⟩ = some (.int .i64 y)) (hz : w.cell? ⟨b, 2, none⟩ = some (.int .i64 z)) :
    Calls Tryz.prog 327 #[.slice (some ⟨b, 0, none⟩) 3 3] w fun e w' => e = .returned (.int .i64 (or3 x y z)) ∧ w = w' := by
  go_enter Tryz.func327, Tryz.ntmps327
  go_wp2
  go_loop [8] (fun i => ∃ k : Nat, i = .int .i64 k ∧ (k = 0 ∨ k = 1 ∧ x = 0 ∨ k = 2 ∧ x = 0 ∧ y = 0 ∨ k = 3 ∧ x = 0 ∧ y = 0 ∧ z = 0)) (fun i => 3 - (intOf i).toNat)
  case atStart => exact ⟨0, rfl, .inl rfl⟩
  case round =>
    obtain ⟨k, rfl, hk⟩ := hrel
    rcases hk with rfl | ⟨rfl, rfl⟩ | ⟨rfl, rfl, rfl⟩ | ⟨rfl, rfl, rfl, rfl⟩
    · by_cases h0 : x = 0
      · subst h0
        go_wp2
        go_round
        case rel => exact ⟨1, rfl, by simp⟩
        case measure => simp [intOf]
      · have hb : (x == 0) = false := by simpa using h0
        have hb2 : (x != 0) = true := by simpa using h0
        have e : or3 x y z = x := by unfold or3; simp [h0]
        go_wp2
        go_ret
        exact ⟨rfl, rfl⟩
    · by_cases h0 : y = 0
      · subst h0
        go_wp2
        go_round
        case rel => exact ⟨2, rfl, by simp⟩
        case measure => simp [intOf]
      · have hb : (y == 0) = false := by simpa using h0
        have hb2 : (y != 0) = true := by simpa using h0
        have e : or3 0 y z = y := by unfold or3; simp [h0]
        go_wp2
        go_ret
        exact ⟨rfl, rfl⟩
    · by_cases h0 : z = 0
      · subst h0
        go_wp2
        go_round
        case rel => exact ⟨3, rfl, by simp⟩
        case measure => simp [intOf]
      · have hb : (z == 0) = false := by simpa using h0
        have hb2 : (z != 0) = true := by simpa using h0
        have e : or3 0 0 z = z := by unfold or3; simp
        go_wp2
        go_ret
        exact ⟨rfl, rfl⟩
    · go_wp2
      go_ret
      exact ⟨by simp [or3], rfl⟩
end Go.Proofs
namespace Go.Proofs
open Go Go.RowKit Go.Sort
theorem mixed : Tryz.prog.follows .mixedOrders = true := by kernel_rfl
def factC (a b : Int × Int × Int) : Int := or3 (cmpI a.1 b.1) (cmpI a.2.1 b.2.1) (cmpI a.2.2 b.2.2)
def fv (a : Int × Int × Int) : Value := .agg #[.int .i64 a.1, .int .i64 a.2.1, .int .i64 a.2.2]
theorem cmp_same (x y : Int) (w : World) : Calls Tryz.prog 328 #[.int .i64 x, .int .i64 y] w fun e w' => e = .returned (.int .i64 (cmpI x y)) ∧ w' = w := (cmp_any x y w).mono fun _ _ ⟨h1, h2⟩ => ⟨h1, h2.symm⟩
set_option maxRecDepth 100000 in
set_option maxHeartbeats 1000000 in
theorem compare_any (a b : Int × Int × Int) (w : World) :
    Calls Tryz.prog 273 #[fv a, fv b] w fun e w' => e = .returned (.int .i64 (factC a b)) ∧ ∃ q os', w' = grow (w.drewN q) os' := by
  obtain ⟨a1, a2, a3⟩ := a
  obtain ⟨b1, b2, b3⟩ := b
  unfold fv factC
  dsimp only
  go_enter Tryz.func273, Tryz.ntmps273
  go_wp2
  obtain ⟨W, hW⟩ : ∃ W, W = (w.alloc (.cells #[.int .i64 a1, .int .i64 a2, .int .i64 a3] 73)).alloc (.cells #[.int .i64 b1, .int .i64 b2, .int .i64 b3] 73) := ⟨_, rfl⟩
  rw [← hW]
  have c0 : W.drew.cell? ⟨w.heap.size, 0, none⟩ = some (.int .i64 a1) := by rw [hW]; simp [go_sem]
  have c1 : W.drew.cell? ⟨w.heap.size, 1, none⟩ = some (.int .i64 a2) := by rw [hW]; simp [go_sem]
  have c2 : W.drew.cell? ⟨w.heap.size, 2, none⟩ = some (.int .i64 a3) := by rw [hW]; simp [go_sem]
  have d0 : W.drew.cell? ⟨w.heap.size + 1, 0, none⟩ = some (.int .i64 b1) := by rw [hW]; simp [go_sem]
  have d1 : W.drew.cell? ⟨w.heap.size + 1, 1, none⟩ = some (.int .i64 b2) := by rw [hW]; simp [go_sem]
  have d2 : W.drew.cell? ⟨w.heap.size + 1, 2, none⟩ = some (.int .i64 b3) := by rw [hW]; simp [go_sem]
  refine wp_region_still_tail 15 mixed (by kernel_rfl) ?_
  simp only [List.take_succ_cons, List.take_zero, List.drop_succ_cons, List.drop_zero]
  change wpStill _ _ W.drew (fun a' => wpList _ _ _ _ a' W.drew) _ _
  obtain ⟨V, hV⟩ : ∃ V, V = W.drew := ⟨_, rfl⟩
  rw [← hV] at c0 c1 c2 d0 d1 d2 ⊢
  have HV := Lib.hid (And.intro hV hW); clear hV hW
  still_step
  still_step
  still_step
  still_step
  still_call (cmp_same _ _ _)
  still_step
  still_step
  still_step
  still_step
  still_call (cmp_same _ _ _)
  still_step
  still_step
  still_step
  still_step
  still_call (cmp_same _ _ _)
  refine wpStill_nil ?_
  go_wp2_with (go_at_call 327; refine (or_any V.heap.size (cmpI a1 b1) (cmpI a2 b2) (cmpI a3 b3) _ (by simp [go_sem]) (by simp [go_sem]) (by simp [go_sem])).mono ?_; rintro e w' ⟨rfl, rfl⟩)
  go_ret
  refine ⟨rfl, 1, #[.cells #[.int .i64 a1, .int .i64 a2, .int .i64 a3] 73] ++ #[.cells #[.int .i64 b1, .int .i64 b2, .int .i64 b3] 73] ++ #[.cells #[.int .i64 (cmpI a1 b1), .int .i64 (cmpI a2 b2), .int .i64 (cmpI a3 b3)] 3], ?_⟩
  rw [HV.out.1, HV.out.2, alloc_eq_grow, alloc_eq_grow w, alloc_eq_grow (grow w _), grow_grow]
  have e : ∀ os, (grow w os).drew = grow (w.drewN 1) os := fun os => rfl
  rw [e, grow_grow]
end Go.Proofs
namespace Go.Ev
open Go Go.RowKit Go.Sort Go.Shelf Go.Proofs
theorem cmpI_lt (x y : Int) : cmpI x y < 0 ↔ x < y := by
  unfold cmpI
  by_cases h1 : x < y
  · simp [h1]
  · by_cases h2 : y < x <;> simp [h1, h2]
theorem cmpI_zero (x y : Int) : cmpI x y = 0 ↔ x = y := by
  unfold cmpI
  by_cases h1 : x < y
  · simp [h1]; omega
  · by_cases h2 : y < x
    · simp [h1, h2]; omega
    · simp [h1, h2]; omega
theorem ltC_iff (a b : T3) : ltOf factC a b = true ↔ a.1 < b.1 ∨ a.1 = b.1 ∧ (a.2.1 < b.2.1 ∨ a.2.1 = b.2.1 ∧ a.2.2 < b.2.2) := by
  unfold ltOf factC or3
  rw [decide_eq_true_iff]
  by_cases h1 : cmpI a.1 b.1 = 0
  · simp only [h1, ne_eq, not_true_eq_false, if_false]
    have := (cmpI_zero _ _).1 h1
    by_cases h2 : cmpI a.2.1 b.2.1 = 0
    · simp only [h2, not_true_eq_false, if_false]
      have := (cmpI_zero _ _).1 h2
      rw [cmpI_lt]; omega
    · simp only [h2, not_false_eq_true, if_true]
      have : a.2.1 ≠ b.2.1 := fun e => h2 ((cmpI_zero _ _).2 e)
      rw [cmpI_lt]; omega
  · simp only [h1, ne_eq, not_false_eq_true, if_true]
    have : a.1 ≠ b.1 := fun e => h1 ((cmpI_zero _ _).2 e)
    rw [cmpI_lt]; omega
theorem ltC_le (a b : T3) : (!ltOf factC b a) = leT a b := by
  rw [Bool.eq_iff_iff, leT_iff, Bool.not_eq_true', ← Bool.not_eq_true, ltC_iff]; omega
theorem swoC : SWO (ltOf factC) := {
  irrefl x := by rw [← Bool.not_eq_true, ltC_iff]; omega
  trans x y z := by rw [ltC_iff, ltC_iff, ltC_iff]; omega
  ntrans x y z := by rw [← Bool.not_eq_true, ← Bool.not_eq_true, ← Bool.not_eq_true, ltC_iff, ltC_iff, ltC_iff]; omega }
theorem Tryz.cmpLays (blk off size : Nat) (w : World) : CmpLays Tryz.prog 273 #[] encC 3 factC blk off size w := fun _ _ _ _ x y => compare_any x y _
theorem flat_len : ∀ l : List T3, (l.flatMap encC).length = l.length * 3
  | [] => rfl
  | a :: l => by rw [List.flatMap_cons, List.length_append, flat_len l]; simp [encC]; omega
theorem flat_get : ∀ (l : List T3) (t : Nat), t < l.length * 3 → (l.flatMap encC)[t]? = some ((encC l[t / 3]!)[t % 3]!)
  | [], t, h => by simp at h
  | a :: l, t, h => by
    rw [List.flatMap_cons, List.getElem?_append]
    by_cases h3 : t < 3
    · rw [if_pos (by simpa [encC] using h3)]
      have h0 : t / 3 = 0 := by omega
      have h1 : t % 3 = t := by omega
      rw [h0, h1]
      have : t = 0 ∨ t = 1 ∨ t = 2 := by omega
      rcases this with rfl | rfl | rfl <;> rfl
    · rw [if_neg (by simpa [encC] using h3)]
      have e : t - (encC a).length = t - 3 := rfl
      rw [e, flat_get l (t - 3) (by simp at h; omega)]
      have h0 : t / 3 = (t - 3) / 3 + 1 := by omega
      have h1 : t % 3 = (t - 3) % 3 := by omega
      rw [h0, h1]
      rfl
theorem flatK_get (l : List T3) (j : Nat) (h : j < l.length * 3) : (flatK encC 3 l.toArray)[j]! = ((l.flatMap encC)[j]?).getD default := by
  rw [get_flatK _ _ _ _ (by simpa using h), flat_get l j h]
  simp
theorem Tryz.sortOK : SortOK Tryz.prog 325 273 73 := {
  enters := fun args w => run_callFunc Tryz.func325 rfl (by decide)
  none := fun W p cap => AnyF.slices_SortFunc_none (P := Tryz.prog) (ρ := Tryz.laysSF_ren) { Tryz.laysSF with } p cap _ W
  some := fun W B cap l cs hAt hcap hkc hl hle hxs => by
    have hlen : (l.flatMap encC).length = l.length * 3 := flat_len l
    have hH : HoldsK encC 3 W B 0 l.toArray := by
      intro j hj
      have hj : j < l.length * 3 := by simpa using hj
      have hu := flat_get l j hj
      have h2 := hxs j _ hu
      refine ⟨?_, ?_⟩
      · rw [show 0 + j = j from Nat.zero_add j, flatK_get l j hj, hu]
        exact hAt.cell h2
      · unfold At at hAt; simp [World.frozen?, hAt]
    have eg : ∀ args w, (callFunc 273 args).run Tryz.prog w = .ok (.enter 273 args) w := fun args w => run_callFunc Tryz.func273 rfl (by decide)
    have hT : ∀ x y : T3, (ltOf factC) x y = false → (ltOf factC) y x = false → x = y := fun x y h1 h2 => by
      refine leT_anti (a := x) (b := y) ?_ ?_
      · rw [← ltC_le, h2]; rfl
      · rw [← ltC_le, h1]; rfl
    have hcon := AnyQ.slices_SortFunc_total Tryz.laysSF 3 Tryz.isAgg73 Tryz.sizeOf73 encC (fun _ => rfl) (fun x v hv => by simp [encC] at hv; rcases hv with rfl | rfl | rfl <;> rfl) factC swoC 273 #[] B 0 cap l.toArray W eg (Tryz.cmpLays B 0 l.toArray.size W) hH hAt.lt (by simp; omega) hT
    refine hcon.mono ?_
    rintro e w' ⟨rfl, n, os, rfl⟩
    obtain ⟨l', hl'⟩ : ∃ l', l' = l.mergeSort fun x y => !(ltOf factC) y x := ⟨_, rfl⟩
    have hm : (l.toArray.toList.mergeSort fun x y => !(ltOf factC) y x) = l' := hl'.symm
    rw [hm]
    have hperm : l'.Perm l := by rw [hl']; exact List.mergeSort_perm l _
    have hlen' : (l'.flatMap encC).length = l'.length * 3 := flat_len l'
    refine ⟨rfl, l', putCells id 0 (flatK encC 3 l'.toArray) cs, hperm, ?_, ?_, by simp [putCells], ?_, ?_⟩
    · rw [hl']
      have h1 := List.pairwise_mergeSort (le := fun x y => !(ltOf factC) y x) (l := l) (fun a b c h1 h2 => by
        rw [ltC_le] at *; exact leT_trans h1 h2) (fun a b => by
        rw [ltC_le, ltC_le, Bool.or_eq_true]; exact leT_total a b)
      exact h1.imp fun h => by rw [← ltC_le]; exact h
    · have hlt := hAt.lt
      unfold At at hAt ⊢
      show ((mapBlock (Sort.ahead W n) B (putCells id 0 (flatK encC 3 l'.toArray))).heap ++ os)[B]? = _
      unfold mapBlock
      show (W.heap.modify B (onCells _) ++ os)[B]? = _
      rw [Array.getElem?_append_left (by simpa using hlt), Array.getElem?_modify, if_pos rfl, hAt]
      rfl
    · intro j u hu
      have hj : j < l'.length * 3 := by rw [← hlen']; exact (List.getElem?_eq_some_iff.1 hu).1
      have hcs : j < cs.size := by have := hperm.length_eq; omega
      unfold putCells
      rw [Array.getElem?_mapIdx, Array.getElem?_eq_getElem hcs, Option.map_some, if_pos ⟨by omega, by simp; omega⟩, Nat.sub_zero, flatK_get l' j hj, hu]
      rfl
    · refine ⟨rfl, rfl, rfl, ?_, ?_⟩
      · show W.heap.size ≤ (W.heap.modify B (onCells _) ++ os).size
        simp
      · intro k hk hne
        show (W.heap.modify B (onCells _) ++ os)[k]? = _
        rw [Array.getElem?_append_left (by simpa using hk), Array.getElem?_modify, if_neg (fun e => hne (by rw [e]))] }
end Go.Ev
namespace Go.Proofs
open Go Go.Shelf
theorem Tryz.extra155 : Builder.Extra Tryz.prog Tryz.lays155_ren := {
  sizeBuilder := by kernel_rfl
  liesBuilder := by kernel_rfl
  t5 := Tryz.lays155.t5
  a5 := Tryz.lays155.a5
  z5 := Tryz.lays155.z5
  v5 := Tryz.lays155.v5
  infoByte := by kernel_rfl
  cellsByte := by kernel_rfl
  sizeByte := by kernel_rfl
  neB5 := by decide }
end Go.Proofs
namespace Go.Ev
open Go Go.RowKit Go.Proofs
theorem Tryz.eqNilIn (w : World) : ∀ d : Nat, (Op.equalIn (d + 1) 20 .nilIface .nilIface).run Tryz.prog w = .ok true w := fun d => by
  simp [Op.equalIn]
theorem Tryz.eqNil (ρ : Operand → Value) (o : Oper) (w : World) (ho : o.op = .binOp .eql 20 (.tmp 6) (.const .nilIface) 20) (h6 : ρ (.tmp 6) = .nilIface) (hc : ρ (.const .nilIface) = .nilIface) : (execOp ρ o).run Tryz.prog w = .ok (.value (.bool true)) w := by
  have h : (Op.equal 20 .nilIface .nilIface).run Tryz.prog w = .ok true w := Tryz.eqNilIn w 9999
  simp [execOp, ho, binOp, h6, hc, h, go_sem, Result.andThen]
set_option maxHeartbeats 400000 in
theorem Tryz.still43 : StillD Tryz.prog 43 := by
  refine ⟨fun args w => run_callFunc Tryz.func43 rfl (by decide), fun args w => ?_⟩
  refine callsD_of_wpS Tryz.func43 rfl fun c₀ cs hu => ?_
  obtain ⟨T, hT⟩ : ∃ T, T = args ++ Array.replicate (Tryz.f43.ntmps - args.size) undef := ⟨_, rfl⟩
  rw [← hT]
  have hs : 16 ≤ T.size := by rw [hT]; simp [Tryz.ntmps43]; omega
  clear hT
  apply wpS_seq
  apply wpS_region
  simp [wpOpsS, go_sem, recoverD, hu, Exit.thenS]
  refine wpS_of_wp ?_
  obtain ⟨T', hT'⟩ : ∃ T', T' = T.setIfInBounds 6 Value.nilIface := ⟨_, rfl⟩
  have e6 : T'.getD 6 undef = .nilIface := by rw [hT', Array.getD_eq_getD_getElem?, Array.getElem?_setIfInBounds_self, if_pos (by omega)]; rfl
  have hs' : 16 ≤ T'.size := by rw [hT']; simpa using hs
  rw [← hT']
  refine (wpIn_wide (n := 0)).1 ?_
  have he : EvalIs { tmps := T', defers := [] } (fun t => T'.getD t undef) T'.size := ⟨rfl, eval_ext fun t => rfl⟩
  obtain ⟨N, hN⟩ : ∃ N, N = T'.size := ⟨_, rfl⟩
  rw [← hN] at he hs'
  refine wpIn_mono (F := Fr none) (Q := XQ.act (fun e σ ds w' => e = .normal ∧ ds = [] ∧ w' = w) N) ?_ ?_
  · have r3 : IsOps #[{ dst := some 8, op := Op.binOp BinOp.eql 20 (Operand.tmp 6) (Operand.const Value.nilIface) 20, type := 4, pos := "parse.go:296", after := #[], guard := none }] [(some 8, .binOp .eql 20 (.tmp 6) (.const .nilIface) 20)] := rfl
    have r4 : IsOps #[{ dst := some 3, op := Op.assign (Operand.tmp 6), type := 20, pos := "parse.go:296", after := #[], guard := none }] [(some 3, .assign (.tmp 6))] := rfl
    refine cx_block (N := N) (cx_seq (cx_region r3 ?_)) _ rfl he
    refine ox_val (v := .bool true) (fun o ho => Tryz.eqNil _ o w ho e6 rfl) (by simp) (by intro t ht; cases ht; exact Nat.lt_of_lt_of_le (by decide) hs') ?_
    refine ox_nil (cx_true (by simp [ev, mkv]) (cx_region r4 ?_))
    refine ox_val (v := .nilIface) (fun o ho => x_mv (.inr ho) (by simp only [ev, mkv, upd, e6]; rfl)) (by simp) (by intro t ht; cases ht; exact Nat.lt_of_lt_of_le (by decide) hs') ?_
    exact ox_nil ⟨rfl, rfl, rfl⟩
  · rintro e a' w' ⟨σ, ds, hd, h2, rfl, rfl, rfl⟩
    refine ⟨hd, .returning, ?_, .tuple #[], results_none rfl _ _ _, ⟨_, rfl⟩, rfl, Below.refl _ _⟩
    cases c₀; simp_all
end Go.Ev
namespace Go.Ev
open Go Go.RowKit Go.Proofs Go.Shelf
noncomputable def E0 : TyE := TyE.of Tryz.prog (fun t => [39, 49, 62, 73].contains t)
theorem env0 : EnvOK Tryz.prog E0 := envOK_of (by
  intro t ht
  simp only [List.mem_cons, List.not_mem_nil, or_false] at ht
  rcases ht with rfl | rfl | rfl | rfl <;> exact ⟨by kernel_rfl, by kernel_rfl⟩)
theorem visCode : VisCode Tryz.prog 167 254 310 242 195 135 := {
  ex := ⟨Tryz.f167, _, _, _, _, _, _, _, _, _, _, _, _, _, _, _, Tryz.func167, rfl, rfl, rfl, rfl, rfl, rfl, rfl, rfl, rfl, Tryz.isAgg9⟩
  bw := ⟨Tryz.f254, _, _, _, _, Tryz.func254, rfl, rfl, rfl, rfl, rfl⟩
  entersB := fun _ _ => run_callFunc Tryz.func254 rfl (by decide)
  entersV := fun _ _ => run_callFunc Tryz.func167 rfl (by decide) }
theorem bwCode : BwCode Tryz.prog 310 135 195 3 4 := {
  ex := ⟨Tryz.f310, _, _, _, _, _, _, _, _, _, _, _, _, Tryz.func310, rfl, rfl, rfl, rfl, rfl, rfl, rfl⟩
  enters := fun _ _ => run_callFunc Tryz.func310 rfl (by decide) }
theorem visTypes : VisTypes Tryz.prog E0 242 9 195 135 := {
  uM := by kernel_rfl
  kN := by kernel_rfl
  hL := Tryz.underlying135
  aL := Tryz.isAgg135
  aS := Tryz.isAgg195
  aM := Tryz.isAgg242
  zS := Tryz.sizeOf195
  zM := Tryz.sizeOf242
  vS := ⟨_, rfl, Tryz.zeroValue195⟩
  vM := Tryz.zeroValue242
  fS := ⟨_, _, Tryz.underlying195, rfl, rfl, Tryz.sizeOf9⟩ }
theorem visOK {β : Type} : IntrOK (β := β) Tryz.prog E0 167 iVisible := intr_visible env0 visCode bwCode visTypes
theorem sortedCode : SortedCode Tryz.prog 189 271 272 273 258 327 329 := {
  ex := ⟨Tryz.f189, _, _, _, _, Tryz.func189, rfl, rfl, rfl, rfl, rfl⟩
  ev := fun _ _ => run_callFunc Tryz.func189 rfl (by decide) }
theorem collCode : CollCode Tryz.prog 271 324 355 326 272 325 273 258 69 327 329 := {
  keys := ⟨Tryz.f272, _, _, _, _, Tryz.func272, rfl, rfl, rfl, rfl, rfl⟩
  coll := ⟨Tryz.f324, _, _, _, _, Tryz.func324, rfl, rfl, rfl, rfl, rfl⟩
  sortf := ⟨Tryz.f271, _, _, _, _, _, _, _, _, Tryz.func271, rfl, rfl, rfl, rfl, rfl, rfl, rfl⟩
  ek := fun _ _ => run_callFunc Tryz.func272 rfl (by decide)
  ec := fun _ _ => run_callFunc Tryz.func324 rfl (by decide)
  eo := fun _ _ => run_callFunc Tryz.func271 rfl (by decide) }
theorem seqCode : SeqCode Tryz.prog 355 326 69 73 := {
  ex := ⟨Tryz.f355, _, _, _, _, _, _, _, _, _, _, _, _, Tryz.func355, rfl, rfl, rfl, rfl, rfl, rfl, rfl, rfl⟩
  enters := fun _ _ => run_callFunc Tryz.func355 rfl (by decide) }
theorem keysCode : KeysCode Tryz.prog 326 258 73 4 := {
  ex := ⟨Tryz.f326, _, _, _, _, _, _, _, _, _, _, Tryz.func326, rfl, rfl, rfl, rfl, rfl, rfl, rfl⟩
  enters := fun _ _ => run_callFunc Tryz.func326 rfl (by decide) }
def fz : Value := .agg #[.int .i64 0, .int .i64 0, .int .i64 0]
noncomputable def ti73 : TypeInfo := (Tryz.prog.types[73]?).getD default
theorem setTypes : SetTypes Tryz.prog E0 258 73 238 73 69 ti73 fz := {
  uM := Tryz.underlying258
  uL := by kernel_rfl
  iF := by kernel_rfl
  sz := by kernel_rfl
  by_ := by
    have : (Nat.ble ti73.bytes 10000) = true := by kernel_rfl
    exact Nat.le_of_ble_eq_true this
  hz := by kernel_rfl
  hzc := rfl
  nz := by
    intro u hu
    have h1 : (#[69, 69] : Array TypeId)[1]? = some 69 := rfl
    rw [h1] at hu
    cases hu
    exact ⟨_, (by kernel_rfl : E0.und 69 = some (.slice 73)), fun k h => by cases h⟩
  aM := Tryz.isAgg258
  aL := Tryz.isAgg69
  aF := Tryz.isAgg73
  zF := Tryz.sizeOf73
  zL := Tryz.sizeOf69
  vF := Tryz.zeroValue73 }
theorem sortedOK {β : Type} : IntrOK (β := β) Tryz.prog E0 189 iSorted := intr_sorted env0 sortedCode collCode seqCode keysCode setTypes Tryz.sortOK
theorem delCode : DelCode Tryz.prog 265 258 73 238 4 := {
  ex := ⟨Tryz.f265, _, _, _, _, _, _, _, _, _, _, _, _, Tryz.func265, rfl, rfl, rfl, rfl, rfl, rfl, rfl, rfl⟩
  enters := fun _ _ => run_callFunc Tryz.func265 rfl (by decide) }
theorem delTypes : DelTypes Tryz.prog E0 258 73 238 73 238 := {
  uM := Tryz.underlying258
  eM := by kernel_rfl
  kM := by kernel_rfl
  aF := Tryz.isAgg73
  aE := Tryz.isAgg238
  zF := Tryz.sizeOf73
  zE := Tryz.sizeOf238
  vF := ⟨_, rfl, Tryz.zeroValue73⟩
  vE := ⟨_, Tryz.zeroValue238⟩ }
theorem delOK {β : Type} : IntrOK (β := β) Tryz.prog E0 265 iDelFunc := intr_delFunc env0 delCode delTypes
theorem replOK {β : Type} : IntrOK (β := β) Tryz.prog E0 67 iReplaceAll := intr_replaceAll (g := 0) (by decide) (fun s o n m w h1 h2 h3 h4 => Any.strings_ReplaceAll Tryz.lays155 Tryz.extra155 s o n m w h1 h2 h3 h4) (fun _ _ => run_callFunc Tryz.func67 rfl (by decide))
theorem ixOK {β : Type} : IntrOK (β := β) Tryz.prog E0 359 iIndexByte := intr_indexByte Tryz.func359 (by decide) rfl (by kernel_rfl) (by kernel_rfl)
theorem cloneOK {β : Type} : IntrOK (β := β) Tryz.prog E0 305 iClone := intr_clone Tryz.func305 (by decide) rfl (by kernel_rfl) (by kernel_rfl)
end Go.Ev
