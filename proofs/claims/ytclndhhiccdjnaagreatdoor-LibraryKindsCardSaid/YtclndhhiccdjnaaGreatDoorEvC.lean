/- The evaluator is sound, the third part: regions, code, calls. No condition. -/
import Derived.Scope
import Derived.Lib.Bytealg
import Derived.Laws.Externs
import Derived.MapKept
import Derived.Recover
import Derived.RangeFuncRecord
import Derived.RangeFuncSeq
import Derived.OwnWalkIn
import Derived.Test.YtclndhhiccdjnaaGreatDoorEvB
import Derived.Test.YtclndhhiccdjnaaGreatDoorEvA
set_option maxRecDepth 1000000
set_option maxHeartbeats 400000
namespace Go.Ev
open Go Go.RowKit
variable {P : Program} {E : TyE} {o : Oper} {ops : Array Oper} {ν : Nu} {w0 : World} {h : AH} {X : Tmp → Bool}

/-! ### a worth of temporaries that is never lost -/
def rhoOf (σ : Sg) : Rho
  | .tmp t => σ t
  | .const v => ofV v
  | .global _ => none
  | .func f => some (.func (.func f) [] [])
theorem Rv_rho {lay : Lay} {L : PT AV} {R : List AV} : Rv (Go.Ev.res X lay R.length) L R = rhoOf (sg X lay L R) := by
  funext y
  cases y with
  | tmp t => rfl
  | const v => simp only [Rv, Go.Ev.res, rhoOf]; cases ofV v <;> rfl
  | global g => rfl
  | func f => rfl
def Sg.le (σ τ : Sg) : Prop := ∀ t a, σ t = some a → τ t = some a
theorem Sg.le_rho {σ τ : Sg} (hl : σ.le τ) : ∀ y a, rhoOf σ y = some a → rhoOf τ y = some a := by
  intro y a hy
  cases y with
  | tmp t => exact hl t a hy
  | _ => exact hy
/-- what an operation's operands are worth, the same in both -/
def SameOn (o : Oper) (ρ τ : Rho) : Prop := ∀ y ∈ o.op.operands, ρ y = τ y
theorem Agree.le {φ : Phi} {ρ τ : Rho} {ρc : Operand → Value} (hl : ∀ y ∈ o.op.operands, ∀ a, ρ y = some a → τ y = some a) (hA : Agree φ ν o τ ρc) : Agree φ ν o ρ ρc := fun y hy a ha => hA y hy a (hl y hy a ha)
theorem Pure.le {ρ τ : Rho} {v : AV} (hl : ∀ y ∈ o.op.operands, ∀ a, ρ y = some a → τ y = some a) (hp : Pure P o ρ v) : Pure P o τ v := fun φ ν ρc w hA => hp φ ν ρc w (hA.le hl)
theorem Read.le {ρ τ : Rho} {v : AV} (hl : ∀ y ∈ o.op.operands, ∀ a, ρ y = some a → τ y = some a) (hp : Read P o ρ h v) : Read P o τ h v := by
  obtain ⟨F, h1, h2⟩ := hp
  exact ⟨F, h1, fun g q1 q2 φ ν w0 w ρc H hA => h2 g q1 q2 φ ν w0 w ρc H (hA.le hl)⟩
theorem NewAt.le {ρ τ : Rho} {b : Pos} {ob : AObj} {v : AV} (hl : ∀ y ∈ o.op.operands, ∀ a, ρ y = some a → τ y = some a) (hp : NewAt P o ρ b ob v) : NewAt P o τ b ob v :=
  ⟨hp.1, fun φ ν B T w ρc h1 h2 hA => hp.2 φ ν B T w ρc h1 h2 (hA.le hl)⟩
theorem Big.le {ρ τ : Rho} {v : AV} {h' : AH} (hl : ∀ y ∈ o.op.operands, ∀ a, ρ y = some a → τ y = some a) (hp : Big P o ρ h h' v) : Big P o τ h h' v := fun φ ν w0 w ρc H hA => hp φ ν w0 w ρc H (hA.le hl)
theorem GW.le {σ τ : Sg} {b : Bool} (hl : σ.le τ) (hg : GW ops o σ b) : GW ops o τ b := by
  unfold GW at hg ⊢
  split
  · rename_i hn; rw [hn] at hg; exact hg
  · rename_i j want hn
    rw [hn] at hg
    obtain ⟨d, v, h1, h2, h3⟩ := hg
    exact ⟨d, v, h1, hl d v h2, h3⟩
theorem Did.le {σ τ : Sg} {v : Option AV} {h' : AH} (hl : σ.le τ) (hd : Did P ops o σ (rhoOf σ) h v h') : Did P ops o τ (rhoOf τ) h v h' := by
  have hr : ∀ y ∈ o.op.operands, ∀ a, rhoOf σ y = some a → rhoOf τ y = some a := fun y _ => Sg.le_rho hl y
  cases hd with
  | skip hg => exact .skip (hg.le hl)
  | pure hg h1 h2 => exact .pure (hg.le hl) h1 (h2.le hr)
  | read hg h1 h2 h3 => exact .read (hg.le hl) h1 h2 (h3.le hr)
  | new hg h1 h2 => exact .new (hg.le hl) h1 (h2.le hr)
  | big hg h1 h2 => exact .big (hg.le hl) h1 (h2.le hr)
  | call hg h1 h2 h3 => exact .call (hg.le hl) h1 (fun φ ν w ρc hA => h2 φ ν w ρc (hA.le hr)) h3
  | dark hg h1 => exact .dark (hg.le hl) h1
theorem Died.le {σ τ : Sg} {v : AV} {h' : AH} (hl : σ.le τ) (hd : Died P ops o σ (rhoOf σ) h v h') : Died P ops o τ (rhoOf τ) h v h' := by
  have hr : ∀ y ∈ o.op.operands, ∀ a, rhoOf σ y = some a → rhoOf τ y = some a := fun y _ => Sg.le_rho hl y
  cases hd with
  | call hg h1 h2 h3 => exact .call (hg.le hl) h1 (fun φ ν w ρc hA => h2 φ ν w ρc (hA.le hr)) h3
  | pan hg h1 h2 => exact .pan (hg.le hl) h1 (fun φ ν w ρc hA => h2 φ ν w ρc (hA.le hr))
/-- the step of the worth that is never lost -/
noncomputable def stepG (o : Oper) (v : Option AV) (τ : Sg) : Sg := fun t => if o.dst = some t then v else τ t
theorem stepG_le {σ σ' τ : Sg} {v : Option AV} (hl : σ.le τ) (hs : SgStep o v σ σ') : σ'.le (stepG o v τ) := by
  intro t a ht
  unfold stepG
  rcases hs t a ht with ⟨h1, h2⟩ | ⟨h1, h2⟩
  · rw [if_pos h1]; exact h2
  · rw [if_neg h1]; exact hl t a h2
theorem stepG_step {τ : Sg} {v : Option AV} : SgStep o v τ (stepG o v τ) := by
  intro t a ht
  unfold stepG at ht
  split at ht
  · rename_i hh; exact .inl ⟨hh, ht⟩
  · rename_i hh; exact .inr ⟨hh, ht⟩
/-- an operation that does not mention what is written sees the same -/
theorem same_stepG {o' : Oper} {τ : Sg} {v : Option AV} (hm : ∀ d, o'.dst = some d → Operand.tmp d ∉ o.op.operands) : ∀ y ∈ o.op.operands, rhoOf (stepG o' v τ) y = rhoOf τ y := by
  intro y hy
  cases y with
  | tmp t =>
    show stepG o' v τ t = τ t
    unfold stepG
    rw [if_neg (fun e => hm t e hy)]
  | _ => rfl
end Go.Ev
namespace Go.Ev
open Go Go.RowKit
/-! ### masks -/
theorem maskOf_spec (prev : List Nat) : ∀ (es : List Edge) (s0 b : Nat), (es.foldl (fun s e => if Region.binds .any e then s ||| 2 ^ e.on ||| (prev[e.on]?.getD 0) else s) s0).testBit b = true →
    s0.testBit b = true ∨ ∃ e ∈ es, Region.binds .any e = true ∧ (b = e.on ∨ (prev[e.on]?.getD 0).testBit b = true)
  | [], s0, b, h => .inl h
  | e :: es, s0, b, h => by
    rw [List.foldl_cons] at h
    rcases maskOf_spec prev es _ b h with h1 | ⟨e', h1, h2, h3⟩
    · split at h1
      · rename_i hb
        rw [Nat.testBit_or, Nat.testBit_or, Nat.testBit_two_pow] at h1
        simp only [Bool.or_eq_true, decide_eq_true_eq] at h1
        rcases h1 with (h1 | h1) | h1
        · exact .inl h1
        · exact .inr ⟨e, by simp, hb, .inl h1.symm⟩
        · exact .inr ⟨e, by simp, hb, .inr h1⟩
      · exact .inl h1
    · exact .inr ⟨e', by simp [h1], h2, h3⟩
theorem withMasks_get : ∀ (l : List Oper) (i : Nat) (prev : List Nat), (withMasks l i prev).length = l.length ∧ ∀ j x, (withMasks l i prev)[j]? = some x → x.2.1 = i + j ∧ l[j]? = some x.1
  | [], i, prev => ⟨rfl, by simp [withMasks]⟩
  | o :: l, i, prev => by
    obtain ⟨h1, h2⟩ := withMasks_get l (i + 1) (prev ++ [maskOf prev o.after.toList])
    refine ⟨by simp [withMasks, h1], ?_⟩
    intro j x hj
    cases j with
    | zero => simp [withMasks] at hj; subst hj; simp
    | succ j =>
      simp only [withMasks, List.getElem?_cons_succ] at hj
      obtain ⟨a, b⟩ := h2 j x hj
      exact ⟨by omega, by simpa using b⟩
theorem withMasks_mask : ∀ (l : List Oper) (i : Nat) (prev : List Nat), prev.length = i → ∀ x ∈ withMasks l i prev, ∀ b, x.2.2.testBit b = true →
    ∃ e ∈ x.1.after.toList, Region.binds .any e = true ∧ (b = e.on ∨ ∃ m, (prev ++ (withMasks l i prev).map (·.2.2))[e.on]? = some m ∧ m.testBit b = true)
  | [], i, prev, _, x, hx, _, _ => by cases hx
  | o :: l, i, prev, hp, x, hx, b, hb => by
    simp only [withMasks, List.mem_cons] at hx
    rcases hx with rfl | hx
    · rcases maskOf_spec prev _ 0 b hb with h | ⟨e, h1, h2, h3⟩
      · simp at h
      · refine ⟨e, h1, h2, h3.imp id fun h3 => ?_⟩
        cases hq : prev[e.on]? with
        | none => rw [hq] at h3; simp at h3
        | some m =>
          rw [hq] at h3
          exact ⟨m, by rw [List.getElem?_append_left (List.getElem?_eq_some_iff.1 hq).1]; exact hq, h3⟩
    · obtain ⟨e, h1, h2, h3⟩ := withMasks_mask l (i + 1) (prev ++ [maskOf prev o.after.toList]) (by simp [hp]) x hx b hb
      refine ⟨e, h1, h2, h3.imp id fun ⟨m, h4, h5⟩ => ⟨m, ?_, h5⟩⟩
      simpa [withMasks] using h4
/-- the region's operations with their masks -/
def msOf (ops : Array Oper) : List (Oper × Nat × Nat) := withMasks ops.toList 0 []
theorem msOf_get {ops : Array Oper} {j : Nat} {x : Oper × Nat × Nat} (h : (msOf ops)[j]? = some x) : x.2.1 = j ∧ ops[j]? = some x.1 := by
  obtain ⟨a, b⟩ := (withMasks_get ops.toList 0 []).2 j x h
  exact ⟨by omega, by simpa using b⟩
theorem msOf_mem {ops : Array Oper} {x : Oper × Nat × Nat} (h : x ∈ msOf ops) : (msOf ops)[x.2.1]? = some x ∧ ops[x.2.1]? = some x.1 := by
  obtain ⟨j, hj⟩ := List.mem_iff_getElem?.1 h
  obtain ⟨a, b⟩ := msOf_get hj
  rw [a]; exact ⟨hj, b⟩
theorem msOf_has {ops : Array Oper} {j : Nat} {o : Oper} (h : ops[j]? = some o) : ∃ m, (o, j, m) ∈ msOf ops := by
  have hl := (withMasks_get ops.toList 0 []).1
  have hj := (Array.getElem?_eq_some_iff.1 h).1
  have hj' : j < (msOf ops).length := by unfold msOf; rw [hl]; simpa using hj
  obtain ⟨x, hx⟩ : ∃ x, (msOf ops)[j]? = some x := ⟨_, List.getElem?_eq_getElem hj'⟩
  obtain ⟨a, b⟩ := msOf_get hx
  rw [h] at b; cases b
  refine ⟨x.2.2, ?_⟩
  have : (x.1, j, x.2.2) = x := by rw [← a]
  rw [this]; exact List.mem_of_getElem? hx
/-- a set of indices that holds what its members wait for -/
def Closed (ops : Array Oper) (D : Nat → Prop) : Prop := ∀ x ∈ msOf ops, D x.2.1 → ∀ b, x.2.2.testBit b = true → D b
theorem ready_mask {ops : Array Oper} {D : Nat → Prop} (hc : Closed ops D) {x : Oper × Nat × Nat} (hx : x ∈ msOf ops) (hr : ∀ e ∈ x.1.after, Region.binds .any e = true → D e.on) : ∀ b, x.2.2.testBit b = true → D b := by
  intro b hb
  obtain ⟨e, h1, h2, h3⟩ := withMasks_mask ops.toList 0 [] rfl x hx b hb
  have he := hr e (by simpa using h1) h2
  rcases h3 with rfl | ⟨m, h4, h5⟩
  · exact he
  · simp only [List.nil_append, List.getElem?_map, Option.map_eq_some_iff] at h4
    obtain ⟨y, h6, rfl⟩ := h4
    have h6 : (msOf ops)[e.on]? = some y := h6
    obtain ⟨a1, _⟩ := msOf_get h6
    exact hc y (List.mem_of_getElem? h6) (by rw [a1]; exact he) b h5
theorem sub_spec {a b : Nat} (h : sub a b = true) (i : Nat) (hi : a.testBit i = true) : b.testBit i = true := by
  unfold sub at h
  have h := eq_of_beq h
  rw [← h, Nat.testBit_and] at hi
  simp only [Bool.and_eq_true] at hi
  exact hi.2
theorem sub_of {a b : Nat} (h : ∀ i, a.testBit i = true → b.testBit i = true) : sub a b = true := by
  unfold sub
  rw [beq_iff_eq]
  apply Nat.eq_of_testBit_eq
  intro i
  rw [Nat.testBit_and]
  cases ha : a.testBit i with
  | false => rfl
  | true => rw [h i ha]; rfl
theorem bit_add {d i j : Nat} : (d ||| 2 ^ i).testBit j = (d.testBit j || decide (i = j)) := by rw [Nat.testBit_or, Nat.testBit_two_pow]
end Go.Ev
namespace Go.Ev
open Go Go.RowKit
variable {P : Program} {E : TyE} {o : Oper} {ops : Array Oper} {ν : Nu} {w0 w : World} {h : AH} {φ : Phi} {X : Tmp → Bool} {τ : Sg}

/-! ### regions that draw their order -/
def DstIs (o : Oper) (τ : Sg) (v : Option AV) : Prop := ∀ d, o.dst = some d → τ d = v
/-- a light operation that the evaluator has done and the world has not -/
inductive Pend (P : Program) (ops : Array Oper) (o : Oper) (τ : Sg) (h : AH) (φ : Phi) : Option Pos → Prop
  | skip : GW ops o τ false → DstIs o τ (some (.tuple [])) → Pend P ops o τ h φ none
  | pure {v} : GW ops o τ true → Pure P o (rhoOf τ) v → DstIs o τ (some v) → Pend P ops o τ h φ none
  | read {v} : GW ops o τ true → isReads o = true → Read P o (rhoOf τ) h v → DstIs o τ (some v) → Pend P ops o τ h φ none
  | new {v ob b} : GW ops o τ true → NewAt P o (rhoOf τ) b ob v → h.objs.get b = some ob → φ b = none → DstIs o τ (some v) → Pend P ops o τ h φ (some b)
  | dark {x} : GW ops o τ true → o.op = .move x → DstIs o τ none → Pend P ops o τ h φ none
def Mentions (ops : Array Oper) (o : Oper) (d : Tmp) : Prop := Operand.tmp d ∈ o.op.operands ∨ ∃ j w, o.guard = some (j, w) ∧ (ops[j]?).bind (·.dst) = some d
structure Inv (P : Program) (ops : Array Oper) (ν : Nu) (w0 : World) (N : Nat) (φ0 : Phi) (h0 : AH) (D DA : Nat → Prop) (τ : Sg) (h : AH) (bl : Nat → Option Pos) (φ : Phi) (w : World) (a : Act) : Prop where
  sub : ∀ i, D i → DA i
  lt : ∀ x ∈ msOf ops, DA x.2.1 → ¬ D x.2.1 → isLight x.1 = true
  closed : Closed ops D
  closedA : Closed ops DA
  H : HR ν w0 φ h w
  T : TmpsOK φ ν τ a (fun t => ∀ x ∈ msOf ops, DA x.2.1 → ¬ D x.2.1 → x.1.dst ≠ some t)
  pend : ∀ x ∈ msOf ops, DA x.2.1 → ¬ D x.2.1 → Pend P ops x.1 τ h φ (bl x.2.1)
  inj : ∀ i j b, bl i = some b → bl j = some b → i = j
  size : a.tmps.size = N
  ev : Ev φ0 h0 φ h
  blk : ∀ i b, bl i = some b → h0.next.val ≤ b.val ∧ b.val < h.next.val
/-- what 'drawOk' says -/
structure Draws (ops : Array Oper) : Prop where
  guard : ∀ x ∈ msOf ops, ∀ j w, x.1.guard = some (j, w) → x.2.2.testBit j = true
  use : ∀ x ∈ msOf ops, ∀ y ∈ msOf ops, x.2.1 ≠ y.2.1 → ∀ d, y.1.dst = some d → Mentions ops x.1 d → x.2.2.testBit y.2.1 = true ∨ (isLight y.1 = false ∧ y.2.2.testBit x.2.1 = true)
  own : ∀ x ∈ msOf ops, ∀ d, x.1.dst = some d → Mentions ops x.1 d → isLight x.1 = false
  fwd : ∀ x ∈ msOf ops, ∀ e ∈ x.1.after, Region.binds .any e = true → e.on < x.2.1
  dst : ∀ x ∈ msOf ops, ∀ y ∈ msOf ops, x.2.1 ≠ y.2.1 → ∀ d, y.1.dst = some d → x.1.dst = some d → isLight x.1 = false ∧ isLight y.1 = false
theorem mentions_of {d : Tmp} (h : Mentions ops o d) : mentions ops o d = true := by
  unfold mentions
  rcases h with h | ⟨j, w, h1, h2⟩
  · simp only [Bool.or_eq_true, List.any_eq_true]
    exact .inl ⟨.tmp d, by simpa using h, by simp⟩
  · simp only [Bool.or_eq_true]
    refine .inr ?_
    rw [h1]; simp only [h2]; simp
theorem drawOk_spec (h : drawOk ops (msOf ops) = true) : Draws ops := by
  unfold drawOk at h
  rw [List.all_eq_true] at h
  have hp : ∀ x ∈ msOf ops, ∀ y ∈ msOf ops, pairOk ops x y = true := fun x hx y hy => by
    have := h x hx
    simp only [Bool.and_eq_true, List.all_eq_true] at this
    exact this.2 y hy
  refine ⟨fun x hx j w hg => ?_, fun x hx y hy hne d hd hm => ?_, fun x hx d hd hm => ?_, fun x hx e he hb => ?_, fun x hx y hy hne d hd hxd => ?_⟩
  · have := h x hx
    simp only [Bool.and_eq_true, hg] at this
    exact this.1.1.2
  · have := hp x hx y hy
    unfold pairOk at this
    simp only [hd, beq_eq_false_iff_ne.2 hne, Bool.false_or, Bool.and_eq_true, Bool.or_eq_true, Bool.not_eq_true', mentions_of hm, Bool.true_eq_false, false_or] at this
    exact this.1
  · have := h x hx
    simp only [Bool.and_eq_true, hd, mentions_of hm, Bool.not_true, Bool.or_false, Bool.not_eq_true'] at this
    exact this.1.2
  · have := h x hx
    simp only [Bool.and_eq_true, List.all_eq_true, Bool.or_eq_true, Bool.not_eq_true', decide_eq_true_eq] at this
    rcases this.1.1.1 e (by simpa using he) with h1 | h1
    · rw [hb] at h1; cases h1
    · exact h1
  · have := hp x hx y hy
    unfold pairOk at this
    simp only [hd, beq_eq_false_iff_ne.2 hne, Bool.false_or, Bool.and_eq_true, Bool.or_eq_true, Bool.not_eq_true', hxd, bne_self_eq_false] at this
    exact this.2
end Go.Ev
namespace Go.Ev
open Go Go.RowKit
variable {P : Program} {E : TyE} {o : Oper} {ops : Array Oper} {ν : Nu} {w0 w : World} {h : AH} {φ : Phi} {X : Tmp → Bool} {τ : Sg} {D DA : Nat → Prop} {bl : Nat → Option Pos} {a : Act} {N : Nat} {φ0 : Phi} {h0 : AH}

theorem agree_rho {a : Act} {ok : Tmp → Prop} (hT : TmpsOK φ ν τ a ok) (hm : ∀ t, Operand.tmp t ∈ o.op.operands → ok t) : Agree φ ν o (rhoOf τ) a.eval := by
  intro y hy v hv
  cases y with
  | tmp t =>
    obtain ⟨u, h1, h2⟩ := hT t v (hm t hy) hv
    rw [eval_tmp h1]; exact h2
  | const c => exact ofV_conc c v hv
  | global g => cases hv
  | func f =>
    simp only [rhoOf, Option.some.injEq] at hv
    subst hv
    simp [conc, concL, Act.eval]
/-- what an operation mentions is settled once all it waits for is done -/
theorem Inv.settled (I : Inv P ops ν w0 N φ0 h0 D DA τ h bl φ w a) (hd : Draws ops) {x : Oper × Nat × Nat} (hx : x ∈ msOf ops) (hm : ∀ b, x.2.2.testBit b = true → D b) (_hxD : ¬ D x.2.1) {d : Tmp} (hu : Mentions ops x.1 d) :
    ∀ y ∈ msOf ops, DA y.2.1 → ¬ D y.2.1 → y.2.1 ≠ x.2.1 → y.1.dst ≠ some d := by
  intro y hy hyA hyD hne hyd
  rcases hd.use x hx y hy (fun e => hne e.symm) d hyd hu with h1 | ⟨h1, _⟩
  · exact hyD (hm _ h1)
  · have := I.lt y hy hyA hyD
    rw [h1] at this; cases this
/-- what it mentions is what it is said to be -/
theorem Inv.agree (I : Inv P ops ν w0 N φ0 h0 D DA τ h bl φ w a) (hd : Draws ops) {x : Oper × Nat × Nat} (hx : x ∈ msOf ops) (hA : DA x.2.1) (hD : ¬ D x.2.1) (hm : ∀ b, x.2.2.testBit b = true → D b) :
    ∃ ok : Tmp → Prop, TmpsOK φ ν τ a ok ∧ (∀ d, Mentions ops x.1 d → ok d) := by
  refine ⟨_, I.T, fun d hu y hy hyA hyD => ?_⟩
  by_cases hne : y.2.1 = x.2.1
  · intro hyd
    have e1 := (msOf_mem hy).2
    have e2 := (msOf_mem hx).2
    rw [hne, e2] at e1
    have e1 : x.1 = y.1 := by simpa using e1
    rw [← e1] at hyd
    have h1 := hd.own x hx d hyd hu
    have h2 := I.lt x hx hA hD
    rw [h1] at h2; cases h2
  · exact I.settled hd hx hm hD hu y hy hyA hyD hne
/-- a pending light operation, done in the world -/
theorem Inv.stepA (I : Inv P ops ν w0 N φ0 h0 D DA τ h bl φ w a) (hd : Draws ops) (hN : ∀ o ∈ ops, ∀ d, o.dst = some d → d < N) {x : Oper × Nat × Nat} (hx : x ∈ msOf ops) (hA : DA x.2.1) (hD : ¬ D x.2.1)
    (hm : ∀ b, x.2.2.testBit b = true → D b) {K : Act → World → Prop} {Q : Exit → Act → World → Prop}
    (hK : ∀ φ' w' a', a'.defers = a.defers → Inv P ops ν w0 N φ0 h0 (fun i => D i ∨ i = x.2.1) DA τ h bl φ' w' a' → K a' w') : wpOp P ops Q x.2.1 K a w := by
  have hi := (msOf_mem hx).2
  have hl := I.lt x hx hA hD
  obtain ⟨ok, hT, hok⟩ := I.agree hd hx hA hD hm
  have hAg : Agree φ ν x.1 (rhoOf τ) a.eval := agree_rho hT fun t ht => hok t (.inl ht)
  have hg : ∀ j w d, x.1.guard = some (j, w) → (ops[j]?).bind (·.dst) = some d → ok d := fun j w d h1 h2 => hok d (.inr ⟨j, w, h1, h2⟩)
  have hxo : x.1 ∈ ops := by
    obtain ⟨hlt, he⟩ := Array.getElem?_eq_some_iff.1 hi
    rw [← he]; exact Array.getElem_mem hlt
  -- what is so behind it
  have after : ∀ (φ' : Phi) (w' : World) (u : Value) (v : Option AV), φ.le φ' → (∀ p, φ' p ≠ φ p → bl x.2.1 = some p) → HR ν w0 φ' h w' → DstIs x.1 τ v → (∀ y, v = some y → conc φ' ν y = some u) →
      Inv P ops ν w0 N φ0 h0 (fun i => D i ∨ i = x.2.1) DA τ h bl φ' w' (a.put x.1.dst u) := by
    intro φ' w' u v hle hch H' hdst hu
    refine ⟨?_, ?_, ?_, I.closedA, H', ?_, ?_, I.inj, by rw [put_size]; exact I.size, ?_, I.blk⟩
    · rintro i (h1 | rfl)
      · exact I.sub i h1
      · exact hA
    · exact fun y hy h1 h2 => I.lt y hy h1 (fun h3 => h2 (.inl h3))
    · rintro y hy (h1 | h1) b hb
      · exact .inl (I.closed y hy h1 b hb)
      · have e1 := (msOf_mem hy).1
        have e2 := (msOf_mem hx).1
        rw [h1, e2] at e1
        cases e1
        exact .inl (hm b hb)
    · -- the temporaries
      intro t y h1 h2
      by_cases ht : x.1.dst = some t
      · have hv : v = some y := by rw [← hdst t ht]; exact h2
        refine ⟨u, ?_, hu y hv⟩
        rw [ht, put_get (by rw [I.size]; exact hN x.1 hxo t ht), if_pos rfl]
      · obtain ⟨u', q1, q2⟩ := I.T t y (fun z hz hzA hzD hzt => by
          by_cases hzx : z.2.1 = x.2.1
          · have e1 := (msOf_mem hz).2
            rw [hzx, hi] at e1
            have e1 : x.1 = z.1 := by simpa using e1
            exact ht (by rw [e1]; exact hzt)
          · exact h1 z hz hzA (fun hh => hh.elim hzD hzx) hzt) h2
        refine ⟨u', ?_, conc_mono hle _ _ q2⟩
        cases hdst' : x.1.dst with
        | none => exact q1
        | some d =>
          rw [put_get (by rw [I.size]; exact hN x.1 hxo d hdst'), if_neg (fun e => ht (by rw [hdst', e]))]
          exact q1
    · -- what is still pending
      intro y hy h1 h2
      have hyx : y.2.1 ≠ x.2.1 := fun e => h2 (.inr e)
      have := I.pend y hy h1 (fun h3 => h2 (.inl h3))
      cases hb : bl y.2.1 with
      | none =>
        rw [hb] at this
        cases this with
        | skip q1 q2 => exact .skip q1 q2
        | pure q1 q2 q3 => exact .pure q1 q2 q3
        | read q1 q2 q3 q4 => exact .read q1 q2 q3 q4
        | dark q1 q2 q3 => exact .dark q1 q2 q3
      | some b =>
        rw [hb] at this
        cases this with
        | new q1 q2 q3 q4 q5 =>
          refine .new q1 q2 q3 ?_ q5
          by_cases hne : φ' b = φ b
          · rw [hne]; exact q4
          · exact absurd (I.inj _ _ b hb (hch b hne)) hyx
    · refine ⟨Phi.le_trans I.ev.le hle, fun p h1 h2 => ?_, I.ev.next⟩
      obtain ⟨q1, q2⟩ := I.ev.pend p h1 h2
      refine ⟨?_, q2⟩
      by_cases hne : φ' p = φ p
      · rw [hne]; exact q1
      · have := (I.blk _ p (hch p hne)).1
        omega
  have hP := I.pend x hx hA hD
  unfold wpOp
  simp only [hi]
  have val : ∀ {u : Value} {w' : World}, Region.wanted x.1 (yielded ops a.tmps) = true → (execOp a.eval x.1).run P w = .ok (.value u) w' → K (a.put x.1.dst u) w' →
      (if Region.wanted x.1 (yielded ops a.tmps) then x.1.wp P a w K Q ∨ (x.1.asks P a w ∧ LetsOut Q) else K (a.put x.1.dst undef) w) := by
    intro u w' hw hr hk
    rw [if_pos hw]
    refine .inl ?_
    unfold Oper.wp
    rw [hr]; exact hk
  cases hb : bl x.2.1 with
  | none =>
    rw [hb] at hP
    cases hP with
    | skip q1 q2 =>
      rw [if_neg (by rw [q1.wanted hT hg]; simp)]
      exact hK φ w _ put_defers (after φ w undef _ (Phi.le_refl _) (fun p hp => absurd rfl hp) I.H q2 (fun y hy => by cases hy; exact conc_unit))
    | pure q1 q2 q3 =>
      obtain ⟨u, r1, r2⟩ := q2 φ ν a.eval w hAg
      exact val (q1.wanted hT hg) r2 (hK φ w _ put_defers (after φ w u _ (Phi.le_refl _) (fun p hp => absurd rfl hp) I.H q3 (fun y hy => by cases hy; exact r1)))
    | read q1 q2 q3 q4 =>
      obtain ⟨u, r1, r2⟩ := q3.now φ ν w0 w a.eval I.H hAg
      exact val (q1.wanted hT hg) r2 (hK φ w _ put_defers (after φ w u _ (Phi.le_refl _) (fun p hp => absurd rfl hp) I.H q4 (fun y hy => by cases hy; exact r1)))
    | dark q1 q2 q3 =>
      rename_i y
      have hr : (execOp a.eval x.1).run P w = .ok (.value (a.eval y)) w := by simp [execOp, q2]
      exact val (q1.wanted hT hg) hr (hK φ w _ put_defers (after φ w _ none (Phi.le_refl _) (fun p hp => absurd rfl hp) I.H q3 (fun y hy => by cases hy)))
  | some b =>
    rw [hb] at hP
    cases hP with
    | new q1 q2 q3 q4 q5 =>
      obtain ⟨hcl, hn⟩ := q2
      obtain ⟨O, i, u, r1, r2, r3, r4⟩ := hn φ ν w0.heap.size h.cls w a.eval q4 I.H.below.size hAg
      have hc : clsOf h b = none := by
        unfold clsOf; rw [q3]
        rename_i v ob
        cases ob with
        | cells esz n cs ro cls => exact hcl esz n cs ro cls rfl
        | _ => rfl
      refine val (q1.wanted hT hg) r4 (hK _ _ _ put_defers (after _ _ u _ (Phi.le_upd q4) ?_ (I.H.make q4 q3 r1 hc r2) q5 (fun y hy => by cases hy; exact r3)))
      intro p hp
      by_cases hpb : p = b
      · rw [hpb]; exact hb
      · exact absurd (Phi.upd_ne hpb) hp
end Go.Ev
namespace Go.Ev
open Go Go.RowKit
variable {P : Program} {E : TyE} {o : Oper} {ops : Array Oper} {ν : Nu} {w0 w : World} {h h' : AH} {φ : Phi} {X : Tmp → Bool} {τ : Sg} {D DA : Nat → Prop} {bl : Nat → Option Pos} {a : Act} {N : Nat} {φ0 : Phi} {h0 : AH}

theorem Read.alloc {ρ : Rho} {v : AV} {ob : AObj} (hr : Read P o ρ h v) (H : HR ν w0 φ h w) : Read P o ρ (h.alloc ob) v := by
  obtain ⟨F, h1, h2⟩ := hr
  refine ⟨F, fun b hb => ?_, fun g q1 q2 => h2 g q1 fun b hb => ?_⟩
  · rw [get_alloc_ne (H.lt (h1 b hb))]; exact h1 b hb
  · rw [q2 b hb, get_alloc_ne (H.lt (h1 b hb))]
theorem GW.same {τ τ' : Sg} {b : Bool} (hs : ∀ j w d, o.guard = some (j, w) → (ops[j]?).bind (·.dst) = some d → τ' d = τ d) (hg : GW ops o τ b) : GW ops o τ' b := by
  unfold GW at hg ⊢
  cases hog : o.guard with
  | none => rw [hog] at hg; exact hg
  | some jw =>
    obtain ⟨j, want⟩ := jw
    rw [hog] at hg
    obtain ⟨d, v, h1, h2, h3⟩ := hg
    exact ⟨d, v, h1, by rw [hs j want d hog h1]; exact h2, h3⟩
/-- a pending operation stays so where its operands, its guard's word and its own temporary stay -/
theorem Pend.same {τ τ' : Sg} {h h' : AH} {φ φ' : Phi} {q : Option Pos} (hp : Pend P ops o τ h φ q) (h1 : ∀ d, Mentions ops o d → τ' d = τ d) (h2 : ∀ d, o.dst = some d → τ' d = τ d)
    (hr : ∀ v, isReads o = true → Read P o (rhoOf τ) h v → GW ops o τ true → DstIs o τ (some v) → Read P o (rhoOf τ) h' v) (hn : ∀ b, q = some b → φ b = none → φ' b = none ∧ h'.objs.get b = h.objs.get b) : Pend P ops o τ' h' φ' q := by
  have hrho : ∀ y ∈ o.op.operands, ∀ x, rhoOf τ y = some x → rhoOf τ' y = some x := by
    intro y hy x hx
    cases y with
    | tmp t => show τ' t = some x; rw [h1 t (.inl hy)]; exact hx
    | _ => exact hx
  have hg : ∀ {b}, GW ops o τ b → GW ops o τ' b := fun hg => hg.same fun j w d e1 e2 => h1 d (.inr ⟨j, w, e1, e2⟩)
  have hd : ∀ {v}, DstIs o τ v → DstIs o τ' v := fun hd d e => by rw [h2 d e]; exact hd d e
  cases hp with
  | skip q1 q2 => exact .skip (hg q1) (hd q2)
  | pure q1 q2 q3 => exact .pure (hg q1) (q2.le hrho) (hd q3)
  | read q1 q2 q3 q4 => exact .read (hg q1) q2 ((hr _ q2 q3 q1 q4).le hrho) (hd q4)
  | new q1 q2 q3 q4 q5 =>
    obtain ⟨e1, e2⟩ := hn _ rfl q4
    exact .new (hg q1) (q2.le hrho) (by rw [e2]; exact q3) e1 (hd q5)
  | dark q1 q2 q3 => exact .dark (hg q1) q2 (hd q3)
theorem stepG_ne {τ : Sg} {v : Option AV} {d : Tmp} (h : o.dst ≠ some d) : stepG o v τ d = τ d := by unfold stepG; rw [if_neg h]
theorem stepG_eq {τ : Sg} {v : Option AV} {d : Tmp} (h : o.dst = some d) : stepG o v τ d = v := by unfold stepG; rw [if_pos h]
theorem msOf_uniq {x y : Oper × Nat × Nat} (hx : x ∈ msOf ops) (hy : y ∈ msOf ops) (he : x.2.1 = y.2.1) : x = y := by
  have e1 := (msOf_mem hx).1
  have e2 := (msOf_mem hy).1
  rw [he, e2] at e1
  cases e1; rfl
/-- the evaluator does a light operation -/
theorem Inv.stepB (I : Inv P ops ν w0 N φ0 h0 D DA τ h bl φ w a) (hd : Draws ops) {x : Oper × Nat × Nat} (hx : x ∈ msOf ops) (hA : ¬ DA x.2.1) (hm : ∀ b, x.2.2.testBit b = true → DA b) (hl : isLight x.1 = true)
    {v : Option AV} (hdid : Did P ops x.1 τ (rhoOf τ) h v h') :
    ∃ bl', Inv P ops ν w0 N φ0 h0 D (fun i => DA i ∨ i = x.2.1) (stepG x.1 v τ) h' bl' φ w a := by
  have hxD : ¬ D x.2.1 := fun e => hA (I.sub _ e)
  -- those that were pending do not see it
  have other : ∀ y ∈ msOf ops, DA y.2.1 → (∀ d, Mentions ops y.1 d → x.1.dst ≠ some d) ∧ (∀ d, y.1.dst = some d → ¬ D y.2.1 → x.1.dst ≠ some d) := by
    intro y hy hyA
    have hne : y.2.1 ≠ x.2.1 := fun e => hA (by rw [← e]; exact hyA)
    refine ⟨fun d hu hxd => ?_, fun d hyd hyD hxd => ?_⟩
    · rcases hd.use y hy x hx hne d hxd hu with h1 | ⟨h1, _⟩
      · exact hA (I.closedA y hy hyA _ h1)
      · rw [hl] at h1; cases h1
    · have := (hd.dst y hy x hx hne d hxd hyd).2
      rw [hl] at this; cases this
  have own : ∀ d, Mentions ops x.1 d → x.1.dst ≠ some d := fun d hu hxd => by
    have := hd.own x hx d hxd hu
    rw [hl] at this; cases this
  have hrho : ∀ y ∈ x.1.op.operands, ∀ u, rhoOf τ y = some u → rhoOf (stepG x.1 v τ) y = some u := by
    intro y hy u hu
    cases y with
    | tmp t => show stepG x.1 v τ t = some u; rw [stepG_ne (own t (.inl hy))]; exact hu
    | _ => exact hu
  have hgs : ∀ {b}, GW ops x.1 τ b → GW ops x.1 (stepG x.1 v τ) b := fun hg => hg.same fun j w d e1 e2 => stepG_ne (own d (.inr ⟨j, w, e1, e2⟩))
  have hds : DstIs x.1 (stepG x.1 v τ) v := fun d e => stepG_eq e
  have fin : ∀ (h' : AH) (q : Option Pos), HR ν w0 φ h' w → Ev φ0 h0 φ h' → h.next.val ≤ h'.next.val → Pend P ops x.1 (stepG x.1 v τ) h' φ q → (∀ b, q = some b → h.next.val ≤ b.val ∧ b.val < h'.next.val) →
      (∀ p, p.val < h.next.val → h'.objs.get p = h.objs.get p) → (∀ y ∈ msOf ops, ∀ v, Read P y.1 (rhoOf τ) h v → Read P y.1 (rhoOf τ) h' v) →
      Inv P ops ν w0 N φ0 h0 D (fun i => DA i ∨ i = x.2.1) (stepG x.1 v τ) h' (fun i => if i = x.2.1 then q else bl i) φ w a := by
    intro h' q H' ev hnx hp hq hobj hrd
    refine ⟨fun i hi => .inl (I.sub i hi), ?_, I.closed, ?_, H', ?_, ?_, ?_, I.size, ev, ?_⟩
    · rintro y hy (h1 | h1) h2
      · exact I.lt y hy h1 h2
      · rw [msOf_uniq hy hx h1]; exact hl
    · rintro y hy (h1 | h1) b hb
      · exact .inl (I.closedA y hy h1 b hb)
      · rw [msOf_uniq hy hx h1] at hb; exact .inl (hm b hb)
    · intro t y h1 h2
      have hxt : x.1.dst ≠ some t := h1 x hx (.inr rfl) hxD
      rw [stepG_ne hxt] at h2
      exact I.T t y (fun z hz hzA hzD => h1 z hz (.inl hzA) hzD) h2
    · rintro y hy h1 h2
      by_cases hyx : y.2.1 = x.2.1
      · rw [msOf_uniq hy hx hyx]; simp only [if_true]; exact hp
      · have hyA : DA y.2.1 := h1.resolve_right hyx
        simp only [if_neg hyx]
        refine (I.pend y hy hyA h2).same (fun d hu => stepG_ne ((other y hy hyA).1 d hu)) (fun d hyd => stepG_ne ((other y hy hyA).2 d hyd h2)) (fun v _ hr _ _ => hrd y hy v hr) ?_
        intro b hb hphi
        exact ⟨hphi, hobj b (I.blk _ b hb).2⟩
    · intro i j b hi hj
      by_cases hix : i = x.2.1
      · by_cases hjx : j = x.2.1
        · rw [hix, hjx]
        · simp only [if_pos hix] at hi
          simp only [if_neg hjx] at hj
          have := (hq b hi).1
          have := (I.blk j b hj).2
          omega
      · by_cases hjx : j = x.2.1
        · simp only [if_neg hix] at hi
          simp only [if_pos hjx] at hj
          have := (hq b hj).1
          have := (I.blk i b hi).2
          omega
        · simp only [if_neg hix] at hi
          simp only [if_neg hjx] at hj
          exact I.inj i j b hi hj
    · intro i b hi
      by_cases hix : i = x.2.1
      · simp only [if_pos hix] at hi
        have := hq b hi
        have := I.ev.next
        omega
      · simp only [if_neg hix] at hi
        have := I.blk i b hi
        omega
  have same : ∀ (q : Pend P ops x.1 (stepG x.1 v τ) h φ none), ∃ bl', Inv P ops ν w0 N φ0 h0 D (fun i => DA i ∨ i = x.2.1) (stepG x.1 v τ) h bl' φ w a :=
    fun q => ⟨_, fin h none I.H I.ev (Nat.le_refl _) q (fun b hb => by cases hb) (fun _ _ => rfl) (fun _ _ _ hr => hr)⟩
  cases hdid with
  | skip hg => exact same (.skip (hgs hg) hds)
  | pure hg h1 h2 => exact same (.pure (hgs hg) (h2.le hrho) hds)
  | read hg h1 h2 h3 => exact same (.read (hgs hg) h2 (h3.le hrho) hds)
  | dark hg h1 => exact same (.dark (hgs hg) h1 hds)
  | big hg h1 h2 => rw [hl] at h1; cases h1
  | call hg h1 h2 h3 => rw [hl] at h1; cases h1
  | new hg h1 h2 =>
    rename_i v ob
    obtain ⟨H1, ev1⟩ := I.H.alloc ob
    have hget : (h.alloc ob).objs.get h.next = some ob := by
      show PT.get h.next (PT.set h.next _ h.objs) = _
      rw [PT.get_set, if_pos rfl]
    have hnx : (h.alloc ob).next.val = h.next.val + 1 := Pos.val_inc _
    exact ⟨_, fin (h.alloc ob) (some h.next) H1 (I.ev.trans ev1) (by omega) (.new (hgs hg) (h2.le hrho) hget (I.H.fr h.next (Nat.le_refl _)).1 hds)
      (fun b hb => by cases hb; omega) (fun p hp => get_alloc_ne hp) (fun _ _ _ hr => hr.alloc I.H)⟩
end Go.Ev
namespace Go.Ev
open Go Go.RowKit
variable {P : Program} {E : TyE} {o : Oper} {ops : Array Oper} {ν : Nu} {w0 w : World} {h h' : AH} {φ : Phi} {X : Tmp → Bool} {τ : Sg} {D DA : Nat → Prop} {bl : Nat → Option Pos} {a : Act} {N : Nat} {φ0 : Phi} {h0 : AH}

/-- both do the next operation that is not light -/
theorem Inv.stepC (I : Inv P ops ν w0 N φ0 h0 D DA τ h bl φ w a) (hd : Draws ops) (hN : ∀ o ∈ ops, ∀ d, o.dst = some d → d < N) {x : Oper × Nat × Nat} (hx : x ∈ msOf ops) (hA : ¬ DA x.2.1)
    (hmA : ∀ b, x.2.2.testBit b = true → DA b) (hm : ∀ b, x.2.2.testBit b = true → D b) (_hl : isLight x.1 = false) {v : Option AV} (hdid : Did P ops x.1 τ (rhoOf τ) h v h')
    (hre : ∀ y ∈ msOf ops, DA y.2.1 → x.2.2.testBit y.2.1 = false → isReads y.1 = true → GW ops y.1 (stepG x.1 v τ) true → ∀ u, DstIs y.1 (stepG x.1 v τ) (some u) → Read P y.1 (rhoOf (stepG x.1 v τ)) h' u)
    {K : Act → World → Prop} {Q : Exit → Act → World → Prop}
    (hK : ∀ φ' w' a', a'.defers = a.defers → Inv P ops ν w0 N φ0 h0 (fun i => D i ∨ i = x.2.1) (fun i => DA i ∨ i = x.2.1) (stepG x.1 v τ) h' bl φ' w' a' → K a' w') : wpOp P ops Q x.2.1 K a w := by
  have hi := (msOf_mem hx).2
  have hxD : ¬ D x.2.1 := fun e => hA (I.sub _ e)
  have hxo : x.1 ∈ ops := by
    obtain ⟨hlt, he⟩ := Array.getElem?_eq_some_iff.1 hi
    rw [← he]; exact Array.getElem_mem hlt
  -- what x mentions is settled
  have hok : ∀ d, Mentions ops x.1 d → ∀ y ∈ msOf ops, DA y.2.1 → ¬ D y.2.1 → y.1.dst ≠ some d := fun d hu y hy hyA hyD =>
    I.settled hd hx hm hxD hu y hy hyA hyD (fun e => hA (by rw [← e]; exact hyA))
  have hAg : Agree φ ν x.1 (rhoOf τ) a.eval := agree_rho I.T fun t ht => hok t (.inl ht)
  -- what is pending does not see x
  have other : ∀ y ∈ msOf ops, DA y.2.1 → ¬ D y.2.1 → (∀ d, Mentions ops y.1 d → x.1.dst ≠ some d) ∧ (∀ d, y.1.dst = some d → x.1.dst ≠ some d) := by
    intro y hy hyA hyD
    have hne : y.2.1 ≠ x.2.1 := fun e => hA (by rw [← e]; exact hyA)
    refine ⟨fun d hu hxd => ?_, fun d hyd hxd => ?_⟩
    · rcases hd.use y hy x hx hne d hxd hu with h1 | ⟨_, h1⟩
      · exact hA (I.closedA y hy hyA _ h1)
      · exact hyD (hm _ h1)
    · have := (hd.dst y hy x hx hne d hxd hyd).1
      rw [I.lt y hy hyA hyD] at this; cases this
  refine did_wp hi hdid I.H hAg I.T (fun j w d h1 h2 => hok d (.inr ⟨j, w, h1, h2⟩)) ?_
  intro φ' w' u ev H' hu
  refine hK φ' w' _ put_defers ⟨?_, ?_, ?_, ?_, H', ?_, ?_, I.inj, by rw [put_size]; exact I.size, I.ev.trans ev, ?_⟩
  · rintro i (h1 | h1)
    · exact .inl (I.sub i h1)
    · exact .inr h1
  · rintro y hy (h1 | h1) h2
    · exact I.lt y hy h1 (fun h3 => h2 (.inl h3))
    · exact absurd (.inr h1) h2
  · rintro y hy (h1 | h1) b hb
    · exact .inl (I.closed y hy h1 b hb)
    · rw [msOf_uniq hy hx h1] at hb; exact .inl (hm b hb)
  · rintro y hy (h1 | h1) b hb
    · exact .inl (I.closedA y hy h1 b hb)
    · rw [msOf_uniq hy hx h1] at hb; exact .inl (hmA b hb)
  · refine I.T.put ev.le stepG_step ?_ hu (fun d hd' => by rw [I.size]; exact hN x.1 hxo d hd')
    intro t ht _ y hy hyA hyD
    exact ht y hy (.inl hyA) (fun h3 => h3.elim hyD (fun e => hA (by rw [← e]; exact hyA)))
  · rintro y hy (h1 | h1) h2
    · have hyD : ¬ D y.2.1 := fun h3 => h2 (.inl h3)
      obtain ⟨o1, o2⟩ := other y hy h1 hyD
      have hmx : x.2.2.testBit y.2.1 = false := by
        cases hb : x.2.2.testBit y.2.1 with
        | false => rfl
        | true => exact absurd (hm _ hb) hyD
      refine (I.pend y hy h1 hyD).same (fun d hm' => stepG_ne (o1 d hm')) (fun d hyd => stepG_ne (o2 d hyd)) ?_ ?_
      · intro u' hrd hr hg hds
        have hg' : GW ops y.1 (stepG x.1 v τ) true := hg.same fun j w d e1 e2 => stepG_ne (o1 d (.inr ⟨j, w, e1, e2⟩))
        have hds' : DstIs y.1 (stepG x.1 v τ) (some u') := fun d e => by rw [stepG_ne (o2 d e)]; exact hds d e
        refine (hre y hy h1 hmx hrd hg' u' hds').le ?_
        intro z hz q hq
        cases z with
        | tmp t =>
          have : stepG x.1 v τ t = some q := hq
          rw [stepG_ne (o1 t (.inl hz))] at this; exact this
        | _ => exact hq
      · intro b hb hphi
        exact ev.pend b hphi (I.blk _ b hb).2
    · exact absurd (.inr h1) h2
  · intro i b hb
    have := I.blk i b hb
    have := ev.next
    omega
end Go.Ev
namespace Go.Ev
open Go Go.RowKit
mutual
theorem sameV_eq : ∀ (a b : AV), sameV a b = true → a = b
  | .bool a, b, h => by cases b <;> simp_all [sameV]
  | .int j a, b, h => by cases b <;> simp_all [sameV, kindEq_iff, intEq_iff]
  | .lin j c a d, b, h => by cases b <;> simp_all [sameV, kindEq_iff, intEq_iff]
  | .str s, b, h => by cases b <;> simp_all [sameV, bytesEq_iff]
  | .nilp, b, h => by cases b <;> simp_all [sameV]
  | .ptr p o, b, h => by cases b <;> simp_all [sameV, Pos.eqb_iff]
  | .nils, b, h => by cases b <;> simp_all [sameV]
  | .slice p e n c, b, h => by cases b <;> simp_all [sameV, Pos.eqb_iff]
  | .slicez p e z, b, h => by cases b <;> simp_all [sameV, Pos.eqb_iff]
  | .nilm, b, h => by cases b <;> simp_all [sameV]
  | .map p, b, h => by cases b <;> simp_all [sameV, Pos.eqb_iff]
  | .func f a c, b, h => by
    cases b with
    | func g b' d =>
      simp only [sameV, Bool.and_eq_true, decide_eq_true_eq] at h
      obtain ⟨⟨h0, h1⟩, h2⟩ := h
      rw [h0, sameVs_eq a b' h1, sameVs_eq c d h2]
    | _ => simp [sameV] at h
  | .nilf, b, h => by cases b <;> simp_all [sameV]
  | .iface t v, b, h => by
    cases b with
    | iface u w =>
      simp only [sameV, Bool.and_eq_true, Nat.beq_eq] at h
      rw [h.1, sameV_eq v w h.2]
    | _ => simp [sameV] at h
  | .nili, b, h => by cases b <;> simp_all [sameV]
  | .agg l, b, h => by
    cases b with
    | agg m => simp only [sameV] at h; rw [sameVs_eq l m h]
    | _ => simp [sameV] at h
  | .tuple l, b, h => by
    cases b with
    | tuple m => simp only [sameV] at h; rw [sameVs_eq l m h]
    | _ => simp [sameV] at h
theorem sameVs_eq : ∀ (a b : List AV), sameVs a b = true → a = b
  | [], b, h => by cases b <;> simp_all [sameVs]
  | x :: l, b, h => by
    cases b with
    | nil => simp [sameVs] at h
    | cons y m =>
      simp only [sameVs, Bool.and_eq_true] at h
      rw [sameV_eq x y h.1, sameVs_eq l m h.2]
end
variable {P : Program} {E : TyE} {o : Oper} {ops : Array Oper} {h h' : AH} {X : Tmp → Bool} {τ : Sg} {DA : Nat → Prop} {N : Nat}

/-! ### the world's walk through a region that draws its order -/
abbrev Ends := (Exit → Act → World → Prop) → Nu → World → Phi → AH → List Deferred → Prop
def Listed (ops : Array Oper) (listed : Array Bool) (D : Nat → Prop) : Prop := listed.size = ops.size ∧ ∀ i, listed[i]? = some true ↔ D i
def Unlisted (listed : Array Bool) : Nat := listed.toList.count false
def AnyEnds (P : Program) (ops : Array Oper) (N : Nat) (F : Ends) (DA : Nat → Prop) (τ : Sg) (h : AH) : Prop :=
  ∀ Q ν w0 φ0 h0 D bl φ w a fuel listed, Inv P ops ν w0 N φ0 h0 D DA τ h bl φ w a → Listed ops listed D → Unlisted listed ≤ fuel → F Q ν w0 φ0 h0 a.defers → wpAny P .any ops Q fuel listed a w
theorem unlisted_set {listed : Array Bool} {i : Nat} (h : listed[i]? = some false) : Unlisted (listed.setIfInBounds i true) + 1 = Unlisted listed := by
  obtain ⟨hi, he⟩ := Array.getElem?_eq_some_iff.1 h
  unfold Unlisted
  rw [Array.toList_setIfInBounds, List.count_set (by simpa using hi)]
  have h1 : listed.toList[i]'(by simpa using hi) = false := by simpa using he
  have h2 : 0 < listed.toList.count false := List.count_pos_iff.2 (by rw [← h1]; exact List.getElem_mem _)
  have h3 : (true == false) = false := rfl
  rw [h1, h3]
  simp only [beq_self_eq_true, if_true, Bool.false_eq_true, if_false]
  omega
theorem unlisted_zero {listed : Array Bool} (h : Unlisted listed = 0) (i : Nat) : listed[i]? ≠ some false := fun e => by
  have := unlisted_set e
  omega
theorem Listed.set {listed : Array Bool} {D : Nat → Prop} {i : Nat} (h : Listed ops listed D) (hi : listed[i]? = some false) : Listed ops (listed.setIfInBounds i true) (fun j => D j ∨ j = i) := by
  refine ⟨by simpa using h.1, fun j => ?_⟩
  have hlt := (Array.getElem?_eq_some_iff.1 hi).1
  rw [Array.getElem?_setIfInBounds]
  by_cases hij : i = j
  · subst hij; simp [hlt]
  · simp only [if_neg hij]; rw [h.2 j]
    exact ⟨.inl, fun h1 => h1.resolve_right (fun e => hij e.symm)⟩
theorem ready_false {listed : Array Bool} {i : Nat} (h : i ∈ Region.ready .any ops listed) : listed[i]? = some false := by
  have := (mem_ready.1 h).1
  rw [Array.getD_eq_getD_getElem?] at this
  cases he : listed[i]? with
  | none => rw [he] at this; cases this
  | some b => rw [he] at this; simp at this; rw [this]
theorem ready_deps {listed : Array Bool} {D : Nat → Prop} (hl : Listed ops listed D) {x : Oper × Nat × Nat} (hx : x ∈ msOf ops) (h : x.2.1 ∈ Region.ready .any ops listed) : ∀ e ∈ x.1.after, Region.binds .any e = true → D e.on := by
  obtain ⟨_, o, ho, hall⟩ := mem_ready.1 h
  rw [(msOf_mem hx).2] at ho
  cases ho
  intro e he hb
  have := hall e he hb
  rw [Array.getD_eq_getD_getElem?] at this
  apply (hl.2 e.on).1
  cases hq : listed[e.on]? with
  | none => rw [hq] at this; cases this
  | some b => rw [hq] at this; simp at this; rw [this]
/-- where none is ready, all are listed -/
theorem ready_nil {listed : Array Bool} {D : Nat → Prop} (hd : Draws ops) (hl : Listed ops listed D) (h : Region.ready .any ops listed = []) : ∀ i, i < ops.size → D i := by
  intro i
  induction i using Nat.strongRecOn with
  | _ i ih =>
    intro hi
    apply Classical.byContradiction
    intro hD
    obtain ⟨m, hm⟩ := msOf_has (Array.getElem?_eq_getElem hi)
    have hlt : i < listed.size := by rw [hl.1]; exact hi
    have : i ∈ Region.ready .any ops listed := by
      refine mem_ready.2 ⟨?_, ops[i], Array.getElem?_eq_getElem hi, fun e he hb => ?_⟩
      · cases hq : listed[i] with
        | false => simp [Array.getD, hlt, hq]
        | true => exact absurd ((hl.2 i).1 (by rw [Array.getElem?_eq_getElem hlt, hq])) hD
      · have hlt2 := hd.fwd _ hm e he hb
        have := (hl.2 e.on).2 (ih e.on hlt2 (Nat.lt_trans hlt2 hi))
        rw [Array.getD_eq_getD_getElem?, this]; rfl
    rw [h] at this; cases this
theorem any_walk (hd : Draws ops) (hN : ∀ o ∈ ops, ∀ d, o.dst = some d → d < N) {F : Ends}
    (big : ∀ Q ν w0 φ0 h0 D bl φ w a fuel listed, ∀ x ∈ msOf ops, Inv P ops ν w0 N φ0 h0 D DA τ h bl φ w a → Listed ops listed D → listed[x.2.1]? = some false → Unlisted (listed.setIfInBounds x.2.1 true) ≤ fuel → F Q ν w0 φ0 h0 a.defers →
      (∀ b, x.2.2.testBit b = true → D b) → ¬ DA x.2.1 → wpOp P ops Q x.2.1 (wpAny P .any ops Q fuel (listed.setIfInBounds x.2.1 true)) a w)
    (fin : ∀ Q ν w0 φ0 h0 D bl φ w a, Inv P ops ν w0 N φ0 h0 D DA τ h bl φ w a → (∀ i, i < ops.size → D i) → F Q ν w0 φ0 h0 a.defers → Q .normal a w) : AnyEnds P ops N F DA τ h := by
  intro Q ν w0 φ0 h0 D bl φ w a fuel
  induction fuel generalizing D bl φ w a with
  | zero =>
    intro listed I hl hf hF
    have hr : Region.ready .any ops listed = [] := by
      cases hq : Region.ready .any ops listed with
      | nil => rfl
      | cons i l => exact absurd (ready_false (ops := ops) (listed := listed) (i := i) (by rw [hq]; simp)) (unlisted_zero (by omega) i)
    exact ⟨hr, fin Q ν w0 φ0 h0 D bl φ w a I (ready_nil hd hl hr) hF⟩
  | succ fuel ih =>
    intro listed I hl hf hF
    refine ⟨fun hr => fin Q ν w0 φ0 h0 D bl φ w a I (ready_nil hd hl hr) hF, fun i hi => ?_⟩
    have hfa := ready_false hi
    have hu := unlisted_set hfa
    have hlt : i < ops.size := by rw [← hl.1]; exact (Array.getElem?_eq_some_iff.1 hfa).1
    obtain ⟨m, hx⟩ := msOf_has (Array.getElem?_eq_getElem hlt)
    have hm := ready_mask I.closed hx (ready_deps hl hx hi)
    have hD : ¬ D i := fun h => by have := (hl.2 i).2 h; rw [hfa] at this; cases this
    by_cases hA : DA i
    · refine I.stepA hd hN hx hA hD hm ?_
      intro φ' w' a' hdf I'
      exact ih _ _ _ _ _ _ I' (hl.set hfa) (by omega) (by rw [hdf]; exact hF)
    · exact big Q ν w0 φ0 h0 D bl φ w a fuel listed _ hx I hl hfa (by show Unlisted (listed.setIfInBounds i true) ≤ fuel; omega) hF hm hA
def GoEnds (N : Nat) (σ' : Sg) (h' : AH) : Ends := fun Q ν w0 φ0 h0 d => ∀ φ' w' a', Ev φ0 h0 φ' h' → HR ν w0 φ' h' w' → TmpsOK φ' ν σ' a' All → a'.tmps.size = N → a'.defers = d → Q .normal a' w'
def DieEnds (v : AV) (h' : AH) : Ends := fun Q ν w0 φ0 h0 d => ∀ φ' w' a' u, Ev φ0 h0 φ' h' → HR ν w0 φ' h' w' → conc φ' ν v = some u → a'.defers = d → Q (.panic [{ v := u, recovered := false }]) a' w'
theorem any_end (hd : Draws ops) (hN : ∀ o ∈ ops, ∀ d, o.dst = some d → d < N) (hall : ∀ x ∈ msOf ops, DA x.2.1) {σ' : Sg} (hl : σ'.le τ) : AnyEnds P ops N (GoEnds N σ' h) DA τ h := by
  refine any_walk hd hN ?_ ?_
  · intro Q ν w0 φ0 h0 D bl φ w a fuel listed x hx I _ _ _ _ _ hA
    exact absurd (hall x hx) hA
  · intro Q ν w0 φ0 h0 D bl φ w a I hD hF
    refine hF φ w a I.ev I.H ?_ I.size rfl
    intro t v _ hv
    exact I.T t v (fun x hx _ hxD => absurd (hD x.2.1 (Array.getElem?_eq_some_iff.1 (msOf_mem hx).2).1) hxD) (hl t v hv)
theorem any_light (hd : Draws ops) {F : Ends} {x : Oper × Nat × Nat} (hx : x ∈ msOf ops) (hA : ¬ DA x.2.1) (hm : ∀ b, x.2.2.testBit b = true → DA b) (hl : isLight x.1 = true) {v : Option AV}
    (hdid : Did P ops x.1 τ (rhoOf τ) h v h') (hn : AnyEnds P ops N F (fun i => DA i ∨ i = x.2.1) (stepG x.1 v τ) h') : AnyEnds P ops N F DA τ h := by
  intro Q ν w0 φ0 h0 D bl φ w a fuel listed I hli hf hF
  obtain ⟨bl', I'⟩ := I.stepB hd hx hA hm hl hdid
  exact hn Q ν w0 φ0 h0 D bl' φ w a fuel listed I' hli hf hF
theorem any_big (hd : Draws ops) (hN : ∀ o ∈ ops, ∀ d, o.dst = some d → d < N) {F : Ends} {x : Oper × Nat × Nat} (hx : x ∈ msOf ops) (hA : ¬ DA x.2.1) (hmA : ∀ b, x.2.2.testBit b = true → DA b) (hl : isLight x.1 = false) {v : Option AV}
    (hdid : Did P ops x.1 τ (rhoOf τ) h v h')
    (hre : ∀ y ∈ msOf ops, DA y.2.1 → x.2.2.testBit y.2.1 = false → isReads y.1 = true → GW ops y.1 (stepG x.1 v τ) true → ∀ u, DstIs y.1 (stepG x.1 v τ) (some u) → Read P y.1 (rhoOf (stepG x.1 v τ)) h' u)
    (only : ∀ y ∈ msOf ops, ¬ DA y.2.1 → (∀ b, y.2.2.testBit b = true → DA b) → y = x)
    (hn : AnyEnds P ops N F (fun i => DA i ∨ i = x.2.1) (stepG x.1 v τ) h') : AnyEnds P ops N F DA τ h := by
  refine any_walk hd hN ?_ ?_
  · intro Q ν w0 φ0 h0 D bl φ w a fuel listed y hy I hli hfa hf hF hm hyA
    have := only y hy hyA (fun b hb => I.sub _ (hm b hb))
    subst this
    refine I.stepC hd hN hx hA hmA hm hl hdid hre ?_
    intro φ' w' a' hdf I'
    exact hn Q ν w0 φ0 h0 _ bl φ' w' a' fuel _ I' (hli.set hfa) hf (by rw [hdf]; exact hF)
  · intro Q ν w0 φ0 h0 D bl φ w a I hD hF
    exact absurd (I.sub _ (hD x.2.1 (Array.getElem?_eq_some_iff.1 (msOf_mem hx).2).1)) hA
theorem any_dies (hd : Draws ops) (hN : ∀ o ∈ ops, ∀ d, o.dst = some d → d < N) {x : Oper × Nat × Nat} (hx : x ∈ msOf ops) (hA : ¬ DA x.2.1) {v : AV}
    (hdied : Died P ops x.1 τ (rhoOf τ) h v h') (only : ∀ y ∈ msOf ops, ¬ DA y.2.1 → (∀ b, y.2.2.testBit b = true → DA b) → y = x) : AnyEnds P ops N (DieEnds v h') DA τ h := by
  refine any_walk hd hN ?_ ?_
  · intro Q ν w0 φ0 h0 D bl φ w a fuel listed y hy I hli hfa hf hF hm hyA
    have := only y hy hyA (fun b hb => I.sub _ (hm b hb))
    subst this
    have hxD : ¬ D y.2.1 := fun e => hA (I.sub _ e)
    have hok : ∀ d, Mentions ops y.1 d → ∀ z ∈ msOf ops, DA z.2.1 → ¬ D z.2.1 → z.1.dst ≠ some d := fun d hu z hz hzA hzD =>
      I.settled hd hx hm hxD hu z hz hzA hzD (fun e => hA (by rw [← e]; exact hzA))
    have hAg : Agree φ ν y.1 (rhoOf τ) a.eval := agree_rho I.T fun t ht => hok t (.inl ht)
    refine died_wp (msOf_mem hx).2 hdied I.H hAg I.T (fun j w d h1 h2 => hok d (.inr ⟨j, w, h1, h2⟩)) ?_
    intro φ' w' u ev H' hu
    exact hF φ' w' a u (I.ev.trans ev) H' hu rfl
  · intro Q ν w0 φ0 h0 D bl φ w a I hD hF
    exact absurd (I.sub _ (hD x.2.1 (Array.getElem?_eq_some_iff.1 (msOf_mem hx).2).1)) hA
end Go.Ev
namespace Go.Ev
open Go Go.RowKit
variable {P : Program} {E : TyE} {o : Oper} {ops : Array Oper} {β : Type} {h h' : AH} {cl : Callee β} {k : PT AV → AH → Option β} {kp : AV → AH → Option β} {res : β} {X : Tmp → Bool} {τ : Sg} {DA : Nat → Prop} {N : Nat}

def Bits (d : Nat) : Nat → Prop := fun i => d.testBit i = true
theorem bits_add {d i : Nat} : Bits (d ||| 2 ^ i) = fun j => Bits d j ∨ j = i := by
  funext j
  unfold Bits
  rw [bit_add, Bool.or_eq_true, decide_eq_true_eq]
  exact propext (or_congr_right eq_comm)
theorem Died.heavy {σ : Sg} {ρ : Rho} {v : AV} (hd : Died P ops o σ ρ h v h') : isLight o = false := by
  cases hd with
  | call _ h1 _ _ => exact h1
  | pan _ h1 _ => exact h1
/-- one operation: shape and run -/
theorem one_spec (he : EnvOK P E) (hcl : ClOK P cl) {out : List CS} {lay : Lay} {n : Nat} {st1 : St} (hw : LayOK lay n) (hX : LayX X lay) (hc : comp1 E X ops o (out, lay, n) = some st1) :
    LayOK st1.2.1 st1.2.2 ∧ LayX X st1.2.1 ∧ ∃ s, st1.1 = s ++ out ∧ ∀ (h : AH) (L : PT AV) (R : List AV) (τ : Sg) (rest : List CS), R.length = n → LXP X lay L R → (sg X lay L R).le τ → runS (s.reverse ++ rest) L R h cl k kp = some res →
      (∃ v h' L' R', Did P ops o τ (rhoOf τ) h v h' ∧ R'.length = st1.2.2 ∧ LXP X st1.2.1 L' R' ∧ (sg X st1.2.1 L' R').le (stepG o v τ) ∧ runS rest L' R' h' cl k kp = some res) ∨
      ∃ v h', Died P ops o τ (rhoOf τ) h v h' ∧ kp v h' = some res := by
  have step := fun (h : AH) (L : PT AV) (R : List AV) (hR : R.length = n) (hL : LXP X lay L R) =>
    comp1_spec (P := P) (h := h) (L := L) (R := R) (k := k) (kp := kp) (res := res) (cl := cl) he hcl (by rw [hR]; exact hw) hX hL (by rw [hR]; exact hc)
  obtain ⟨hw1, hX1, s1, hs1⟩ : LayOK st1.2.1 st1.2.2 ∧ LayX X st1.2.1 ∧ ∃ s1, st1.1 = s1 ++ out := by
    have hR : (List.replicate n (AV.nilp)).length = n := by simp
    obtain ⟨a1, a2, s, a3, _⟩ := step ⟨.e, .one, .e⟩ .e (List.replicate n AV.nilp) hR (fun t a _ ht => by cases hp : posN t <;> rw [hp] at ht <;> cases ht)
    exact ⟨a1, a2, s, a3⟩
  refine ⟨hw1, hX1, s1, hs1, fun h L R τ rest hR hL hle hx => ?_⟩
  obtain ⟨_, _, s, a3, a4⟩ := step h L R hR hL
  have hss : s = s1 := by rw [hs1] at a3; exact (List.append_cancel_right a3).symm
  subst hss
  rcases a4 rest hx with ⟨v, h', L', R', hd, hR', hL', hst, hx'⟩ | ⟨v, h', hd, hkp⟩
  · rw [Rv_rho] at hd
    exact .inl ⟨v, h', L', R', hd.le hle, hR', hL', stepG_le hle hst, hx'⟩
  · rw [Rv_rho] at hd
    exact .inr ⟨v, h', hd.le hle, hkp⟩
theorem lights_spec (he : EnvOK P E) (hcl : ClOK P cl) (hd : Draws ops) : ∀ (l : List (Oper × Nat × Nat)) (done : Nat) (out : List CS) (lay : Lay) (n done' : Nat) (st' : St),
    (∀ x ∈ l, x ∈ msOf ops) → LayOK lay n → LayX X lay → lights E X ops l done (out, lay, n) = some (done', st') →
    (∀ i, done.testBit i = true → done'.testBit i = true) ∧ (∀ y ∈ msOf ops, done'.testBit y.2.1 = true → done.testBit y.2.1 = true ∨ isLight y.1 = true) ∧ LayOK st'.2.1 st'.2.2 ∧ LayX X st'.2.1 ∧
    ∃ s, st'.1 = s ++ out ∧ ∀ (h : AH) (L : PT AV) (R : List AV) (τ : Sg) (rest : List CS), R.length = n → LXP X lay L R → (sg X lay L R).le τ → runS (s.reverse ++ rest) L R h cl k kp = some res →
      ∃ h' L' R' τ', R'.length = st'.2.2 ∧ LXP X st'.2.1 L' R' ∧ (sg X st'.2.1 L' R').le τ' ∧ runS rest L' R' h' cl k kp = some res ∧ ∀ F, AnyEnds P ops N F (Bits done') τ' h' → AnyEnds P ops N F (Bits done) τ h
  | [], done, out, lay, n, done', st', _, hw, hX, hc => by
    simp only [lights, Option.some.injEq, Prod.mk.injEq] at hc
    obtain ⟨rfl, rfl⟩ := hc
    exact ⟨fun _ h => h, fun _ _ h => .inl h, hw, hX, [], rfl, fun h L R τ rest hR hL hle hx => ⟨h, L, R, τ, hR, hL, hle, hx, fun F h => h⟩⟩
  | (o, i, m) :: l, done, out, lay, n, done', st', hl, hw, hX, hc => by
    have hx : (o, i, m) ∈ msOf ops := hl _ (by simp)
    have hl' : ∀ x ∈ l, x ∈ msOf ops := fun x hx => hl x (by simp [hx])
    simp only [lights] at hc
    split at hc
    · rename_i hcond
      simp only [Bool.and_eq_true, Bool.not_eq_true'] at hcond
      obtain ⟨⟨hnd, hlt⟩, hsub⟩ := hcond
      split at hc
      · rename_i st1 h1
        obtain ⟨hw1, hX1, s1, hs1, hrun1⟩ := one_spec (k := k) (kp := kp) (res := res) he hcl hw hX h1
        obtain ⟨m1, m2, hw2, hX2, s2, hs2, hrun2⟩ := lights_spec he hcl hd l (done ||| 2 ^ i) st1.1 st1.2.1 st1.2.2 done' st' hl' hw1 hX1 hc
        refine ⟨fun j hj => m1 j (by rw [bit_add, hj]; rfl), fun y hy hyd => ?_, hw2, hX2, s2 ++ s1, by rw [hs2, hs1, List.append_assoc], fun h L R τ rest hR hL hle hxx => ?_⟩
        · rcases m2 y hy hyd with h2 | h2
          · rw [bit_add, Bool.or_eq_true, decide_eq_true_eq] at h2
            rcases h2 with h2 | h2
            · exact .inl h2
            · have := msOf_uniq hy hx h2.symm
              subst this; exact .inr hlt
          · exact .inr h2
        · rw [List.reverse_append, List.append_assoc] at hxx
          rcases hrun1 h L R τ _ hR hL hle hxx with ⟨v, h', L', R', hdid, hR', hL', hle', hx'⟩ | ⟨v, h', hdied, _⟩
          · obtain ⟨h2, L2, R2, τ2, q1, q2, q3, q4, q5⟩ := hrun2 h' L' R' _ rest hR' hL' hle' hx'
            refine ⟨h2, L2, R2, τ2, q1, q2, q3, q4, fun F hF => ?_⟩
            have hq := q5 F hF
            rw [bits_add] at hq
            exact any_light hd hx (by unfold Bits; rw [hnd]; simp) (fun b hb => sub_spec hsub b hb) hlt hdid hq
          · have := hdied.heavy
            rw [hlt] at this; cases this
      · cases hc
    · exact lights_spec he hcl hd l done out lay n done' st' hl' hw hX hc
theorem firstLeft_some {done : Nat} {x : Oper × Nat × Nat} : ∀ {l : List (Oper × Nat × Nat)}, firstLeft l done = some x → x ∈ l ∧ done.testBit x.2.1 = false
  | [], h => by cases h
  | y :: l, h => by
    simp only [firstLeft] at h
    split at h
    · obtain ⟨h1, h2⟩ := firstLeft_some h
      exact ⟨by simp [h1], h2⟩
    · rename_i hb
      cases h
      exact ⟨by simp, by simpa using hb⟩
theorem firstLeft_none {done : Nat} : ∀ {l : List (Oper × Nat × Nat)}, firstLeft l done = none → ∀ x ∈ l, done.testBit x.2.1 = true
  | [], _, x, hx => by cases hx
  | y :: l, h, x, hx => by
    simp only [firstLeft] at h
    split at h
    · rename_i hb
      rcases List.mem_cons.1 hx with rfl | hx
      · exact hb
      · exact firstLeft_none h x hx
    · cases h
theorem GW.det {τ : Sg} {a b : Bool} (h1 : GW ops o τ a) (h2 : GW ops o τ b) : a = b := by
  unfold GW at h1 h2
  cases hg : o.guard with
  | none => rw [hg] at h1 h2; rw [show a = true from h1, show b = true from h2]
  | some jw =>
    obtain ⟨j, want⟩ := jw
    rw [hg] at h1 h2
    obtain ⟨d, v, e1, e2, e3⟩ := h1
    obtain ⟨d', v', f1, f2, f3⟩ := h2
    rw [e1] at f1; cases f1
    rw [e2] at f2; cases f2
    rcases e3 with ⟨rfl, rfl⟩ | ⟨rfl, rfl⟩ | ⟨rfl, rfl⟩ <;> rcases f3 with ⟨e, rfl⟩ | ⟨e, rfl⟩ | ⟨e, rfl⟩ <;> first | rfl | (cases want <;> simp at e)
theorem rechecks_spec (he : EnvOK P E) {mc done : Nat} {lay : Lay} {n : Nat} : ∀ (l : List (Oper × Nat × Nat)) (re : List CS), rechecks E X ops mc done lay n l = some re →
    ∀ (L : PT AV) (R : List AV) (h : AH) (rest : List CS), R.length = n → (∀ y ∈ l, done.testBit y.2.1 = true → mc.testBit y.2.1 = false → isLight y.1 = true) → runS (re ++ rest) L R h cl k kp = some res →
      runS rest L R h cl k kp = some res ∧ ∀ y ∈ l, done.testBit y.2.1 = true → mc.testBit y.2.1 = false → isReads y.1 = true → ∀ τ', (sg X lay L R).le τ' → GW ops y.1 τ' true → ∀ u, DstIs y.1 τ' (some u) → Read P y.1 (rhoOf τ') h u
  | [], re, hc, L, R, h, rest, hR, _, hx => by
    simp only [rechecks, Option.some.injEq] at hc
    subst hc
    exact ⟨hx, fun y hy => by cases hy⟩
  | (o, i, m) :: l, re, hc, L, R, h, rest, hR, hlt, hx => by
    simp only [rechecks] at hc
    have hlt' : ∀ y ∈ l, done.testBit y.2.1 = true → mc.testBit y.2.1 = false → isLight y.1 = true := fun y hy => hlt y (by simp [hy])
    split at hc
    · rename_i hcond
      simp only [Bool.and_eq_true, Bool.not_eq_true'] at hcond
      obtain ⟨⟨c1, c2⟩, c3⟩ := hcond
      split at hc
      · rename_i s r h1 h2
        cases hc
        have hl := hlt (o, i, m) (by simp) c1 c2
        unfold recheck1 at h1
        split at h1
        · rename_i d hdst
          split at h1
          · rename_i g c ci hg hcr hci
            cases h1
            rw [← hR] at hg hcr hci
            rw [List.cons_append, runS_cons] at hx
            have hx : gd g L R (exec ci L R h cl (fun v _ => rd c L R (fun v' => bif sameV v v' then runS (r ++ rest) L R h cl k kp else none)) kp) (runS (r ++ rest) L R h cl k kp) = some res := hx
            rcases gd_spec hg hx with ⟨hy, hgw⟩ | ⟨hy, hgw⟩
            · have key : ∀ (v : AV) (h1 : AH), (rd c L R (fun v' => bif sameV v v' then runS (r ++ rest) L R h cl k kp else none)) = some res → runS (r ++ rest) L R h cl k kp = some res ∧ sg X lay L R d = some v := by
                intro v h1 hk
                obtain ⟨v', hv', hk⟩ := rd_some hk
                obtain ⟨hs, hk2⟩ := bif_some hk
                have := sameV_eq _ _ hs
                subst this
                exact ⟨hk2, Rv_some hcr hv'⟩
              have fin : ∀ v, Read P o (Rv (Go.Ev.res X lay R.length) L R) h v → runS (r ++ rest) L R h cl k kp = some res → sg X lay L R d = some v → runS rest L R h cl k kp = some res ∧ ∀ y ∈ (o, i, m) :: l, done.testBit y.2.1 = true → mc.testBit y.2.1 = false → isReads y.1 = true → ∀ τ', (sg X lay L R).le τ' → GW ops y.1 τ' true → ∀ u, DstIs y.1 τ' (some u) → Read P y.1 (rhoOf τ') h u := by
                intro v hr hk hσ
                obtain ⟨q1, q2⟩ := rechecks_spec he l r h2 L R h rest hR hlt' hk
                refine ⟨q1, fun y hy e1 e2 e3 τ' hle hgτ u hdi => ?_⟩
                rcases List.mem_cons.1 hy with rfl | hy
                · have h3 := hle d v hσ
                  have h4 := hdi d hdst
                  rw [h3] at h4; cases h4
                  rw [Rv_rho] at hr
                  exact hr.le fun z _ => Sg.le_rho hle z
                · exact q2 y hy e1 e2 e3 τ' hle hgτ u hdi
              rcases light_all he hl hci hy with ⟨v, h1 | ⟨_, h1⟩, hk⟩ | ⟨ob, v, ⟨hf, _⟩, _⟩
              · obtain ⟨hk, hσ⟩ := key v h hk
                exact fin v h1.read hk hσ
              · obtain ⟨hk, hσ⟩ := key v h hk
                exact fin v h1 hk hσ
              · rw [c3] at hf; cases hf
            · obtain ⟨q1, q2⟩ := rechecks_spec he l r h2 L R h rest hR hlt' hy
              refine ⟨q1, fun y hy e1 e2 e3 τ' hle hgτ u hdi => ?_⟩
              rcases List.mem_cons.1 hy with rfl | hy
              · have := (hgw.le hle).det hgτ
                cases this
              · exact q2 y hy e1 e2 e3 τ' hle hgτ u hdi
          · cases h1
        · cases h1
      · cases hc
    · rename_i hcond
      obtain ⟨q1, q2⟩ := rechecks_spec he l re hc L R h rest hR hlt' hx
      refine ⟨q1, fun y hy e1 e2 e3 => ?_⟩
      rcases List.mem_cons.1 hy with rfl | hy
      · exact absurd (by simp [e1, e2, e3]) hcond
      · exact q2 y hy e1 e2 e3
end Go.Ev
namespace Go.Ev
open Go Go.RowKit
variable {P : Program} {E : TyE} {o : Oper} {ops : Array Oper} {β : Type} {h h' : AH} {cl : Callee β} {k : PT AV → AH → Option β} {kp : AV → AH → Option β} {res : β} {X : Tmp → Bool} {τ : Sg} {DA : Nat → Prop} {N : Nat}

theorem draw_spec (he : EnvOK P E) (hcl : ClOK P cl) (hd : Draws ops) (hN : ∀ o ∈ ops, ∀ d, o.dst = some d → d < N) : ∀ (fuel done bigs : Nat) (out : List CS) (lay : Lay) (n : Nat) (st' : St),
    LayOK lay n → LayX X lay → (∀ y ∈ msOf ops, done.testBit y.2.1 = true → isLight y.1 = false → bigs.testBit y.2.1 = true) → compDraw E X ops (msOf ops) fuel done bigs (out, lay, n) = some st' →
    (∀ y ∈ msOf ops, done.testBit y.2.1 = false → isLight y.1 = false → ∀ b, bigs.testBit b = true → y.2.2.testBit b = true) ∧
    ∃ s, st'.1 = s ++ out ∧ ∀ (h : AH) (L : PT AV) (R : List AV) (τ : Sg) (rest : List CS), R.length = n → LXP X lay L R → (sg X lay L R).le τ → runS (s.reverse ++ rest) L R h cl k kp = some res →
      (∃ h' L' R', LXP X st'.2.1 L' R' ∧ runS rest L' R' h' cl k kp = some res ∧ AnyEnds P ops N (GoEnds N (sg X st'.2.1 L' R') h') (Bits done) τ h) ∨
      ∃ v h', kp v h' = some res ∧ AnyEnds P ops N (DieEnds v h') (Bits done) τ h
  | 0, done, bigs, out, lay, n, st', _, _, _, hc => by cases hc
  | fuel + 1, done, bigs, out, lay, n, st', hw, hX, hb, hc => by
    simp only [compDraw] at hc
    split at hc
    · cases hc
    · rename_i done1 st1 hli
      obtain ⟨out1, lay1, n1⟩ := st1
      obtain ⟨m1, m2, hw1, hX1, s1, hs1, hrun1⟩ := lights_spec (P := P) (N := N) (k := k) (kp := kp) (res := res) he hcl hd (msOf ops) done out lay n done1 _ (fun _ h => h) hw hX hli
      have hb1 : ∀ y ∈ msOf ops, done1.testBit y.2.1 = true → isLight y.1 = false → bigs.testBit y.2.1 = true := fun y hy h1 h2 => by
        rcases m2 y hy h1 with h3 | h3
        · exact hb y hy h3 h2
        · rw [h2] at h3; cases h3
      split at hc
      · cases hc
      · rename_i hnl
        have hnl : noneLeft (msOf ops) done1 = true := by simpa using hnl
        split at hc
        · -- the end
          rename_i hfl
          cases hc
          have hall := firstLeft_none hfl
          refine ⟨fun y hy h1 h2 => ?_, s1, hs1, fun h L R τ rest hR hL hle hx => .inl ?_⟩
          · rcases m2 y hy (hall y hy) with h3 | h3
            · rw [h1] at h3; cases h3
            · rw [h2] at h3; cases h3
          · obtain ⟨h', L', R', τ', q1, q2, q3, q4, q5⟩ := hrun1 h L R τ rest hR hL hle hx
            exact ⟨h', L', R', q2, q4, q5 _ (any_end hd hN hall q3)⟩
        · rename_i o i m hfl
          obtain ⟨hx, hxd⟩ := firstLeft_some hfl
          split at hc
          · rename_i hcond
            simp only [Bool.and_eq_true, Bool.not_eq_true'] at hcond
            obtain ⟨⟨c1, c2⟩, c3⟩ := hcond
            split at hc
            · rename_i st2 h2
              split at hc
              · rename_i re hre
                obtain ⟨hw2, hX2, s2, hs2, hrun2⟩ := one_spec (P := P) (k := k) (kp := kp) (res := res) he hcl hw1 hX1 h2
                have hb2 : ∀ y ∈ msOf ops, (done1 ||| 2 ^ i).testBit y.2.1 = true → isLight y.1 = false → (bigs ||| 2 ^ i).testBit y.2.1 = true := fun y hy h1 h2 => by
                  rw [bit_add, Bool.or_eq_true] at h1 ⊢
                  exact h1.imp (fun h1 => hb1 y hy h1 h2) id
                obtain ⟨b3, s3, hs3, hrun3⟩ := draw_spec he hcl hd hN fuel (done1 ||| 2 ^ i) (bigs ||| 2 ^ i) (re.reverse ++ st2.1) st2.2.1 st2.2.2 st' hw2 hX2 hb2 hc
                -- none but x is next
                have only : ∀ y ∈ msOf ops, ¬ Bits done1 y.2.1 → (∀ b, y.2.2.testBit b = true → Bits done1 b) → y = (o, i, m) := by
                  intro y hy hyd hym
                  have hyd' : done1.testBit y.2.1 = false := by unfold Bits at hyd; simpa using hyd
                  have hl : isLight y.1 = false := by
                    have := List.all_eq_true.1 hnl y hy
                    simp only [hyd', Bool.false_or, Bool.or_eq_true, Bool.not_eq_true'] at this
                    rcases this with h1 | h1
                    · exact h1
                    · rw [sub_of (fun b hb => hym b hb)] at h1; cases h1
                  apply Classical.byContradiction
                  intro hne
                  have hne' : i ≠ y.2.1 := fun e => hne (msOf_uniq hy hx e.symm)
                  have h5 := b3 y hy (by rw [bit_add, hyd']; simp [hne']) hl i (by rw [bit_add]; simp)
                  have := hym i h5
                  unfold Bits at this
                  rw [hxd] at this; cases this
                refine ⟨fun y hy h1 h3 b hbb => ?_, s3 ++ re.reverse ++ s2 ++ s1, by rw [hs3, hs2, show out1 = s1 ++ out from hs1]; simp, fun h L R τ rest hR hL hle hxx => ?_⟩
                · have hyd' : done1.testBit y.2.1 = false := by
                    cases hq : done1.testBit y.2.1 with
                    | false => rfl
                    | true =>
                      rcases m2 y hy hq with h4 | h4
                      · rw [h1] at h4; cases h4
                      · rw [h3] at h4; cases h4
                  by_cases hiy : i = y.2.1
                  · rw [msOf_uniq hy hx hiy.symm]; exact sub_spec c2 b hbb
                  · exact b3 y hy (by rw [bit_add, hyd']; simp [hiy]) h3 b (by rw [bit_add, hbb]; rfl)
                · have hxx : runS (s1.reverse ++ (s2.reverse ++ (re ++ (s3.reverse ++ rest)))) L R h cl k kp = some res := by
                    simpa [List.reverse_append, List.append_assoc] using hxx
                  obtain ⟨h1, L1, R1, τ1, q1, q2, q3, q4, q5⟩ := hrun1 h L R τ _ hR hL hle hxx
                  rcases hrun2 h1 L1 R1 τ1 _ q1 q2 q3 q4 with ⟨v, h2', L2, R2, hdid, r1, r2, r3, r4⟩ | ⟨v, h2', hdied, hkp⟩
                  · obtain ⟨t1, t2⟩ := rechecks_spec he (msOf ops) re hre L2 R2 h2' _ r1 (fun y hy e1 e2 => by
                      cases hly : isLight y.1 with
                      | true => rfl
                      | false =>
                        have := sub_spec c2 _ (hb1 y hy e1 hly)
                        rw [e2] at this; cases this) r4
                    have bigstep : ∀ F, AnyEnds P ops N F (Bits (done1 ||| 2 ^ i)) (stepG o v τ1) h2' → AnyEnds P ops N F (Bits done) τ h := by
                      intro F hF
                      rw [bits_add] at hF
                      refine q5 F (any_big hd hN hx (by unfold Bits; rw [hxd]; simp) (fun b hb => sub_spec c1 b hb) c3 hdid ?_ only hF)
                      intro y hy e1 e2 e3 hg u hdi
                      exact t2 y hy e1 e2 e3 _ r3 hg u hdi
                    rcases hrun3 h2' L2 R2 _ rest r1 r2 r3 t1 with ⟨h3, L3, R3, u1, u2, u3⟩ | ⟨v3, h3, u1, u2⟩
                    · exact .inl ⟨h3, L3, R3, u1, u2, bigstep _ u3⟩
                    · exact .inr ⟨v3, h3, u1, bigstep _ u2⟩
                  · exact .inr ⟨v, h2', hkp, q5 _ (any_dies hd hN hx (by unfold Bits; rw [hxd]; simp) hdied only)⟩
              · cases hc
            · cases hc
          · cases hc
theorem HR.drawn {ν : Nu} {w0 w : World} {φ : Phi} (H : HR ν w0 φ h w) : HR ν w0 φ h { w with drawn := w.drawn + 1 } := by
  refine ⟨H.below.drew, H.fr, fun p i hp => ?_, H.inj, H.chain, H.memb, H.start, H.priv⟩
  obtain ⟨h1, o, h2, h3⟩ := H.ob p i hp
  exact ⟨h1, o, h2, h3.keep (Phi.le_refl _) rfl⟩
/-- what the temporaries of a whole function are worth -/
noncomputable def sgL (X : Tmp → Bool) (L : PT AV) : Sg := sg X [] L []
theorem LXP.nil {L : PT AV} : LXP X [] L [] := fun t a ht hL => by
  unfold sg Rv
  simp [Go.Ev.res, look, ht, rdV, hL]
theorem LXP.out {lay : Lay} {L : PT AV} {R : List AV} (h : LXP X lay L R) : (sgL X L).le (sg X lay L R) := by
  intro t a ht
  unfold sgL sg Rv at ht
  simp only [Go.Ev.res, look, Option.bind_eq_some_iff] at ht
  obtain ⟨c, h1, h2⟩ := ht
  split at h1
  · rename_i hX
    cases h1
    exact h t a hX h2
  · cases h1
theorem TmpsOK.le {φ : Phi} {ν : Nu} {σ τ : Sg} {a : Act} (hl : σ.le τ) (hT : TmpsOK φ ν τ a All) : TmpsOK φ ν σ a All := fun t v h1 h2 => hT t v h1 (hl t v h2)
/-- a region, compiled -/
theorem region_spec (he : EnvOK P E) (hcl : ClOK P cl) (hm : P.follows .mixedOrders = true) (hN : ∀ o ∈ ops, ∀ d, o.dst = some d → d < N) {id : Nat} {draw : Bool} {st' : St} {L : PT AV}
    (hc : (if draw then (if drawOk ops (withMasks ops.toList 0 []) then compDraw E X ops (withMasks ops.toList 0 []) (ops.size + 1) 0 0 ([], [], 0) else none) else compOps E X ops ops.toList ([], [], 0)) = some st')
    (hx : runS st'.1.reverse L [] h cl k kp = some res) :
    (∃ h' L', k L' h' = some res ∧ ∀ Q φ ν w0 w a, HR ν w0 φ h w → TmpsOK φ ν (sgL X L) a All → a.tmps.size = N →
      (∀ φ' w' a', Ev φ h φ' h' → HR ν w0 φ' h' w' → TmpsOK φ' ν (sgL X L') a' All → a'.tmps.size = N → a'.defers = a.defers → Q .normal a' w') → (Code.region id ops draw).wp P Q a w) ∨
    ∃ v h', kp v h' = some res ∧ ∀ Q φ ν w0 w a, HR ν w0 φ h w → TmpsOK φ ν (sgL X L) a All → a.tmps.size = N →
      (∀ φ' w' a' u, Ev φ h φ' h' → HR ν w0 φ' h' w' → conc φ' ν v = some u → a'.defers = a.defers → Q (.panic [{ v := u, recovered := false }]) a' w') → (Code.region id ops draw).wp P Q a w := by
  have hw0 : LayOK [] 0 := fun t b h => by cases h
  have hX0 : LayX X [] := fun t _ => .inl rfl
  cases draw with
  | true =>
    simp only [if_true] at hc
    split at hc
    · rename_i hok
      have hd := drawOk_spec hok
      obtain ⟨_, s, hs, hrun⟩ := draw_spec (P := P) (k := k) (kp := kp) (res := res) he hcl hd hN (ops.size + 1) 0 0 [] [] 0 st' hw0 hX0 (fun y _ h1 => by simp at h1) hc
      rw [List.append_nil] at hs
      have enter : ∀ {F : Ends}, AnyEnds P ops N F (Bits 0) (sgL X L) h → ∀ Q φ ν w0 w a, HR ν w0 φ h w → TmpsOK φ ν (sgL X L) a All → a.tmps.size = N → F Q ν w0 φ h a.defers → (Code.region id ops true).wp P Q a w := by
        intro F hF Q φ ν w0 w a H hT hsz hFQ
        refine wp_region_any hm ?_
        refine hF Q ν w0 φ h (fun _ => False) (fun _ => none) φ _ a ops.size _ ⟨fun i h => h.elim, ?_, ?_, ?_, H.drawn, ?_, ?_, ?_, hsz, Ev.refl _ _, ?_⟩ ⟨by simp, fun i => ?_⟩ ?_ hFQ
        · intro x _ hxA; unfold Bits at hxA; simp at hxA
        · intro x _ hxA; exact hxA.elim
        · intro x _ hxA; unfold Bits at hxA; simp at hxA
        · exact fun t v _ hv => hT t v trivial hv
        · intro x _ hxA; unfold Bits at hxA; simp at hxA
        · intro i j b hi; cases hi
        · intro i b hi; cases hi
        · rw [Array.getElem?_replicate]; split <;> simp
        · unfold Unlisted; simp
      rcases hrun h L [] (sgL X L) [] rfl LXP.nil (fun _ _ h => h) (by rw [← hs, List.append_nil]; exact hx) with ⟨h', L', R', h1, h2, h3⟩ | ⟨v, h', h1, h2⟩
      · refine .inl ⟨h', L', h2, fun Q φ ν w0 w a H hT hsz hQ => enter h3 Q φ ν w0 w a H hT hsz ?_⟩
        intro φ' w' a' ev H' hT' hsz' hdf
        exact hQ φ' w' a' ev H' (hT'.le h1.out) hsz' hdf
      · refine .inr ⟨v, h', h1, fun Q φ ν w0 w a H hT hsz hQ => enter h2 Q φ ν w0 w a H hT hsz ?_⟩
        intro φ' w' a' u ev H' hu hdf
        exact hQ φ' w' a' u ev H' hu hdf
    · cases hc
  | false =>
    simp only [Bool.false_eq_true, if_false] at hc
    obtain ⟨s, hs, hrun⟩ := seq_spec (P := P) (N := N) (k := k) (kp := kp) (res := res) he hcl hN ops.toList 0 [] [] 0 st' (fun j _ => by simp) hw0 hX0 hc
    rw [List.append_nil] at hs
    have hr : List.range' 0 ops.toList.length ++ [] = List.range ops.size := by simp [List.range_eq_range']
    rcases hrun h L [] [] rfl LXP.nil (by rw [← hs, List.append_nil]; exact hx) with ⟨L', R', h', h1, h2, h3⟩ | ⟨v, h', h1, h2⟩
    · refine .inl ⟨h', L', h3, fun Q φ ν w0 w a H hT hsz hQ => ?_⟩
      refine wp_region ?_
      rw [← hr]
      refine h1 Q [] φ ν w0 w a H hT hsz ?_
      intro φ' w' a' ev H' hT' hsz' hdf
      exact hQ φ' w' a' ev H' (hT'.le h2.out) hsz' hdf
    · refine .inr ⟨v, h', h2, fun Q φ ν w0 w a H hT hsz hQ => ?_⟩
      refine wp_region ?_
      rw [← hr]
      exact h1 Q [] φ ν w0 w a H hT hsz hQ
end Go.Ev
namespace Go.Ev
open Go Go.RowKit
variable {P : Program} {E : TyE} {β : Type} {h h' : AH} {cl : Callee β} {res : β} {X : Tmp → Bool} {N : Nat}

/-! ### code -/
/-- a loop, from the beginning of a round -/
def LWp (P : Program) (c : Code) (Q : Exit → Act → World → Prop) (a : Act) (w : World) : Prop :=
  ∀ (b : Frame) (k : List Item) (cs : List Frame), ∃ e a' w', Q e a' w' ∧ Arrives P (lone (b.at a (.code c :: .inLoop c :: k)) cs w) b k cs e a' w'
def WpX (P : Program) : Code → (Exit → Act → World → Prop) → Act → World → Prop
  | .loop c, Q, a, w => LWp P c Q a w
  | c, Q, a, w => c.wp P Q a w
theorem WpX.wp {c : Code} {Q : Exit → Act → World → Prop} {a : Act} {w : World} (hw : WpX P c Q a w) : c.wp P Q a w := by
  cases c with
  | loop c =>
    intro b k cs
    obtain ⟨e, a', w', h1, h2⟩ := hw b k cs
    exact ⟨e, a', w', h1, .of_steps (.one step_loop) h2⟩
  | _ => exact hw
theorem LWp.round {c : Code} {Q : Exit → Act → World → Prop} {a : Act} {w : World} (hw : c.wp P (Exit.then (LWp P c Q) Q) a w) : LWp P c Q a w := by
  intro b k cs
  obtain ⟨e, a₁, w₁, hq, harr⟩ := hw b (.inLoop c :: k) cs
  cases e with
  | normal =>
    obtain ⟨e₂, a₂, w₂, hq₂, harr₂⟩ := hq b k cs
    exact ⟨e₂, a₂, w₂, hq₂, .of_steps (Steps.trans harr (.one step_inLoop)) harr₂⟩
  | exit id => exact ⟨_, a₁, w₁, hq, .pass (x := .inLoop c) rfl (fun _ _ => .inl (by simp)) harr⟩
  | goto l => exact ⟨_, a₁, w₁, hq, .pass (x := .inLoop c) rfl (fun _ _ => .inl (by simp)) harr⟩
  | ret => exact ⟨_, a₁, w₁, hq, .pass (x := .inLoop c) rfl (fun _ _ => .inl (by simp)) harr⟩
  | panic ch => exact ⟨_, a₁, w₁, hq, .pass (x := .inLoop c) rfl (fun _ _ => .inl (by simp)) harr⟩
  | outgrown => exact ⟨_, a₁, w₁, hq, .pass (x := .inLoop c) rfl (fun _ _ => .inl (by simp)) harr⟩
/-- how code ends -/
def Aft (X : Tmp → Bool) (N : Nat) (φ : Phi) (ν : Nu) (L' : PT AV) (d : List Deferred) (x : AX) (e : Exit) (a' : Act) : Prop :=
  a'.defers = d ∧ match x with
    | .nrm => e = .normal ∧ TmpsOK φ ν (sgL X L') a' All ∧ a'.tmps.size = N
    | .ex id => e = .exit id ∧ TmpsOK φ ν (sgL X L') a' All ∧ a'.tmps.size = N
    | .ret => e = .ret ∧ TmpsOK φ ν (sgL X L') a' All ∧ a'.tmps.size = N
    | .pan v => ∃ u, conc φ ν v = some u ∧ e = .panic [{ v := u, recovered := false }]
def CGoes (P : Program) (X : Tmp → Bool) (N : Nat) (c : Code) (L : PT AV) (h : AH) (x : AX) (L' : PT AV) (h' : AH) : Prop :=
  ∀ Q φ ν w0 w a, HR ν w0 φ h w → TmpsOK φ ν (sgL X L) a All → a.tmps.size = N →
    (∀ φ' w' a' e, Ev φ h φ' h' → HR ν w0 φ' h' w' → Aft X N φ' ν L' a.defers x e a' → Q e a' w') → WpX P c Q a w
def dstsOk (n : Nat) : Code → Bool
  | .region _ ops _ => ops.all fun o => match o.dst with | some d => decide (d < n) | none => true
  | .seq a b => dstsOk n a && dstsOk n b
  | .cond _ a b => dstsOk n a && dstsOk n b
  | .block _ b | .loop b | .scope b => dstsOk n b
  | _ => true
/-- what a runner of code must answer -/
def RunOK (P : Program) (E : TyE) (run : CC → PT AV → AH → (AX → PT AV → AH → Option β) → Option β) : Prop :=
  ∀ (X : Tmp → Bool) (N : Nat) (c : Code) (L : PT AV) (h : AH) (K : AX → PT AV → AH → Option β) (res : β), dstsOk N c = true → run (compC E X c) L h K = some res → ∃ x L' h', K x L' h' = some res ∧ CGoes P X N c L h x L' h'
theorem eval_rd {φ : Phi} {ν : Nu} {L : PT AV} {a : Act} {x : Operand} {v : AV} (hT : TmpsOK φ ν (sgL X L) a All) (hv : Rv (Go.Ev.res X [] 0) L [] x = some v) : conc φ ν v = some (a.eval x) := by
  have := agree_of (o := { dst := none, op := .move x, type := 0, pos := "", after := #[], guard := none }) (lay := []) (R := []) hT (fun _ _ => trivial)
  exact this x (by simp [Op.operands]) v hv
theorem code_spec (he : EnvOK P E) (hm : P.follows .mixedOrders = true) (hcl : ClOK P cl) {run : CC → PT AV → AH → (AX → PT AV → AH → Option β) → Option β} (hrun : RunOK P E run)
    (X : Tmp → Bool) (N : Nat) : ∀ (c : Code) (L : PT AV) (h : AH) (K : AX → PT AV → AH → Option β) (res : β), dstsOk N c = true → codeB (fun c L h _ K => run c L h K) (compC E X c) L h cl K = some res →
      ∃ x L' h', K x L' h' = some res ∧ CGoes P X N c L h x L' h'
  | .skip, L, h, K, res, hN, hx => ⟨.nrm, L, h, hx, fun Q φ ν w0 w a H hT hs hQ => wp_skip (hQ φ w a .normal (Ev.refl _ _) H ⟨rfl, rfl, hT, hs⟩)⟩
  | .label l, L, h, K, res, hN, hx => ⟨.nrm, L, h, hx, fun Q φ ν w0 w a H hT hs hQ => wp_label (hQ φ w a .normal (Ev.refl _ _) H ⟨rfl, rfl, hT, hs⟩)⟩
  | .exit id, L, h, K, res, hN, hx => ⟨.ex id, L, h, hx, fun Q φ ν w0 w a H hT hs hQ => wp_exit (hQ φ w a (.exit id) (Ev.refl _ _) H ⟨rfl, rfl, hT, hs⟩)⟩
  | .ret, L, h, K, res, hN, hx => ⟨.ret, L, h, hx, fun Q φ ν w0 w a H hT hs hQ => wp_ret (hQ φ w a .ret (Ev.refl _ _) H ⟨rfl, rfl, hT, hs⟩)⟩
  | .goto l, L, h, K, res, hN, hx => by cases hx
  | .refuse l, L, h, K, res, hN, hx => by cases hx
  | .rangeFunc f p a b, L, h, K, res, hN, hx => by cases hx
  | .region id ops draw, L, h, K, res, hN, hx => by
    simp only [compC] at hx
    split at hx
    · rename_i out lay n hc
      have hN' : ∀ o ∈ ops, ∀ d, o.dst = some d → d < N := by
        intro o ho d hd
        simp only [dstsOk] at hN
        have := Array.all_eq_true_iff_forall_mem.1 hN o ho
        simpa [hd] using this
      rcases region_spec (id := id) (draw := draw) (P := P) (E := E) (X := X) (L := L) (h := h) (k := fun L' h' => K .nrm L' h') (kp := fun v h' => K (.pan v) L h') (cl := cl) (res := res) he hcl hm hN' hc hx with ⟨h', L', h1, h2⟩ | ⟨v, h', h1, h2⟩
      · exact ⟨.nrm, L', h', h1, fun Q φ ν w0 w a H hT hs hQ => h2 Q φ ν w0 w a H hT hs fun φ' w' a' ev H' hT' hs' hd => hQ φ' w' a' .normal ev H' ⟨hd, rfl, hT', hs'⟩⟩
      · exact ⟨.pan v, L, h', h1, fun Q φ ν w0 w a H hT hs hQ => h2 Q φ ν w0 w a H hT hs fun φ' w' a' u ev H' hu hd => hQ φ' w' a' _ ev H' ⟨hd, u, hu, rfl⟩⟩
    · cases hx
  | .scope b, L, h, K, res, hN, hx => by
    obtain ⟨x, L', h', h1, h2⟩ := code_spec he hm hcl hrun X N b L h K res hN hx
    refine ⟨x, L', h', h1, fun Q φ ν w0 w a H hT hs hQ => wp_scope_straight (WpX.wp (h2 _ φ ν w0 w a H hT hs fun φ' w' a' e ev H' ha => ?_))⟩
    have := hQ φ' w' a' e ev H' ha
    cases e with
    | goto l => obtain ⟨_, ha⟩ := ha; cases x <;> first | cases ha.1 | (obtain ⟨_, _, ha⟩ := ha; cases ha)
    | _ => exact this
  | .seq a b, L, h, K, res, hN, hx => by
    simp only [dstsOk, Bool.and_eq_true] at hN
    have hx : run (compC E X a) L h (fun x L' h' => axN x (run (compC E X b) L' h' K) (K x L' h')) = some res := hx
    obtain ⟨x, L', h', h1, h2⟩ := hrun X N a L h _ res hN.1 hx
    cases x with
    | nrm =>
      obtain ⟨x2, L2, h3, h4, h5⟩ := hrun X N b L' h' _ res hN.2 h1
      refine ⟨x2, L2, h3, h4, fun Q φ ν w0 w a H hT hs hQ => wp_seq (WpX.wp (h2 _ φ ν w0 w a H hT hs fun φ' w' a' e ev H' ha => ?_))⟩
      obtain ⟨hd, rfl, hT', hs'⟩ := ha
      refine WpX.wp (h5 Q φ' ν w0 w' a' H' hT' hs' fun φ'' w'' a'' e ev' H'' ha' => hQ φ'' w'' a'' e (ev.trans ev') H'' ?_)
      rw [← hd]; exact ha'
    | ex id =>
      refine ⟨_, L', h', h1, fun Q φ ν w0 w a H hT hs hQ => wp_seq (WpX.wp (h2 _ φ ν w0 w a H hT hs fun φ' w' a' e ev H' ha => ?_))⟩
      have := hQ φ' w' a' e ev H' ha
      obtain ⟨_, rfl, _⟩ := ha; exact this
    | ret =>
      refine ⟨_, L', h', h1, fun Q φ ν w0 w a H hT hs hQ => wp_seq (WpX.wp (h2 _ φ ν w0 w a H hT hs fun φ' w' a' e ev H' ha => ?_))⟩
      have := hQ φ' w' a' e ev H' ha
      obtain ⟨_, rfl, _⟩ := ha; exact this
    | pan v =>
      refine ⟨_, L', h', h1, fun Q φ ν w0 w a H hT hs hQ => wp_seq (WpX.wp (h2 _ φ ν w0 w a H hT hs fun φ' w' a' e ev H' ha => ?_))⟩
      have := hQ φ' w' a' e ev H' ha
      obtain ⟨_, _, _, rfl⟩ := ha; exact this
  | .cond x a b, L, h, K, res, hN, hx => by
    simp only [dstsOk, Bool.and_eq_true] at hN
    simp only [compC] at hx
    split at hx
    · rename_i c hc
      obtain ⟨v, hv, hx⟩ := rd_some (o := c) hx
      obtain ⟨t, rfl, hx⟩ := eBool_some hx
      have hev : ∀ {φ ν a}, TmpsOK φ ν (sgL X L) a All → a.eval x = .bool t := fun hT => conc_bool (eval_rd hT (Rv_some hc hv))
      cases t with
      | true =>
        obtain ⟨y, L', h', h1, h2⟩ := hrun X N a L h K res hN.1 hx
        exact ⟨y, L', h', h1, fun Q φ ν w0 w a H hT hs hQ => wp_cond_true (hev hT) (WpX.wp (h2 Q φ ν w0 w a H hT hs hQ))⟩
      | false =>
        obtain ⟨y, L', h', h1, h2⟩ := hrun X N b L h K res hN.2 hx
        exact ⟨y, L', h', h1, fun Q φ ν w0 w a H hT hs hQ => wp_cond_false (hev hT) (WpX.wp (h2 Q φ ν w0 w a H hT hs hQ))⟩
    · cases hx
  | .block id b, L, h, K, res, hN, hx => by
    have hx : run (compC E X b) L h (fun x L' h' => axE x id (K .nrm L' h') (K x L' h')) = some res := hx
    obtain ⟨x, L', h', h1, h2⟩ := hrun X N b L h _ res hN hx
    cases x with
    | nrm =>
      refine ⟨.nrm, L', h', h1, fun Q φ ν w0 w a H hT hs hQ => wp_block (WpX.wp (h2 _ φ ν w0 w a H hT hs fun φ' w' a' e ev H' ha => ?_))⟩
      have := hQ φ' w' a' e ev H' ha
      obtain ⟨_, rfl, _⟩ := ha; exact this
    | ret =>
      refine ⟨.ret, L', h', h1, fun Q φ ν w0 w a H hT hs hQ => wp_block (WpX.wp (h2 _ φ ν w0 w a H hT hs fun φ' w' a' e ev H' ha => ?_))⟩
      have := hQ φ' w' a' e ev H' ha
      obtain ⟨_, rfl, _⟩ := ha; exact this
    | pan v =>
      refine ⟨.pan v, L', h', h1, fun Q φ ν w0 w a H hT hs hQ => wp_block (WpX.wp (h2 _ φ ν w0 w a H hT hs fun φ' w' a' e ev H' ha => ?_))⟩
      have := hQ φ' w' a' e ev H' ha
      obtain ⟨_, _, _, rfl⟩ := ha; exact this
    | ex id' =>
      cases hb : Nat.beq id' id with
      | true =>
        have hid := Nat.eq_of_beq_eq_true hb
        subst hid
        have h1 : (Bool.casesOn (motive := fun _ => Option β) (Nat.beq id' id') (K (.ex id') L' h') (K .nrm L' h')) = some res := h1
        rw [hb] at h1
        refine ⟨.nrm, L', h', h1, fun Q φ ν w0 w a H hT hs hQ => wp_block (WpX.wp (h2 _ φ ν w0 w a H hT hs fun φ' w' a' e ev H' ha => ?_))⟩
        obtain ⟨hd, rfl, hT', hs'⟩ := ha
        simp only [Exit.inBlock, if_true]
        exact hQ φ' w' a' .normal ev H' ⟨hd, rfl, hT', hs'⟩
      | false =>
        have hid : id' ≠ id := fun e => by subst e; rw [Nat.beq_refl] at hb; cases hb
        have h1 : (Bool.casesOn (motive := fun _ => Option β) (Nat.beq id' id) (K (.ex id') L' h') (K .nrm L' h')) = some res := h1
        rw [hb] at h1
        refine ⟨.ex id', L', h', h1, fun Q φ ν w0 w a H hT hs hQ => wp_block (WpX.wp (h2 _ φ ν w0 w a H hT hs fun φ' w' a' e ev H' ha => ?_))⟩
        have := hQ φ' w' a' e ev H' ha
        obtain ⟨hd, rfl, hT', hs'⟩ := ha
        simp only [Exit.inBlock, if_neg hid]
        exact this
  | .loop b, L, h, K, res, hN, hx => by
    have hx : run (compC E X b) L h (fun x L' h' => axN x (run (compC E X (.loop b)) L' h' K) (K x L' h')) = some res := hx
    obtain ⟨x, L', h', h1, h2⟩ := hrun X N b L h _ res hN hx
    cases x with
    | nrm =>
      obtain ⟨x2, L2, h3, h4, h5⟩ := hrun X N (.loop b) L' h' _ res hN h1
      refine ⟨x2, L2, h3, h4, fun Q φ ν w0 w a H hT hs hQ => LWp.round (WpX.wp (h2 _ φ ν w0 w a H hT hs fun φ' w' a' e ev H' ha => ?_))⟩
      obtain ⟨hd, rfl, hT', hs'⟩ := ha
      refine h5 Q φ' ν w0 w' a' H' hT' hs' fun φ'' w'' a'' e ev' H'' ha' => hQ φ'' w'' a'' e (ev.trans ev') H'' ?_
      rw [← hd]; exact ha'
    | ex id =>
      refine ⟨_, L', h', h1, fun Q φ ν w0 w a H hT hs hQ => LWp.round (WpX.wp (h2 _ φ ν w0 w a H hT hs fun φ' w' a' e ev H' ha => ?_))⟩
      have := hQ φ' w' a' e ev H' ha
      obtain ⟨_, rfl, _⟩ := ha; exact this
    | ret =>
      refine ⟨_, L', h', h1, fun Q φ ν w0 w a H hT hs hQ => LWp.round (WpX.wp (h2 _ φ ν w0 w a H hT hs fun φ' w' a' e ev H' ha => ?_))⟩
      have := hQ φ' w' a' e ev H' ha
      obtain ⟨_, rfl, _⟩ := ha; exact this
    | pan v =>
      refine ⟨_, L', h', h1, fun Q φ ν w0 w a H hT hs hQ => LWp.round (WpX.wp (h2 _ φ ν w0 w a H hT hs fun φ' w' a' e ev H' ha => ?_))⟩
      have := hQ φ' w' a' e ev H' ha
      obtain ⟨_, _, _, rfl⟩ := ha; exact this
end Go.Ev
namespace Go.Ev
open Go Go.RowKit
variable {P : Program} {E : TyE} {β : Type} {h h' : AH} {res : β} {X : Tmp → Bool} {N : Nat}

/-! ### results -/
def ResRel (E : TyE) (X : Tmp → Bool) : List ResultVar → List CR → Prop
  | [], [] => True
  | .tmp t :: l, .tmp p :: m => p = posN t ∧ X t = true ∧ ResRel E X l m
  | .cell t ty :: l, .cell p n :: m => p = posN t ∧ X t = true ∧ (∃ g z, E.agg ty = some g ∧ E.size ty = some z ∧ n = if g then some z else none) ∧ ResRel E X l m
  | _, _ => False
def resOne (tmps : Array Value) : ResultVar → Sem Value
  | .tmp t => pure (tmps.getD t undef)
  | .cell a t => do loadVar t (← asAddr (tmps.getD a undef))
theorem sgL_get {L : PT AV} {t : Tmp} {v : AV} (hX : X t = true) (h : L.get (posN t) = some v) : sgL X L t = some v := by
  unfold sgL sg Rv
  simp [Go.Ev.res, look, hX, rdV, h]
theorem resK_spec (he : EnvOK P E) {L : PT AV} : ∀ (rs : List ResultVar) (l : List CR) (k : List AV → Option β), ResRel E X rs l → resK l L h k = some res →
    ∃ vs, k vs = some res ∧ ∀ φ ν w0 w (a : Act), HR ν w0 φ h w → TmpsOK φ ν (sgL X L) a All → ∃ us, concL φ ν vs = some us ∧ (rs.mapM (resOne a.tmps)).run P w = .ok us w
  | [], [], k, _, hx => ⟨[], hx, fun φ ν w0 w a H hT => ⟨[], rfl, by simp⟩⟩
  | .tmp t :: rs, .tmp p :: l, k, hr, hx => by
    obtain ⟨rfl, hX, hr⟩ := hr
    have hx : rd (.l (posN t)) L [] (fun v => resK l L h (fun l => k (v :: l))) = some res := hx
    obtain ⟨v, hv, hx⟩ := rd_some hx
    obtain ⟨vs, h1, h2⟩ := resK_spec he rs l _ hr hx
    refine ⟨v :: vs, h1, fun φ ν w0 w a H hT => ?_⟩
    obtain ⟨us, h3, h4⟩ := h2 φ ν w0 w a H hT
    obtain ⟨u, h5, h6⟩ := hT t v trivial (sgL_get hX hv)
    refine ⟨u :: us, by simp [concL, h6, h3], ?_⟩
    rw [List.mapM_cons]
    simp [resOne, h5, h4]
  | .cell t ty :: rs, .cell p n :: l, k, hr, hx => by
    obtain ⟨rfl, hX, ⟨g, z, hg, hz, rfl⟩, hr⟩ := hr
    have hx : rd (.l (posN t)) L [] (fun v => match v with
        | .ptr b off => (match (if g then some z else none : Option Nat) with
          | none => loadCellK h b off (fun v => resK l L h (fun l => k (v :: l)))
          | some n => loadCellsK h b off n (fun c => resK l L h (fun l => k (.agg c :: l))))
        | _ => none) = some res := hx
    obtain ⟨v, hv, hx⟩ := rd_some hx
    cases v <;> first | (cases hx; done) | skip
    rename_i b off
    have hσ := sgL_get hX hv
    -- a load, as an operation
    have load : ∀ {y : AV}, Read P { dst := none, op := .load ty (.tmp t), type := 0, pos := "", after := #[], guard := none } (rhoOf (sgL X L)) h y → ∀ vs, (∀ φ ν w0 w (a : Act), HR ν w0 φ h w → TmpsOK φ ν (sgL X L) a All → ∃ us, concL φ ν vs = some us ∧ (rs.mapM (resOne a.tmps)).run P w = .ok us w) →
        ∀ φ ν w0 w (a : Act), HR ν w0 φ h w → TmpsOK φ ν (sgL X L) a All → ∃ us, concL φ ν (y :: vs) = some us ∧ ((ResultVar.cell t ty :: rs).mapM (resOne a.tmps)).run P w = .ok us w := by
      intro y hy vs h2 φ ν w0 w a H hT
      obtain ⟨us, h3, h4⟩ := h2 φ ν w0 w a H hT
      obtain ⟨u, h5, h6⟩ := hy.now φ ν w0 w a.eval H (agree_rho hT fun _ _ => trivial)
      refine ⟨u :: us, by simp [concL, h5, h3], ?_⟩
      obtain ⟨u', g1, g2⟩ := hT t _ trivial hσ
      simp only [conc, Option.map_eq_some_iff] at g2
      obtain ⟨i, hi, g3⟩ := g2
      have hev : a.eval (.tmp t) = .pointer (some ⟨i.blk, i.off + off, none⟩) := by rw [eval_tmp g1, g3]
      have hg' : a.tmps.getD t undef = .pointer (some ⟨i.blk, i.off + off, none⟩) := by simp [g1, g3]
      have hl : (loadVar ty ⟨i.blk, i.off + off, none⟩).run P w = .ok u w := by
        simp only [execOp, hev, Instr.loadAt, Instr.sureAddr] at h6
        simp at h6
        cases hr : (loadVar ty ⟨i.blk, i.off + off, none⟩).run P w with
        | ok x w' => rw [hr] at h6; simp [Result.andThen] at h6; rw [h6.1, h6.2]
        | halt x w' => rw [hr] at h6; simp [Result.andThen] at h6
      rw [List.mapM_cons]
      simp [resOne, hg', asAddr, hl, h4]
    cases g with
    | true =>
      simp only [if_true] at hx
      obtain ⟨esz, m, cs, ro, cls, hb, _, _⟩ := blockK_spec hx
      obtain ⟨c, g1, g2, hx⟩ := loadCellsK_spec hx
      obtain ⟨vs, h1, h2⟩ := resK_spec he rs l _ hr hx
      exact ⟨.agg c :: vs, h1, load (read_loadn he rfl hg hz (by exact hσ) g1 (by rw [hb]; simp) g2) vs h2⟩
    | false =>
      simp only [Bool.false_eq_true, if_false] at hx
      obtain ⟨u, g1, hx⟩ := loadCellK_spec hx
      obtain ⟨vs, h1, h2⟩ := resK_spec he rs l _ hr hx
      exact ⟨u :: vs, h1, load (read_load he rfl hg (by exact hσ) g1) vs h2⟩
theorem results_run {fn : Func} {tmps : Array Value} {w : World} {us : List Value} (h : (fn.results.toList.mapM (resOne tmps)).run P w = .ok us w) :
    (results fn tmps).run P w = .ok (if h : us.toArray.size = 1 then us.toArray[0] else .tuple us.toArray) w := by
  have e : results fn tmps = (do
      let vs ← fn.results.mapM (resOne tmps)
      pure (if h : vs.size = 1 then vs[0] else .tuple vs)) := by
    unfold results
    congr 2
  rw [e, Array.mapM_eq_mapM_toList]
  simp [h]
theorem oneV_conc {φ : Phi} {ν : Nu} {vs : List AV} {us : List Value} (h : concL φ ν vs = some us) : conc φ ν (oneV vs) = some (if h : us.toArray.size = 1 then us.toArray[0] else .tuple us.toArray) := by
  have hl := concL_length h
  match vs, us with
  | [], [] => simp [oneV, conc, concL]
  | [v], [u] =>
    simp only [concL, Option.bind_eq_some_iff, Option.map_eq_some_iff] at h
    obtain ⟨u', h1, m, h2, h3⟩ := h
    simp only [List.cons.injEq] at h3
    simp [oneV, h1, h3.1]
  | v :: v' :: l, u :: u' :: m => simp [oneV, conc, h]
  | [], _ :: _ => simp at hl
  | _ :: _, [] => simp at hl
  | [_], _ :: _ :: _ => simp at hl
  | _ :: _ :: _, [_] => simp at hl
/-! ### arguments -/
theorem args0_spec {l : List AV} {k : PT AV → Option β} (h : args0 l k = some res) : ∃ L, k L = some res ∧ ∀ t v, L.get (posN t) = some v → l[t]? = some v := by
  have key : ∀ (l : List AV) (n : Nat) (L : PT AV), List.rec (motive := fun _ => Pos → PT AV → (PT AV → Option β) → Option β) (fun _ L k => k L) (fun v _ ih p L k => L.setK p v (fun L' => p.incK (fun p' => ih p' L' k))) l (posN n) L k = some res →
      ∃ L', k L' = some res ∧ ∀ t v, L'.get (posN t) = some v → (t < n ∨ n + l.length ≤ t) ∧ L.get (posN t) = some v ∨ ∃ j, t = n + j ∧ l[j]? = some v := by
    intro l
    induction l with
    | nil => intro n L h; exact ⟨L, h, fun t v hv => .inl ⟨by simp; omega, hv⟩⟩
    | cons a l ih =>
      intro n L h
      have h : PT.setK (posN n) a L (fun L' => Pos.incK (posN n) (fun p' => List.rec (motive := fun _ => Pos → PT AV → (PT AV → Option β) → Option β) (fun _ L k => k L) (fun v _ ih p L k => L.setK p v (fun L' => p.incK (fun p' => ih p' L' k))) l p' L' k)) = some res := h
      rw [PT.setK_eq] at h
      have hi : ∀ {γ : Type} (kk : Pos → γ), Pos.incK (posN n) kk = kk (posN (n + 1)) := by
        intro γ kk
        rw [Pos.incK_eq]
        congr 1
        rw [posN_eq, posN_eq]; exact (posOf_succ n).symm
      rw [hi] at h
      obtain ⟨L', h1, h2⟩ := ih (n + 1) _ h
      refine ⟨L', h1, fun t v hv => ?_⟩
      rcases h2 t v hv with ⟨h3, h4⟩ | ⟨j, rfl, h3⟩
      · rw [PT.get_set] at h4
        split at h4
        · rename_i e
          have := posN_inj e
          subst this
          cases h4
          exact .inr ⟨0, by omega, rfl⟩
        · rename_i hne
          have : t ≠ n := fun e => hne (by rw [e])
          refine .inl ⟨?_, h4⟩
          simp only [List.length_cons]
          omega
      · exact .inr ⟨j + 1, by omega, by simpa using h3⟩
  obtain ⟨L', h1, h2⟩ := key l 0 .e h
  refine ⟨L', h1, fun t v hv => ?_⟩
  rcases h2 t v hv with ⟨_, h3⟩ | ⟨j, rfl, h3⟩
  · cases hp : posN t <;> rw [hp] at h3 <;> cases h3
  · simpa using h3
end Go.Ev
namespace Go.Ev
open Go Go.RowKit
variable {P : Program} {E : TyE} {β : Type} {h h' : AH} {res : β} {X : Tmp → Bool} {N : Nat}

/-! ### functions -/
theorem dstsOk_mono {m n : Nat} (hmn : m ≤ n) : ∀ c, dstsOk m c = true → dstsOk n c = true
  | .region _ ops _, h => by
    simp only [dstsOk] at h ⊢
    rw [Array.all_eq_true_iff_forall_mem] at h ⊢
    intro o ho
    have := h o ho
    cases hd : o.dst with
    | none => rfl
    | some d => rw [hd] at this; simp only [decide_eq_true_eq] at this ⊢; exact Nat.lt_of_lt_of_le this hmn
  | .seq a b, h => by simp only [dstsOk, Bool.and_eq_true] at h ⊢; exact ⟨dstsOk_mono hmn a h.1, dstsOk_mono hmn b h.2⟩
  | .cond _ a b, h => by simp only [dstsOk, Bool.and_eq_true] at h ⊢; exact ⟨dstsOk_mono hmn a h.1, dstsOk_mono hmn b h.2⟩
  | .block _ b, h => dstsOk_mono hmn b h
  | .loop b, h => dstsOk_mono hmn b h
  | .scope b, h => dstsOk_mono hmn b h
  | .skip, _ | .label _, _ | .exit _, _ | .ret, _ | .goto _, _ | .refuse _, _ | .rangeFunc _ _ _ _, _ => rfl
/-- the code that is run for a function is its own -/
def FnOK (P : Program) (E : TyE) (f : FuncId) (cf : CF) : Prop :=
  ∃ fn c X, P.funcs[f]? = some fn ∧ fn.body = some c ∧ fn.name ≠ "runtime.NumGoroutine" ∧ cf.code = compC E X c ∧ ResRel E X fn.results.toList cf.res ∧ dstsOk fn.ntmps c = true
def IntrOK (P : Program) (E : TyE) (f : FuncId) (s : Intr β) : Prop :=
  ∀ (run : Runner β), RunOK P E run → ∀ (cl : Callee β), ClOK P cl → ∀ args h k res, s run cl args h k = some res → ∃ p v h', k p v h' = some res ∧ Answers P f args h p v h'
structure TabOK (P : Program) (E : TyE) (T : Tab β) : Prop where
  fn : ∀ f cf, T.funcs.get (Go.Ev.posOf f) = some cf → FnOK P E f cf
  intr : ∀ f s, T.intr.get (Go.Ev.posOf f) = some s → IntrOK P E f s
theorem run_callFunc {f : FuncId} {fn : Func} {us : Array Value} {w : World} (hf : P.funcs[f]? = some fn) (hb : fn.body.isSome) (hn : fn.name ≠ "runtime.NumGoroutine") : (callFunc f us).run P w = .ok (.enter f us) w := by
  have hb' : fn.body.isNone = false := by cases hq : fn.body <;> simp_all
  unfold callFunc
  simp [hf, hn, hb', -Option.isNone_iff_eq_none]
/-- how a function's own code is run -/
noncomputable def runBody (run : CC → PT AV → AH → (AX → PT AV → AH → Option β) → Option β) (cf : CF) (args : List AV) (h : AH) (k : Bool → AV → AH → Option β) : Option β :=
  args0 args (fun L => run cf.code L h (fun x L' h' => match x with
    | .nrm | .ret => resK cf.res L' h' (fun l => k false (oneV l) h')
    | .pan v => k true v h'
    | _ => none))
theorem body_spec (he : EnvOK P E) {run : CC → PT AV → AH → (AX → PT AV → AH → Option β) → Option β} (hrun : RunOK P E run) {f : FuncId} {cf : CF} (hf : FnOK P E f cf) {args : List AV} {k : Bool → AV → AH → Option β}
    (hx : runBody run cf args h k = some res) : ∃ p v h', k p v h' = some res ∧ Answers P f args h p v h' := by
  obtain ⟨fn, c, X, h1, h2, h3, h4, h5, h6⟩ := hf
  obtain ⟨L, hx, hL⟩ := args0_spec hx
  rw [h4] at hx
  obtain ⟨x, L', h', hk, hgo⟩ := hrun X (args.length + (fn.ntmps - args.length)) c L h _ res (dstsOk_mono (by omega) c h6) hx
  -- the world's side
  have world : ∀ {p : Bool} {v : AV}, (∀ φ ν w0 φ' w' (a' : Act) e, Ev φ h φ' h' → HR ν w0 φ' h' w' → Aft X (args.length + (fn.ntmps - args.length)) φ' ν L' [] x e a' →
      bodyPost P fn (fun e w' => ∃ φ' u, Ev φ h φ' h' ∧ HR ν w0 φ' h' w' ∧ conc φ' ν v = some u ∧ match e with
        | .returned x => p = false ∧ x = u
        | .panicked c => p = true ∧ c = [{ v := u, recovered := false }]
        | .outgrown => False) e a' w') → Answers P f args h p v h' := by
    intro p v hw φ ν w0 w us H hc
    have hlen := concL_length hc
    refine .inl ⟨run_callFunc h1 (by rw [h2]; rfl) h3, calls_of_wp h1 h2 (WpX.wp (hgo _ φ ν w0 w _ H ?_ ?_ fun φ' w' a' e ev H' ha => hw φ ν w0 φ' w' a' e ev H' ha))⟩
    · intro t v _ hv
      have hg : L.get (posN t) = some v := by
        unfold sgL sg Rv at hv
        simp only [Go.Ev.res, look, Option.bind_eq_some_iff] at hv
        obtain ⟨c, q1, q2⟩ := hv
        split at q1
        · cases q1; exact q2
        · cases q1
      obtain ⟨u, q1, q2⟩ := concL_get hc t v (hL t v hg)
      refine ⟨u, ?_, q1⟩
      have hlt := (List.getElem?_eq_some_iff.1 q2).1
      rw [Array.getElem?_append_left (by simpa using hlt)]
      simpa using q2
    · simp [hlen]
  have ret : (x = .nrm ∨ x = .ret) → (resK cf.res L' h' (fun l => k false (oneV l) h')) = some res → ∃ p v h', k p v h' = some res ∧ Answers P f args h p v h' := by
    intro hxx hk
    obtain ⟨vs, g1, g2⟩ := resK_spec he fn.results.toList cf.res _ h5 hk
    refine ⟨false, oneV vs, h', g1, world ?_⟩
    intro φ ν w0 φ' w' a' e ev H' ha
    have fin : TmpsOK φ' ν (sgL X L') a' All → a'.defers = [] → ∃ v, (results fn a'.tmps).run P w' = .ok v w' ∧ ∃ φ' u, Ev φ h φ' h' ∧ HR ν w0 φ' h' w' ∧ conc φ' ν (oneV vs) = some u ∧ (false = false ∧ v = u) := by
      intro hT hd
      obtain ⟨us, q1, q2⟩ := g2 φ' ν w0 w' a' H' hT
      exact ⟨_, results_run q2, φ', _, ev, H', oneV_conc q1, rfl, rfl⟩
    rcases hxx with rfl | rfl
    · obtain ⟨hd, rfl, hT, _⟩ := ha
      exact ⟨hd, fin hT hd⟩
    · obtain ⟨hd, rfl, hT, _⟩ := ha
      exact ⟨hd, fin hT hd⟩
  cases x with
  | nrm => exact ret (.inl rfl) hk
  | ret => exact ret (.inr rfl) hk
  | ex id => cases hk
  | pan v =>
    refine ⟨true, v, h', hk, world ?_⟩
    intro φ ν w0 φ' w' a' e ev H' ha
    obtain ⟨hd, u, hu, rfl⟩ := ha
    exact ⟨hd, φ', u, ev, H', hu, rfl, rfl⟩
/-- calls, answered by the runner -/
theorem callee_spec (he : EnvOK P E) {T : Tab β} (hT : TabOK P E T) {run : CC → PT AV → AH → (AX → PT AV → AH → Option β) → Option β} (hrun : RunOK P E run) : ∀ (m : Nat),
    ClOK P (Nat.rec (motive := fun _ => Callee β) (fun _ _ _ _ => none)
        (fun _ cl f args h k => match T.intr.get f with
          | some s => s run cl args h k
          | none => (match T.funcs.get f with
            | some cf => args0 args (fun L => run cf.code L h (fun x L' h' => match x with
              | .nrm | .ret => resK cf.res L' h' (fun l => k false (oneV l) h')
              | .pan v => k true v h'
              | _ => none))
            | none => none)) m)
  | 0 => fun f args h k res hx => by cases hx
  | m + 1 => fun f args h k res hx => by
    simp only at hx
    split at hx
    · rename_i s hs
      exact hT.intr f s hs run hrun _ (callee_spec he hT hrun m) args h k res hx
    · split at hx
      · rename_i cf hcf
        exact body_spec he hrun (hT.fn f cf hcf) hx
      · cases hx
theorem run_spec (he : EnvOK P E) (hm : P.follows .mixedOrders = true) {T : Tab β} (hT : TabOK P E T) : ∀ n, RunOK P E (run T n)
  | 0 => fun X N c L h K res hN hx => by cases hx
  | n + 1 => fun X N c L h K res hN hx => by
    have ih := run_spec he hm hT n
    exact code_spec he hm (callee_spec he hT ih 3) ih X N c L h K res hN hx
theorem callTop_spec (he : EnvOK P E) (hm : P.follows .mixedOrders = true) {T : Tab β} (hT : TabOK P E T) {n : Nat} {f : FuncId} {args : List AV} {k : AX → AV → AH → Option β} (hx : callTop T n (Go.Ev.posOf f) args h k = some res) :
    ∃ p v h', (bif p then k (.pan v) v h' else k .ret v h') = some res ∧ Answers P f args h p v h' := by
  unfold callTop at hx
  split at hx
  · rename_i cf hcf
    refine body_spec he (run_spec he hm hT n) (hT.fn f cf hcf) (k := fun p v h' => bif p then k (.pan v) v h' else k .ret v h') ?_
    exact hx
  · cases hx
end Go.Ev
namespace Go.Ev
open Go Go.RowKit
variable {P : Program} {E : TyE} {β : Type} {h h' : AH} {res : β} {X : Tmp → Bool} {N : Nat} {ν : Nu} {w0 w w' : World} {φ : Phi}

/-! ### intrinsics -/
/-- the world has grown: all that was there is as it was -/
theorem HR.grow (H : HR ν w0 φ h w) (hb : Below w.heap.size w w') : HR ν w0 φ h w' :=
  ⟨H.below.trans (hb.mono H.below.size), H.fr, fun p i hp => by
    obtain ⟨h1, o, h2, h3⟩ := H.ob p i hp
    exact ⟨Nat.lt_of_lt_of_le h1 hb.size, o, h2, h3.keep (Phi.le_refl _) (hb.block i.blk h1)⟩, H.inj, H.chain, H.memb, H.start, fun k o hk => ⟨(hb.block k (Array.getElem?_eq_some_iff.1 (H.priv k o hk).1).1).trans (H.priv k o hk).1, (H.priv k o hk).2⟩⟩
/-- a block that the world has and the evaluator has not gets a name -/
theorem HR.place (H : HR ν w0 φ h w) {ob : AObj} {i : BI} (hcls : ∀ esz n cs ro c, ob = .cells esz n cs ro c → c = none) (hi : i.blk < w.heap.size) (hnew : ∀ p j, φ p = some j → j.blk ≠ i.blk) (hnp : ∀ k o, (k, o) ∈ ν.priv → k ≠ i.blk)
    (hok : OK (φ.upd h.next i) ν w0.heap.size (h.alloc ob).cls h.next i w ob) : HR ν w0 (φ.upd h.next i) (h.alloc ob) w ∧ Ev φ h (φ.upd h.next i) (h.alloc ob) := by
  have hf : φ h.next = none := (H.fr h.next (Nat.le_refl _)).1
  obtain ⟨H1, ev1⟩ := H.alloc ob
  have hget : (h.alloc ob).objs.get h.next = some ob := by
    show PT.get h.next (PT.set h.next _ h.objs) = _
    rw [PT.get_set, if_pos rfl]
  have hc : clsOf (h.alloc ob) h.next = none := by
    unfold clsOf; rw [hget]
    cases ob with
    | cells esz n cs ro cls => exact hcls esz n cs ro cls rfl
    | _ => rfl
  have hlt : h.next.val < (h.alloc ob).next.val := by
    have : (h.alloc ob).next.val = h.next.val + 1 := Pos.val_inc _
    omega
  refine ⟨⟨H1.below, ?_, ?_, ?_, ?_, H1.memb, H1.start, fun k o hk => ⟨(H1.priv k o hk).1, fun p j hp => ?_⟩⟩, Phi.le_upd hf, ?_, ev1.next⟩
  · intro p hp
    obtain ⟨a, b', c⟩ := H1.fr p hp
    refine ⟨?_, b', c⟩
    rw [Phi.upd_ne]; · exact a
    · intro e; subst e; omega
  · intro p j hp
    by_cases hpb : p = h.next
    · subst hpb
      rw [Phi.upd_self] at hp; cases hp
      exact ⟨hi, ob, hget, hok⟩
    · rw [Phi.upd_ne hpb] at hp
      obtain ⟨hs, o', ho', hok'⟩ := H1.ob p j hp
      exact ⟨hs, o', ho', hok'.keep (Phi.le_upd hf) rfl⟩
  · intro p q j k hp hq hne hbk
    by_cases hpb : p = h.next
    · subst hpb
      rw [Phi.upd_self] at hp; cases hp
      rw [Phi.upd_ne (Ne.symm hne)] at hq
      exact absurd hbk.symm (hnew q k hq)
    · rw [Phi.upd_ne hpb] at hp
      by_cases hqb : q = h.next
      · subst hqb
        rw [Phi.upd_self] at hq; cases hq
        exact absurd hbk (hnew p j hp)
      · rw [Phi.upd_ne hqb] at hq
        exact H1.inj p q j k hp hq hne hbk
  · intro c l hl
    refine List.Pairwise.imp_of_mem ?_ (H1.chain c l hl)
    intro p q hp hq hh j k hj hk hbk
    have np : p ≠ h.next := fun e => by have := H1.memb c l p hl hp; rw [e, hc] at this; cases this
    have nq : q ≠ h.next := fun e => by have := H1.memb c l q hl hq; rw [e, hc] at this; cases this
    rw [Phi.upd_ne np] at hj
    rw [Phi.upd_ne nq] at hk
    exact hh j k hj hk hbk
  · by_cases hpb : p = h.next
    · subst hpb
      rw [Phi.upd_self] at hp; cases hp
      exact fun e => hnp k o hk e.symm
    · rw [Phi.upd_ne hpb] at hp; exact (H1.priv k o hk).2 p j hp
  · intro p hp hlt'
    have hne : p ≠ h.next := fun e => by subst e; omega
    rw [Phi.upd_ne hne]; exact ev1.pend p hp hlt'
/-! internal/bytealg.IndexByteString -/
theorem indexByte_lib (c : UInt8) : ∀ (l : List UInt8) (i : Nat), indexByte c.toNat l i = if Lib.indexByte l c = -1 then -1 else i + Lib.indexByte l c
  | [], i => by simp [indexByte, Lib.indexByte]
  | a :: l, i => by
    have ih := indexByte_lib c l (i + 1)
    have hge := Lib.indexByte_ge l c
    simp only [indexByte, Lib.indexByte]
    by_cases hac : a = c
    · subst hac; simp
    · have h1 : Nat.beq a.toNat c.toNat = false := by
        cases hq : Nat.beq a.toNat c.toNat with
        | false => rfl
        | true => exact absurd (UInt8.toNat_inj.1 (Nat.eq_of_beq_eq_true hq)) hac
      rw [h1, ih]
      simp only [cond_false, beq_eq_false_iff_ne.2 hac, Bool.false_eq_true, if_false, beq_iff_eq]
      by_cases hl : Lib.indexByte l c = -1
      · simp [hl]
      · rw [if_neg hl, if_neg hl, if_neg (by omega)]; push_cast; omega
theorem intr_indexByte {f : FuncId} {fn : Func} (hf : P.funcs[f]? = some fn) (hname : (fn.name == "runtime.NumGoroutine") = false) (hb : fn.body.isNone = true) (hn : Extern.findNext fn = none)
    (he : Extern.find fn = some Extern.BytealgIndexByte.indexByte) : IntrOK (β := β) P E f iIndexByte := by
  intro run _ cl _ args h k res hx
  unfold iIndexByte at hx
  split at hx
  · rename_i s c
    obtain ⟨n, hn', hx⟩ := opt_some hx
    obtain ⟨hlt, hx⟩ := bif_some hx
    refine ⟨_, _, _, hx, ?_⟩
    intro φ ν w0 w us H hc
    simp only [concL, conc, Option.bind_some, Option.map_some, Option.some.injEq] at hc
    subst hc
    refine .inr ⟨_, w, ?_, φ, _, Ev.refl _ _, H, rfl, rfl, rfl⟩
    rw [run_callFunc_extern hf hname hb hn he, Lib.run_indexByteString]
    have hlt : n < 256 := by rw [Nat.blt_eq] at hlt; exact hlt
    have hcn : c = (n : Int) := by
      cases c with
      | ofNat a => cases hn'; rfl
      | negSucc a => cases hn'
    subst hcn
    have h8 : (n.toUInt8).toNat = n := by simp; omega
    simp only [Result.andThen, Int.toNat_natCast, Result.ok.injEq, Next.value.injEq, Value.int.injEq, true_and, and_true]
    have := indexByte_lib n.toUInt8 s 0
    rw [h8] at this
    rw [this]
    by_cases hl : Lib.indexByte s n.toUInt8 = -1
    · simp [hl]
    · rw [if_neg hl]; simp
  · cases hx
/-! maps.clone -/
theorem intr_clone {f : FuncId} {fn : Func} (hf : P.funcs[f]? = some fn) (hname : (fn.name == "runtime.NumGoroutine") = false) (hb : fn.body.isNone = true) (hn : Extern.findNext fn = none)
    (he : Extern.find fn = some Extern.MapsClone.clone) : IntrOK (β := β) P E f iClone := by
  intro run _ cl _ args h k res hx
  unfold iClone at hx
  split at hx
  · rename_i t r
    split at hx
    · rename_i es c hr
      rw [newK_eq] at hx
      refine ⟨_, _, _, hx, ?_⟩
      intro φ ν w0 w us H hc
      simp only [concL, conc, Option.map_map, Option.map_some, Option.bind_eq_some_iff, Option.map_eq_some_iff, Option.some.injEq] at hc
      obtain ⟨u, ⟨i, hi, rfl⟩, rfl⟩ := hc
      obtain ⟨_, o, ho, hok⟩ := H.ob r i hi
      rw [hr] at ho; cases ho
      obtain ⟨hB, es', h1, h2, h3⟩ := hok
      have hf' : φ h.next = none := (H.fr h.next (Nat.le_refl _)).1
      have Hg := H.grow (w' := w.alloc (.map es' c)) ((Below.refl _ w).alloc (Nat.le_refl _) _)
      have hsz : (w.alloc (.map es' c)).heap.size = w.heap.size + 1 := by show (w.heap.push _).size = _; simp
      obtain ⟨H', ev⟩ := Hg.place (ob := .map es c) (i := ⟨w.heap.size, 0, 0, 0⟩) (by intro _ _ _ _ _ e; cases e) (by rw [hsz]; exact Nat.lt_succ_self _)
        (fun p j hp e => by have := (H.ob p j hp).1; rw [e] at this; exact Nat.lt_irrefl _ this) (fun k o hk e => by have := (Array.getElem?_eq_some_iff.1 (H.priv k o hk).1).1; rw [e] at this; exact Nat.lt_irrefl _ this)
        ⟨H.below.size, es', by show (w.heap.push _)[w.heap.size]? = _; simp, h2, fun j x hx => by
          obtain ⟨y, hy, hc⟩ := h3 j x hx
          exact ⟨y, hy, concE_mono (Phi.le_upd hf') hc⟩⟩
      refine .inr ⟨.iface t (.map (some w.heap.size)), _, ?_, _, _, ev, H', ?_, rfl, rfl⟩
      · rw [run_callFunc_extern hf hname hb hn he]
        have e : (Extern.MapsClone.clone #[.iface t (.map (some i.blk))]).run P w = .ok (.iface t (.map (some w.heap.size))) (w.alloc (.map es' c)) := by
          have e : Extern.MapsClone.clone #[.iface t (.map (some i.blk))] = (getObj i.blk >>= fun o => match o with
              | .map entries clock => (newObj (.map entries clock) >>= fun n => pure (.iface t (.map (some n))))
              | _ => stuck "maps.clone: a map expected") := rfl
          rw [e]
          simp [MapKept.run_getObj_map h1, Result.andThen, go_sem]
        show ((Extern.MapsClone.clone #[Value.iface t (Value.map (some i.blk))]).run P w).andThen _ = _
        rw [e]; rfl
      · simp [conc, Phi.upd_self]
    · cases hx
  · cases hx
end Go.Ev
namespace Go.Ev
open Go Go.RowKit
variable {P : Program} {E : TyE} {β : Type} {h h' : AH} {res : β} {X : Tmp → Bool} {N : Nat} {ν : Nu} {w0 w w' : World} {φ : Phi}

/-! ### a function that defers a call which does nothing where nothing has panicked -/
/-- what the deferred function must do -/
def StillD (P : Program) (g : FuncId) : Prop :=
  (∀ args w, (callFunc g args).run P w = .ok (.enter g args) w) ∧
  ∀ args w, CallsD P g args .returning w fun e u w' => (∃ v, e = .returned v) ∧ u = .returning ∧ Below w.heap.size w w'
theorem leaves_still {g : FuncId} (hg : StillD P g) {fn : Func} {tmps : Array Value} {R : Ending → World → Prop} {caps : Array Value}
    (hr : ∀ w', Below w.heap.size w w' → ∃ v, (results fn tmps).run P w' = .ok v w' ∧ R (.returned v) w') : Leaves P fn tmps R [{ target := .fn (.func g) caps, args := #[] }] .returning w := by
  refine ⟨by simp, .func g, caps, g, #[] ++ caps, rfl, ?_, ?_⟩
  · simp only [invoke]; exact hg.1 _ _
  · intro c cs hc
    obtain ⟨e, u', w', fr, ⟨⟨v, rfl⟩, rfl, hb⟩, h2, h3, h4⟩ := hg.2 (#[] ++ caps) w c cs hc
    exact ⟨.returned v, .returning, w', fr, hr w' hb, h2, h3, h4⟩
theorem wp_defer_region {id : Nat} {g : FuncId} {caps : Array Operand} {t : Tmp} {o1 o2 : Oper} {c : Call} {Q : Exit → Act → World → Prop} {a : Act} (h1 : o1.op = .makeFunc (.func g) #[] caps) (hd1 : o1.dst = some t) (hg1 : o1.guard = none)
    (h2 : o2.op = .defer c) (hc : c.callee = .value (.tmp t)) (hca : c.args = #[]) (hd2 : o2.dst = none) (hg2 : o2.guard = none) (ht : t < a.tmps.size)
    (hQ : Q .normal { tmps := a.tmps.setIfInBounds t (.func (.func g) #[] (caps.map a.eval)), defers := { target := .fn (.func g) (caps.map a.eval), args := #[] } :: a.defers } w) :
    (Code.region id #[o1, o2] false).wp P Q a w := by
  refine wp_region ?_
  have e1 : (execOp a.eval o1).run P w = .ok (.value (.func (.func g) #[] (caps.map a.eval))) w := by
    simp [execOp, h1, Instr.makeFunc]
  have hw1 : Region.wanted o1 (yielded #[o1, o2] a.tmps) = true := by simp [Region.wanted, hg1]
  have hr : List.range (#[o1, o2] : Array Oper).size = [0, 1] := rfl
  rw [hr, wpOps_cons]
  unfold wpOp
  simp only [List.getElem?_toArray, List.getElem?_cons_zero]
  rw [if_pos hw1]
  refine .inl ?_
  unfold Oper.wp
  rw [e1, Oper.upon_value, wpOps_cons]
  unfold wpOp
  simp only [List.getElem?_toArray, List.getElem?_cons_succ, List.getElem?_cons_zero]
  have hw2 : ∀ y, Region.wanted o2 y = true := by intro y; simp [Region.wanted, hg2]
  rw [if_pos (hw2 _)]
  refine .inl ?_
  unfold Oper.wp
  have e2 : (execOp (a.put o1.dst (.func (.func g) #[] (caps.map a.eval))).eval o2).run P w = .ok (.defer { target := .fn (.func g) (caps.map a.eval), args := #[] }) w := by
    have hev : (a.put o1.dst (.func (.func g) #[] (caps.map a.eval))).eval (.tmp t) = .func (.func g) #[] (caps.map a.eval) := by
      rw [hd1]; simp [Act.eval, Act.put, ht]
    simp [execOp, h2, resolve, hc, hca, hev, Deferred.ofValue]
  rw [e2, Oper.upon_defer]
  simp only [wpOps, hd1, hd2, Act.put]
  exact hQ
theorem intr_defer {f g : FuncId} {fn : Func} {r0 r1 cnd rest : Code} {id : Nat} {t : Tmp} {o1 o2 : Oper} {cl : Call} {caps : Array Operand} {c0 c1 c2 c3 : CC} {rs : List CR} (he : EnvOK P E) (hg : StillD P g)
    (hf : P.funcs[f]? = some fn) (hb : fn.body = some (.seq r0 (.seq r1 (.seq cnd (.seq (.region id #[o1, o2] false) rest))))) (hn : fn.name ≠ "runtime.NumGoroutine")
    (h1 : o1.op = .makeFunc (.func g) #[] caps) (hd1 : o1.dst = some t) (hg1 : o1.guard = none) (h2 : o2.op = .defer cl) (hc : cl.callee = .value (.tmp t)) (hca : cl.args = #[]) (hd2 : o2.dst = none) (hg2 : o2.guard = none)
    (ht : t < fn.ntmps) (hXt : X t = false) (hc0 : c0 = compC E X r0) (hc1 : c1 = compC E X r1) (hc2 : c2 = compC E X cnd) (hc3 : c3 = compC E X rest) (hrs : ResRel E X fn.results.toList rs)
    (hk0 : dstsOk fn.ntmps r0 = true) (hk1 : dstsOk fn.ntmps r1 = true) (hk2 : dstsOk fn.ntmps cnd = true) (hk3 : dstsOk fn.ntmps rest = true) : IntrOK (β := β) P E f (iDefer c0 c1 c2 c3 rs) := by
  intro run hrun cl _ args h k res hx
  obtain ⟨L, hx, hL⟩ := args0_spec hx
  obtain ⟨N, hN⟩ : ∃ N, N = args.length + (fn.ntmps - args.length) := ⟨_, rfl⟩
  have hle : fn.ntmps ≤ N := by omega
  -- the beginning of the call
  have begin : ∀ {R : Ending → World → Prop} {φ : Phi} {ν : Nu} {w0 w : World} {us : List Value}, HR ν w0 φ h w → concL φ ν args = some us →
      (∀ a, a.defers = [] → TmpsOK φ ν (sgL X L) a All → a.tmps.size = N → (Code.seq r0 (.seq r1 (.seq cnd (.seq (.region id #[o1, o2] false) rest)))).wp P (bodyPostD P fn R) a w) → CallsTo P f us.toArray w R := by
    intro R φ ν w0 w us H hcl hK
    have hlen := concL_length hcl
    refine .inl ⟨run_callFunc hf (by rw [hb]; rfl) hn, calls_of_wp_defers hf hb (hK _ rfl ?_ ?_)⟩
    · intro t v _ hv
      have hg : L.get (posN t) = some v := by
        unfold sgL sg Rv at hv
        simp only [Go.Ev.res, look, Option.bind_eq_some_iff] at hv
        obtain ⟨c, q1, q2⟩ := hv
        split at q1
        · cases q1; exact q2
        · cases q1
      obtain ⟨u, q1, q2⟩ := concL_get hcl t v (hL t v hg)
      refine ⟨u, ?_, q1⟩
      have hlt := (List.getElem?_eq_some_iff.1 q2).1
      rw [Array.getElem?_append_left (by simpa using hlt)]
      simpa using q2
    · simp [hlen, hN]
  -- the parts, one behind the other
  rw [hc0] at hx
  obtain ⟨x0, L0, h0', hx, go0⟩ := hrun X N r0 L h _ res (dstsOk_mono hle _ hk0) hx
  cases x0 <;> first | (cases hx; done) | skip
  rw [hc1] at hx
  obtain ⟨x1, L1, h1', hx, go1⟩ := hrun X N r1 L0 h0' _ res (dstsOk_mono hle _ hk1) hx
  cases x1 <;> first | (cases hx; done) | skip
  rw [hc2] at hx
  obtain ⟨x2, L2, h2', hx, go2⟩ := hrun X N cnd L1 h1' _ res (dstsOk_mono hle _ hk2) hx
  have upto : ∀ {R : Ending → World → Prop} {φ : Phi} {ν : Nu} {w0 w : World} {a : Act}, HR ν w0 φ h w → a.defers = [] → TmpsOK φ ν (sgL X L) a All → a.tmps.size = N →
      (∀ φ' w' a' e, Ev φ h φ' h2' → HR ν w0 φ' h2' w' → Aft X N φ' ν L2 [] x2 e a' → Exit.then ((Code.seq (.region id #[o1, o2] false) rest).wp P (bodyPostD P fn R)) (bodyPostD P fn R) e a' w') →
      (Code.seq r0 (.seq r1 (.seq cnd (.seq (.region id #[o1, o2] false) rest)))).wp P (bodyPostD P fn R) a w := by
    intro R φ ν w0 w a H hd hT hs hK
    refine wp_seq (WpX.wp (go0 _ φ ν w0 w a H hT hs fun φ1 w1 a1 e1 ev1 H1 ha1 => ?_))
    obtain ⟨hd1, rfl, hT1, hs1⟩ := ha1
    refine wp_seq (WpX.wp (go1 _ φ1 ν w0 w1 a1 H1 hT1 hs1 fun φ2 w2 a2 e2 ev2 H2 ha2 => ?_))
    obtain ⟨hd2, rfl, hT2, hs2⟩ := ha2
    refine wp_seq (WpX.wp (go2 _ φ2 ν w0 w2 a2 H2 hT2 hs2 fun φ3 w3 a3 e3 ev3 H3 ha3 => ?_))
    rw [hd2, hd1, hd] at ha3
    exact hK φ3 w3 a3 e3 ((ev1.trans ev2).trans ev3) H3 ha3
  cases x2 with
  | ex id => cases hx
  | pan v => cases hx
  | ret =>
    obtain ⟨vs, g1, g2⟩ := resK_spec he fn.results.toList rs _ hrs hx
    refine ⟨false, oneV vs, h2', g1, fun φ ν w0 w us H hcl => begin H hcl fun a hd hT hs => upto H hd hT hs fun φ' w' a' e ev H' ha => ?_⟩
    obtain ⟨hd', rfl, hT', hs'⟩ := ha
    obtain ⟨us', q1, q2⟩ := g2 φ' ν w0 w' a' H' hT'
    show Leaves P fn a'.tmps _ a'.defers .returning w'
    rw [hd']
    exact ⟨_, results_run q2, φ', _, ev, H', oneV_conc q1, rfl, rfl⟩
  | nrm =>
    rw [hc3] at hx
    obtain ⟨x3, L3, h3', hx, go3⟩ := hrun X N rest L2 h2' _ res (dstsOk_mono hle _ hk3) hx
    cases x3 <;> first | (cases hx; done) | skip
    obtain ⟨vs, g1, g2⟩ := resK_spec he fn.results.toList rs _ hrs hx
    refine ⟨false, oneV vs, h3', g1, fun φ ν w0 w us H hcl => begin H hcl fun a hd hT hs => upto H hd hT hs fun φ' w' a' e ev H' ha => ?_⟩
    obtain ⟨hd', rfl, hT', hs'⟩ := ha
    refine wp_seq (wp_defer_region h1 hd1 hg1 h2 hc hca hd2 hg2 (by rw [hs']; exact Nat.lt_of_lt_of_le ht hle) ?_)
    refine WpX.wp (go3 _ φ' ν w0 w' _ H' ?_ (by simpa using hs') fun φ3 w3 a3 e3 ev3 H3 ha3 => ?_)
    · intro t' v _ hv
      have hne : t ≠ t' := fun e => by
        subst e
        unfold sgL sg Rv at hv
        simp [Go.Ev.res, look, hXt] at hv
      obtain ⟨u, q1, q2⟩ := hT' t' v trivial hv
      exact ⟨u, by simp only []; rw [Array.getElem?_setIfInBounds_ne hne]; exact q1, q2⟩
    · obtain ⟨hd3, rfl, hT3, hs3⟩ := ha3
      show Leaves P fn a3.tmps _ a3.defers .returning w3
      rw [hd3, hd']
      refine leaves_still hg fun w4 hb4 => ?_
      have H4 := H3.grow hb4
      obtain ⟨us', q1, q2⟩ := g2 φ3 ν w0 w4 a3 H4 hT3
      exact ⟨_, results_run q2, φ3, _, ev.trans ev3, H4, oneV_conc q1, rfl, rfl⟩
end Go.Ev
namespace Go.Ev
open Go Go.RowKit
variable {P : Program} {E : TyE} {ops : Array Oper} {Q : Exit → Act → World → Prop} {a : Act} {w w' : World} {o : Oper} {i : Nat} {rest : List Nat} {r : Option Nat} {n : Nat}

/-! ### walking by hand, in a plain frame or in a round's -/
def Fr (r : Option Nat) : Fence := { Fence.wide with round := r }
theorem in_val {v : Value} (ho : ops[i]? = some o) (hg : o.guard = none) (hd : ∀ c, o.op ≠ .defer c) (hr : (execOp a.eval o).run P w = .ok (.value v) w') (hK : wpOpsIn (Fr r) n P ops Q rest (a.put o.dst v) w') :
    wpOpsIn (Fr r) n P ops Q (i :: rest) a w := by
  have hw : Region.wanted o (yielded ops a.tmps) = true := by simp [Region.wanted, hg]
  simp only [wpOpsIn, ho, hw, if_true, Oper.wpIn]
  refine ⟨fun _ _ => trivial, ?_⟩
  rw [Oper.semAt_plain (Fr r) _ _ hd, hr]
  exact hK
theorem in_skip (ho : ops[i]? = some o) (hg : o.guard = none) (hd : ∀ c, o.op ≠ .defer c) (hr : (execOp a.eval o).run P w = .ok .skip w') (hK : wpOpsIn (Fr r) n P ops Q rest (a.put o.dst undef) w') :
    wpOpsIn (Fr r) n P ops Q (i :: rest) a w := by
  have hw : Region.wanted o (yielded ops a.tmps) = true := by simp [Region.wanted, hg]
  simp only [wpOpsIn, ho, hw, if_true, Oper.wpIn]
  refine ⟨fun _ _ => trivial, ?_⟩
  rw [Oper.semAt_plain (Fr r) _ _ hd, hr]
  exact hK
theorem in_call {f : FuncId} {args : Array Value} {R : Ending → World → Prop} (ho : ops[i]? = some o) (hg : o.guard = none) (hd : ∀ c, o.op ≠ .defer c) (hr : (execOp a.eval o).run P w = .ok (.enter f args) w') (hc : Calls P f args w' R)
    (hK : ∀ e w'', R e w'' → ∃ v, e = .returned v ∧ wpOpsIn (Fr r) n P ops Q rest (a.put o.dst v) w'') :
    wpOpsIn (Fr r) n P ops Q (i :: rest) a w := by
  have hw : Region.wanted o (yielded ops a.tmps) = true := by simp [Region.wanted, hg]
  simp only [wpOpsIn, ho, hw, if_true, Oper.wpIn]
  refine ⟨fun _ _ => trivial, ?_⟩
  rw [Oper.semAt_plain (Fr r) _ _ hd, hr, Oper.uponIn_enter]
  refine ⟨fun h => by simp [Fr, Fence.wide] at h, ?_⟩
  have : CallsIn Fence.wide (n - 1) P f args w' R := callsIn_wide.2 hc
  refine ⟨this.1, fun cs hr => ?_⟩
  obtain ⟨e, w'', fr, h1, h2, h3, h4⟩ := this.2 cs hr
  obtain ⟨v, rfl, hk⟩ := hK e w'' h1
  exact ⟨.returned v, w'', fr, hk, h2, h3, h4⟩
theorem in_round {l : Nat} {f : FuncId} {tmps : Array Value} {assign body : Code} {R : Ending → World → Prop} (ho : ops[i]? = some o) (hg : o.guard = none) (hd : ∀ c, o.op ≠ .defer c)
    (hr : (execOp a.eval o).run P w = .ok (.round l f tmps assign body) w') (hc : ∀ m, RoundIn Fence.wide m P l f tmps assign body w' R)
    (hK : ∀ e w'', R e w'' → ∃ v, e = .returned v ∧ wpOpsIn (Fr r) n P ops Q rest (a.put o.dst v) w'') :
    wpOpsIn (Fr r) n P ops Q (i :: rest) a w := by
  have hw : Region.wanted o (yielded ops a.tmps) = true := by simp [Region.wanted, hg]
  simp only [wpOpsIn, ho, hw, if_true, Oper.wpIn]
  refine ⟨fun _ _ => trivial, ?_⟩
  rw [Oper.semAt_plain (Fr r) _ _ hd, hr, Oper.uponIn_round]
  refine ⟨fun h => by simp [Fr, Fence.wide] at h, ?_⟩
  refine ⟨trivial, fun c cs hr => ?_⟩
  obtain ⟨e, w'', h1, h2⟩ := (hc (n - 1)).2 c cs hr
  obtain ⟨v, rfl, hk⟩ := hK e w'' h1
  exact ⟨.returned v, w'', hk, h2⟩
theorem in_nil (h : Q .normal a w) : wpOpsIn (Fr r) n P ops Q [] a w := h
/-- a loop, in a plain frame or a round's, unrolled -/
def LWpIn (r : Option Nat) (_n : Nat) (P : Program) (c : Code) (Q : Exit → Act → World → Prop) (a : Act) (w : World) : Prop :=
  ∀ (b : Frame) (k : List Item) (cs : List Frame), b.roundOf = r → ∃ e a' w', Q e a' w' ∧ ArrivesIn (Machine.fenced P (Fr r)) P (lone (b.atR a (.code c :: .inLoop c :: k)) cs w) b k cs e a' w'
theorem LWpIn.wp {c : Code} (h : LWpIn r n P c Q a w) : (Code.loop c).wpIn (Fr r) n P Q a w := by
  intro b k cs hro hb hr
  obtain ⟨e, a', w', h1, h2⟩ := h b k cs hro
  exact ⟨e, a', w', h1, .of_steps (.one (fenced_calm hb hr rfl) stepR_loop) h2⟩
theorem LWpIn.round {c : Code} (h : c.wpIn (Fr r) n P (Exit.then (LWpIn r n P c Q) Q) a w) : LWpIn r n P c Q a w := by
  intro b k cs hro
  have hb : (Fr r).fn b.fn := trivial
  have hr : (Fr r).room (cs.length + 1 + n) := fun d hd => by simp [Fr, Fence.wide] at hd
  obtain ⟨e, a₁, w₁, hq, harr⟩ := h b (.inLoop c :: k) cs hro hb hr
  cases e with
  | normal =>
    obtain ⟨e₂, a₂, w₂, hq₂, harr₂⟩ := hq b k cs hro
    exact ⟨e₂, a₂, w₂, hq₂, .of_steps (StepsIn.trans harr (.one (fenced_calm hb hr rfl) stepR_inLoop)) harr₂⟩
  | exit id => exact ⟨_, a₁, w₁, hq, .pass (x := .inLoop c) rfl (fun _ _ => .inl (by simp)) harr⟩
  | goto l => exact ⟨_, a₁, w₁, hq, .pass (x := .inLoop c) rfl (fun _ _ => .inl (by simp)) harr⟩
  | ret => exact ⟨_, a₁, w₁, hq, .pass (x := .inLoop c) rfl (fun _ _ => .inl (by simp)) harr⟩
  | panic ch => exact ⟨_, a₁, w₁, hq, .pass (x := .inLoop c) rfl (fun _ _ => .inl (by simp)) harr⟩
  | outgrown => exact ⟨_, a₁, w₁, hq, .pass (x := .inLoop c) rfl (fun _ _ => .inl (by simp)) harr⟩
/-- a function, walked in the fenced layer -/
theorem calls_of_in {f : FuncId} {fn : Func} {c : Code} {args : Array Value} {R : Ending → World → Prop} (hf : P.funcs[f]? = some fn) (hb : fn.body = some c)
    (h : c.wpIn (Fr none) 0 P (bodyPost P fn R) { tmps := args ++ Array.replicate (fn.ntmps - args.size) undef, defers := [] } w) : Calls P f args w R := by
  have h : c.wpIn Fence.wide 0 P (bodyPost P fn R) { tmps := args ++ Array.replicate (fn.ntmps - args.size) undef, defers := [] } w := h
  exact calls_of_wp hf hb (wpIn_wide.1 h)
end Go.Ev
