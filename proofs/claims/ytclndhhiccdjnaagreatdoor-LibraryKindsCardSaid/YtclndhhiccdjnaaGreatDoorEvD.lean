/- Contracts of the few functions that the evaluator does not run itself, and tables. No condition. -/
import Derived.RangeFuncOwn
import Derived.Laws.IdiomRangeMap
import Derived.Lib.Replace
import Derived.Lib.CountLaws
import Derived.KernelRfl
import Derived.Test.YtclndhhiccdjnaaGreatDoorEvC
import Derived.Test.YtclndhhiccdjnaaGreatDoorEvA
set_option maxRecDepth 1000000
set_option maxHeartbeats 400000
namespace Go.Ev
open Go Go.RowKit
variable {P : Program} {E : TyE} {w w' : World} {r : Option Nat} {n N : Nat} {ds : List Deferred}

/-! ### walking by hand: temporaries as a function -/
def ev (σ : Tmp → Value) : Operand → Value
  | .tmp t => σ t
  | .const v => v
  | .global g => .pointer (some ⟨g, 0, none⟩)
  | .func f => .func (.func f) #[] #[]
def EvalIs (a : Act) (σ : Tmp → Value) (N : Nat) : Prop := a.tmps.size = N ∧ a.eval = ev σ
def upd (σ : Tmp → Value) (d : Tmp) (v : Value) : Tmp → Value := fun t => if t = d then v else σ t
@[simp] theorem upd_self (σ : Tmp → Value) (d : Tmp) (v : Value) : upd σ d v d = v := if_pos rfl
theorem upd_ne {σ : Tmp → Value} {d t : Tmp} {v : Value} (h : t ≠ d) : upd σ d v t = σ t := if_neg h
def updO (σ : Tmp → Value) : Option Tmp → Value → Tmp → Value
  | some d, v => upd σ d v
  | none, _ => σ
theorem eval_ext {a : Act} {σ : Tmp → Value} (h : ∀ t, a.eval (.tmp t) = σ t) : a.eval = ev σ := by
  funext x
  cases x with
  | tmp t => exact h t
  | _ => rfl
theorem EvalIs.put {a : Act} {σ : Tmp → Value} {d : Option Tmp} {v : Value} (h : EvalIs a σ N) (hd : ∀ t, d = some t → t < N) : EvalIs (a.put d v) (updO σ d v) N := by
  obtain ⟨h1, h2⟩ := h
  refine ⟨by rw [put_size]; exact h1, eval_ext fun t => ?_⟩
  have ht : a.eval (.tmp t) = σ t := by rw [h2]; rfl
  cases d with
  | none => exact ht
  | some d =>
    show (a.tmps.setIfInBounds d v).getD t undef = upd σ d v t
    have hlt : d < a.tmps.size := by rw [h1]; exact hd d rfl
    unfold upd
    rw [Array.getD_eq_getD_getElem?]
    by_cases h : t = d
    · subst h; rw [if_pos rfl, Array.getElem?_setIfInBounds_self, if_pos hlt]; rfl
    · rw [if_neg h, Array.getElem?_setIfInBounds_ne (fun e => h e.symm), ← Array.getD_eq_getD_getElem?]; exact ht
/-- the operations of a region, their places and guards (there are none) -/
abbrev OpL := List (Option Tmp × Op)
def IsOps (ops : Array Oper) (l : OpL) : Prop := ops.toList.map (fun o => (o.dst, o.op, o.guard)) = l.map fun x => (x.1, x.2, none)
abbrev XQ := Exit → (Tmp → Value) → List Deferred → World → Prop
def XQ.act (Q : XQ) (N : Nat) : Exit → Act → World → Prop := fun e a w => ∃ σ ds, a.defers = ds ∧ EvalIs a σ N ∧ Q e σ ds w
def CX (r : Option Nat) (n : Nat) (P : Program) (N : Nat) (c : Code) (Q : XQ) (σ : Tmp → Value) (ds : List Deferred) (w : World) : Prop :=
  ∀ a, a.defers = ds → EvalIs a σ N → c.wpIn (Fr r) n P (Q.act N) a w
def OX (r : Option Nat) (n : Nat) (P : Program) (N : Nat) (l : OpL) (Q : XQ) (σ : Tmp → Value) (ds : List Deferred) (w : World) : Prop :=
  ∀ a ops pre, a.defers = ds → EvalIs a σ N → IsOps ops (pre ++ l) → wpOpsIn (Fr r) n P ops (Q.act N) (List.range' pre.length l.length) a w
variable {Q : XQ} {σ : Tmp → Value}
theorem isOps_get {ops : Array Oper} {pre : OpL} {x : Option Tmp × Op} {l : OpL} (h : IsOps ops (pre ++ x :: l)) : ∃ o, ops[pre.length]? = some o ∧ o.dst = x.1 ∧ o.op = x.2 ∧ o.guard = none := by
  have h1 : (ops.toList.map fun o => (o.dst, o.op, o.guard))[pre.length]? = some (x.1, x.2, none) := by
    rw [show (ops.toList.map fun o => (o.dst, o.op, o.guard)) = _ from h]; simp
  rw [List.getElem?_map, Option.map_eq_some_iff] at h1
  obtain ⟨o, h2, h3⟩ := h1
  simp only [Prod.mk.injEq] at h3
  exact ⟨o, by simpa using h2, h3.1, h3.2.1, h3.2.2⟩
theorem ox_nil (h : Q .normal σ ds w) : OX r n P N [] Q σ ds w := fun _a _ops _pre hd he _ => in_nil ⟨σ, ds, hd, he, h⟩
theorem isOps_snoc {ops : Array Oper} {pre : OpL} {x : Option Tmp × Op} {l : OpL} (h : IsOps ops (pre ++ x :: l)) : IsOps ops ((pre ++ [x]) ++ l) := by simpa using h
theorem ox_val {d : Option Tmp} {op : Op} {l : OpL} {v : Value} (hr : ∀ o : Oper, o.op = op → (execOp (ev σ) o).run P w = .ok (.value v) w') (hd : ∀ c, op ≠ .defer c) (hN : ∀ t, d = some t → t < N)
    (hK : OX r n P N l Q (updO σ d v) ds w') : OX r n P N ((d, op) :: l) Q σ ds w := by
  intro a ops pre hdf he hops
  obtain ⟨o, h1, h2, h3, h4⟩ := isOps_get hops
  rw [show ((d, op) :: l).length = l.length + 1 from rfl, List.range'_succ]
  refine in_val h1 h4 (by rw [h3]; exact hd) (by rw [he.2]; exact hr o h3) ?_
  have := hK (a.put o.dst v) ops (pre ++ [(d, op)]) (by rw [put_defers]; exact hdf) (by rw [h2]; exact he.put hN) (isOps_snoc hops)
  simpa using this
theorem ox_skip {d : Option Tmp} {op : Op} {l : OpL} (hr : ∀ o : Oper, o.op = op → (execOp (ev σ) o).run P w = .ok .skip w') (hd : ∀ c, op ≠ .defer c) (hN : ∀ t, d = some t → t < N)
    (hK : OX r n P N l Q (updO σ d undef) ds w') : OX r n P N ((d, op) :: l) Q σ ds w := by
  intro a ops pre hdf he hops
  obtain ⟨o, h1, h2, h3, h4⟩ := isOps_get hops
  rw [show ((d, op) :: l).length = l.length + 1 from rfl, List.range'_succ]
  refine in_skip h1 h4 (by rw [h3]; exact hd) (by rw [he.2]; exact hr o h3) ?_
  have := hK (a.put o.dst undef) ops (pre ++ [(d, op)]) (by rw [put_defers]; exact hdf) (by rw [h2]; exact he.put hN) (isOps_snoc hops)
  simpa using this
theorem ox_call {d : Option Tmp} {op : Op} {l : OpL} {f : FuncId} {args : Array Value} {R : Ending → World → Prop} (hr : ∀ o : Oper, o.op = op → (execOp (ev σ) o).run P w = .ok (.enter f args) w') (hd : ∀ c, op ≠ .defer c) (hN : ∀ t, d = some t → t < N)
    (hc : Calls P f args w' R) (hK : ∀ e w'', R e w'' → ∃ v, e = .returned v ∧ OX r n P N l Q (updO σ d v) ds w'') : OX r n P N ((d, op) :: l) Q σ ds w := by
  intro a ops pre hdf he hops
  obtain ⟨o, h1, h2, h3, h4⟩ := isOps_get hops
  rw [show ((d, op) :: l).length = l.length + 1 from rfl, List.range'_succ]
  refine in_call h1 h4 (by rw [h3]; exact hd) (by rw [he.2]; exact hr o h3) hc fun e w'' hR => ?_
  obtain ⟨v, rfl, hk⟩ := hK e w'' hR
  have := hk (a.put o.dst v) ops (pre ++ [(d, op)]) (by rw [put_defers]; exact hdf) (by rw [h2]; exact he.put hN) (isOps_snoc hops)
  exact ⟨v, rfl, by simpa using this⟩
theorem ox_round {d : Option Tmp} {op : Op} {l : OpL} {lp : Nat} {f : FuncId} {tmps : Array Value} {assign body : Code} {R : Ending → World → Prop} (hr : ∀ o : Oper, o.op = op → (execOp (ev σ) o).run P w = .ok (.round lp f tmps assign body) w') (hd : ∀ c, op ≠ .defer c) (hN : ∀ t, d = some t → t < N)
    (hc : ∀ m, RoundIn Fence.wide m P lp f tmps assign body w' R) (hK : ∀ e w'', R e w'' → ∃ v, e = .returned v ∧ OX r n P N l Q (updO σ d v) ds w'') : OX r n P N ((d, op) :: l) Q σ ds w := by
  intro a ops pre hdf he hops
  obtain ⟨o, h1, h2, h3, h4⟩ := isOps_get hops
  rw [show ((d, op) :: l).length = l.length + 1 from rfl, List.range'_succ]
  refine in_round h1 h4 (by rw [h3]; exact hd) (by rw [he.2]; exact hr o h3) hc fun e w'' hR => ?_
  obtain ⟨v, rfl, hk⟩ := hK e w'' hR
  have := hk (a.put o.dst v) ops (pre ++ [(d, op)]) (by rw [put_defers]; exact hdf) (by rw [h2]; exact he.put hN) (isOps_snoc hops)
  exact ⟨v, rfl, by simpa using this⟩
theorem cx_region {id : Nat} {ops : Array Oper} {l : OpL} (hops : IsOps ops l) (h : OX r n P N l Q σ ds w) : CX r n P N (.region id ops false) Q σ ds w := by
  intro a hd he
  refine wpIn_region ?_
  have hs : ops.size = l.length := by
    have := congrArg List.length (show ops.toList.map _ = l.map _ from hops)
    simpa using this
  have := h a ops [] hd he hops
  rw [hs, List.range_eq_range']
  exact this
def XQ.then (K : (Tmp → Value) → List Deferred → World → Prop) (Q : XQ) : XQ
  | .normal, σ, ds, w => K σ ds w
  | e, σ, ds, w => Q e σ ds w
theorem cx_seq {c1 c2 : Code} (h : CX r n P N c1 (XQ.then (CX r n P N c2 Q) Q) σ ds w) : CX r n P N (.seq c1 c2) Q σ ds w := by
  intro a hd he
  refine wpIn_seq (wpIn_mono (h a hd he) ?_)
  rintro e a' w' ⟨σ', ds', h1, h2, h3⟩
  cases e with
  | normal => exact h3 a' h1 h2
  | exit id => exact ⟨σ', ds', h1, h2, h3⟩
  | goto l => exact ⟨σ', ds', h1, h2, h3⟩
  | ret => exact ⟨σ', ds', h1, h2, h3⟩
  | panic c => exact ⟨σ', ds', h1, h2, h3⟩
  | outgrown => exact ⟨σ', ds', h1, h2, h3⟩
theorem cx_true {x : Operand} {c1 c2 : Code} (hx : ev σ x = .bool true) (h : CX r n P N c1 Q σ ds w) : CX r n P N (.cond x c1 c2) Q σ ds w := fun a hd he => wpIn_cond_true (by rw [he.2]; exact hx) (h a hd he)
theorem cx_false {x : Operand} {c1 c2 : Code} (hx : ev σ x = .bool false) (h : CX r n P N c2 Q σ ds w) : CX r n P N (.cond x c1 c2) Q σ ds w := fun a hd he => wpIn_cond_false (by rw [he.2]; exact hx) (h a hd he)
theorem cx_skip (h : Q .normal σ ds w) : CX r n P N .skip Q σ ds w := fun _a hd he => wpIn_skip ⟨σ, ds, hd, he, h⟩
theorem cx_ret (h : Q .ret σ ds w) : CX r n P N .ret Q σ ds w := fun _a hd he => wpIn_ret ⟨σ, ds, hd, he, h⟩
theorem cx_exit {id : Nat} (h : Q (.exit id) σ ds w) : CX r n P N (.exit id) Q σ ds w := fun _a hd he => wpIn_exit ⟨σ, ds, hd, he, h⟩
def XQ.blk (id : Nat) (Q : XQ) : XQ
  | .exit id', σ, ds, w => if id' = id then Q .normal σ ds w else Q (.exit id') σ ds w
  | e, σ, ds, w => Q e σ ds w
theorem cx_block {id : Nat} {c : Code} (h : CX r n P N c (XQ.blk id Q) σ ds w) : CX r n P N (.block id c) Q σ ds w := by
  intro a hd he
  refine wpIn_block (wpIn_mono (h a hd he) ?_)
  rintro e a' w' ⟨σ', ds', h1, h2, h3⟩
  cases e with
  | exit id' =>
    simp only [XQ.blk, Exit.inBlock] at h3 ⊢
    split
    · rename_i hid; rw [if_pos hid] at h3; exact ⟨σ', ds', h1, h2, h3⟩
    · rename_i hid; rw [if_neg hid] at h3; exact ⟨σ', ds', h1, h2, h3⟩
  | normal => exact ⟨σ', ds', h1, h2, h3⟩
  | goto l => exact ⟨σ', ds', h1, h2, h3⟩
  | ret => exact ⟨σ', ds', h1, h2, h3⟩
  | panic c => exact ⟨σ', ds', h1, h2, h3⟩
  | outgrown => exact ⟨σ', ds', h1, h2, h3⟩
/-- from the beginning of a loop's round -/
def LX (r : Option Nat) (n : Nat) (P : Program) (N : Nat) (c : Code) (Q : XQ) (σ : Tmp → Value) (ds : List Deferred) (w : World) : Prop :=
  ∀ a, a.defers = ds → EvalIs a σ N → LWpIn r n P c (Q.act N) a w
theorem cx_loop {c : Code} (h : LX r n P N c Q σ ds w) : CX r n P N (.loop c) Q σ ds w := fun a hd he => (h a hd he).wp
theorem lx_round {c : Code} (h : CX r n P N c (XQ.then (LX r n P N c Q) Q) σ ds w) : LX r n P N c Q σ ds w := by
  intro a hd he
  refine LWpIn.round (wpIn_mono (h a hd he) ?_)
  rintro e a' w' ⟨σ', ds', h1, h2, h3⟩
  cases e with
  | normal => exact h3 a' h1 h2
  | exit id => exact ⟨σ', ds', h1, h2, h3⟩
  | goto l => exact ⟨σ', ds', h1, h2, h3⟩
  | ret => exact ⟨σ', ds', h1, h2, h3⟩
  | panic c => exact ⟨σ', ds', h1, h2, h3⟩
  | outgrown => exact ⟨σ', ds', h1, h2, h3⟩
theorem cx_mono {c : Code} {Q' : XQ} (h : CX r n P N c Q σ ds w) (hq : ∀ e σ ds w, Q e σ ds w → Q' e σ ds w) : CX r n P N c Q' σ ds w := fun a hd he => wpIn_mono (h a hd he) fun _ _ _ ⟨σ', ds', h1, h2, h3⟩ => ⟨σ', ds', h1, h2, hq _ _ _ _ h3⟩
/-- the temporaries in the beginning -/
def σ0 (args : Array Value) : Tmp → Value := fun t => (args[t]?).getD undef
theorem σ0_is {args : Array Value} {nt : Nat} {ds : List Deferred} : EvalIs { tmps := args ++ Array.replicate (nt - args.size) undef, defers := ds } (σ0 args) (args.size + (nt - args.size)) := by
  refine ⟨by simp, eval_ext fun t => ?_⟩
  show (args ++ Array.replicate (nt - args.size) undef).getD t undef = _
  unfold σ0
  rw [Array.getD_eq_getD_getElem?, Array.getElem?_append]
  split
  · rfl
  · rename_i h
    rw [Array.getElem?_eq_none (by omega : args.size ≤ t), Array.getElem?_replicate]
    split <;> rfl
/-- what a function that was walked so comes to; it may have ranged over a function once -/
def bodyX (P : Program) (fn : Func) (R : Ending → World → Prop) : XQ
  | .normal, σ, ds, w | .ret, σ, ds, w => ∃ w', (ds = [] ∧ w' = w ∨ ∃ D, ds = [{ target := .collected D, args := #[] }] ∧ w.heap[D]? = some (.deferred (some [])) ∧ w' = w.putObj D (.deferred none)) ∧
      ∃ v, (∀ tmps : Array Value, (∀ t, tmps.getD t undef = σ t) → (results fn tmps).run P w' = .ok v w') ∧ R (.returned v) w'
  | _, _, _, _ => False
theorem calls_of_cx {f : FuncId} {fn : Func} {c : Code} {args : Array Value} {R : Ending → World → Prop} (hf : P.funcs[f]? = some fn) (hb : fn.body = some c)
    (h : CX none 0 P (args.size + (fn.ntmps - args.size)) c (bodyX P fn R) (σ0 args) [] w) : Calls P f args w R := by
  have fin : ∀ (a' : Act) (w1 : World) (σ' : Tmp → Value), EvalIs a' σ' (args.size + (fn.ntmps - args.size)) → bodyX P fn R .ret σ' a'.defers w1 → LeavesInM (Fr none) 0 P fn a'.tmps R a'.defers .returning w1 := by
    intro a' w1 σ' h2 h3
    have hg : ∀ t, a'.tmps.getD t undef = σ' t := fun t => by have := congrFun h2.2 (.tmp t); exact this
    obtain ⟨w2, (⟨q1, rfl⟩ | ⟨D, q1, q2, rfl⟩), v, q3, q4⟩ := h3
    · rw [q1]; exact ⟨v, q3 _ hg, q4⟩
    · rw [q1]
      refine ⟨by simp, .inl ⟨D, _, rfl, run_takeDeferred q2, ?_⟩⟩
      exact ⟨v, q3 _ hg, q4⟩
  have h1 : CallsIn Fence.wide 0 P f args w R := by
    refine callsIn_of_wp_marks hf hb trivial (wpIn_mono (F := Fr none) (h _ rfl σ0_is) ?_)
    rintro e a' w' ⟨σ', ds', rfl, h2, h3⟩
    cases e with
    | normal => exact fin a' w' σ' h2 h3
    | ret => exact fin a' w' σ' h2 h3
    | _ => exact h3.elim
  exact callsIn_wide.1 h1
/-- the loop's record -/
def recOf (fn : FuncId) (tmps : Array Value) (ps : Array Tmp) (assign body : Code) (D : Nat) (st : LoopState) (pe : Option Code) : Loop :=
  { state := st, pending := pe, fn, tmps, params := ps, assign, body, defers := D }
/-- a range over a function whose rounds all go on -/
theorem cx_range {g : Operand} {ps : Array Tmp} {assign body : Code} {gf : FuncId} {lb : Array Value} (hg : ev σ g = .func (.func gf) #[] lb) (eg : ∀ args w, (callFunc gf args).run P w = .ok (.enter gf args) w)
    (h : ∀ (fn : FuncId) (tmps : Array Value), EvalIs { tmps, defers := [] } σ N →
      Calls P gf (#[.func (.yield (w.heap.size + 1)) #[] #[]] ++ lb) ((w.alloc (.deferred (some []))).alloc (.loop (recOf fn tmps ps assign body w.heap.size .ready none))) fun e W2 =>
        (∃ v, e = .returned v) ∧ W2.heap[w.heap.size + 1]? = some (.loop (recOf fn tmps ps assign body w.heap.size .ready none)) ∧
        Q .normal σ ({ target := .collected w.heap.size, args := #[] } :: ds) (W2.putObj (w.heap.size + 1) (.loop (recOf fn tmps ps assign body w.heap.size .exhausted none)))) :
    CX none n P N (.rangeFunc g ps assign body) Q σ ds w := by
  intro a hd he
  refine wpIn_rangeFunc ?_
  intro fn _
  have he' : EvalIs { tmps := a.tmps, defers := [] } σ N := ⟨he.1, by rw [← he.2]; funext x; cases x <;> rfl⟩
  refine ⟨w.heap.size + 1, [{ target := .collected w.heap.size, args := #[] }], (w.alloc (.deferred (some []))).alloc (.loop (recOf fn a.tmps ps assign body w.heap.size .ready none)),
    { target := .fn (.func gf) lb, args := #[.func (.yield (w.heap.size + 1)) #[] #[]] }, (w.alloc (.deferred (some []))).alloc (.loop (recOf fn a.tmps ps assign body w.heap.size .ready none)), gf,
    #[.func (.yield (w.heap.size + 1)) #[] #[]] ++ lb, (w.alloc (.deferred (some []))).alloc (.loop (recOf fn a.tmps ps assign body w.heap.size .ready none)), ?_, ?_, ?_, ?_, fun h => by simp [Fr, Fence.wide] at h, ?_⟩
  · exact run_enterLoop_outer _ _ _ _ _
  · simp only [resolve]
    rw [show a.eval g = .func (.func gf) #[] lb from by rw [he.2]; exact hg]
    simp [go_sem, Act.eval]
  · intro f' _; trivial
  · simp [invoke, go_sem, eg]
  · have hc : CallsIn Fence.wide (n - 1) P gf _ _ _ := callsIn_wide.2 (h fn a.tmps he')
    refine CallsIn.mono (F := Fr none) hc ?_
    rintro e W2 ⟨⟨v, rfl⟩, h2, h3⟩
    refine ⟨none, _, run_endLoop h2 (by simp [recOf]), ?_⟩
    exact ⟨σ, _, by simp [hd], ⟨he.1, by rw [← he.2]; funext x; cases x <;> rfl⟩, h3⟩
/-- one round that goes on -/
theorem round_x {m l D : Nat} {fn : FuncId} {tmps : Array Value} {ps : Array Tmp} {assign body : Code} {args : Array Value} {σ1 : Tmp → Value} {W : World} {R : Ending → World → Prop}
    (h1 : EvalIs { tmps := (ps.zip args).foldl (fun tmps (t, a) => tmps.setIfInBounds t a) tmps, defers := [] } σ1 N)
    (h : CX (some l) m P N assign (XQ.then (fun σ' ds' W1 => W1.heap[l]? = some (.loop (recOf fn tmps ps assign body D .ready none)) ∧
      CX (some l) m P N body (fun e _ _ W3 => e = .normal ∧ W3.heap[l]? = some (.loop (recOf fn tmps ps assign body D .busy none)) ∧ R (.returned (.bool true)) (W3.putObj l (.loop (recOf fn tmps ps assign body D .ready none))))
        σ' ds' (W1.putObj l (.loop (recOf fn tmps ps assign body D .busy none)))) (fun _ _ _ _ => False)) σ1 [] W) (_hds : True := trivial) :
    RoundIn Fence.wide m P l fn ((ps.zip args).foldl (fun tmps (t, a) => tmps.setIfInBounds t a) tmps) assign body W R := by
  refine roundIn_of_wpIn trivial (wpIn_mono (F := Fr (some l)) (h _ rfl h1) ?_)
  rintro e a' w' ⟨σ', ds', hd, he, hq⟩
  cases e with
  | normal =>
    obtain ⟨hl, hb⟩ := hq
    refine ⟨_, run_beginRound hl rfl, ?_⟩
    refine wpIn_mono (F := Fr (some l)) (hb a' hd he) ?_
    rintro e a3 W3 ⟨σ3, ds3, _, _, rfl, hl3, hR⟩
    exact ⟨_, _, run_endRound none hl3, hR⟩
  | _ => exact hq.elim
end Go.Ev
namespace Go.Ev
open Go Go.RowKit
variable {P : Program} {E : TyE} {w : World} {ρ : Operand → Value} {o : Oper}

/-! ### operations at a world that is known -/
/-- a block of cells -/
def At (w : World) (b : Nat) (cs : Array Value) (t : TypeId) : Prop := w.heap[b]? = some (.cells cs t (0, 0))
theorem At.cell {b j : Nat} {cs : Array Value} {t : TypeId} {v : Value} (h : At w b cs t) (hj : cs[j]? = some v) : w.cell? ⟨b, j, none⟩ = some v := by
  unfold At at h
  simp [World.cell?, h, hj]
theorem At.lt {b : Nat} {cs : Array Value} {t : TypeId} (h : At w b cs t) : b < w.heap.size := (Array.getElem?_eq_some_iff.1 h).1
theorem At.new {cs : Array Value} {t : TypeId} : At (w.alloc (.cells cs t)) w.heap.size cs t := World.alloc_heap_new w _
theorem alloc_old {o : Obj} {k : Nat} (h : k < w.heap.size) : (w.alloc o).heap[k]? = w.heap[k]? := Below.heap_alloc w o k h
theorem At.alloc {b : Nat} {cs : Array Value} {t : TypeId} {o : Obj} (h : At w b cs t) : At (w.alloc o) b cs t := (alloc_old h.lt).trans h
theorem x_move {x : Operand} (ho : o.op = .move x ∨ o.op = .assign x) : (execOp ρ o).run P w = .ok (.value (ρ x)) w := by
  rcases ho with ho | ho <;> simp [execOp, ho]
theorem x_mv {x : Operand} {v : Value} (ho : o.op = .move x ∨ o.op = .assign x) (hv : ρ x = v) : (execOp ρ o).run P w = .ok (.value v) w := by rw [x_move ho, hv]
theorem x_load1 {t : TypeId} {x : Operand} {b j : Nat} {v : Value} (ho : o.op = .load t x) (hg : ∀ w, (isAgg t).run P w = .ok false w) (hx : ρ x = .pointer (some ⟨b, j, none⟩)) (hc : w.cell? ⟨b, j, none⟩ = some v) :
    (execOp ρ o).run P w = .ok (.value v) w := by
  simp [execOp, ho, Instr.loadAt, hx, Instr.sureAddr, loadVar, hg, hc]
theorem x_loadn {t : TypeId} {x : Operand} {b j n : Nat} {us : List Value} (ho : o.op = .load t x) (hg : ∀ w, (isAgg t).run P w = .ok true w) (hz : ∀ w, (sizeOf t).run P w = .ok n w) (hx : ρ x = .pointer (some ⟨b, j, none⟩))
    (hn : us.length = n) (hc : ∀ (i : Nat) (u : Value), us[i]? = some u → w.cell? ⟨b, j + i, none⟩ = some u) : (execOp ρ o).run P w = .ok (.value (.agg us.toArray)) w := by
  have hrun := run_loadCells (P := P) (w := w) b j us 0 n #[] hn (fun i u hi => by simpa using hc i u hi)
  simp [execOp, ho, Instr.loadAt, hx, Instr.sureAddr, loadVar, hg, hz, loadCells, hrun]
theorem x_alloc {t : TypeId} {z : Value} (ho : o.op = .alloc t) (hz : ∀ w, (zeroValue t).run P w = .ok z w) : (execOp ρ o).run P w = .ok (.value (.pointer (some ⟨w.heap.size, 0, none⟩))) (w.alloc (.cells z.cells t)) := by
  simp [execOp, ho, Instr.alloc, hz, newVar, newRow]
theorem x_box {t : TypeId} {x : Operand} (ho : o.op = .box t x) : (execOp ρ o).run P w = .ok (.value (.pointer (some ⟨w.heap.size, 0, none⟩))) (w.alloc (.cells (ρ x).cells t)) := by
  simp [execOp, ho, Instr.box, newVar, newRow]
theorem x_makeMap {t : TypeId} (ho : o.op = .makeMap t none) : (execOp ρ o).run P w = .ok (.value (.map (some w.heap.size))) (w.alloc (.map #[] 0)) := by
  simp [execOp, ho, Instr.makeMap]
theorem x_store {t t' : TypeId} {x v : Operand} {b j n : Nat} {c : Array Value} (ho : o.op = .store t x v) (hz : ∀ w, (sizeOf t).run P w = .ok n w) (hx : ρ x = .pointer (some ⟨b, j, none⟩)) (hn : (ρ v).cells.size = n)
    (hs : ∀ u ∈ (ρ v).cells.toList, Value.scalar u = true) (hb : At w b c t') (hsz : j + n ≤ c.size) : (execOp ρ o).run P w = .ok .skip (World.putRow w b j (ρ v).cells.toList) := by
  have hrun := run_storeCells (P := P) (blk := b) (t := t') (fz := (0, 0)) (by simp) (ρ v).cells.toList j 0 w c hs hb (by simp; omega)
  simp [execOp, ho, Instr.storeAt, hx, Instr.sureAddr, storeVar, hz, hn]
  rw [hrun]; rfl
theorem x_makeFunc {f : FuncId} {caps : Array Operand} (ho : o.op = .makeFunc (.func f) #[] caps) : (execOp ρ o).run P w = .ok (.value (.func (.func f) #[] (caps.map ρ))) w := by
  simp [execOp, ho, Instr.makeFunc]
theorem x_call {f : FuncId} {args : Array Operand} {ts : Array TypeId} (ho : o.op = .call { callee := .value (.func f), args, argTypes := ts }) (hρ : ρ (.func f) = .func (.func f) #[] #[])
    (he : ∀ args w, (callFunc f args).run P w = .ok (.enter f args) w) : (execOp ρ o).run P w = .ok (.enter f (args.map ρ)) w := by
  simp [execOp, ho, resolve, hρ, Deferred.ofValue, invoke, he]
theorem x_yield {l : Nat} {x : Operand} {args : Array Operand} {ts : Array TypeId} (ho : o.op = .call { callee := .value x, args, argTypes := ts }) (hρ : ρ x = .func (.yield l) #[] #[]) :
    (execOp ρ o).run P w = (Instr.yield l (args.map ρ)).run P w := by
  simp [execOp, ho, resolve, hρ, Deferred.ofValue, invoke]
theorem x_len {t el : TypeId} {x : Operand} {ts : Array TypeId} {p : Option Addr} {n c : Nat} (ho : o.op = .call { callee := .builtin .len, args := #[x], argTypes := ts }) (ht : ts[0]? = some t) (hu : P.underlying t = some (.slice el)) (hx : ρ x = .slice p n c) :
    (execOp ρ o).run P w = .ok (.value (.int .i64 n)) w := by
  have := run_underlying (P := P) (w := w) hu
  simp only [execOp, ho, resolve, invoke, builtin, Builtin.len_]
  simp [ht, hx, this, goInt]
theorem x_sub1 {t t' : TypeId} {x y : Operand} {m k : Int} (ho : o.op = .binOp .sub t x y t') (hx : ρ x = .int .i64 m) (hy : ρ y = .int .i64 k) (h1 : -9223372036854775808 ≤ m - k) (h2 : m - k < 9223372036854775808) :
    (execOp ρ o).run P w = .ok (.value (.int .i64 (m - k))) w := by
  have := wrap_i64_id h1 h2
  simp [execOp, ho, binOp, hx, hy, go_sem, this]
theorem x_geq {t t' : TypeId} {x y : Operand} {m k : Int} (ho : o.op = .binOp .geq t x y t') (hx : ρ x = .int .i64 m) (hy : ρ y = .int .i64 k) : (execOp ρ o).run P w = .ok (.value (.bool (decide (k ≤ m)))) w := by
  simp [execOp, ho, binOp, hx, hy, go_sem]
theorem x_not {t : TypeId} {x : Operand} {b : Bool} (ho : o.op = .unOp .not t x) (hx : ρ x = .bool b) : (execOp ρ o).run P w = .ok (.value (.bool (!b))) w := by
  simp [execOp, ho, hx, go_sem, Op.unary]
theorem x_ia {t el : TypeId} {x ix : Operand} {b j n sz i c : Nat} (ho : o.op = .indexAddr t x ix) (ht : P.underlying t = some (.slice el)) (hz : ∀ w, (sizeOf el).run P w = .ok sz w) (hx : ρ x = .slice (some ⟨b, j, none⟩) n c)
    (hi : ρ ix = .int .i64 i) (hlt : i < n) : (execOp ρ o).run P w = .ok (.value (.pointer (some ⟨b, j + i * sz, none⟩))) w := by
  have := run_underlying (P := P) (w := w) ht
  simp only [execOp, ho, Instr.indexAt]
  have hlt' : (i : Int) < (n : Int) := by omega
  simp [hx, hi, asIntOf, this, hz, Addr.add_mk]
  intro hh; omega
theorem x_fa {s : TypeId} {x : Operand} {f : Nat} {fs : Array Field} {fd : Field} {sz b j : Nat} (ho : o.op = .fieldAddr s x f) (hs : P.underlying s = some (.struct fs)) (hf : fs[f]? = some fd) (hz : ∀ w, (sizeOf fd.type).run P w = .ok sz w) (hn : sz ≠ 0)
    (hx : ρ x = .pointer (some ⟨b, j, none⟩)) : (execOp ρ o).run P w = .ok (.value (.pointer (some ⟨b, j + fd.offset, none⟩))) w := by
  have := run_underlying (P := P) (w := w) hs
  simp only [execOp, ho, Instr.fieldAt]
  simp [this, hf, hx, Instr.sureAddr, fieldPlace, hz, hn, Addr.add_mk]
/-- an entry is put into a map, where the abstract entries tell what comes of it -/
theorem x_upd {φ : Phi} {ν : Nu} {t kt el : TypeId} {d : KD} {kv vv : AV} {m x v : Operand} {M clock : Nat} {es : List (AV × AV × Nat)} {es' : Array MapEntry} {r : Option (Nat × AV)} (he : EnvOK P E)
    (ho : o.op = .mapUpdate t m x v) (ht : E.und t = some (.map kt el)) (hk : E.key kt = some d) (hm : ρ m = .map (some M)) (hkc : conc φ ν kv = some (ρ x)) (hvc : conc φ ν vv = some (ρ v))
    (hok : keyOk d kv = true) (hf : findK bx d kv es 0 = some r) (k1 : w.heap[M]? = some (.map es' clock)) (k2 : Ents φ ν es es'.toList)
    (hkeep : ∀ j w, r = some (j, w) → ∀ e, es[j]? = some e → keyOk d e.1 = true) :
    ∃ (es2' : Array MapEntry) (clock2 : Nat) (es2 : List (AV × AV × Nat)), (execOp ρ o).run P w = .ok .skip (w.putObj M (.map es2' clock2)) ∧ Ents φ ν es2 es2'.toList ∧
      (match r with | some (j, _) => es2 = setVal vv es j ∧ clock2 = clock | none => es2 = es ++ [(kv, vv, clock)] ∧ clock2 = clock + 1) := by
  have hck := run_checkKey he hk hkc hok false w
  obtain ⟨r', h1, h2⟩ := run_findKey he hk hkc w k2 hf
  have k2' : es'.size = es.length := by have := k2.1; simpa using this
  have hrun : ∀ w', (Instr.mapUpdate t (ρ m) (ρ x) (ρ v)).run P w = .ok () w' → (execOp ρ o).run P w = .ok .skip w' := by
    intro w' hw
    simp [execOp, ho, hw]
  cases r with
  | none =>
    simp only at h2; subst h2
    refine ⟨es'.push { key := ρ x, val := ρ v, born := clock }, clock + 1, es ++ [(kv, vv, clock)], hrun _ ?_, ?_, rfl, rfl⟩
    · unfold Instr.mapUpdate
      simp only [Sem.run_bind, run_und he ht, Result.andThen_ok, hm, run_map_obj k1, hck, h1]
      exact run_setObj k1 (by simp)
    · refine ⟨by simp [k2'], ?_⟩
      intro j z hj
      rw [List.getElem?_append] at hj
      split at hj
      · obtain ⟨y, a1, a2⟩ := k2.2 j z hj
        refine ⟨y, ?_, a2⟩
        rw [Array.getElem?_toList, Array.getElem?_push, if_neg (by omega)]; simpa using a1
      · rename_i hnl
        have hj0 : j - es.length = 0 := by
          have := (List.getElem?_eq_some_iff.1 hj).1
          simp at this; omega
        rw [hj0] at hj; simp at hj; subst hj
        refine ⟨{ key := ρ x, val := ρ v, born := clock }, ?_, hkc, hvc, rfl⟩
        rw [Array.getElem?_toList, Array.getElem?_push, if_pos (by omega)]
  | some jv =>
    obtain ⟨j, v0⟩ := jv
    obtain ⟨e, y, e1, e2, e3, e4, e5, rfl⟩ := h2
    obtain ⟨q1, q2⟩ := keep_spec (key_kd hk).2 hok (hkeep j v0 rfl e e1) hkc e3.1 e5
    have e2' : es'[j]? = some y := by simpa using e2
    refine ⟨es'.modify j fun e => { e with key := ρ x, val := ρ v }, clock, setVal vv es j, hrun _ ?_, ?_, rfl, rfl⟩
    · unfold Instr.mapUpdate
      simp only [Sem.run_bind, run_und he ht, Result.andThen_ok, hm, run_map_obj k1, hck, h1]
      have hks : (Instr.keyThatStays (((es'[j]?).map (·.key)).getD (ρ x)) (ρ x)).run P w = .ok (ρ x) w := by
        rw [e2']
        show (Instr.keyThatStays y.key (ρ x)).run P w = _
        unfold Instr.keyThatStays
        rw [if_pos q2]; rfl
      rw [hks]
      simp only [Result.andThen_ok]
      exact run_setObj k1 (by simp)
    · refine ⟨by simp [setVal_length, k2'], ?_⟩
      intro l z hl
      rw [setVal_get, Option.map_eq_some_iff] at hl
      obtain ⟨z0, hz0, hz⟩ := hl
      obtain ⟨y0, a1, a2⟩ := k2.2 l z0 hz0
      rw [Array.getElem?_toList, Array.getElem?_modify]
      by_cases hlj : l = j
      · subst hlj
        rw [e1] at hz0; cases hz0
        rw [e2] at a1; cases a1
        rw [if_pos rfl] at hz ⊢
        subst hz
        refine ⟨{ y with key := ρ x, val := ρ v }, by rw [e2']; simp, ?_, hvc, a2.2.2⟩
        show conc φ ν e.1 = some (ρ x)
        rw [q1]; exact a2.1
      · rw [if_neg hlj] at hz
        rw [if_neg (Ne.symm hlj)]
        subst hz
        exact ⟨y0, by simpa using a1, a2⟩
end Go.Ev
namespace Go.Ev
open Go Go.RowKit
variable {P : Program} {E : TyE} {w : World} {n N : Nat}

/-! ### slices.Backward over structs: the iterator -/
structure BwCode (P : Program) (fc : FuncId) (tL tS tI tB : TypeId) : Prop where
  ex : ∃ fn i0 i1 i2 i3 b0 b1 ops0 ops1 ops2 ops3 tX tY, P.funcs[fc]? = some fn ∧ fn.ntmps = 19 ∧ fn.results = #[] ∧
    fn.body = some (.seq (.region i0 ops0 false) (.block b0 (.loop (.seq (.seq (.region i1 ops1 false) (.cond (.tmp 8) .skip (.exit b0))) (.seq (.block b1 (.seq (.region i3 ops3 false) (.cond (.tmp 18) .ret .skip))) (.region i2 ops2 false)))))) ∧
    IsOps ops0 [(some 4, .load tL (.tmp 1)), (some 5, .call { callee := .builtin .len, args := #[.tmp 4], argTypes := #[tL] }), (some 6, .binOp .sub tI (.tmp 5) (.const (.int .i64 1)) tX), (some 3, .assign (.tmp 6))] ∧
    IsOps ops1 [(some 7, .move (.tmp 3)), (some 8, .binOp .geq tI (.tmp 7) (.const (.int .i64 0)) tY)] ∧
    IsOps ops2 [(some 9, .move (.tmp 3)), (some 10, .binOp .sub tI (.tmp 9) (.const (.int .i64 1)) tX), (some 3, .assign (.tmp 10))] ∧
    IsOps ops3 [(some 11, .move (.tmp 0)), (some 12, .move (.tmp 3)), (some 13, .load tL (.tmp 1)), (some 14, .move (.tmp 3)), (some 15, .indexAddr tL (.tmp 13) (.tmp 14)), (some 16, .load tS (.tmp 15)),
      (some 17, .call { callee := .value (.tmp 11), args := #[.tmp 12, .tmp 16], argTypes := #[tI, tS] }), (some 18, .unOp .not tB (.tmp 17))]
  enters : ∀ args w, (callFunc fc args).run P w = .ok (.enter fc args) w
theorem mkv (σ : Tmp → Value) (d : Tmp) (v : Value) : updO σ (some d) v = upd σ d v := rfl
theorem backward_iter {fc : FuncId} {tL tS tI tB : TypeId} (C : BwCode P fc tL tS tI tB) (hL : P.underlying tL = some (.slice tS)) (aL : ∀ w, (isAgg tL).run P w = .ok false w) (aS : ∀ w, (isAgg tS).run P w = .ok true w) (zS : ∀ w, (sizeOf tS).run P w = .ok 3 w)
    {l T len cap b o : Nat} {p : Option Addr} {el : Nat → List Value} (hlen : len ≤ 1000000) (hp : 0 < len → p = some ⟨b, o, none⟩) (hel : ∀ i, (el i).length = 3) (J : Nat → World → Prop)
    (hJ : ∀ k W, J k W → W.cell? ⟨T, 0, none⟩ = some (.slice p len cap) ∧ ∀ i, i < len → ∀ j u, (el i)[j]? = some u → W.cell? ⟨b, o + i * 3 + j, none⟩ = some u)
    (hR : ∀ k W, k < len → J k W → ∃ fn tmps assign body, (Instr.yield l #[.int .i64 ((len - 1 - k : Nat) : Int), .agg (el (len - 1 - k)).toArray]).run P W = .ok (.round l fn tmps assign body) W ∧
      ∀ m, RoundIn Fence.wide m P l fn tmps assign body W (fun e W' => e = .returned (.bool true) ∧ J (k + 1) W'))
    (h0 : J 0 w) : Calls P fc #[.func (.yield l) #[] #[], .pointer (some ⟨T, 0, none⟩)] w fun e w' => e = .returned (.tuple #[]) ∧ J len w' := by
  obtain ⟨fn, i0, i1, i2, i3, b0, b1, ops0, ops1, ops2, ops3, tX, tY, hf, hnt, hres, hbody, q0, q1, q2, q3⟩ := C.ex
  have hfin : ∀ tmps w, (results fn tmps).run P w = .ok (.tuple #[]) w := fun tmps w => results_none hres tmps P w
  refine calls_of_cx hf hbody ?_
  rw [hnt]
  have hN : (#[Value.func (.yield l) #[] #[], .pointer (some ⟨T, 0, none⟩)] : Array Value).size + (19 - (#[Value.func (.yield l) #[] #[], .pointer (some ⟨T, 0, none⟩)] : Array Value).size) = 19 := rfl
  rw [hN]
  obtain ⟨σs, hσs⟩ : ∃ σs, σs = σ0 #[Value.func (.yield l) #[] #[], .pointer (some ⟨T, 0, none⟩)] := ⟨_, rfl⟩
  have s0 : σs 0 = .func (.yield l) #[] #[] := by rw [hσs]; rfl
  have s1 : σs 1 = .pointer (some ⟨T, 0, none⟩) := by rw [hσs]; rfl
  rw [← hσs]
  clear hσs hN
  -- the loop
  have loop : ∀ m k W σ, len = k + m → J k W → σ 0 = .func (.yield l) #[] #[] → σ 1 = .pointer (some ⟨T, 0, none⟩) → σ 3 = .int .i64 ((len : Int) - 1 - k) →
      LX none 0 P 19 (.seq (.seq (.region i1 ops1 false) (.cond (.tmp 8) .skip (.exit b0))) (.seq (.block b1 (.seq (.region i3 ops3 false) (.cond (.tmp 18) .ret .skip))) (.region i2 ops2 false)))
        (XQ.blk b0 (bodyX P fn fun e w' => e = .returned (.tuple #[]) ∧ J len w')) σ [] W := by
    intro m
    induction m with
    | zero =>
      intro k W σ hk hj t0 t1 t3
      refine lx_round (cx_seq (cx_seq (cx_region q1 ?_)))
      refine ox_val (v := .int .i64 ((len : Int) - 1 - k)) (fun o ho => x_mv (.inl ho) (by simp [ev, t3])) (by simp) (by simp) ?_
      refine ox_val (w' := W) (v := .bool false) (fun o ho => by
        rw [x_geq (m := (len : Int) - 1 - k) (k := 0) ho (by simp [ev, mkv]) rfl]
        rw [decide_eq_false (by omega)]) (by simp) (by simp) ?_
      refine ox_nil (cx_false (by simp [ev, mkv]) (cx_exit ?_))
      show XQ.blk b0 _ (.exit b0) _ _ _
      simp only [XQ.blk, if_true]
      exact ⟨W, .inl ⟨rfl, rfl⟩, _, fun tmps _ => hfin tmps W, rfl, by rw [hk, Nat.add_zero]; exact hj⟩
    | succ m ih =>
      intro k W σ hk hj t0 t1 t3
      obtain ⟨hc, hcells⟩ := hJ k W hj
      have hi : (len : Int) - 1 - k = ((len - 1 - k : Nat) : Int) := by omega
      refine lx_round (cx_seq (cx_seq (cx_region q1 ?_)))
      refine ox_val (v := .int .i64 ((len : Int) - 1 - k)) (fun o ho => x_mv (.inl ho) (by simp [ev, t3])) (by simp) (by simp) ?_
      refine ox_val (w' := W) (v := .bool true) (fun o ho => by
        rw [x_geq (m := (len : Int) - 1 - k) (k := 0) ho (by simp [ev, mkv]) rfl]
        rw [decide_eq_true (by omega)]) (by simp) (by simp) ?_
      refine ox_nil (cx_true (by simp [ev, mkv]) (cx_skip ?_))
      refine cx_seq (cx_block (cx_seq (cx_region q3 ?_)))
      -- yield is called
      refine ox_val (v := .func (.yield l) #[] #[]) (fun o ho => x_mv (.inl ho) (by simp [ev, mkv, upd, t0])) (by simp) (by simp) ?_
      refine ox_val (v := .int .i64 ((len - 1 - k : Nat) : Int)) (fun o ho => x_mv (.inl ho) (by simp [ev, mkv, upd, t3, hi])) (by simp) (by simp) ?_
      refine ox_val (v := .slice p len cap) (fun o ho => x_load1 ho aL (b := T) (j := 0) (by simp [ev, mkv, upd, t1]) hc) (by simp) (by simp) ?_
      refine ox_val (v := .int .i64 ((len - 1 - k : Nat) : Int)) (fun o ho => x_mv (.inl ho) (by simp [ev, mkv, upd, t3, hi])) (by simp) (by simp) ?_
      refine ox_val (v := .pointer (some ⟨b, o + (len - 1 - k) * 3, none⟩)) (fun q ho => x_ia ho hL zS (n := len) (c := cap) (by simp [ev, mkv, upd, hp (by omega)]) (by simp [ev, mkv, upd]) (by omega)) (by simp) (by simp) ?_
      refine ox_val (v := .agg (el (len - 1 - k)).toArray) (fun q ho => x_loadn ho aS zS (b := b) (j := o + (len - 1 - k) * 3) (by simp [ev, mkv, upd]) (hel _) (fun j u hu => hcells _ (by omega) j u hu)) (by simp) (by simp) ?_
      obtain ⟨fn', tmps', assign, body, hy, hr⟩ := hR k W (by omega) hj
      refine ox_round (fun q ho => by
        rw [x_yield ho (l := l) (by simp [ev, mkv, upd])]
        simp only [List.map_toArray, List.map_cons, List.map_nil]
        rw [show ev _ (.tmp 12) = .int .i64 ((len - 1 - k : Nat) : Int) from by simp [ev, mkv, upd], show ev _ (.tmp 16) = .agg (el (len - 1 - k)).toArray from by simp [ev, mkv, upd]]
        exact hy) (by simp) (by simp) hr ?_
      rintro e W' ⟨rfl, hj'⟩
      refine ⟨_, rfl, ?_⟩
      refine ox_val (v := .bool false) (fun q ho => by rw [x_not (b := true) ho (by simp [ev, mkv])]; rfl) (by simp) (by simp) ?_
      refine ox_nil (cx_false (by simp [ev, mkv]) (cx_skip ?_))
      refine cx_region q2 ?_
      refine ox_val (v := .int .i64 ((len : Int) - 1 - k)) (fun o ho => x_mv (.inl ho) (by simp [ev, mkv, upd, t3])) (by simp) (by simp) ?_
      refine ox_val (v := .int .i64 ((len : Int) - 1 - k - 1)) (fun o ho => x_sub1 ho (by simp [ev, mkv]) rfl (by omega) (by omega)) (by simp) (by simp) ?_
      refine ox_val (v := .int .i64 ((len : Int) - 1 - k - 1)) (fun o ho => x_mv (.inr ho) (by simp [ev, mkv])) (by simp) (by simp) ?_
      refine ox_nil (ih (k + 1) W' _ (by omega) hj' ?_ ?_ ?_)
      · simp [mkv, upd, t0]
      · simp [mkv, upd, t1]
      · simp [mkv]; omega
  obtain ⟨hc, _⟩ := hJ 0 w h0
  refine cx_seq (cx_region q0 ?_)
  refine ox_val (v := .slice p len cap) (fun o ho => x_load1 ho aL (b := T) (j := 0) (by simp [ev, s1]) hc) (by simp) (by simp) ?_
  refine ox_val (v := .int .i64 len) (fun o ho => x_len (p := p) (c := cap) ho rfl hL (by simp [ev, mkv])) (by simp) (by simp) ?_
  refine ox_val (v := .int .i64 ((len : Int) - 1)) (fun o ho => x_sub1 ho (by simp [ev, mkv]) rfl (by omega) (by omega)) (by simp) (by simp) ?_
  refine ox_val (v := .int .i64 ((len : Int) - 1)) (fun o ho => x_mv (.inr ho) (by simp [ev, mkv])) (by simp) (by simp) ?_
  refine ox_nil (cx_block (cx_loop (loop len 0 w _ (by omega) h0 ?_ ?_ ?_)))
  · simp [mkv, upd, s0]
  · simp [mkv, upd, s1]
  · simp [mkv]
end Go.Ev
namespace Go.Ev
open Go Go.RowKit
variable {P : Program} {E : TyE} {w : World} {n N : Nat} {φ : Phi} {ν : Nu}

/-! ### types.visible -/
structure VisCode (P : Program) (fv fb fc : FuncId) (tM tS tL : TypeId) : Prop where
  ex : ∃ fn i0 i1 i2 i3 i4 i5 b0 b1 ops0 ops1 ops2 ops3 ops4 ops5 tN, P.funcs[fv]? = some fn ∧ fn.ntmps = 16 ∧ fn.results = #[.tmp 2] ∧
    fn.body = some (.seq (.region i0 ops0 false) (.seq (.region i1 ops1 false) (.seq (.seq (.region i2 ops2 false) (.block b0 (.rangeFunc (.tmp 8) #[9, 10] (.region i3 ops3 false) (.block b1 (.region i4 ops4 false))))) (.seq (.region i5 ops5 false) .ret)))) ∧
    IsOps ops0 [(some 2, .assign (.const (.map none)))] ∧
    IsOps ops1 [(some 6, .makeMap tM none), (some 3, .alloc tM), (none, .store tM (.tmp 3) (.tmp 6))] ∧
    IsOps ops2 [(some 7, .move (.tmp 0)), (some 8, .call { callee := .value (.func fb), args := #[.tmp 7], argTypes := #[tL] })] ∧
    IsOps ops3 [(some 5, .alloc tS), (none, .store tS (.tmp 5) (.tmp 10))] ∧
    IsOps ops4 [(some 11, .load tM (.tmp 3)), (some 12, .fieldAddr tS (.tmp 5) 0), (some 13, .load tN (.tmp 12)), (some 14, .load tS (.tmp 5)), (none, .mapUpdate tM (.tmp 11) (.tmp 13) (.tmp 14))] ∧
    IsOps ops5 [(some 15, .load tM (.tmp 3)), (some 2, .assign (.tmp 15))] ∧ (∀ w, (isAgg tN).run P w = .ok false w)
  bw : ∃ fn i0 i1 ops0 ops1, P.funcs[fb]? = some fn ∧ fn.ntmps = 4 ∧ fn.results = #[.tmp 2] ∧ fn.body = some (.seq (.region i0 ops0 false) (.seq (.region i1 ops1 false) .ret)) ∧
    IsOps ops0 [(some 1, .box tL (.tmp 0)), (some 2, .assign (.const .nilFunc))] ∧ IsOps ops1 [(some 3, .makeFunc (.func fc) #[] #[.tmp 1]), (some 2, .assign (.tmp 3))]
  entersB : ∀ args w, (callFunc fb args).run P w = .ok (.enter fb args) w
  entersV : ∀ args w, (callFunc fv args).run P w = .ok (.enter fv args) w
theorem backward_fn {fv fb fc : FuncId} {tM tS tL : TypeId} (C : VisCode P fv fb fc tM tS tL) (v : Value) (hv : v.cells = #[v]) : Calls P fb #[v] w fun e w' => e = .returned (.func (.func fc) #[] #[.pointer (some ⟨w.heap.size, 0, none⟩)]) ∧ w' = w.alloc (.cells #[v] tL) := by
  obtain ⟨fn, i0, i1, ops0, ops1, hf, hnt, hres, hbody, q0, q1⟩ := C.bw
  refine calls_of_cx hf hbody ?_
  rw [hnt]
  refine cx_seq (cx_region q0 ?_)
  refine ox_val (fun o ho => x_box ho) (by simp) (by simp) ?_
  refine ox_val (v := .nilFunc) (fun o ho => x_mv (.inr ho) rfl) (by simp) (by simp) ?_
  refine ox_nil (cx_seq (cx_region q1 ?_))
  refine ox_val (fun o ho => x_makeFunc ho) (by simp) (by simp) ?_
  refine ox_val (v := .func (.func fc) #[] #[.pointer (some ⟨w.heap.size, 0, none⟩)]) (fun o ho => x_mv (.inr ho) (by simp [ev, mkv, upd])) (by simp) (by simp) ?_
  refine ox_nil (cx_ret ?_)
  refine ⟨_, .inl ⟨rfl, rfl⟩, _, fun tmps ht => ?_, rfl, ?_⟩
  · rw [results_tmp hres, ht 2]; simp [mkv]
  · simp [ev, σ0, hv]
theorem upd2_is {tmps : Array Value} {σ : Tmp → Value} {a b : Value} (h : EvalIs { tmps, defers := [] } σ 16) : EvalIs { tmps := ((#[9, 10] : Array Tmp).zip #[a, b]).foldl (fun tmps (t, a) => tmps.setIfInBounds t a) tmps, defers := [] } (upd (upd σ 9 a) 10 b) 16 := by
  have h1 := h.put (d := some 9) (v := a) (by simp)
  have h2 := h1.put (d := some 10) (v := b) (by simp)
  have e : ((#[9, 10] : Array Tmp).zip #[a, b]).foldl (fun tmps (t, a) => tmps.setIfInBounds t a) tmps = (tmps.setIfInBounds 9 a).setIfInBounds 10 b := by simp
  rw [e]; exact h2
theorem below_put {B l : Nat} {o : Obj} {a W : World} (h : Below B a W) (hl : B ≤ l) (hB : B ≤ W.heap.size) : Below B a (W.putObj l o) := h.grown (grownBy_putObj' W l o) hB (fun k e => by cases e; exact hl)
theorem x_fa0 {ρ : Operand → Value} {q : Oper} {s : TypeId} {x : Operand} {f : Nat} {fs : Array Field} {fd : Field} {sz b j : Nat} (ho : q.op = .fieldAddr s x f) (hs : P.underlying s = some (.struct fs)) (hf : fs[f]? = some fd) (h0 : fd.offset = 0) (hz : ∀ w, (sizeOf fd.type).run P w = .ok sz w) (hn : sz ≠ 0)
    (hx : ρ x = .pointer (some ⟨b, j, none⟩)) : (execOp ρ q).run P w = .ok (.value (.pointer (some ⟨b, j, none⟩))) w := by
  have := x_fa (P := P) (w := w) (ρ := ρ) ho hs hf hz hn hx
  rw [h0] at this; exact this
theorem visibleL_step {n a b : AV} {l : List AV} {es : List (AV × AV × Nat)} (h : visibleL (n :: a :: b :: l) = some es) : ∃ es0 r, visibleL l = some es0 ∧ findK bx (.leaf .str) n es0 0 = some r ∧
    es = (match r with | some (i, _) => setVal (.agg [n, a, b]) es0 i | none => es0 ++ [(n, .agg [n, a, b], es0.length)]) := by
  simp only [visibleL] at h
  split at h
  · rename_i es0 h0
    split at h
    · rename_i i v h1; cases h; exact ⟨es0, _, h0, h1, rfl⟩
    · rename_i h1; cases h; exact ⟨es0, _, h0, h1, rfl⟩
    · cases h
  · cases h
theorem getD_some {us : List Value} {i : Nat} (h : i < us.length) : us[i]? = some (us[i]?.getD undef) := by rw [List.getElem?_eq_getElem h]; rfl
theorem drop3 {α : Type} {l : List α} {i : Nat} (h : 3 * i + 3 ≤ l.length) : ∃ x y z, l.drop (3 * i) = x :: y :: z :: l.drop (3 * (i + 1)) ∧ l[3 * i]? = some x ∧ l[3 * i + 1]? = some y ∧ l[3 * i + 2]? = some z := by
  refine ⟨l[3 * i], l[3 * i + 1], l[3 * i + 2], ?_, List.getElem?_eq_getElem _, List.getElem?_eq_getElem _, List.getElem?_eq_getElem _⟩
  rw [List.drop_eq_getElem_cons (by omega), List.drop_eq_getElem_cons (by omega), List.drop_eq_getElem_cons (by omega)]
  rfl
theorem visibleL_suffix : ∀ (m : Nat) {l : List AV} {es : List (AV × AV × Nat)}, visibleL l = some es → 3 * m ≤ l.length → ∃ es', visibleL (l.drop (3 * m)) = some es'
  | 0, l, es, h, _ => ⟨es, by simpa using h⟩
  | m + 1, l, es, h, hl => by
    obtain ⟨es', h1⟩ := visibleL_suffix m h (by omega)
    obtain ⟨x, y, z, h2, _⟩ := drop3 (l := l) (i := m) (by omega)
    rw [h2] at h1
    obtain ⟨es0, _, h3, _⟩ := visibleL_step h1
    exact ⟨es0, h3⟩
set_option maxHeartbeats 1000000 in
theorem visible_fn {fv fb fc : FuncId} {tM tS tL tN tI tB : TypeId} (he : EnvOK P E) (C : VisCode P fv fb fc tM tS tL) (CB : BwCode P fc tL tS tI tB)
    (uM : E.und tM = some (.map tN tS)) (kN : E.key tN = some (.leaf .str)) (hL : P.underlying tL = some (.slice tS)) (aL : ∀ w, (isAgg tL).run P w = .ok false w) (aS : ∀ w, (isAgg tS).run P w = .ok true w) (aM : ∀ w, (isAgg tM).run P w = .ok false w)
    (zS : ∀ w, (sizeOf tS).run P w = .ok 3 w) (zM : ∀ w, (sizeOf tM).run P w = .ok 1 w) (vS : ∃ z : Value, z.cells.size = 3 ∧ ∀ w, (zeroValue tS).run P w = .ok z w) (vM : ∀ w, (zeroValue tM).run P w = .ok (.map none) w)
    (fS : ∃ fs fd, P.underlying tS = some (.struct fs) ∧ fs[0]? = some fd ∧ fd.offset = 0 ∧ ∀ w, (sizeOf fd.type).run P w = .ok 1 w)
    {len cap b o : Nat} {p : Option Addr} {cs : List AV} {us : List Value} {es : List (AV × AV × Nat)} (hlen : len ≤ 1000) (hp : 0 < len → p = some ⟨b, o, none⟩) (hcs : cs.length = len * 3) (hsc : scalars cs = true) (hus : concL φ ν cs = some us)
    (hcell : ∀ j u, us[j]? = some u → w.cell? ⟨b, o + j, none⟩ = some u) (hes : visibleL cs = some es) :
    Calls P fv #[.slice p len cap] w fun e w' => e = .returned (.map (some w.heap.size)) ∧ Below w.heap.size w w' ∧ w.heap.size < w'.heap.size ∧ ∃ es', w'.heap[w.heap.size]? = some (.map es' es.length) ∧ Ents φ ν es es'.toList := by
  obtain ⟨fn, i0, i1, i2, i3, i4, i5, b0, b1, ops0, ops1, ops2, ops3, ops4, ops5, tN', hf, hnt, hres, hbody, q0, q1, q2, q3, q4, q5, aN⟩ := C.ex
  obtain ⟨z, hz3, vS⟩ := vS
  obtain ⟨fs, fd, uS, hfd, hoff, zfd⟩ := fS
  have hul := concL_length hus
  -- the elements
  obtain ⟨el, hel⟩ : ∃ el : Nat → List Value, el = fun i => [us.getD (3 * i) undef, us.getD (3 * i + 1) undef, us.getD (3 * i + 2) undef] := ⟨_, rfl⟩
  -- the blocks
  obtain ⟨M, hM⟩ : ∃ M, M = w.heap.size := ⟨_, rfl⟩
  rw [← hM]
  refine calls_of_cx hf hbody ?_
  rw [hnt]
  have hN : (#[Value.slice p len cap] : Array Value).size + (16 - (#[Value.slice p len cap] : Array Value).size) = 16 := rfl
  rw [hN]
  refine cx_seq (cx_region q0 ?_)
  refine ox_val (v := .map none) (fun o ho => x_mv (.inr ho) rfl) (by simp) (by simp) ?_
  refine ox_nil (cx_seq (cx_region q1 ?_))
  refine ox_val (fun o ho => x_makeMap ho) (by simp) (by simp) ?_
  refine ox_val (fun o ho => x_alloc ho vM) (by simp) (by simp) ?_
  obtain ⟨w2, hw2⟩ : ∃ w2, w2 = (w.alloc (.map #[] 0)).alloc (.cells (Value.map none).cells tM) := ⟨_, rfl⟩
  rw [← hw2, World.size_alloc, ← hM]
  have hsz2 : w2.heap.size = M + 2 := by rw [hw2, World.size_alloc, World.size_alloc, ← hM]
  have hS2 : At w2 (M + 1) #[.map none] tM := by
    have : At w2 (w.alloc (.map #[] 0)).heap.size (Value.map none).cells tM := by rw [hw2]; exact At.new
    rw [World.size_alloc, ← hM] at this; exact this
  have hM2 : w2.heap[M]? = some (.map #[] 0) := by
    rw [hw2, alloc_old (by rw [World.size_alloc]; omega), hM]; exact World.alloc_heap_new w _
  have hB2 : Below M w w2 := by rw [hw2]; exact ((Below.refl _ w).alloc (by omega) _).alloc (by simp; omega) _
  refine ox_skip (fun o ho => x_store (b := M + 1) (j := 0) ho zM (by simp [ev, mkv, upd]) (by simp [ev, mkv, upd, Value.cells]) (by simp [ev, mkv, upd, Value.cells, Value.scalar]) hS2 (by simp)) (by simp) (by simp) ?_
  obtain ⟨w3, hw3⟩ : ∃ w3, w3 = World.putRow w2 (M + 1) 0 [.map (some M)] := ⟨_, rfl⟩
  rw [show World.putRow w2 (M + 1) 0 _ = w3 from by rw [hw3]; simp [ev, mkv, upd, Value.cells]]
  have hS3 : At w3 (M + 1) #[.map (some M)] tM := by
    have := putRow_at (w := w2) (off := 0) (vs := [.map (some M)]) hS2
    rw [← hw3] at this
    exact this
  have hM3 : w3.heap[M]? = some (.map #[] 0) := by rw [hw3, putRow_ne (by omega)]; exact hM2
  have hB3 : Below M w w3 := by rw [hw3]; exact Below.putRow hB2 (by omega)
  have hsz3 : w3.heap.size = M + 2 := by rw [hw3]; simp [World.putRow, hsz2]
  refine ox_nil (cx_seq (cx_seq (cx_region q2 ?_)))
  refine ox_val (v := .slice p len cap) (fun o ho => x_mv (.inl ho) (by simp [ev, upd, updO, σ0])) (by simp) (by simp) ?_
  refine ox_call (fun o ho => x_call ho rfl C.entersB) (by simp) (by simp) (by
    have := backward_fn (w := w3) C (.slice p len cap) rfl
    simpa [ev, mkv] using this) ?_
  rintro e w4 ⟨rfl, hw4⟩
  refine ⟨_, rfl, ?_⟩
  have hT4 : At w4 (M + 2) #[.slice p len cap] tL := by rw [hw4, ← hsz3]; exact At.new
  have hS4 : At w4 (M + 1) #[.map (some M)] tM := by rw [hw4]; exact hS3.alloc
  have hM4 : w4.heap[M]? = some (.map #[] 0) := by rw [hw4, alloc_old (by omega)]; exact hM3
  have hB4 : Below M w w4 := by rw [hw4]; exact hB3.alloc (by omega) _
  have hsz4 : w4.heap.size = M + 3 := by rw [hw4, World.size_alloc, hsz3]
  refine ox_nil (cx_block (cx_range (gf := fc) (lb := #[.pointer (some ⟨M + 2, 0, none⟩)]) (by simp [ev, mkv, hsz3]) CB.enters ?_))
  intro fnr tmps hσ
  rw [hsz4]
  obtain ⟨W0, hW0⟩ : ∃ W0, W0 = (w4.alloc (.deferred (some []))).alloc (.loop (recOf fnr tmps #[9, 10] (.region i3 ops3 false) (.block b1 (.region i4 ops4 false)) (M + 3) .ready none)) := ⟨_, rfl⟩
  rw [← hW0]
  have hszW0 : W0.heap.size = M + 5 := by rw [hW0, World.size_alloc, World.size_alloc, hsz4]
  -- what holds between the rounds
  obtain ⟨J, hJd⟩ : ∃ J : Nat → World → Prop, J = fun k W => Below M w W ∧ M + 5 ≤ W.heap.size ∧ At W (M + 1) #[.map (some M)] tM ∧ At W (M + 2) #[.slice p len cap] tL ∧ W.heap[M + 3]? = some (.deferred (some [])) ∧
      W.heap[M + 4]? = some (.loop (recOf fnr tmps #[9, 10] (.region i3 ops3 false) (.block b1 (.region i4 ops4 false)) (M + 3) .ready none)) ∧
      ∃ esk es', visibleL (cs.drop (3 * (len - k))) = some esk ∧ W.heap[M]? = some (.map es' esk.length) ∧ Ents φ ν esk es'.toList := ⟨_, rfl⟩
  have hJ0 : J 0 W0 := by
    rw [hJd]
    refine ⟨?_, by omega, ?_, ?_, ?_, ?_, [], #[], ?_, ?_, ⟨rfl, by simp⟩⟩
    · rw [hW0]; exact (hB4.alloc (by omega) _).alloc (by simp; omega) _
    · rw [hW0]; exact hS4.alloc.alloc
    · rw [hW0]; exact hT4.alloc.alloc
    · rw [hW0, alloc_old (by simp; omega), ← hsz4]; exact World.alloc_heap_new w4 _
    · have := World.alloc_heap_new (w4.alloc (.deferred (some []))) (.loop (recOf fnr tmps #[9, 10] (.region i3 ops3 false) (.block b1 (.region i4 ops4 false)) (M + 3) .ready none))
      rw [World.size_alloc, hsz4] at this
      rw [hW0]; exact this
    · rw [List.drop_of_length_le (by omega)]; rfl
    · rw [hW0, alloc_old (by simp; omega), alloc_old (by omega)]; exact hM4
  refine (backward_iter CB hL aL aS zS (l := M + 4) (T := M + 2) (len := len) (cap := cap) (b := b) (o := o) (p := p) (el := el) (by omega) hp (by rw [hel]; simp) J ?_ ?_ hJ0).mono ?_
  · -- what the iterator reads
    intro k W hj
    rw [hJd] at hj
    obtain ⟨jB, jsz, jS, jT, jD, jR, _⟩ := hj
    refine ⟨jT.cell rfl, fun i hi j u hu => ?_⟩
    have hb : w.cell? ⟨b, o + (i * 3 + j), none⟩ = some u := by
      refine hcell _ _ ?_
      rw [hel] at hu
      have h3 : 3 * i + 3 ≤ us.length := by omega
      match j, hu with
      | 0, hu => simp at hu; subst hu; rw [Nat.mul_comm 3 i]; exact getD_some (by omega)
      | 1, hu => simp at hu; subst hu; rw [Nat.mul_comm 3 i]; exact getD_some (by omega)
      | 2, hu => simp at hu; subst hu; rw [Nat.mul_comm 3 i]; exact getD_some (by omega)
      | j + 3, hu => simp at hu
    have hlt := World.block_lt_of_cell? _ _ hb
    rw [Nat.add_assoc, jB.cell (p := ⟨b, o + (i * 3 + j), none⟩) (by rw [hM]; exact hlt)]
    exact hb
  · -- a round
    intro k W hk hj
    rw [hJd] at hj
    obtain ⟨jB, jsz, jS, jT, jD, jR, esk, es', je, jM, jE⟩ := hj
    obtain ⟨x, y, zz, hd, hx, hy, hz⟩ := drop3 (l := cs) (i := len - 1 - k) (by omega)
    obtain ⟨es1, hes1⟩ := visibleL_suffix (len - 1 - k) hes (by omega)
    have hes1' := hes1
    rw [hd] at hes1'
    obtain ⟨es0, r, h0, hfind, hes1e⟩ := visibleL_step hes1'
    rw [show len - 1 - k + 1 = len - k from by omega, je] at h0
    cases h0
    obtain ⟨ux, cx, hux⟩ := concL_get hus _ _ hx
    obtain ⟨uy, cy, huy⟩ := concL_get hus _ _ hy
    obtain ⟨uz, cz, huz⟩ := concL_get hus _ _ hz
    have hele : el (len - 1 - k) = [ux, uy, uz] := by rw [hel]; simp [hux, huy, huz]
    rw [hele]
    have hsx : ∀ u ∈ [ux, uy, uz], Value.scalar u = true := by
      intro u hu
      have hall := scalars_conc hsc hus
      simp only [List.mem_cons, List.mem_nil_iff, or_false] at hu
      rcases hu with rfl | rfl | rfl
      · exact hall _ (List.mem_of_getElem? hux)
      · exact hall _ (List.mem_of_getElem? huy)
      · exact hall _ (List.mem_of_getElem? huz)
    refine ⟨_, _, _, _, run_yield jR rfl, fun m => round_x (N := 16) (D := M + 3) (fn := fnr) (tmps := tmps) (ps := #[9, 10]) (assign := .region i3 ops3 false) (body := .block b1 (.region i4 ops4 false)) (upd2_is hσ) ?_⟩
    obtain ⟨X, hX⟩ : ∃ X, X = W.heap.size := ⟨_, rfl⟩
    refine cx_region q3 ?_
    refine ox_val (fun o ho => x_alloc ho vS) (by simp) (by simp) ?_
    rw [← hX]
    obtain ⟨W1, hW1⟩ : ∃ W1, W1 = W.alloc (.cells z.cells tS) := ⟨_, rfl⟩
    rw [← hW1]
    have aX1 : At W1 X z.cells tS := by rw [hW1, hX]; exact At.new
    refine ox_skip (fun o ho => x_store (b := X) (j := 0) ho zS (by simp [ev, mkv, upd]) (by simp [ev, mkv, upd, Value.cells]) (by simpa [ev, mkv, upd, Value.cells] using hsx) aX1 (by omega)) (by simp) (by simp) ?_
    obtain ⟨W2, hW2⟩ : ∃ W2, W2 = World.putRow W1 X 0 [ux, uy, uz] := ⟨_, rfl⟩
    rw [show World.putRow W1 X 0 _ = W2 from by rw [hW2]; simp [ev, mkv, upd, Value.cells]]
    have old2 : ∀ q, q < X → W2.heap[q]? = W.heap[q]? := fun q hq => by rw [hW2, putRow_ne (by omega), hW1, alloc_old (by omega)]
    have aX2 : At W2 X (wr z.cells 0 [ux, uy, uz]) tS := by rw [hW2]; exact putRow_at aX1
    refine ox_nil ⟨(old2 _ (by omega)).trans jR, cx_block (cx_region q4 ?_)⟩
    obtain ⟨W3, hW3⟩ : ∃ W3, W3 = W2.putObj (M + 4) (.loop (recOf fnr tmps #[9, 10] (.region i3 ops3 false) (.block b1 (.region i4 ops4 false)) (M + 3) .busy none)) := ⟨_, rfl⟩
    rw [← hW3]
    have old3 : ∀ q, q ≠ M + 4 → W3.heap[q]? = W2.heap[q]? := fun q hq => by rw [hW3]; exact World.putObj_heap_other hq
    have hsz3' : W3.heap.size = X + 1 := by rw [hW3, World.putObj_size, hW2]; simp [World.putRow, hW1, hX]
    have aX3 : At W3 X (wr z.cells 0 [ux, uy, uz]) tS := (old3 _ (by omega)).trans aX2
    have cX3 : ∀ (i : Nat) (u : Value), [ux, uy, uz][i]? = some u → W3.cell? ⟨X, 0 + i, none⟩ = some u := by
      intro i u hu
      refine aX3.cell ?_
      have hi := (List.getElem?_eq_some_iff.1 hu).1
      rw [wr_get _ _ _ _ (by simp; omega), if_pos ⟨by omega, by omega⟩]
      simpa using hu
    have aS3 : At W3 (M + 1) #[.map (some M)] tM := ((old3 _ (by omega)).trans (old2 _ (by omega))).trans jS
    have aM3 : W3.heap[M]? = some (.map es' esk.length) := ((old3 _ (by omega)).trans (old2 _ (by omega))).trans jM
    refine ox_val (v := .map (some M)) (fun o ho => x_load1 ho aM (b := M + 1) (j := 0) (by simp [ev, upd, updO]) (aS3.cell rfl)) (by simp) (by simp) ?_
    refine ox_val (v := .pointer (some ⟨X, 0, none⟩)) (fun o ho => x_fa0 (b := X) (j := 0) ho uS hfd hoff zfd (by simp) (by simp [ev, upd, updO])) (by simp) (by simp) ?_
    refine ox_val (v := ux) (fun o ho => x_load1 ho aN (b := X) (j := 0) (by simp [ev, mkv, upd]) (cX3 0 ux rfl)) (by simp) (by simp) ?_
    refine ox_val (v := .agg [ux, uy, uz].toArray) (fun o ho => x_loadn ho aS zS (b := X) (j := 0) (us := [ux, uy, uz]) (by simp [ev, upd, updO]) rfl cX3) (by simp) (by simp) ?_
    have hag : conc φ ν (.agg [x, y, zz]) = some (.agg #[ux, uy, uz]) := by simp [conc, concL, cx, cy, cz]
    have hupd : ∀ o : Oper, ∀ σ' : Tmp → Value, o.op = .mapUpdate tM (.tmp 11) (.tmp 13) (.tmp 14) → σ' 11 = .map (some M) → σ' 13 = ux → σ' 14 = .agg #[ux, uy, uz] →
        ∃ (es2' : Array MapEntry), (execOp (ev σ') o).run P W3 = .ok .skip (W3.putObj M (.map es2' es1.length)) ∧ Ents φ ν es1 es2'.toList := by
      intro o σ' ho t11 t13 t14
      obtain ⟨es2', clock2, es2, h1, h2, h3⟩ := x_upd (P := P) (w := W3) (ρ := ev σ') (o := o) (φ := φ) (ν := ν) (kv := x) (vv := .agg [x, y, zz]) (M := M) (clock := esk.length) (es := esk) (es' := es') (r := r) he ho uM kN (by simp [ev, t11]) (by simp [ev, t13, cx])
        (by simp [ev, t14, hag]) rfl hfind aM3 jE (fun _ _ _ _ _ => rfl)
      cases r with
      | none =>
        obtain ⟨q1, q2⟩ := h3
        have : es2 = es1 := by rw [q1]; exact hes1e.symm
        subst this
        refine ⟨es2', ?_, h2⟩
        rw [h1, q2, q1]; simp
      | some jv =>
        obtain ⟨q1, q2⟩ := h3
        have : es2 = es1 := by rw [q1]; exact hes1e.symm
        subst this
        refine ⟨es2', ?_, h2⟩
        rw [h1, q2, q1, setVal_length]
    obtain ⟨es2', hrun2, hE2⟩ : ∃ es2' : Array MapEntry, (∀ (σ' : Tmp → Value) (o : Oper), o.op = .mapUpdate tM (.tmp 11) (.tmp 13) (.tmp 14) → σ' 11 = .map (some M) → σ' 13 = ux → σ' 14 = .agg #[ux, uy, uz] →
        (execOp (ev σ') o).run P W3 = .ok .skip (W3.putObj M (.map es2' es1.length))) ∧ Ents φ ν es1 es2'.toList := by
      obtain ⟨o0, ho0⟩ : ∃ o : Oper, o.op = .mapUpdate tM (.tmp 11) (.tmp 13) (.tmp 14) := ⟨{ dst := none, op := _, type := 0, pos := "", after := #[], guard := none }, rfl⟩
      obtain ⟨es2', h1, h2⟩ := hupd o0 (fun t => if t = 11 then .map (some M) else if t = 13 then ux else .agg #[ux, uy, uz]) ho0 rfl rfl rfl
      refine ⟨es2', fun σ' o ho t11 t13 t14 => ?_, h2⟩
      rw [← h1]
      simp only [execOp, ho, ho0, ev, t11, t13, t14]
      rfl
    refine ox_skip (fun o ho => hrun2 _ o ho (by simp [mkv, upd]) (by simp [mkv, upd]) (by simp [mkv, upd])) (by simp) (by simp) ?_
    refine ox_nil ?_
    obtain ⟨W4, hW4⟩ : ∃ W4, W4 = W3.putObj M (.map es2' es1.length) := ⟨_, rfl⟩
    rw [← hW4]
    have old4 : ∀ q, q ≠ M → W4.heap[q]? = W3.heap[q]? := fun q hq => by rw [hW4]; exact World.putObj_heap_other hq
    have hsz4' : W4.heap.size = X + 1 := by rw [hW4, World.putObj_size, hsz3']
    have aR4 : W4.heap[M + 4]? = some (.loop (recOf fnr tmps #[9, 10] (.region i3 ops3 false) (.block b1 (.region i4 ops4 false)) (M + 3) .busy none)) := by
      rw [old4 _ (by omega), hW3]
      exact World.putObj_heap_same (by rw [show W2.heap.size = X + 1 from by rw [hW2]; simp [World.putRow, hW1, hX]]; omega)
    show XQ.blk b1 _ .normal _ _ _
    refine ⟨rfl, aR4, rfl, ?_⟩
    rw [hJd]
    obtain ⟨W5, hW5⟩ : ∃ W5, W5 = W4.putObj (M + 4) (.loop (recOf fnr tmps #[9, 10] (.region i3 ops3 false) (.block b1 (.region i4 ops4 false)) (M + 3) .ready none)) := ⟨_, rfl⟩
    rw [← hW5]
    have old5 : ∀ q, q ≠ M + 4 → W5.heap[q]? = W4.heap[q]? := fun q hq => by rw [hW5]; exact World.putObj_heap_other hq
    have far : ∀ q, q < X → q ≠ M → q ≠ M + 4 → W5.heap[q]? = W.heap[q]? := fun q h1 h2 h3 => by rw [old5 q h3, old4 q h2, old3 q h3, old2 q h1]
    refine ⟨?_, ?_, (far _ (by omega) (by omega) (by omega)).trans jS, (far _ (by omega) (by omega) (by omega)).trans jT, (far _ (by omega) (by omega) (by omega)).trans jD, ?_, es1, es2', ?_, ?_, hE2⟩
    · refine jB.trans ?_
      rw [hW5, hW4, hW3, hW2, hW1]
      exact below_put (below_put (below_put (Below.putRow ((Below.refl M W).alloc (by omega) _) (by omega)) (by omega) (by simp [World.putRow]; omega)) (by omega) (by simp [World.putRow]; omega)) (by omega) (by simp [World.putRow]; omega)
    · rw [hW5, World.putObj_size]; omega
    · rw [hW5]; exact World.putObj_heap_same (by omega)
    · rw [show len - (k + 1) = len - 1 - k from by omega]; exact hes1
    · rw [old5 _ (by omega), hW4]
      exact World.putObj_heap_same (by omega)
  · rintro e W ⟨rfl, hj⟩
    rw [hJd] at hj
    obtain ⟨jB, jsz, jS, jT, jD, jR, esk, es', je, jM, jE⟩ := hj
    have : esk = es := by rw [Nat.sub_self, Nat.mul_zero, List.drop_zero, hes] at je; cases je; rfl
    subst this
    refine ⟨⟨_, rfl⟩, jR, ?_⟩
    show XQ.blk b0 _ .normal _ _ _
    have keep : ∀ (o' : Obj) (q : Nat), q ≠ M + 4 → (W.putObj (M + 4) o').heap[q]? = W.heap[q]? := fun o' q hq => World.putObj_heap_other hq
    refine cx_seq (cx_region q5 ?_)
    refine ox_val (v := .map (some M)) (fun o ho => x_load1 ho aM (b := M + 1) (j := 0) (by simp [ev, upd, updO]) (At.cell (cs := #[.map (some M)]) (t := tM) ((keep _ _ (by omega)).trans jS) rfl)) (by simp) (by simp) ?_
    refine ox_val (v := .map (some M)) (fun o ho => x_mv (.inr ho) (by simp [ev, mkv])) (by simp) (by simp) ?_
    refine ox_nil (cx_ret ?_)
    refine ⟨_, .inr ⟨M + 3, rfl, (keep _ _ (by omega)).trans jD, rfl⟩, .map (some M), fun tmps' ht => ?_, rfl, ?_, ?_, es', ?_, jE⟩
    · rw [results_tmp hres, ht 2]; simp [mkv]
    · exact below_put (below_put jB (by omega) (by omega)) (by omega) (by simp; omega)
    · simp; omega
    · rw [World.putObj_heap_other (by omega), keep _ _ (by omega)]; exact jM
end Go.Ev
namespace Go.Ev
open Go Go.RowKit
variable {P : Program} {E : TyE} {β : Type}
/-- facts on the types of types.visible -/
structure VisTypes (P : Program) (E : TyE) (tM tN tS tL : TypeId) : Prop where
  uM : E.und tM = some (.map tN tS)
  kN : E.key tN = some (.leaf .str)
  hL : P.underlying tL = some (.slice tS)
  aL : ∀ w, (isAgg tL).run P w = .ok false w
  aS : ∀ w, (isAgg tS).run P w = .ok true w
  aM : ∀ w, (isAgg tM).run P w = .ok false w
  zS : ∀ w, (sizeOf tS).run P w = .ok 3 w
  zM : ∀ w, (sizeOf tM).run P w = .ok 1 w
  vS : ∃ z : Value, z.cells.size = 3 ∧ ∀ w, (zeroValue tS).run P w = .ok z w
  vM : ∀ w, (zeroValue tM).run P w = .ok (.map none) w
  fS : ∃ fs fd, P.underlying tS = some (.struct fs) ∧ fs[0]? = some fd ∧ fd.offset = 0 ∧ ∀ w, (sizeOf fd.type).run P w = .ok 1 w
/-- a new map in a world that has grown -/
theorem HR.newMap {φ : Phi} {ν : Nu} {w0 w w' : World} {h : AH} (H : HR ν w0 φ h w) (hb : Below w.heap.size w w') (hlt : w.heap.size < w'.heap.size) {es : List (AV × AV × Nat)} {es' : Array MapEntry} {clock : Nat} (hm : w'.heap[w.heap.size]? = some (.map es' clock)) (hE : Ents φ ν es es'.toList) :
    HR ν w0 (φ.upd h.next ⟨w.heap.size, 0, 0, 0⟩) (h.alloc (.map es clock)) w' ∧ Ev φ h (φ.upd h.next ⟨w.heap.size, 0, 0, 0⟩) (h.alloc (.map es clock)) := by
  have hf : φ h.next = none := (H.fr h.next (Nat.le_refl _)).1
  refine (H.grow hb).place (ob := .map es clock) (i := ⟨w.heap.size, 0, 0, 0⟩) (by intro _ _ _ _ _ e; cases e) hlt (fun p j hp e => by have := (H.ob p j hp).1; rw [e] at this; exact Nat.lt_irrefl _ this) (fun k o hk e => by have := (Array.getElem?_eq_some_iff.1 (H.priv k o hk).1).1; rw [e] at this; exact Nat.lt_irrefl _ this) ?_
  exact ⟨H.below.size, es', hm, by have := hE.1; simpa using this, fun j x hx => by
    obtain ⟨y, hy, hc⟩ := hE.2 j x hx
    exact ⟨y, by simpa using hy, concE_mono (Phi.le_upd hf) hc⟩⟩
theorem intr_visible {fv fb fc : FuncId} {tM tS tL tN tI tB : TypeId} (he : EnvOK P E) (C : VisCode P fv fb fc tM tS tL) (CB : BwCode P fc tL tS tI tB) (T : VisTypes P E tM tN tS tL) : IntrOK (β := β) P E fv iVisible := by
  intro run _ cl _ args h k res hx
  unfold iVisible at hx
  split at hx
  · rename_i s
    obtain ⟨n, hn, hx⟩ := opt_some hx
    obtain ⟨hle, hx⟩ := bif_some hx
    have hle : n ≤ 1000 := by rw [Nat.ble_eq] at hle; exact hle
    -- the cells
    have fin : ∀ (cs : List AV), (bif scalars cs then opt (visibleL cs) (fun es => newK h (.map es es.length) (fun b h' => k false (.map b) h')) else none) = some res → cs.length = n * 3 →
        (∀ φ ν w0 w us, HR ν w0 φ h w → concL φ ν [s] = some us → ∃ p cap b o vs, us = [.slice p n cap] ∧ (0 < n → p = some ⟨b, o, none⟩) ∧ concL φ ν cs = some vs ∧ ∀ j u, vs[j]? = some u → w.cell? ⟨b, o + j, none⟩ = some u) →
        ∃ p v h', k p v h' = some res ∧ Answers P fv [s] h p v h' := by
      intro cs hx hcs hrd
      obtain ⟨hsc, hx⟩ := bif_some hx
      obtain ⟨es, hes, hx⟩ := opt_some hx
      rw [newK_eq] at hx
      refine ⟨_, _, _, hx, ?_⟩
      intro φ ν w0 w us H hc
      obtain ⟨p, cap, b, o, vs, rfl, hp, hvs, hcell⟩ := hrd φ ν w0 w us H hc
      refine .inl ⟨C.entersV _ _, ?_⟩
      refine (visible_fn he C CB T.uM T.kN T.hL T.aL T.aS T.aM T.zS T.zM T.vS T.vM T.fS hle hp hcs hsc hvs hcell hes).mono ?_
      rintro e w' ⟨rfl, hb, hlt, es', hm, hE⟩
      obtain ⟨H', ev⟩ := H.newMap hb hlt hm hE
      exact ⟨_, _, ev, H', by simp [conc, Phi.upd_self], rfl, rfl⟩
    unfold sliceCellsK at hx
    cases s <;> first | (cases hn; done) | (cases hx; done) | skip
    · cases hn
      refine fin [] hx rfl ?_
      intro φ ν w0 w us H hc
      simp only [concL, conc, Option.bind_some, Option.map_some, Option.some.injEq] at hc
      exact ⟨none, 0, 0, 0, [], hc.symm, by simp, rfl, by simp⟩
    · rename_i b e m cap
      cases hn
      obtain ⟨l, g1, g2, hx⟩ := loadCellsK_spec hx
      refine fin l hx g1 ?_
      intro φ ν w0 w us H hc
      simp only [concL, Option.bind_eq_some_iff, Option.map_some, Option.some.injEq] at hc
      obtain ⟨u, hu, rfl⟩ := hc
      obtain ⟨i, hi, rfl⟩ := conc_slice hu
      obtain ⟨vs, h1, h2, h3⟩ := load_list H hi g2
      exact ⟨_, _, i.blk, _, vs, rfl, fun _ => rfl, h1, fun j u hj => h3 j u hj⟩
    · cases hn
      rename_i b e z
      refine fin [] hx rfl ?_
      intro φ ν w0 w us H hc
      simp only [concL, conc, Option.bind_eq_some_iff, Option.map_some, Option.some.injEq, Option.map_eq_some_iff] at hc
      obtain ⟨u, ⟨i, hi, rfl⟩, rfl⟩ := hc
      exact ⟨_, _, 0, 0, [], rfl, by simp, rfl, by simp⟩
  · cases hx
end Go.Ev
namespace Go.Ev
open Go Go.RowKit
variable {P : Program} {E : TyE} {w : World} {ρ : Operand → Value} {o : Oper}

/-! ### a range over a map, step by step, in whatever order -/
theorem x_range {t kt el : TypeId} {x : Operand} {m clock : Nat} {es : Array MapEntry} (ho : o.op = .range t x) (ht : P.underlying t = some (.map kt el)) (hx : ρ x = .map (some m)) (hm : w.heap[m]? = some (.map es clock)) :
    (execOp ρ o).run P w = .ok (.value (.pointer (some ⟨w.heap.size, 0, none⟩))) (w.alloc (.mapIter (some m) clock #[] clock)) := by
  have := run_range_map (P := P) w t kt el m es clock ht hm
  simp [execOp, ho, hx, this]
theorem x_next {_ty : TypeId} {x : Operand} {I m since last clock : Nat} {seen : Array Nat} {es : Array MapEntry} (ho : o.op = .next x false) (hx : ρ x = .pointer (some ⟨I, 0, none⟩)) (hI : w.heap[I]? = some (.mapIter (some m) since seen last)) (hm : w.heap[m]? = some (.map es clock))
    (hold : ∀ x ∈ es.toList, x.born < since) (hsc : since ≤ last) :
    ((∀ e ∈ es.toList, seen.contains e.born = true) ∧ (execOp ρ o).run P w = .ok (.value (.tuple #[.bool false])) w) ∨
    ∃ e ∈ es.toList, seen.contains e.born = false ∧ ∃ dr, (execOp ρ o).run P w = .ok (.value (.tuple #[.bool true, e.key, e.val])) (({ w with drawn := dr } : World).putObj I (.mapIter (some m) since (seen.push e.born) clock)) := by
  have hrun : (execOp ρ o).run P w = ((Instr.next (.pointer (some ⟨I, 0, none⟩)) false o.type).run P w).andThen fun v w' => .ok (.value v) w' := by
    simp [execOp, ho, hx]
  rw [hrun]
  simp only [Instr.next, getObj, Sem.run_bind, Sem.run, hI, hm, Result.andThen, next_test_false seen es since last hold hsc, Bool.false_eq_true, if_false]
  obtain ⟨L, hL⟩ : ∃ L, L = Array.filter (fun e => !seen.contains e.born) es := ⟨_, rfl⟩
  rw [← hL]
  have hmem : ∀ x ∈ L.toList, x.born < since := fun x hx => hold x (by rw [hL] at hx; simp at hx ⊢; exact hx.1)
  have e1 : L.filter (fun x => decide (x.born < since)) = L := Array.filter_eq_self.2 (fun x hx => by simpa using hmem x (by simpa using hx))
  have e2 : L.filter (fun x => decide (x.born ≥ since)) = #[] := by
    rw [Array.filter_eq_empty_iff]
    intro x hx
    have := hmem x (by simpa using hx)
    simp
    omega
  simp only [e1, e2, Array.append_empty]
  by_cases h0 : L.size = 0
  · left
    have hE : L = #[] := Array.eq_empty_of_size_eq_zero h0
    refine ⟨fun e he => ?_, ?_⟩
    · cases hq : seen.contains e.born with
      | true => rfl
      | false =>
        have : e ∈ L := by rw [hL]; simp at he ⊢; exact ⟨he, by simpa using hq⟩
        rw [hE] at this; simp at this
    · subst hE
      simp [choose, Sem.run, Question.forced]
  · right
    have hne : L.isEmpty = false := by simp [Array.isEmpty, h0]
    simp only [hne, Bool.false_eq_true, if_false, Array.empty_append, Array.size_map]
    have hch : ∃ (j : Nat) (dr : Nat), j < L.size ∧ (choose (Question.mapNext L.size)).run P w = .ok j ({ w with drawn := dr } : World) := by
      by_cases hf : L.size ≤ 1
      · exact ⟨0, w.drawn, by omega, by simp [choose, Sem.run, Question.forced, hf]⟩
      · exact ⟨_, w.drawn + 1, Nat.mod_lt _ (by omega), by
          simp only [choose, Sem.run, Question.forced, decide_eq_true_eq, hf, if_false, Question.cut]
          rfl⟩
    obtain ⟨j, dr, hj, hch⟩ := hch
    have hall : ∀ x ∈ L, x ∈ es ∧ seen.contains x.born = false := by
      intro x hx
      rw [hL, Array.mem_filter] at hx
      exact ⟨hx.1, by simpa using hx.2⟩
    have hjm := hall _ (Array.getElem_mem hj)
    refine ⟨L[j], by simpa using hjm.1, hjm.2, dr, ?_⟩
    have hset : ∀ o', (setObj I o').run P ({ w with drawn := dr } : World) = .ok () (({ w with drawn := dr } : World).putObj I o') := fun o' => by
      simp [setObj, Sem.run, hI, World.putObj]
    simp only [hch, Array.getElem?_map, Array.getElem?_eq_getElem hj, Option.map_some, Sem.run_bind, hset, Result.andThen]
    rfl
theorem x_entry {x : Operand} {I m since clock : Nat} {seen : Array Nat} {es : Array MapEntry} {e : MapEntry} (ho : o.op = .entry x) (hx : ρ x = .pointer (some ⟨I, 0, none⟩)) (hI : w.heap[I]? = some (.mapIter (some m) since (seen.push e.born) clock)) (hm : w.heap[m]? = some (.map es clock))
    (he : e ∈ es.toList) (hn : (es.toList.map (·.born)).Nodup) : (execOp ρ o).run P w = .ok (.value (.tuple #[e.key, e.val])) w := by
  have hf : es.find? (·.born == e.born) = some e := by rw [← Array.find?_toList]; exact find_born e es.toList hn he
  have hrun : (execOp ρ o).run P w = ((Instr.entry (.pointer (some ⟨I, 0, none⟩))).run P w).andThen fun v w' => .ok (.value v) w' := by
    simp [execOp, ho, hx]
  rw [hrun]
  simp only [Instr.entry, getObj, Sem.run_bind, Sem.run, hI, hm, Result.andThen, Array.back?_push, bne_self_eq_false, Bool.false_eq_true, if_false, hf]
  rfl
theorem x_ext {x : Operand} {k : Nat} {vs : Array Value} {v : Value} (ho : o.op = .extract x k) (hx : ρ x = .tuple vs) (hk : vs[k]? = some v) : (execOp ρ o).run P w = .ok (.value v) w := by
  simp [execOp, ho, hx, Instr.extract, hk]
end Go.Ev
namespace Go.Ev
open Go Go.RowKit
variable {P : Program} {E : TyE} {w : World} {n N : Nat}

/-! ### maps.Keys of a map whose keys are structs of three cells: the iterator -/
structure KeysCode (P : Program) (fk : FuncId) (tM tF tB : TypeId) : Prop where
  ex : ∃ fn i0 i1 i2 i3 b0 b1 ops0 ops1 ops2 ops3, P.funcs[fk]? = some fn ∧ fn.ntmps = 14 ∧ fn.results = #[] ∧
    fn.body = some (.seq (.region i0 ops0 false) (.block b0 (.loop (.seq (.region i1 ops1 false) (.seq (.cond (.tmp 7) .skip (.exit b0)) (.block b1 (.seq (.region i2 ops2 false) (.seq (.region i3 ops3 false) (.cond (.tmp 13) .ret .skip))))))))) ∧
    IsOps ops0 [(some 4, .load tM (.tmp 1)), (some 5, .range tM (.tmp 4))] ∧
    IsOps ops1 [(some 6, .next (.tmp 5) false), (some 7, .extract (.tmp 6) 0)] ∧
    IsOps ops2 [(some 8, .entry (.tmp 5)), (some 9, .extract (.tmp 8) 0), (some 3, .alloc tF), (none, .store tF (.tmp 3) (.tmp 9))] ∧
    IsOps ops3 [(some 10, .move (.tmp 0)), (some 11, .load tF (.tmp 3)), (some 12, .call { callee := .value (.tmp 10), args := #[.tmp 11], argTypes := #[tF] }), (some 13, .unOp .not tB (.tmp 12))]
  enters : ∀ args w, (callFunc fk args).run P w = .ok (.enter fk args) w
theorem grownBy_putRow {W W1 : World} {X o : Nat} {vs : List Value} {row : Option Nat} (h : W.grownBy W1 row) (hX : W.heap.size ≤ X) : W.grownBy (World.putRow W1 X o vs) row :=
  ⟨h.os, h.tape, h.output, by have := h.size; simpa [World.putRow] using this, fun k hk hr => (putRow_ne (by omega)).trans (h.block k hk hr)⟩
theorem grownBy_but {a c : World} (h : a.grownBy c none) (row : Option Nat) : a.grownBy c row := ⟨h.os, h.tape, h.output, h.size, fun i hi _ => h.block i hi (by simp)⟩
theorem grownBy_next {W : World} {dr I : Nat} {o : Obj} : W.grownBy (({ W with drawn := dr } : World).putObj I o) (some I) :=
  ⟨rfl, rfl, rfl, by simp, fun k hk hr => World.putObj_heap_other (fun e => hr (by rw [e]))⟩
theorem perm_rest {α : Type} {vis rest l : List α} {e : α} (h : (vis ++ rest).Perm l) (he : e ∈ rest) : ∃ rest', rest'.length + 1 = rest.length ∧ ((vis ++ [e]) ++ rest').Perm l := by
  obtain ⟨l1, l2, rfl⟩ := List.append_of_mem he
  refine ⟨l1 ++ l2, by simp; omega, List.Perm.trans ?_ h⟩
  rw [List.append_assoc]
  refine List.Perm.append_left vis ?_
  exact (List.perm_middle (a := e) (l₁ := l1) (l₂ := l2)).symm
set_option maxHeartbeats 1000000 in
theorem keys_iter {fk : FuncId} {tM kt et tF tB : TypeId} (C : KeysCode P fk tM tF tB) (uM : P.underlying tM = some (.map kt et)) (aM : ∀ w, (isAgg tM).run P w = .ok false w) (aF : ∀ w, (isAgg tF).run P w = .ok true w) (zF : ∀ w, (sizeOf tF).run P w = .ok 3 w)
    (vF : ∃ z : Value, z.cells.size = 3 ∧ ∀ w, (zeroValue tF).run P w = .ok z w)
    {l T m clock : Nat} {es : Array MapEntry} (hborn : ∀ e ∈ es.toList, e.born < clock) (hnd : (es.toList.map (·.born)).Nodup) (hkey : ∀ e ∈ es.toList, ∃ ks : List Value, e.key = .agg ks.toArray ∧ ks.length = 3 ∧ ∀ u ∈ ks, Value.scalar u = true)
    (J : List MapEntry → World → Prop) (hJ : ∀ vis W, J vis W → W.cell? ⟨T, 0, none⟩ = some (.map (some m)) ∧ W.heap[m]? = some (.map es clock) ∧ m < w.heap.size ∧ w.heap.size ≤ W.heap.size)
    (hRob : ∀ vis W W', J vis W → W.grownBy W' (some w.heap.size) → (∀ o, W.heap[w.heap.size]? = some o → o.isWalk = true) → J vis W')
    (hR : ∀ vis e W it, J vis W → e ∈ es.toList → e ∉ vis → W.heap[w.heap.size]? = some it → it.isWalk = true → ∃ fn tmps assign body, (Instr.yield l #[e.key]).run P W = .ok (.round l fn tmps assign body) W ∧
      ∀ m, RoundIn Fence.wide m P l fn tmps assign body W (fun en W' => en = .returned (.bool true) ∧ J (vis ++ [e]) W' ∧ W'.heap[w.heap.size]? = some it))
    (h0 : J [] w) : Calls P fk #[.func (.yield l) #[] #[], .pointer (some ⟨T, 0, none⟩)] w fun e w' => e = .returned (.tuple #[]) ∧ ∃ vis, vis.Perm es.toList ∧ J vis w' := by
  obtain ⟨fn, i0, i1, i2, i3, b0, b1, ops0, ops1, ops2, ops3, hf, hnt, hres, hbody, q0, q1, q2, q3⟩ := C.ex
  obtain ⟨z, hz3, vF⟩ := vF
  have hfin : ∀ tmps w, (results fn tmps).run P w = .ok (.tuple #[]) w := fun tmps w => results_none hres tmps P w
  refine calls_of_cx hf hbody ?_
  rw [hnt]
  have hN : (#[Value.func (.yield l) #[] #[], .pointer (some ⟨T, 0, none⟩)] : Array Value).size + (14 - (#[Value.func (.yield l) #[] #[], .pointer (some ⟨T, 0, none⟩)] : Array Value).size) = 14 := rfl
  rw [hN]
  obtain ⟨σs, hσs⟩ : ∃ σs, σs = σ0 #[Value.func (.yield l) #[] #[], .pointer (some ⟨T, 0, none⟩)] := ⟨_, rfl⟩
  have s0 : σs 0 = .func (.yield l) #[] #[] := by rw [hσs]; rfl
  have s1 : σs 1 = .pointer (some ⟨T, 0, none⟩) := by rw [hσs]; rfl
  rw [← hσs]
  clear hσs hN
  obtain ⟨I, hI⟩ : ∃ I, I = w.heap.size := ⟨_, rfl⟩
  rw [← hI] at hRob hR hJ
  -- the loop
  have hnde : es.toList.Nodup := (List.pairwise_map.1 hnd).imp fun h e => h (by rw [e])
  have loop : ∀ k vis rest W σ seen, rest.length = k → (vis ++ rest).Perm es.toList → J vis W → σ 0 = .func (.yield l) #[] #[] → σ 5 = .pointer (some ⟨I, 0, none⟩) → W.heap[I]? = some (.mapIter (some m) clock seen clock) →
      (∀ e ∈ es.toList, seen.contains e.born = true ↔ e ∈ vis) →
      LX none 0 P 14 (.seq (.region i1 ops1 false) (.seq (.cond (.tmp 7) .skip (.exit b0)) (.block b1 (.seq (.region i2 ops2 false) (.seq (.region i3 ops3 false) (.cond (.tmp 13) .ret .skip))))))
        (XQ.blk b0 (bodyX P fn fun e w' => e = .returned (.tuple #[]) ∧ ∃ vis, vis.Perm es.toList ∧ J vis w')) σ [] W := by
    intro k
    induction k with
    | zero =>
      intro vis rest W σ seen hk hp hj t0 t5 hIt hseen
      have hr : rest = [] := List.eq_nil_of_length_eq_zero hk
      subst hr
      rw [List.append_nil] at hp
      obtain ⟨hc, hm, hlt, hsz⟩ := hJ vis W hj
      refine lx_round (cx_seq (cx_region q1 ?_))
      obtain ⟨o0, ho0⟩ : ∃ o : Oper, o.op = .next (.tmp 5) false := ⟨{ dst := none, op := _, type := 0, pos := "", after := #[], guard := none }, rfl⟩
      refine ox_val (v := .tuple #[.bool false]) (w' := W) (fun o ho => ?_) (by simp) (by simp) ?_
      · rcases x_next (P := P) (_ty := 0) (ρ := ev σ) ho (by simp [ev, t5]) hIt hm hborn (Nat.le_refl _) with ⟨_, h2⟩ | ⟨e, he, hs, _⟩
        · exact h2
        · have := (hseen e he).2 (hp.symm.subset he)
          rw [hs] at this; cases this
      refine ox_val (v := .bool false) (fun o ho => x_ext (vs := #[.bool false]) ho (by simp [ev, mkv]) rfl) (by simp) (by simp) ?_
      refine ox_nil (cx_seq (cx_false (by simp [ev, mkv]) (cx_exit ?_)))
      show XQ.blk b0 _ (.exit b0) _ _ _
      simp only [XQ.blk, if_true]
      exact ⟨W, .inl ⟨rfl, rfl⟩, _, fun tmps _ => hfin tmps W, rfl, vis, hp, hj⟩
    | succ k ih =>
      intro vis rest W σ seen hk hp hj t0 t5 hIt hseen
      obtain ⟨hc, hm, hlt, hsz⟩ := hJ vis W hj
      have hndr : (vis ++ rest).Nodup := hp.nodup_iff.2 hnde
      -- what next gives
      have hnext : ∃ e ∈ es.toList, seen.contains e.born = false ∧ ∃ dr, ∀ o : Oper, o.op = .next (.tmp 5) false → (execOp (ev σ) o).run P W = .ok (.value (.tuple #[.bool true, e.key, e.val])) (({ W with drawn := dr } : World).putObj I (.mapIter (some m) clock (seen.push e.born) clock)) := by
        obtain ⟨o0, ho0⟩ : ∃ o : Oper, o.op = .next (.tmp 5) false := ⟨{ dst := none, op := _, type := 0, pos := "", after := #[], guard := none }, rfl⟩
        rcases x_next (P := P) (_ty := 0) (ρ := ev σ) ho0 (by simp [ev, t5]) hIt hm hborn (Nat.le_refl _) with ⟨h1, _⟩ | ⟨e, he, hs, dr, hrun⟩
        · exfalso
          cases rest with
          | nil => simp at hk
          | cons e rest =>
            have he : e ∈ es.toList := hp.subset (by simp)
            have := (hseen e he).1 (h1 e he)
            exact (List.nodup_append.1 hndr).2.2 e this e (by simp) rfl
        · refine ⟨e, he, hs, dr, fun o ho => ?_⟩
          rw [← hrun]
          have hty : o.op = o0.op := ho.trans ho0.symm
          simp only [execOp, ho, ho0, Instr.next]
      obtain ⟨e, he, hs, dr, hrun⟩ := hnext
      have hev : e ∉ vis := fun h => by have := (hseen e he).2 h; rw [hs] at this; cases this
      have her : e ∈ rest := by
        have := hp.symm.subset he
        rcases List.mem_append.1 this with h | h
        · exact absurd h hev
        · exact h
      obtain ⟨rest', hl', hp'⟩ := perm_rest hp her
      obtain ⟨ks, hke, hkl, hks⟩ := hkey e he
      obtain ⟨W1, hW1⟩ : ∃ W1, W1 = ({ W with drawn := dr } : World).putObj I (.mapIter (some m) clock (seen.push e.born) clock) := ⟨_, rfl⟩
      rw [← hW1] at hrun
      have hIlt : I < W.heap.size := (Array.getElem?_eq_some_iff.1 hIt).1
      have hI1 : W1.heap[I]? = some (.mapIter (some m) clock (seen.push e.born) clock) := by rw [hW1]; exact World.putObj_heap_same hIlt
      have hj1 : J vis W1 := hRob vis W W1 hj (by rw [hW1]; exact grownBy_next) (fun o ho => by rw [hIt] at ho; cases ho; rfl)
      have hsz1 : W1.heap.size = W.heap.size := by rw [hW1]; simp
      obtain ⟨hc1, hm1, _, _⟩ := hJ vis W1 hj1
      refine lx_round (cx_seq (cx_region q1 ?_))
      refine ox_val (fun o ho => hrun o ho) (by simp) (by simp) ?_
      refine ox_val (v := .bool true) (fun o ho => x_ext (vs := #[.bool true, e.key, e.val]) ho (by simp [ev, mkv]) rfl) (by simp) (by simp) ?_
      refine ox_nil (cx_seq (cx_true (by simp [ev, mkv]) (cx_skip ?_)))
      refine cx_block (cx_seq (cx_region q2 ?_))
      refine ox_val (v := .tuple #[e.key, e.val]) (fun o ho => x_entry ho (by simp [ev, mkv, upd, t5]) hI1 hm1 he hnd) (by simp) (by simp) ?_
      refine ox_val (v := e.key) (fun o ho => x_ext (vs := #[e.key, e.val]) ho (by simp [ev, mkv]) rfl) (by simp) (by simp) ?_
      refine ox_val (fun o ho => x_alloc ho vF) (by simp) (by simp) ?_
      obtain ⟨X, hX⟩ : ∃ X, X = W1.heap.size := ⟨_, rfl⟩
      rw [← hX]
      obtain ⟨W2, hW2⟩ : ∃ W2, W2 = W1.alloc (.cells z.cells tF) := ⟨_, rfl⟩
      rw [← hW2]
      have aX2 : At W2 X z.cells tF := by rw [hW2, hX]; exact At.new
      refine ox_skip (fun o ho => x_store (b := X) (j := 0) ho zF (by simp [ev, mkv, upd]) (by simp [ev, mkv, upd, hke, Value.cells, hkl]) (by simpa [ev, mkv, upd, hke, Value.cells] using hks) aX2 (by omega)) (by simp) (by simp) ?_
      obtain ⟨W3, hW3⟩ : ∃ W3, W3 = World.putRow W2 X 0 ks := ⟨_, rfl⟩
      rw [show World.putRow W2 X 0 _ = W3 from by rw [hW3]; simp [ev, mkv, upd, hke, Value.cells]]
      have aX3 : At W3 X (wr z.cells 0 ks) tF := by rw [hW3]; exact putRow_at aX2
      have cX3 : ∀ (i : Nat) (u : Value), ks[i]? = some u → W3.cell? ⟨X, 0 + i, none⟩ = some u := by
        intro i u hu
        refine aX3.cell ?_
        have hi := (List.getElem?_eq_some_iff.1 hu).1
        rw [wr_get _ _ _ _ (by omega), if_pos ⟨by omega, by omega⟩]
        simpa using hu
      have hg13 : W1.grownBy W3 (some I) := by rw [hW3, hW2]; exact grownBy_putRow (grownBy_but (World.grownBy_alloc W1 _ none) _) (by omega)
      have hj3 : J vis W3 := hRob vis W1 W3 hj1 hg13 (fun o ho => by rw [hI1] at ho; cases ho; rfl)
      have hI3 : W3.heap[I]? = some (.mapIter (some m) clock (seen.push e.born) clock) := by
        rw [hW3, putRow_ne (by omega), hW2, alloc_old (by omega)]; exact hI1
      refine ox_nil (cx_seq (cx_region q3 ?_))
      refine ox_val (v := .func (.yield l) #[] #[]) (fun o ho => x_mv (.inl ho) (by simp [ev, upd, updO, t0])) (by simp) (by simp) ?_
      refine ox_val (v := .agg ks.toArray) (fun o ho => x_loadn ho aF zF (b := X) (j := 0) (us := ks) (by simp [ev, upd, updO]) hkl cX3) (by simp) (by simp) ?_
      obtain ⟨fn', tmps', assign, body, hy, hr⟩ := hR vis e W3 _ hj3 he hev hI3 rfl
      refine ox_round (fun q ho => by
        rw [x_yield ho (l := l) (by simp [ev, mkv, upd])]
        simp only [List.map_toArray, List.map_cons, List.map_nil]
        rw [show ev _ (.tmp 11) = e.key from by rw [hke]; simp [ev, mkv, upd]]
        exact hy) (by simp) (by simp) hr ?_
      rintro en W' ⟨rfl, hj', hI'⟩
      refine ⟨_, rfl, ?_⟩
      refine ox_val (v := .bool false) (fun q ho => by rw [x_not (b := true) ho (by simp [ev, mkv])]; rfl) (by simp) (by simp) ?_
      refine ox_nil (cx_false (by simp [ev, mkv]) (cx_skip ?_))
      show LX _ _ _ _ _ _ _ _ _
      refine ih (vis ++ [e]) rest' W' _ (seen.push e.born) (by omega) hp' hj' (by simp [upd, updO, t0]) (by simp [upd, updO, t5]) hI' ?_
      intro y hy
      rw [Array.contains_push, Bool.or_eq_true, hseen y hy, List.mem_append, List.mem_singleton]
      refine or_congr_right ?_
      rw [beq_iff_eq]
      exact ⟨fun h => born_inj hnd hy he h, fun h => by rw [h]⟩
  obtain ⟨hc, hm, hlt, _⟩ := hJ [] w h0
  refine cx_seq (cx_region q0 ?_)
  refine ox_val (v := .map (some m)) (fun o ho => x_load1 ho aM (b := T) (j := 0) (by simp [ev, s1]) hc) (by simp) (by simp) ?_
  refine ox_val (fun o ho => x_range ho uM (by simp [ev, mkv]) hm) (by simp) (by simp) ?_
  rw [← hI]
  have hJ1 : J [] (w.alloc (.mapIter (some m) clock #[] clock)) := hRob _ _ _ h0 (grownBy_but (World.grownBy_alloc w _ none) _) (by intro o ho; rw [hI] at ho; simp at ho)
  refine ox_nil (cx_block (cx_loop (loop es.size [] es.toList _ _ #[] (by simp) (by simp) hJ1 ?_ ?_ ?_ ?_)))
  · simp [mkv, upd, s0]
  · simp [mkv]
  · rw [hI]; exact World.alloc_heap_new w _
  · intro e he; simp
end Go.Ev
namespace Go.Ev
open Go Go.RowKit
variable {P : Program} {E : TyE} {w : World} {n N : Nat} {ρ : Operand → Value} {o : Oper}

/-! ### append of one struct of three cells, at a world that is known -/
/-- a slice of structs that reads xs, in a block of its own from n0 on -/
def Row3 (W : World) (tF n0 : Nat) (v : Value) (k : Nat) (xs : List Value) : Prop :=
  (k = 0 ∧ v = .slice none 0 0 ∧ xs = []) ∨ ∃ B cap cs, v = .slice (some ⟨B, 0, none⟩) k cap ∧ n0 ≤ B ∧ At W B cs tF ∧ cap * 3 ≤ cs.size ∧ (0 < k ∧ k ≤ cap) ∧ xs.length = k * 3 ∧ ∀ (j : Nat) (u : Value), xs[j]? = some u → cs[j]? = some u
theorem run_first {b j k : Nat} {us : List Value} {c : Nat} (hl : us.length = k * 3) (hc : ∀ (i : Nat) (u : Value), us[i]? = some u → w.cell? ⟨b, j + i, none⟩ = some u) :
    ∀ w2 : World, w2.heap = w.heap → (Builtin.firstCells 3 k (.slice (some ⟨b, j, none⟩) k c)).run P w2 = .ok us.toArray w2 := by
  intro w2 hh
  have hcell : ∀ p, w2.cell? p = w.cell? p := fun p => by simp only [World.cell?, hh]
  have := run_loadCells (P := P) (w := w2) b j us 0 (k * 3) #[] hl (fun i u hi => by rw [hcell]; simpa using hc i u hi)
  simpa [Builtin.firstCells, loadCells] using this
theorem x_app_op {v v' : Value} {w' : World} {s x : Operand} {Y : Nat} {ts : Array TypeId} (ho : o.op = .call { callee := .builtin .append, args := #[s, x], argTypes := ts }) (hs : ρ s = v) (hx : ρ x = .slice (some ⟨Y, 0, none⟩) 1 1)
    (h : ∀ ty, (Builtin.append_ ts ty #[v, .slice (some ⟨Y, 0, none⟩) 1 1]).run P w = .ok v' w') : (execOp ρ o).run P w = .ok (.value v') w' := by
  simp only [execOp, ho, resolve, invoke, builtin]
  simp [hs, hx, h]
theorem x_app {tL tF tX : TypeId} {ti : TypeInfo} {z v : Value} {n0 k Y : Nat} {xs ks : List Value} {ts : Array TypeId} (he : EnvOK P E)
    (hts : ts[0]? = some tL) (h1 : NoZeros E ts) (uL : E.und tL = some (.slice tF)) (iF : E.ty tF = some ti) (hsz : ti.size = 3) (hby : ti.bytes ≤ 10000) (hz : ti.zero = some z) (hzc : z.cells.size = 3)
    (hv : Row3 w tF n0 v k xs) (hY : At w Y ks.toArray tX) (hks : ks.length = 3) (hsc : ∀ u ∈ ks, Value.scalar u = true) (hk : k ≤ 100000) (hn0 : n0 ≤ w.heap.size) :
    ∃ v' w' row, (∀ ty, (Builtin.append_ ts ty #[v, .slice (some ⟨Y, 0, none⟩) 1 1]).run P w = .ok v' w') ∧ Row3 w' tF n0 v' (k + 1) (xs ++ ks) ∧ w.grownBy w' row ∧ (∀ B, row = some B → n0 ≤ B ∧ ∃ cs, At w B cs tF) := by
  have hl : (Builtin.lenOf (.slice (some ⟨Y, 0, none⟩) 1 1)).run P w = .ok 1 w := by simp [Builtin.lenOf]
  have hyc : ∀ (i : Nat) (u : Value), ks[i]? = some u → w.cell? ⟨Y, 0 + i, none⟩ = some u := fun i u hu => hY.cell (by simpa using hu)
  have hf := run_first (P := P) (w := w) (b := Y) (j := 0) (k := 1) (c := 1) (by omega) hyc
  have hE : E.size tF = some 3 := by simp [TyE.size, iF, hsz]
  -- a new row
  have fresh : ∀ {base : Option Addr} {cap : Nat}, v = .slice base k cap → cap < k + 1 → xs.length = k * 3 → (∀ w2 : World, w2.heap = w.heap → (Builtin.firstCells 3 k (.slice base k cap)).run P w2 = .ok xs.toArray w2) →
      ∃ v' w' row, (∀ ty, (Builtin.append_ ts ty #[v, .slice (some ⟨Y, 0, none⟩) 1 1]).run P w = .ok v' w') ∧ Row3 w' tF n0 v' (k + 1) (xs ++ ks) ∧ w.grownBy w' row ∧ (∀ B, row = some B → n0 ≤ B ∧ ∃ cs, At w B cs tF) := by
    intro base cap hvv hg hxl hold
    have hb : (k + 1) * ti.bytes ≤ 140737488355328 := Nat.le_trans (Nat.mul_le_mul (by omega : k + 1 ≤ 100001) hby) (by decide)
    have hrun := fun ty => run_append_new (ty := ty) (w := w) (base := base) (sLen := k) (sCap := cap) he hts h1 uL iF hz hl (by rw [hsz]; exact hf) (by rw [hsz]; exact hold) hg (by omega) hb
    have hge := grown_ge w (k + 1) cap tF
    refine ⟨_, _, none, (by rw [hvv]; exact hrun), Or.inr ⟨w.heap.size, _, _, rfl, hn0, World.alloc_heap_new w.drew _, ?_, ⟨by omega, hge⟩, by simp [hxl, hks]; omega, ?_⟩, ?_, by intro B e; cases e⟩
    · simp only [Array.size_append, List.size_toArray, List.length_append, Builtin.zeroCells, Array.size_map, Array.size_range, hzc, hxl, hks]
      omega
    · intro j u hj
      have := (List.getElem?_eq_some_iff.1 hj).1
      rw [Array.getElem?_append_left (by simpa using this)]; simpa using hj
    · have := World.grownBy_alloc w.drew (.cells ((xs ++ ks).toArray ++ Builtin.zeroCells z.cells (grownCap w (k + 1) cap tF - (k + 1))) tF) none
      exact ⟨this.os, this.tape, this.output, this.size, this.block⟩
  rcases hv with ⟨rfl, hv0, rfl⟩ | ⟨B, cap, cs, hvB, hB, hAt, hcap, hkc, hxl, hxs⟩
  · refine fresh hv0 (by omega) rfl ?_
    intro w2 _
    simp [Builtin.firstCells]
  · have hxc : ∀ (i : Nat) (u : Value), xs[i]? = some u → w.cell? ⟨B, 0 + i, none⟩ = some u := fun i u hu => hAt.cell (by simpa using hxs i u hu)
    by_cases hfit : k + 1 ≤ cap
    · have hst := run_storeCells (P := P) (blk := B) (t := tF) (fz := (0, 0)) (by simp) ks (k * 3) 0 w cs hsc hAt (by rw [hks]; omega)
      have hrun := fun ty => run_append_fit (ty := ty) (w := w) (base := some ⟨B, 0, none⟩) (sLen := k) (sCap := cap) he hts h1 uL hE hl (by have := hf w rfl; simpa using this) hfit (.inr ⟨_, rfl, by rw [Addr.add_mk, Nat.zero_add]; simpa using hst⟩)
      refine ⟨_, _, some B, (by rw [hvB]; exact hrun), Or.inr ⟨B, cap, wr cs (k * 3) ks, rfl, hB, putRow_at hAt, by rw [wr_size]; exact hcap, ⟨by omega, hfit⟩, by simp [hxl, hks]; omega, ?_⟩, ?_, ?_⟩
      · intro j u hj
        rw [wr_get _ _ _ _ (by rw [hks]; omega)]
        rw [List.getElem?_append] at hj
        split at hj
        · rename_i hlt
          rw [if_neg (by omega)]; exact hxs j u hj
        · rename_i hlt
          have := (List.getElem?_eq_some_iff.1 hj).1
          rw [if_pos ⟨by omega, by omega⟩, ← hxl]; exact hj
      · exact ⟨rfl, rfl, rfl, by simp [World.putRow], fun q hq hr => putRow_ne (fun e => hr (by rw [e]))⟩
      · intro B' e; cases e; exact ⟨hB, cs, hAt⟩
    · exact fresh hvB (by omega) hxl (run_first hxl hxc)
theorem fill_one {A : Array Value} {u : Value} (hA : A.size = 3) (hu : u.cells.size = 3) : Instr.fill (fun i => some (i * 3, 3)) A [(0, u)] = some u.cells := by
  have hf : (u.cells.zipIdx.foldl (fun cs (x : Value × Nat) => cs.setIfInBounds (0 * 3 + x.2) x.1) A) = u.cells := by
    rw [← Array.foldl_toList, Array.toList_zipIdx, zip_wr (0 * 3) u.cells.toList 0 A]
    apply Array.ext_getElem?
    intro j
    rw [wr_get _ _ _ _ (by simp; omega)]
    by_cases hj : j < 3
    · rw [if_pos ⟨by omega, by simp; omega⟩]; simp
    · rw [if_neg (by simp; omega), Array.getElem?_eq_none (by omega), Array.getElem?_eq_none (by omega)]
  simp only [Instr.fill]
  rw [if_neg (by simp [hu, hA])]
  exact congrArg some hf
theorem x_mks1 {tL tF : TypeId} {x : Operand} {u : Value} (ho : o.op = .buildSlice tL 1 #[(0, x)]) (uL : P.underlying tL = some (.slice tF)) (zF : ∀ w, (sizeOf tF).run P w = .ok 3 w) {z : Value} (_hz3 : z.cells.size = 3) (vF : ∀ w, (zeroValue tF).run P w = .ok z w)
    (hx : ρ x = u) (hu : u.cells.size = 3) : (execOp ρ o).run P w = .ok (.value (.slice (some ⟨w.heap.size, 0, none⟩) 1 1)) (w.alloc (.cells u.cells tF)) := by
  have := run_underlying (P := P) (w := w) uL
  simp only [execOp, ho, Sem.run_bind, Instr.buildSlice]
  simp [this, zF, vF, hx, newRow]
  rw [fill_one (by simp) hu]
  simp
end Go.Ev
namespace Go.Ev
open Go Go.RowKit
variable {P : Program} {E : TyE} {w : World} {n N : Nat}

/-! ### slices.AppendSeq over the keys of a map -/
structure SeqCode (P : Program) (fa fk : FuncId) (tL tF : TypeId) : Prop where
  ex : ∃ fn i0 i1 i2 i3 i4 b0 b1 ops0 ops1 ops2 ops3 ops4, P.funcs[fa]? = some fn ∧ fn.ntmps = 13 ∧ fn.results = #[.tmp 4] ∧
    fn.body = some (.seq (.region i0 ops0 false) (.seq (.seq (.region i1 ops1 false) (.block b0 (.rangeFunc (.tmp 6) #[7] (.region i2 ops2 false) (.block b1 (.region i3 ops3 false))))) (.seq (.region i4 ops4 false) .ret))) ∧
    IsOps ops0 [(some 2, .box tL (.tmp 0)), (some 4, .assign (.const (.slice none 0 0)))] ∧
    IsOps ops1 [(some 6, .move (.tmp 1))] ∧
    IsOps ops2 [(some 5, .alloc tF), (none, .store tF (.tmp 5) (.tmp 7))] ∧
    IsOps ops3 [(some 8, .load tL (.tmp 2)), (some 9, .load tF (.tmp 5)), (some 10, .buildSlice tL 1 #[(0, .tmp 9)]), (some 11, .call { callee := .builtin .append, args := #[.tmp 8, .tmp 10], argTypes := #[tL, tL] }), (none, .store tL (.tmp 2) (.tmp 11))] ∧
    IsOps ops4 [(some 12, .load tL (.tmp 2)), (some 4, .assign (.tmp 12))]
  enters : ∀ args w, (callFunc fa args).run P w = .ok (.enter fa args) w
/-- facts on the types of a set's keys -/
structure SetTypes (P : Program) (E : TyE) (tM kt et tF tL : TypeId) (ti : TypeInfo) (z : Value) : Prop where
  uM : P.underlying tM = some (.map kt et)
  uL : E.und tL = some (.slice tF)
  iF : E.ty tF = some ti
  sz : ti.size = 3
  by_ : ti.bytes ≤ 10000
  hz : ti.zero = some z
  hzc : z.cells.size = 3
  nz : NoZeros E #[tL, tL]
  aM : ∀ w, (isAgg tM).run P w = .ok false w
  aL : ∀ w, (isAgg tL).run P w = .ok false w
  aF : ∀ w, (isAgg tF).run P w = .ok true w
  zF : ∀ w, (sizeOf tF).run P w = .ok 3 w
  zL : ∀ w, (sizeOf tL).run P w = .ok 1 w
  vF : ∀ w, (zeroValue tF).run P w = .ok z w
def cellsOf (vis : List MapEntry) : List Value := vis.flatMap fun e => e.key.cells.toList
theorem Row3.slice {W : World} {tF n0 k : Nat} {v : Value} {xs : List Value} (h : Row3 W tF n0 v k xs) : v.cells = #[v] ∧ Value.scalar v = true := by
  rcases h with ⟨_, rfl, _⟩ | ⟨B, cap, cs, rfl, _⟩ <;> exact ⟨rfl, rfl⟩
theorem Row3.same {W W' : World} {tF n0 k : Nat} {v : Value} {xs : List Value} (h : Row3 W tF n0 v k xs) (hs : ∀ B, n0 ≤ B → B < W.heap.size → W'.heap[B]? = W.heap[B]?) : Row3 W' tF n0 v k xs := by
  rcases h with h | ⟨B, cap, cs, h1, h2, h3, h4⟩
  · exact .inl h
  · exact .inr ⟨B, cap, cs, h1, h2, (hs B h2 h3.lt).trans h3, h4⟩
theorem upd1_is {tmps : Array Value} {σ : Tmp → Value} {a : Value} (h : EvalIs { tmps, defers := [] } σ 13) : EvalIs { tmps := ((#[7] : Array Tmp).zip #[a]).foldl (fun tmps (t, a) => tmps.setIfInBounds t a) tmps, defers := [] } (upd σ 7 a) 13 := by
  have h1 := h.put (d := some 7) (v := a) (by simp)
  have e : ((#[7] : Array Tmp).zip #[a]).foldl (fun tmps (t, a) => tmps.setIfInBounds t a) tmps = tmps.setIfInBounds 7 a := by simp
  rw [e]; exact h1
set_option maxHeartbeats 2000000 in
theorem appendSeq_fn {fa fk : FuncId} {tM kt et tF tL tB : TypeId} {ti : TypeInfo} {z : Value} (he : EnvOK P E) (C : SeqCode P fa fk tL tF) (CK : KeysCode P fk tM tF tB) (T : SetTypes P E tM kt et tF tL ti z)
    {Tb m clock : Nat} {es : Array MapEntry} (hborn : ∀ e ∈ es.toList, e.born < clock) (hnd : (es.toList.map (·.born)).Nodup) (hkey : ∀ e ∈ es.toList, ∃ ks : List Value, e.key = .agg ks.toArray ∧ ks.length = 3 ∧ ∀ u ∈ ks, Value.scalar u = true)
    (hes : es.size ≤ 100000) (hT : w.cell? ⟨Tb, 0, none⟩ = some (.map (some m))) (hm : w.heap[m]? = some (.map es clock)) :
    Calls P fa #[.slice none 0 0, .func (.func fk) #[] #[.pointer (some ⟨Tb, 0, none⟩)]] w fun e w' => ∃ v vis, e = .returned v ∧ vis.Perm es.toList ∧ Row3 w' tF w.heap.size v vis.length (cellsOf vis) ∧ Below w.heap.size w w' := by
  obtain ⟨fn, i0, i1, i2, i3, i4, b0, b1, ops0, ops1, ops2, ops3, ops4, hf, hnt, hres, hbody, q0, q1, q2, q3, q4⟩ := C.ex
  obtain ⟨S, hS⟩ : ∃ S, S = w.heap.size := ⟨_, rfl⟩
  have hTlt : Tb < S := by rw [hS]; exact World.block_lt_of_cell? _ _ hT
  have hmlt : m < S := by rw [hS]; exact (Array.getElem?_eq_some_iff.1 hm).1
  rw [← hS]
  refine calls_of_cx hf hbody ?_
  rw [hnt]
  have hN : (#[Value.slice none 0 0, .func (.func fk) #[] #[.pointer (some ⟨Tb, 0, none⟩)]] : Array Value).size + (13 - (#[Value.slice none 0 0, .func (.func fk) #[] #[.pointer (some ⟨Tb, 0, none⟩)]] : Array Value).size) = 13 := rfl
  rw [hN]
  obtain ⟨σs, hσs⟩ : ∃ σs, σs = σ0 #[Value.slice none 0 0, .func (.func fk) #[] #[.pointer (some ⟨Tb, 0, none⟩)]] := ⟨_, rfl⟩
  have s0 : σs 0 = .slice none 0 0 := by rw [hσs]; rfl
  have s1 : σs 1 = .func (.func fk) #[] #[.pointer (some ⟨Tb, 0, none⟩)] := by rw [hσs]; rfl
  rw [← hσs]
  clear hσs hN
  refine cx_seq (cx_region q0 ?_)
  refine ox_val (fun o ho => x_box ho) (by simp) (by simp) ?_
  obtain ⟨w1, hw1⟩ : ∃ w1, w1 = w.alloc (.cells #[.slice none 0 0] tL) := ⟨_, rfl⟩
  rw [← hS, show w.alloc (.cells (ev σs (.tmp 0)).cells tL) = w1 from by rw [hw1]; simp [ev, s0, Value.cells]]
  have hS1 : At w1 S #[.slice none 0 0] tL := by rw [hw1, hS]; exact At.new
  have hsz1 : w1.heap.size = S + 1 := by rw [hw1, World.size_alloc, ← hS]
  have hB1 : Below S w w1 := by rw [hw1]; exact (Below.refl _ w).alloc (by omega) _
  refine ox_val (v := .slice none 0 0) (fun o ho => x_mv (.inr ho) rfl) (by simp) (by simp) ?_
  refine ox_nil (cx_seq (cx_seq (cx_region q1 ?_)))
  refine ox_val (v := .func (.func fk) #[] #[.pointer (some ⟨Tb, 0, none⟩)]) (fun o ho => x_mv (.inl ho) (by simp [ev, mkv, upd, s1])) (by simp) (by simp) ?_
  refine ox_nil (cx_block (cx_range (gf := fk) (lb := #[.pointer (some ⟨Tb, 0, none⟩)]) (by simp [ev, mkv]) CK.enters ?_))
  intro fnr tmps hσ
  rw [hsz1]
  obtain ⟨rec, hrec⟩ : ∃ rec : LoopState → Loop, rec = fun st => recOf fnr tmps #[7] (.region i2 ops2 false) (.block b1 (.region i3 ops3 false)) (S + 1) st none := ⟨_, rfl⟩
  obtain ⟨W0, hW0⟩ : ∃ W0, W0 = (w1.alloc (.deferred (some []))).alloc (.loop (recOf fnr tmps #[7] (.region i2 ops2 false) (.block b1 (.region i3 ops3 false)) (S + 1) .ready none)) := ⟨_, rfl⟩
  rw [← hW0]
  have hszW0 : W0.heap.size = S + 3 := by rw [hW0, World.size_alloc, World.size_alloc, hsz1]
  obtain ⟨J, hJd⟩ : ∃ J : List MapEntry → World → Prop, J = fun vis W => Below S w W ∧ S + 3 ≤ W.heap.size ∧ (∃ v, At W S #[v] tL ∧ Row3 W tF (S + 4) v vis.length (cellsOf vis)) ∧ W.heap[S + 1]? = some (.deferred (some [])) ∧
      W.heap[S + 2]? = some (.loop (recOf fnr tmps #[7] (.region i2 ops2 false) (.block b1 (.region i3 ops3 false)) (S + 1) .ready none)) ∧ ∃ rest, (vis ++ rest).Perm es.toList := ⟨_, rfl⟩
  have hJ0 : J [] W0 := by
    rw [hJd]
    refine ⟨?_, by omega, ⟨.slice none 0 0, ?_, .inl ⟨rfl, rfl, rfl⟩⟩, ?_, ?_, es.toList, by simp⟩
    · rw [hW0]; exact (hB1.alloc (by omega) _).alloc (by simp; omega) _
    · rw [hW0]; exact hS1.alloc.alloc
    · rw [hW0, alloc_old (by simp; omega), ← hsz1]; exact World.alloc_heap_new w1 _
    · have := World.alloc_heap_new (w1.alloc (.deferred (some []))) (.loop (recOf fnr tmps #[7] (.region i2 ops2 false) (.block b1 (.region i3 ops3 false)) (S + 1) .ready none))
      rw [World.size_alloc, hsz1] at this
      rw [hW0]; exact this
  refine (keys_iter CK T.uM T.aM T.aF T.zF ⟨z, T.hzc, T.vF⟩ (l := S + 2) (T := Tb) (m := m) (clock := clock) (es := es) hborn hnd hkey J ?_ ?_ ?_ hJ0).mono ?_
  · intro vis W hj
    rw [hJd] at hj
    obtain ⟨jB, jsz, _⟩ := hj
    refine ⟨(jB.cell (p := ⟨Tb, 0, none⟩) hTlt).trans hT, (jB.block m hmlt).trans hm, by omega, by omega⟩
  · intro vis W W' hj hg hwalk
    rw [hszW0] at hg hwalk
    rw [hJd] at hj ⊢
    obtain ⟨jB, jsz, ⟨v, jS, jrow⟩, jD, jR, jp⟩ := hj
    have keep : ∀ q, q < W.heap.size → q ≠ S + 3 → W'.heap[q]? = W.heap[q]? := fun q h1 h2 => hg.block q h1 (fun e => h2 (by cases e; rfl))
    refine ⟨jB.grown hg (by omega) (fun k e => by cases e; omega), by have := hg.size; omega, ⟨v, (keep _ (by omega) (by omega)).trans jS, jrow.same fun B h1 h2 => keep B h2 (by omega)⟩, (keep _ (by omega) (by omega)).trans jD, (keep _ (by omega) (by omega)).trans jR, jp⟩
  · -- a round
    intro vis e W it hj hee hev hIt hwk
    rw [hszW0] at hIt ⊢
    rw [hJd] at hj
    obtain ⟨jB, jsz, ⟨v, jS, jrow⟩, jD, jR, rest, jp⟩ := hj
    obtain ⟨ks, hke, hkl, hks⟩ := hkey e hee
    have hIlt : S + 3 < W.heap.size := (Array.getElem?_eq_some_iff.1 hIt).1
    have her : e ∈ rest := by
      have := jp.symm.subset hee
      rcases List.mem_append.1 this with h | h
      · exact absurd h hev
      · exact h
    obtain ⟨rest', _, jp'⟩ := perm_rest jp her
    have hvl : vis.length ≤ 100000 := by
      have := jp.length_eq
      simp at this
      omega
    refine ⟨_, _, _, _, run_yield jR rfl, fun m => round_x (N := 13) (D := S + 1) (fn := fnr) (tmps := tmps) (ps := #[7]) (assign := .region i2 ops2 false) (body := .block b1 (.region i3 ops3 false)) (upd1_is hσ) ?_⟩
    obtain ⟨X, hX⟩ : ∃ X, X = W.heap.size := ⟨_, rfl⟩
    refine cx_region q2 ?_
    refine ox_val (fun o ho => x_alloc ho T.vF) (by simp) (by simp) ?_
    rw [← hX]
    obtain ⟨W1, hW1⟩ : ∃ W1, W1 = W.alloc (.cells z.cells tF) := ⟨_, rfl⟩
    rw [← hW1]
    have aX1 : At W1 X z.cells tF := by rw [hW1, hX]; exact At.new
    refine ox_skip (fun o ho => x_store (b := X) (j := 0) ho T.zF (by simp [ev, mkv, upd]) (by simp [ev, mkv, upd, hke, Value.cells, hkl]) (by simpa [ev, mkv, upd, hke, Value.cells] using hks) aX1 (by have := T.hzc; omega)) (by simp) (by simp) ?_
    obtain ⟨W2, hW2⟩ : ∃ W2, W2 = World.putRow W1 X 0 ks := ⟨_, rfl⟩
    rw [show World.putRow W1 X 0 _ = W2 from by rw [hW2]; simp [ev, mkv, upd, hke, Value.cells]]
    have old2 : ∀ q, q < X → W2.heap[q]? = W.heap[q]? := fun q hq => by rw [hW2, putRow_ne (by omega), hW1, alloc_old (by omega)]
    have aX2 : At W2 X (wr z.cells 0 ks) tF := by rw [hW2]; exact putRow_at aX1
    have hsz2 : W2.heap.size = X + 1 := by rw [hW2]; simp [World.putRow, hW1, hX]
    refine ox_nil ⟨(old2 _ (by omega)).trans jR, cx_block (cx_region q3 ?_)⟩
    obtain ⟨W3, hW3⟩ : ∃ W3, W3 = W2.putObj (S + 2) (.loop (recOf fnr tmps #[7] (.region i2 ops2 false) (.block b1 (.region i3 ops3 false)) (S + 1) .busy none)) := ⟨_, rfl⟩
    rw [← hW3]
    have old3 : ∀ q, q ≠ S + 2 → W3.heap[q]? = W2.heap[q]? := fun q hq => by rw [hW3]; exact World.putObj_heap_other hq
    have hsz3 : W3.heap.size = X + 1 := by rw [hW3, World.putObj_size, hsz2]
    have aR3 : W3.heap[S + 2]? = some (.loop (recOf fnr tmps #[7] (.region i2 ops2 false) (.block b1 (.region i3 ops3 false)) (S + 1) .busy none)) := by rw [hW3]; exact World.putObj_heap_same (by omega)
    have aX3 : At W3 X (wr z.cells 0 ks) tF := (old3 _ (by omega)).trans aX2
    have cX3 : ∀ (i : Nat) (u : Value), ks[i]? = some u → W3.cell? ⟨X, 0 + i, none⟩ = some u := by
      intro i u hu
      refine aX3.cell ?_
      have hi := (List.getElem?_eq_some_iff.1 hu).1
      rw [wr_get _ _ _ _ (by have := T.hzc; omega), if_pos ⟨by omega, by omega⟩]
      simpa using hu
    have old13 : ∀ q, q < X → q ≠ S + 2 → W3.heap[q]? = W.heap[q]? := fun q h1 h2 => (old3 q h2).trans (old2 q h1)
    have aS3 : At W3 S #[v] tL := (old13 _ (by omega) (by omega)).trans jS
    refine ox_val (v := v) (fun o ho => x_load1 ho T.aL (b := S) (j := 0) (by simp [ev, upd, updO]) (aS3.cell rfl)) (by simp) (by simp) ?_
    refine ox_val (v := .agg ks.toArray) (fun o ho => x_loadn ho T.aF T.zF (b := X) (j := 0) (us := ks) (by simp [ev, upd, updO]) hkl cX3) (by simp) (by simp) ?_
    refine ox_val (fun o ho => x_mks1 (u := .agg ks.toArray) ho (he.und T.uL) T.zF T.hzc T.vF (by simp [ev, mkv]) (by simp [Value.cells, hkl])) (by simp) (by simp) ?_
    rw [hsz3]
    obtain ⟨W4, hW4⟩ : ∃ W4, W4 = W3.alloc (.cells ks.toArray tF) := ⟨_, rfl⟩
    rw [show W3.alloc (.cells (Value.agg ks.toArray).cells tF) = W4 from hW4.symm]
    have aY4 : At W4 (X + 1) ks.toArray tF := by rw [hW4, ← hsz3]; exact At.new
    have old4 : ∀ q, q < X + 1 → W4.heap[q]? = W3.heap[q]? := fun q hq => by rw [hW4]; exact alloc_old (by omega)
    have hsz4 : W4.heap.size = X + 2 := by rw [hW4, World.size_alloc, hsz3]
    have row4 : Row3 W4 tF (S + 4) v vis.length (cellsOf vis) := jrow.same fun B h1 h2 => (old4 B (by omega)).trans (old13 B (by omega) (by omega))
    obtain ⟨v', W5, row, hrun, row5, hg5, hrow⟩ := x_app (P := P) (w := W4) (ts := #[tL, tL]) (v := v) (n0 := S + 4) (k := vis.length) (Y := X + 1) (xs := cellsOf vis) (ks := ks) (z := z) he rfl T.nz T.uL T.iF T.sz T.by_ T.hz T.hzc
      row4 aY4 hkl hks hvl (by omega)
    refine ox_val (v := v') (w' := W5) (fun o ho => x_app_op ho (by simp [ev, mkv, upd]) (by simp [ev, mkv, upd]) hrun) (by simp) (by simp) ?_
    have keep5 : ∀ q, q < X + 2 → (q < S + 4 ∨ ∀ cs, ¬ At W4 q cs tF) → W5.heap[q]? = W4.heap[q]? := fun q h1 h2 => hg5.block q (by omega) (fun e => by
      obtain ⟨q1, cs, q2⟩ := hrow q e.symm
      rcases h2 with h2 | h2
      · omega
      · exact h2 cs q2)
    have hsz5 : X + 2 ≤ W5.heap.size := by have := hg5.size; omega
    have aS5 : At W5 S #[v] tL := (keep5 _ (by omega) (.inl (by omega))).trans ((old4 _ (by omega)).trans aS3)
    have aR5 : W5.heap[S + 2]? = some (.loop (recOf fnr tmps #[7] (.region i2 ops2 false) (.block b1 (.region i3 ops3 false)) (S + 1) .busy none)) := (keep5 _ (by omega) (.inl (by omega))).trans ((old4 _ (by omega)).trans aR3)
    obtain ⟨hv'1, hv'2⟩ := row5.slice
    refine ox_skip (fun o ho => x_store (b := S) (j := 0) ho T.zL (by simp [ev, upd, updO]) (by simp [ev, mkv, hv'1]) (by simp [ev, mkv, hv'1, hv'2]) aS5 (by simp)) (by simp) (by simp) ?_
    obtain ⟨W6, hW6⟩ : ∃ W6, W6 = World.putRow W5 S 0 [v'] := ⟨_, rfl⟩
    rw [show World.putRow W5 S 0 _ = W6 from by rw [hW6]; simp [ev, mkv, hv'1]]
    have aS6 : At W6 S #[v'] tL := by
      have := putRow_at (w := W5) (off := 0) (vs := [v']) aS5
      rw [← hW6] at this
      exact this
    have old6 : ∀ q, q ≠ S → W6.heap[q]? = W5.heap[q]? := fun q hq => by rw [hW6]; exact putRow_ne (fun e => hq e.symm)
    have hsz6 : W6.heap.size = W5.heap.size := by rw [hW6]; simp [World.putRow]
    refine ox_nil ?_
    show XQ.blk b1 _ .normal _ _ _
    refine ⟨rfl, (old6 _ (by omega)).trans aR5, ⟨rfl, ?_, ?_⟩⟩
    · rw [hJd]
      obtain ⟨W7, hW7⟩ : ∃ W7, W7 = W6.putObj (S + 2) (.loop (recOf fnr tmps #[7] (.region i2 ops2 false) (.block b1 (.region i3 ops3 false)) (S + 1) .ready none)) := ⟨_, rfl⟩
      rw [← hW7]
      have old7 : ∀ q, q ≠ S + 2 → W7.heap[q]? = W6.heap[q]? := fun q hq => by rw [hW7]; exact World.putObj_heap_other hq
      refine ⟨?_, ?_, ⟨v', (old7 _ (by omega)).trans aS6, ?_⟩, ?_, ?_, rest', jp'⟩
      · refine jB.trans ?_
        rw [hW7, hW6]
        have b5 : Below S W W5 := by
          have b4 : Below S W W4 := by
            rw [hW4, hW3, hW2, hW1]
            exact (below_put (Below.putRow ((Below.refl S W).alloc (by omega) _) (by omega)) (by omega) (by simp [World.putRow]; omega)).alloc (by simp [World.putRow]; omega) _
          exact b4.grown hg5 (by omega) (fun k e => by obtain ⟨q1, _⟩ := hrow k e; omega)
        exact below_put (Below.putRow b5 (by omega)) (by omega) (by simp [World.putRow]; omega)
      · rw [hW7, World.putObj_size]; omega
      · have := row5.same (W' := W7) fun B h1 h2 => (old7 B (by omega)).trans (old6 B (by omega))
        have hco : cellsOf (vis ++ [e]) = cellsOf vis ++ ks := by simp [cellsOf, hke, Value.cells]
        rw [hco, List.length_append, List.length_singleton]; exact this
      · rw [old7 _ (by omega), old6 _ (by omega), keep5 _ (by omega) (.inl (by omega)), old4 _ (by omega), old13 _ (by omega) (by omega)]; exact jD
      · rw [hW7]; exact World.putObj_heap_same (by omega)
    · rw [World.putObj_heap_other (by omega), old6 _ (by omega), keep5 _ (by omega) (.inl (by omega)), old4 _ (by omega), old13 _ (by omega) (by omega)]; exact hIt
  · rintro e W ⟨rfl, vis, hperm, hj⟩
    rw [hJd] at hj
    obtain ⟨jB, jsz, ⟨v, jS, jrow⟩, jD, jR, _⟩ := hj
    refine ⟨⟨_, rfl⟩, jR, ?_⟩
    show XQ.blk b0 _ .normal _ _ _
    have keep : ∀ (o' : Obj) (q : Nat), q ≠ S + 2 → (W.putObj (S + 2) o').heap[q]? = W.heap[q]? := fun o' q hq => World.putObj_heap_other hq
    refine cx_seq (cx_region q4 ?_)
    refine ox_val (v := v) (fun o ho => x_load1 ho T.aL (b := S) (j := 0) (by simp [ev, upd, updO]) (At.cell (cs := #[v]) (t := tL) ((keep _ _ (by omega)).trans jS) rfl)) (by simp) (by simp) ?_
    refine ox_val (v := v) (fun o ho => x_mv (.inr ho) (by simp [ev, mkv])) (by simp) (by simp) ?_
    refine ox_nil (cx_ret ?_)
    refine ⟨_, .inr ⟨S + 1, rfl, (keep _ _ (by omega)).trans jD, rfl⟩, v, fun tmps' ht => ?_, v, vis, rfl, hperm, ?_, ?_⟩
    · rw [results_tmp hres, ht 4]; simp [mkv]
    · have h1 : Row3 (W.putObj (S + 2) (.loop (recOf fnr tmps #[7] (.region i2 ops2 false) (.block b1 (.region i3 ops3 false)) (S + 1) .exhausted none))) tF (S + 4) v vis.length (cellsOf vis) := jrow.same fun B h1 h2 => keep _ _ (by omega)
      have h2 := h1.same (W' := (W.putObj (S + 2) (.loop (recOf fnr tmps #[7] (.region i2 ops2 false) (.block b1 (.region i3 ops3 false)) (S + 1) .exhausted none))).putObj (S + 1) (.deferred none)) fun B h1 h2 => World.putObj_heap_other (by omega)
      rcases h2 with h2 | ⟨B, cap, cs, a1, a2, a3⟩
      · exact .inl h2
      · exact .inr ⟨B, cap, cs, a1, by omega, a3⟩
    · exact below_put (below_put jB (by omega) (by omega)) (by omega) (by simp; omega)
end Go.Ev
namespace Go.Ev
open Go Go.RowKit
variable {P : Program} {E : TyE} {w : World} {n N : Nat} {β : Type}

/-! ### triples of ints, in order -/
abbrev T3 := Int × Int × Int
def encC (a : T3) : List Value := [.int .i64 a.1, .int .i64 a.2.1, .int .i64 a.2.2]
def encA (a : T3) : AV := .agg [.int .i64 a.1, .int .i64 a.2.1, .int .i64 a.2.2]
def leT (a b : T3) : Bool := factLe (encA a) (encA b)
theorem leT_iff (a b : T3) : leT a b = true ↔ a.1 < b.1 ∨ a.1 = b.1 ∧ (a.2.1 < b.2.1 ∨ a.2.1 = b.2.1 ∧ a.2.2 ≤ b.2.2) := by
  obtain ⟨a1, a2, a3⟩ := a
  obtain ⟨b1, b2, b3⟩ := b
  simp only [leT, encA, factLe, intEq_iff, intLt_iff]
  by_cases h1 : a1 = b1
  · subst h1
    by_cases h2 : a2 = b2
    · subst h2; simp
    · simp [h2]
  · simp [h1]
theorem leT_total (a b : T3) : leT a b = true ∨ leT b a = true := by rw [leT_iff, leT_iff]; omega
theorem leT_trans {a b c : T3} (h1 : leT a b = true) (h2 : leT b c = true) : leT a c = true := by rw [leT_iff] at *; omega
theorem leT_anti {a b : T3} (h1 : leT a b = true) (h2 : leT b a = true) : a = b := by
  rw [leT_iff] at *
  obtain ⟨a1, a2, a3⟩ := a
  obtain ⟨b1, b2, b3⟩ := b
  simp only at h1 h2
  have e1 : a1 = b1 := by omega
  have e2 : a2 = b2 := by omega
  have e3 : a3 = b3 := by omega
  rw [e1, e2, e3]
theorem perm_sorted_eq {l l' : List T3} (hp : l.Perm l') (h1 : l.Pairwise (fun a b => leT a b = true)) (h2 : l'.Pairwise (fun a b => leT a b = true)) : l = l' := by
  induction l generalizing l' with
  | nil => exact (List.perm_nil.1 hp.symm).symm
  | cons a l ih =>
    cases l' with
    | nil => exact absurd hp.symm (by intro h; have := h.length_eq; simp at this)
    | cons b l' =>
      rw [List.pairwise_cons] at h1 h2
      have hab : a = b := by
        have m1 : a ∈ b :: l' := hp.subset (by simp)
        have m2 : b ∈ a :: l := hp.symm.subset (by simp)
        rcases List.mem_cons.1 m1 with e | m1
        · exact e
        · rcases List.mem_cons.1 m2 with e | m2
          · exact e.symm
          · exact leT_anti (h1.1 b m2) (h2.1 a m1)
      subst hab
      rw [ih (List.Perm.cons_inv hp) h1.2 h2.2]
def insT (x : T3) : List T3 → List T3
  | [] => [x]
  | y :: l => bif leT x y then x :: y :: l else y :: insT x l
def sortT : List T3 → List T3
  | [] => []
  | x :: l => insT x (sortT l)
theorem insF_map (x : T3) : ∀ l : List T3, insF (encA x) (l.map encA) = (insT x l).map encA
  | [] => rfl
  | y :: l => by
    have ih := insF_map x l
    simp only [List.map_cons, insF, insT, leT]
    cases factLe (encA x) (encA y)
    · simp [ih]
    · simp
theorem sortF_map : ∀ l : List T3, sortF (l.map encA) = (sortT l).map encA
  | [] => rfl
  | x :: l => by simp only [List.map_cons, sortF, sortT, sortF_map l, insF_map]
theorem insT_perm (x : T3) : ∀ l, (insT x l).Perm (x :: l)
  | [] => .refl _
  | y :: l => by
    simp only [insT]
    cases leT x y
    · exact ((insT_perm x l).cons y).trans (List.Perm.swap x y l)
    · exact .refl _
theorem sortT_perm : ∀ l, (sortT l).Perm l
  | [] => .refl _
  | x :: l => (insT_perm x _).trans ((sortT_perm l).cons x)
theorem insT_sorted (x : T3) : ∀ l : List T3, l.Pairwise (fun a b => leT a b = true) → (insT x l).Pairwise (fun a b => leT a b = true)
  | [], _ => by simp [insT]
  | y :: l, h => by
    simp only [insT]
    cases hxy : leT x y with
    | false =>
      have hyx : leT y x = true := (leT_total x y).resolve_left (by rw [hxy]; simp)
      rw [List.pairwise_cons] at h
      simp only [cond_false, List.pairwise_cons]
      refine ⟨fun z hz => ?_, insT_sorted x l h.2⟩
      rcases List.mem_cons.1 ((insT_perm x l).subset hz) with rfl | hz
      · exact hyx
      · exact h.1 z hz
    | true =>
      simp only [cond_true, List.pairwise_cons]
      have h' := List.pairwise_cons.1 h
      refine ⟨fun z hz => ?_, h'⟩
      rcases List.mem_cons.1 hz with rfl | hz
      · exact hxy
      · exact leT_trans hxy (h'.1 z hz)
theorem sortT_sorted : ∀ l, (sortT l).Pairwise (fun a b => leT a b = true)
  | [] => by simp [sortT]
  | x :: l => insT_sorted x _ (sortT_sorted l)
theorem sortT_eq {l l' : List T3} (hp : l'.Perm l) (hs : l'.Pairwise (fun a b => leT a b = true)) : l' = sortT l :=
  perm_sorted_eq (hp.trans (sortT_perm l).symm) hs (sortT_sorted l)

/-! ### slices.SortFunc, as it is asked for -/
structure SortOK (P : Program) (fs fcmp : FuncId) (tF : TypeId) : Prop where
  enters : ∀ args w, (callFunc fs args).run P w = .ok (.enter fs args) w
  none : ∀ W p cap, Calls P fs #[.slice p 0 cap, .func (.func fcmp) #[] #[]] W fun e W' => e = .returned (.tuple #[]) ∧ W' = W
  some : ∀ (W : World) B cap (l : List T3) cs, At W B cs tF → cap * 3 ≤ cs.size → l.length ≤ cap → l ≠ [] → l.length ≤ 100000 → (∀ (j : Nat) (u : Value), (l.flatMap encC)[j]? = some u → cs[j]? = some u) →
    Calls P fs #[.slice (some ⟨B, 0, Option.none⟩) l.length cap, .func (.func fcmp) #[] #[]] W fun e W' => e = .returned (.tuple #[]) ∧ ∃ (l' : List T3) (cs' : Array Value), l'.Perm l ∧ l'.Pairwise (fun a b => leT a b = true) ∧ At W' B cs' tF ∧ cs'.size = cs.size ∧
      (∀ (j : Nat) (u : Value), (l'.flatMap encC)[j]? = some u → cs'[j]? = some u) ∧ W.grownBy W' (Option.some B)
structure CollCode (P : Program) (fo fc fa fk fy fs fcmp : FuncId) (tM tL tQ tC : TypeId) : Prop where
  keys : ∃ fn i0 i1 ops0 ops1, P.funcs[fy]? = some fn ∧ fn.ntmps = 4 ∧ fn.results = #[.tmp 2] ∧ fn.body = some (.seq (.region i0 ops0 false) (.seq (.region i1 ops1 false) .ret)) ∧
    IsOps ops0 [(some 1, .box tM (.tmp 0)), (some 2, .assign (.const .nilFunc))] ∧
    IsOps ops1 [(some 3, .makeFunc (.func fk) #[] #[.tmp 1]), (some 2, .assign (.tmp 3))]
  coll : ∃ fn i0 i1 ops0 ops1, P.funcs[fc]? = some fn ∧ fn.ntmps = 5 ∧ fn.results = #[.tmp 2] ∧ fn.body = some (.seq (.region i0 ops0 false) (.seq (.region i1 ops1 false) .ret)) ∧
    IsOps ops0 [(some 2, .assign (.const (.slice none 0 0)))] ∧
    IsOps ops1 [(some 3, .move (.tmp 0)), (some 4, .call { callee := .value (.func fa), args := #[.const (.slice none 0 0), .tmp 3], argTypes := #[tL, tQ] }), (some 2, .assign (.tmp 4))]
  sortf : ∃ fn i0 i1 i2 i3 ops0 ops1 ops2 ops3, P.funcs[fo]? = some fn ∧ fn.ntmps = 12 ∧ fn.results = #[.tmp 4] ∧
    fn.body = some (.seq (.region i0 ops0 false) (.seq (.region i1 ops1 false) (.seq (.region i2 ops2 false) (.seq (.region i3 ops3 false) .ret)))) ∧
    IsOps ops0 [(some 4, .assign (.const (.slice none 0 0)))] ∧
    IsOps ops1 [(some 6, .move (.tmp 0)), (some 7, .call { callee := .value (.func fc), args := #[.tmp 6], argTypes := #[tQ] }), (some 5, .assign (.tmp 7))] ∧
    IsOps ops2 [(some 8, .move (.tmp 5)), (some 9, .move (.tmp 1)), (some 10, .call { callee := .value (.func fs), args := #[.tmp 8, .tmp 9], argTypes := #[tL, tC] })] ∧
    IsOps ops3 [(some 11, .move (.tmp 5)), (some 4, .assign (.tmp 11))]
  ek : ∀ args w, (callFunc fy args).run P w = .ok (.enter fy args) w
  ec : ∀ args w, (callFunc fc args).run P w = .ok (.enter fc args) w
  eo : ∀ args w, (callFunc fo args).run P w = .ok (.enter fo args) w
structure SortedCode (P : Program) (fv fo fy fcmp : FuncId) (tM tQ tC : TypeId) : Prop where
  ex : ∃ fn i0 i1 ops0 ops1, P.funcs[fv]? = some fn ∧ fn.ntmps = 6 ∧ fn.results = #[.tmp 2] ∧ fn.body = some (.seq (.region i0 ops0 false) (.seq (.region i1 ops1 false) .ret)) ∧
    IsOps ops0 [(some 2, .assign (.const (.slice none 0 0)))] ∧
    IsOps ops1 [(some 3, .move (.tmp 0)), (some 4, .call { callee := .value (.func fy), args := #[.tmp 3], argTypes := #[tM] }), (some 5, .call { callee := .value (.func fo), args := #[.tmp 4, .func fcmp], argTypes := #[tQ, tC] }), (some 2, .assign (.tmp 5))]
  ev : ∀ args w, (callFunc fv args).run P w = .ok (.enter fv args) w
theorem keys_fn {fo fc fa fk fy fs fcmp : FuncId} {tM tL tQ tC : TypeId} (C : CollCode P fo fc fa fk fy fs fcmp tM tL tQ tC) {m : Nat} :
    Calls P fy #[.map (some m)] w fun e w' => e = .returned (.func (.func fk) #[] #[.pointer (some ⟨w.heap.size, 0, none⟩)]) ∧ w' = w.alloc (.cells #[.map (some m)] tM) := by
  obtain ⟨fn, i0, i1, ops0, ops1, hf, hnt, hres, hbody, q0, q1⟩ := C.keys
  refine calls_of_cx hf hbody ?_
  rw [hnt, show (#[Value.map (some m)] : Array Value).size + (4 - (#[Value.map (some m)] : Array Value).size) = 4 from rfl]
  have s0 : σ0 #[Value.map (some m)] 0 = .map (some m) := rfl
  refine cx_seq (cx_region q0 ?_)
  refine ox_val (fun o ho => x_box ho) (by simp) (by simp) ?_
  rw [show (ev (σ0 #[Value.map (some m)]) (.tmp 0)).cells = #[.map (some m)] from rfl]
  refine ox_val (fun o ho => x_mv (.inr ho) rfl) (by simp) (by simp) ?_
  refine ox_nil (cx_seq (cx_region q1 ?_))
  refine ox_val (v := .func (.func fk) #[] #[.pointer (some ⟨w.heap.size, 0, none⟩)]) (w' := w.alloc (.cells #[.map (some m)] tM)) (fun o ho => (x_makeFunc ho).trans (by simp [ev, updO, upd])) (by simp) (by simp) ?_
  refine ox_val (fun o ho => x_mv (.inr ho) rfl) (by simp) (by simp) ?_
  refine ox_nil (cx_ret ?_)
  refine ⟨_, .inl ⟨rfl, rfl⟩, _, fun tmps ht => ?_, rfl, rfl⟩
  rw [results_tmp hres, ht 2]; simp [ev, updO, upd]

theorem grownBy_below {B : Nat} {w1 w2 : World} {row : Option Nat} (hb : Below B w w1) (hg : w1.grownBy w2 row) (hB : B ≤ w1.heap.size) (hr : ∀ k, row = some k → B ≤ k) : Below B w w2 := hb.grown hg hB hr
theorem coll_fn {fo fc fa fk fy fs fcmp : FuncId} {tM kt et tF tL tB tQ tC : TypeId} {ti : TypeInfo} {z : Value} (he : EnvOK P E) (C : CollCode P fo fc fa fk fy fs fcmp tM tL tQ tC) (CA : SeqCode P fa fk tL tF) (CK : KeysCode P fk tM tF tB) (T : SetTypes P E tM kt et tF tL ti z)
    {Tb m clock : Nat} {es : Array MapEntry} (hborn : ∀ e ∈ es.toList, e.born < clock) (hnd : (es.toList.map (·.born)).Nodup) (hkey : ∀ e ∈ es.toList, ∃ ks : List Value, e.key = .agg ks.toArray ∧ ks.length = 3 ∧ ∀ u ∈ ks, Value.scalar u = true)
    (hes : es.size ≤ 100000) (hT : w.cell? ⟨Tb, 0, none⟩ = some (.map (some m))) (hm : w.heap[m]? = some (.map es clock)) :
    Calls P fc #[.func (.func fk) #[] #[.pointer (some ⟨Tb, 0, none⟩)]] w fun e w' => ∃ v vis, e = .returned v ∧ vis.Perm es.toList ∧ Row3 w' tF w.heap.size v vis.length (cellsOf vis) ∧ Below w.heap.size w w' := by
  obtain ⟨fn, i0, i1, ops0, ops1, hf, hnt, hres, hbody, q0, q1⟩ := C.coll
  refine calls_of_cx hf hbody ?_
  obtain ⟨a, ha⟩ : ∃ a, a = Value.func (.func fk) #[] #[.pointer (some ⟨Tb, 0, none⟩)] := ⟨_, rfl⟩
  rw [hnt, show (#[Value.func (.func fk) #[] #[.pointer (some ⟨Tb, 0, none⟩)]] : Array Value).size + (5 - (#[Value.func (.func fk) #[] #[.pointer (some ⟨Tb, 0, none⟩)]] : Array Value).size) = 5 from rfl, ← ha]
  have s0 : σ0 #[a] 0 = a := rfl
  refine cx_seq (cx_region q0 ?_)
  refine ox_val (v := .slice none 0 0) (fun o ho => x_mv (.inr ho) rfl) (by simp) (by simp) ?_
  refine ox_nil (cx_seq (cx_region q1 ?_))
  refine ox_val (v := a) (fun o ho => x_mv (.inl ho) (by simp [ev, updO, upd, s0])) (by simp) (by simp) ?_
  refine ox_call (f := fa) (args := #[.slice none 0 0, a]) (w' := w) (fun o ho => (x_call ho rfl CA.enters).trans (by simp [ev, updO, upd])) (by simp) (by simp)
    (by rw [ha]; exact appendSeq_fn he CA CK T hborn hnd hkey hes hT hm) ?_
  rintro e w' ⟨v, vis, rfl, hp, hr, hb⟩
  refine ⟨v, rfl, ?_⟩
  refine ox_val (v := v) (fun o ho => x_mv (.inr ho) (by simp [ev, updO, upd])) (by simp) (by simp) ?_
  refine ox_nil (cx_ret ?_)
  refine ⟨_, .inl ⟨rfl, rfl⟩, v, fun tmps ht => ?_, v, vis, rfl, hp, hr, hb⟩
  rw [results_tmp hres, ht 2]; simp [updO, upd]
def encV (a : T3) : Value := .agg (encC a).toArray
theorem sortf_fn {fo fc fa fk fy fs fcmp : FuncId} {tM kt et tF tL tB tQ tC : TypeId} {ti : TypeInfo} {z : Value} (he : EnvOK P E) (C : CollCode P fo fc fa fk fy fs fcmp tM tL tQ tC) (CA : SeqCode P fa fk tL tF) (CK : KeysCode P fk tM tF tB) (T : SetTypes P E tM kt et tF tL ti z) (S : SortOK P fs fcmp tF)
    {Tb m clock : Nat} {es : Array MapEntry} (hborn : ∀ e ∈ es.toList, e.born < clock) (hnd : (es.toList.map (·.born)).Nodup) {l0 : List T3} (hkey : es.toList.map (·.key) = l0.map encV)
    (hes : es.size ≤ 100000) (hT : w.cell? ⟨Tb, 0, none⟩ = some (.map (some m))) (hm : w.heap[m]? = some (.map es clock)) :
    Calls P fo #[.func (.func fk) #[] #[.pointer (some ⟨Tb, 0, none⟩)], .func (.func fcmp) #[] #[]] w fun e w' => ∃ v, e = .returned v ∧ Row3 w' tF w.heap.size v l0.length ((sortT l0).flatMap encC) ∧ Below w.heap.size w w' := by
  have hkey' : ∀ e ∈ es.toList, ∃ ks : List Value, e.key = .agg ks.toArray ∧ ks.length = 3 ∧ ∀ u ∈ ks, Value.scalar u = true := by
    intro e hem
    have h1 : e.key ∈ es.toList.map (·.key) := List.mem_map_of_mem hem
    rw [hkey] at h1
    obtain ⟨a, _, h2⟩ := List.mem_map.1 h1
    exact ⟨encC a, h2.symm, rfl, by simp [encC, Value.scalar]⟩
  obtain ⟨fn, i0, i1, i2, i3, ops0, ops1, ops2, ops3, hf, hnt, hres, hbody, q0, q1, q2, q3⟩ := C.sortf
  refine calls_of_cx hf hbody ?_
  obtain ⟨a, ha⟩ : ∃ a, a = Value.func (.func fk) #[] #[.pointer (some ⟨Tb, 0, none⟩)] := ⟨_, rfl⟩
  rw [hnt, show (#[Value.func (.func fk) #[] #[.pointer (some ⟨Tb, 0, none⟩)], .func (.func fcmp) #[] #[]] : Array Value).size + (12 - (#[Value.func (.func fk) #[] #[.pointer (some ⟨Tb, 0, none⟩)], .func (.func fcmp) #[] #[]] : Array Value).size) = 12 from rfl, ← ha]
  have s0 : σ0 #[a, .func (.func fcmp) #[] #[]] 0 = a := rfl
  have s1 : σ0 #[a, .func (.func fcmp) #[] #[]] 1 = .func (.func fcmp) #[] #[] := rfl
  refine cx_seq (cx_region q0 ?_)
  refine ox_val (v := .slice none 0 0) (fun o ho => x_mv (.inr ho) rfl) (by simp) (by simp) ?_
  refine ox_nil (cx_seq (cx_region q1 ?_))
  refine ox_val (v := a) (fun o ho => x_mv (.inl ho) (by simp [ev, updO, upd, s0])) (by simp) (by simp) ?_
  refine ox_call (f := fc) (args := #[a]) (w' := w) (fun o ho => (x_call ho rfl C.ec).trans (by simp [ev, updO, upd])) (by simp) (by simp)
    (by rw [ha]; exact coll_fn he C CA CK T hborn hnd hkey' hes hT hm) ?_
  rintro e w1 ⟨v, vis, rfl, hp, hr, hb⟩
  refine ⟨v, rfl, ?_⟩
  -- the keys, in the order they came
  obtain ⟨lv, hlv1, hlv2⟩ : ∃ lv : List T3, vis.map (·.key) = lv.map encV ∧ lv.Perm l0 := by
    let dec : Value → T3 := fun v => match v with
      | .agg ⟨[.int _ a, .int _ b, .int _ c]⟩ => (a, b, c)
      | _ => (0, 0, 0)
    have hdec : ∀ a, dec (encV a) = a := fun a => rfl
    have hpk : (vis.map (·.key)).Perm (l0.map encV) := by rw [← hkey]; exact hp.map _
    refine ⟨(vis.map (·.key)).map dec, ?_, ?_⟩
    · rw [List.map_map]
      conv => lhs; rw [← List.map_id (vis.map (·.key))]
      refine List.map_congr_left fun x hx => ?_
      obtain ⟨b, _, rfl⟩ := List.mem_map.1 (hpk.subset hx)
      show _ = encV (dec (encV b))
      rw [hdec]; rfl
    · have := hpk.map dec
      rw [List.map_map (l := l0)] at this
      have e : l0.map (dec ∘ encV) = l0 := by
        conv => rhs; rw [← List.map_id l0]
        exact List.map_congr_left fun x _ => hdec x
      rwa [e] at this
  have hcl : cellsOf vis = lv.flatMap encC := by
    have h1 : cellsOf vis = (vis.map (·.key)).flatMap fun k => k.cells.toList := by rw [cellsOf, List.flatMap_map]
    rw [h1, hlv1, List.flatMap_map]; rfl
  have hll : vis.length = l0.length := by
    have h1 := congrArg List.length hlv1
    have h2 := hlv2.length_eq
    simp only [List.length_map] at h1
    omega
  have hl0 : l0.length ≤ 100000 := by
    have h1 := congrArg List.length hkey
    simp only [List.length_map, Array.length_toList] at h1
    omega
  rw [hcl, hll] at hr
  have hlen : lv.length = l0.length := hlv2.length_eq
  refine ox_val (v := v) (fun o ho => x_mv (.inr ho) (by simp [ev, updO, upd])) (by simp) (by simp) ?_
  refine ox_nil (cx_seq (cx_region q2 ?_))
  refine ox_val (v := v) (fun o ho => x_mv (.inl ho) (by simp [ev, updO, upd])) (by simp) (by simp) ?_
  refine ox_val (v := .func (.func fcmp) #[] #[]) (fun o ho => x_mv (.inl ho) (by simp [ev, updO, upd, s1])) (by simp) (by simp) ?_
  -- the sort
  have hsort : Calls P fs #[v, .func (.func fcmp) #[] #[]] w1 fun e w' => e = .returned (.tuple #[]) ∧ Row3 w' tF w.heap.size v l0.length ((sortT l0).flatMap encC) ∧ Below w.heap.size w w' := by
    rcases hr with ⟨hk, rfl, hx⟩ | ⟨B, cap, cs, rfl, hB, hAt, hcap, hkc, hxl, hxs⟩
    · refine (S.none w1 _ _).mono ?_
      rintro e w' ⟨rfl, rfl⟩
      have : l0 = [] := List.eq_nil_of_length_eq_zero hk
      subst this
      exact ⟨rfl, .inl ⟨rfl, rfl, rfl⟩, hb⟩
    · by_cases hl : l0 = []
      · subst hl
        have hlv : lv = [] := List.eq_nil_of_length_eq_zero hlen
        subst hlv
        refine (S.none w1 _ _).mono ?_
        rintro e w' ⟨rfl, rfl⟩
        exact ⟨rfl, .inr ⟨B, cap, cs, rfl, hB, hAt, hcap, hkc, hxl, hxs⟩, hb⟩
      · have hlne : lv ≠ [] := fun e => by rw [e] at hlen; exact hl (List.eq_nil_of_length_eq_zero hlen.symm)
        rw [← hlen]
        refine (S.some w1 B cap lv cs hAt hcap (by omega) hlne (by omega) hxs).mono ?_
        rintro e w' ⟨rfl, l', cs', p1, p2, p3, p4, p5, p6⟩
        have hl' : l' = sortT l0 := sortT_eq (p1.trans hlv2) p2
        subst hl'
        refine ⟨rfl, .inr ⟨B, cap, cs', rfl, hB, p3, by omega, by omega, ?_, p5⟩, hb.grown p6 hb.size (fun k e => by cases e; exact hB)⟩
        rw [(List.Perm.flatMap_right encC p1).length_eq]; omega
  refine ox_call (f := fs) (args := #[v, .func (.func fcmp) #[] #[]]) (w' := w1) (fun o ho => (x_call ho rfl S.enters).trans (by simp [ev, updO, upd])) (by simp) (by simp) hsort ?_
  rintro e w2 ⟨rfl, hrow, hbel⟩
  refine ⟨_, rfl, ox_nil (cx_seq (cx_region q3 ?_))⟩
  refine ox_val (v := v) (fun o ho => x_mv (.inl ho) (by simp [ev, updO, upd])) (by simp) (by simp) ?_
  refine ox_val (v := v) (fun o ho => x_mv (.inr ho) (by simp [ev, updO, upd])) (by simp) (by simp) ?_
  refine ox_nil (cx_ret ?_)
  refine ⟨_, .inl ⟨rfl, rfl⟩, v, fun tmps ht => ?_, v, rfl, hrow, hbel⟩
  rw [results_tmp hres, ht 4]; simp [updO, upd]
end Go.Ev
namespace Go.Ev
open Go Go.RowKit
variable {P : Program} {E : TyE} {w : World} {n N : Nat} {β : Type}
theorem sorted_fn {fv fo fc fa fk fy fs fcmp : FuncId} {tM kt et tF tL tB tQ tC : TypeId} {ti : TypeInfo} {z : Value} (he : EnvOK P E) (CV : SortedCode P fv fo fy fcmp tM tQ tC) (C : CollCode P fo fc fa fk fy fs fcmp tM tL tQ tC) (CA : SeqCode P fa fk tL tF) (CK : KeysCode P fk tM tF tB) (T : SetTypes P E tM kt et tF tL ti z) (S : SortOK P fs fcmp tF)
    {m clock : Nat} {es : Array MapEntry} (hborn : ∀ e ∈ es.toList, e.born < clock) (hnd : (es.toList.map (·.born)).Nodup) {l0 : List T3} (hkey : es.toList.map (·.key) = l0.map encV)
    (hes : es.size ≤ 100000) (hm : w.heap[m]? = some (.map es clock)) :
    Calls P fv #[.map (some m)] w fun e w' => ∃ v, e = .returned v ∧ Row3 w' tF w.heap.size v l0.length ((sortT l0).flatMap encC) ∧ Below w.heap.size w w' := by
  obtain ⟨fn, i0, i1, ops0, ops1, hf, hnt, hres, hbody, q0, q1⟩ := CV.ex
  refine calls_of_cx hf hbody ?_
  rw [hnt, show (#[Value.map (some m)] : Array Value).size + (6 - (#[Value.map (some m)] : Array Value).size) = 6 from rfl]
  have s0 : σ0 #[Value.map (some m)] 0 = .map (some m) := rfl
  refine cx_seq (cx_region q0 ?_)
  refine ox_val (v := .slice none 0 0) (fun o ho => x_mv (.inr ho) rfl) (by simp) (by simp) ?_
  refine ox_nil (cx_seq (cx_region q1 ?_))
  refine ox_val (v := .map (some m)) (fun o ho => x_mv (.inl ho) (by simp [ev, updO, upd, s0])) (by simp) (by simp) ?_
  refine ox_call (f := fy) (args := #[.map (some m)]) (w' := w) (fun o ho => (x_call ho rfl C.ek).trans (by simp [ev, updO, upd])) (by simp) (by simp) (keys_fn C) ?_
  rintro e w1 ⟨rfl, hw1⟩
  refine ⟨_, rfl, ?_⟩
  have hlt : m < w.heap.size := (Array.getElem?_eq_some_iff.1 hm).1
  have hm1 : w1.heap[m]? = some (.map es clock) := by rw [hw1, alloc_old hlt]; exact hm
  have hT1 : w1.cell? ⟨w.heap.size, 0, none⟩ = some (.map (some m)) := by rw [hw1]; exact (At.new (w := w) (cs := #[.map (some m)]) (t := tM)).cell rfl
  have hb1 : Below w.heap.size w w1 := by rw [hw1]; exact (Below.refl _ w).alloc (Nat.le_refl _) _
  have hsz1 : w1.heap.size = w.heap.size + 1 := by rw [hw1, World.size_alloc]
  refine ox_call (f := fo) (args := #[.func (.func fk) #[] #[.pointer (some ⟨w.heap.size, 0, none⟩)], .func (.func fcmp) #[] #[]]) (w' := w1) (fun o ho => (x_call ho rfl C.eo).trans (by simp [ev, updO, upd])) (by simp) (by simp)
    (sortf_fn he C CA CK T S hborn hnd hkey hes hT1 hm1) ?_
  rintro e w2 ⟨v, rfl, hrow, hb2⟩
  refine ⟨v, rfl, ?_⟩
  refine ox_val (v := v) (fun o ho => x_mv (.inr ho) (by simp [ev, updO, upd])) (by simp) (by simp) ?_
  refine ox_nil (cx_ret ?_)
  refine ⟨_, .inl ⟨rfl, rfl⟩, v, fun tmps ht => ?_, v, rfl, ?_, hb1.trans (hb2.mono (by omega))⟩
  · rw [results_tmp hres, ht 2]; simp [updO, upd]
  · rcases hrow with h | ⟨B, cap, cs, a1, a2, a3⟩
    · exact .inl h
    · exact .inr ⟨B, cap, cs, a1, by omega, a3⟩
/-- a block that the world has and the evaluator has not gets a name, in a class of its own -/
theorem HR.placeOpen {φ : Phi} {ν : Nu} {w0 : World} {h : AH} (H : HR ν w0 φ h w) {B esz cap : Nat} {cells : List AV} {us : List Value} {A : Array Value} {el : TypeId} (hB0 : w0.heap.size ≤ B) (hA : At w B A el)
    (hnew : ∀ p j, φ p = some j → j.blk ≠ B) (hnp : ∀ k o, (k, o) ∈ ν.priv → k ≠ B)
    (hu : concL φ ν cells = some us) (h1 : ∀ (j : Nat) (u : Value), us[j]? = some u → A[j]? = some u) (h2 : cells.length ≤ cap * esz) (h3 : cap * esz ≤ A.size) :
    HR ν w0 (φ.upd h.next ⟨B, 0, cap, esz⟩) ((h.setCls h.next [h.next]).alloc (.cells esz cells.length (chunk cells) false (some h.next))) w ∧
      Ev φ h (φ.upd h.next ⟨B, 0, cap, esz⟩) ((h.setCls h.next [h.next]).alloc (.cells esz cells.length (chunk cells) false (some h.next))) := by
  have hn : φ h.next = none := (H.fr h.next (Nat.le_refl _)).1
  have hlt := hA.lt
  refine H.newIn (l0 := []) (i' := ⟨B, 0, cap, esz⟩) rfl (.inl ⟨rfl, rfl⟩) H.below (Nat.le_refl _) hlt ?_ ?_ ?_ ?_ (fun k o hk _ _ => ⟨rfl, fun e => hnp k o hk e.symm⟩)
  · intro p j o1 hp ho hm hok
    refine OK.table hok ?_
    intro esz1 n1 cs1 ro1 cl1 e hmay c' hc'
    obtain ⟨l, hl1, hl2⟩ := hmay c' hc'
    by_cases hcc : c' = h.next
    · subst hcc
      have := hm esz1 n1 cs1 ro1 cl1 e hc' hmay
      cases this
    · rw [setCls_ne hcc] at hl1; exact ⟨l, hl1, hl2⟩
  · refine ⟨rfl, .inr hB0, chunk_reg _, ?_, A, el, (0, 0), hA, ?_, ?_, ?_, ?_⟩
    · intro j v hj; rw [chunk_get] at hj; exact (List.getElem?_eq_some_iff.1 hj).1
    · intro _ k; simp
    · show 0 + cells.length ≤ A.size; omega
    · intro _; exact ⟨by show 0 + cap * esz ≤ _; omega, h2⟩
    · intro _ j v hj
      rw [chunk_get] at hj
      obtain ⟨u, g1, g2⟩ := concL_get hu j v hj
      refine ⟨u, conc_mono (Phi.le_upd hn) _ _ g1, ?_⟩
      show A[0 + j]? = _
      rw [Nat.zero_add]; exact h1 j u g2
  · intro p j hp hb; exact absurd hb (hnew p j hp)
  · intro p j hm; cases hm
theorem keysOk_spec {clock : Nat} : ∀ {es : List (AV × AV × Nat)} {lo : Nat}, keysOk clock es lo = true →
    (∃ l0 : List T3, es.map (·.1) = l0.map encA) ∧ (∀ e ∈ es, lo ≤ e.2.2 ∧ e.2.2 < clock) ∧ (es.map (·.2.2)).Nodup
  | [], lo, _ => ⟨⟨[], rfl⟩, by simp, by simp⟩
  | e :: l, lo, h => by
    rw [keysOk] at h
    cases h1 : keyF e.1 with
    | false => rw [h1] at h; cases h
    | true =>
      cases h2 : Nat.ble lo e.2.2 with
      | false => rw [h1, h2] at h; cases h
      | true =>
        cases h3 : Nat.blt e.2.2 clock with
        | false => rw [h1, h2, h3] at h; cases h
        | true =>
          rw [h1, h2, h3] at h
          obtain ⟨⟨l0, q1⟩, q2, q3⟩ := keysOk_spec (show keysOk clock l (e.2.2 + 1) = true from h)
          have h2 := Nat.le_of_ble_eq_true h2
          have h3 : e.2.2 < clock := by rw [Nat.blt_eq] at h3; exact h3
          obtain ⟨a, ha⟩ : ∃ a, e.1 = encA a := by
            unfold keyF at h1
            split at h1
            · rename_i a b c hh; exact ⟨(a, b, c), hh⟩
            · cases h1
          refine ⟨⟨a :: l0, by simp [ha, q1]⟩, ?_, ?_⟩
          · intro x hx
            rcases List.mem_cons.1 hx with rfl | hx
            · exact ⟨h2, h3⟩
            · have := q2 x hx; omega
          · simp only [List.map_cons, List.nodup_cons]
            refine ⟨fun hx => ?_, q3⟩
            obtain ⟨y, hy, hye⟩ := List.mem_map.1 hx
            have := q2 y hy
            omega
theorem concL_flat {φ : Phi} {ν : Nu} : ∀ l : List T3, concL φ ν ((l.map encA).flatMap AV.cells) = some (l.flatMap encC)
  | [] => rfl
  | a :: l => by
    have := concL_flat (φ := φ) (ν := ν) l
    simp only [List.map_cons, List.flatMap_cons]
    exact concL_append (m := encC a) rfl this
theorem intr_sorted {fv fo fc fa fk fy fs fcmp : FuncId} {tM kt et tF tL tB tQ tC : TypeId} {ti : TypeInfo} {z : Value} (he : EnvOK P E) (CV : SortedCode P fv fo fy fcmp tM tQ tC) (C : CollCode P fo fc fa fk fy fs fcmp tM tL tQ tC) (CA : SeqCode P fa fk tL tF) (CK : KeysCode P fk tM tF tB) (T : SetTypes P E tM kt et tF tL ti z) (S : SortOK P fs fcmp tF) :
    IntrOK (β := β) P E fv iSorted := by
  intro run _ cl _ args h k res hx
  unfold iSorted at hx
  split at hx
  · rename_i r
    split at hx
    · rename_i es clock hr
      obtain ⟨hok, hx⟩ := bif_some hx
      obtain ⟨hle, hx⟩ := bif_some hx
      have hle := Nat.le_of_ble_eq_true hle
      obtain ⟨⟨l0, hk0⟩, hb, hnd⟩ := keysOk_spec hok
      -- in the world
      have hw : ∀ φ ν w0 w us, HR ν w0 φ h w → concL φ ν [.map r] = some us → ∃ m, us = [.map (some m)] ∧ Calls P fv us.toArray w fun e w' => ∃ v, e = .returned v ∧ Row3 w' tF w.heap.size v l0.length ((sortT l0).flatMap encC) ∧ Below w.heap.size w w' := by
        intro φ ν w0 w us H hc
        simp only [concL, conc, Option.map_some, Option.bind_eq_some_iff, Option.map_eq_some_iff, Option.some.injEq] at hc
        obtain ⟨u, ⟨i, hi, rfl⟩, rfl⟩ := hc
        obtain ⟨_, o, ho, hok'⟩ := H.ob r i hi
        rw [hr] at ho; cases ho
        obtain ⟨_, es', h1, h2, h3⟩ := hok'
        have hborns : es'.toList.map (·.born) = es.map (·.2.2) := by
          refine List.ext_getElem? fun j => ?_
          rw [List.getElem?_map, List.getElem?_map]
          cases hj : es[j]? with
          | none => rw [List.getElem?_eq_none (by have := List.getElem?_eq_none_iff.1 hj; simp; omega)]; rfl
          | some x =>
            obtain ⟨y, hy, _, _, hyb⟩ := h3 j x hj
            rw [Array.getElem?_toList, hy]; simp [hyb]
        have hkeys : es'.toList.map (·.key) = l0.map encV := by
          refine List.ext_getElem? fun j => ?_
          rw [List.getElem?_map, List.getElem?_map]
          have hk1 : (es.map (·.1))[j]? = (l0.map encA)[j]? := by rw [hk0]
          rw [List.getElem?_map, List.getElem?_map] at hk1
          cases hj : es[j]? with
          | none =>
            rw [hj] at hk1
            have : l0[j]? = none := by cases hq : l0[j]? with | none => rfl | some a => rw [hq] at hk1; cases hk1
            rw [this, List.getElem?_eq_none (by have := List.getElem?_eq_none_iff.1 hj; simp; omega)]; rfl
          | some x =>
            obtain ⟨y, hy, hyk, _, _⟩ := h3 j x hj
            rw [hj] at hk1
            cases hq : l0[j]? with
            | none => rw [hq] at hk1; cases hk1
            | some a =>
              rw [hq] at hk1
              simp only [Option.map_some, Option.some.injEq] at hk1
              rw [hk1] at hyk
              rw [Array.getElem?_toList, hy]
              simp only [encA, conc, concL, Option.bind_some, Option.map_some, Option.some.injEq] at hyk
              simp [← hyk, encV, encC]
        refine ⟨i.blk, rfl, sorted_fn he CV C CA CK T S (clock := clock) (es := es') ?_ ?_ hkeys (by omega) h1⟩
        · intro e hem
          have : e.born ∈ es'.toList.map (·.born) := List.mem_map_of_mem hem
          rw [hborns] at this
          obtain ⟨x, hx1, hx2⟩ := List.mem_map.1 this
          have := (hb x hx1).2
          omega
        · rw [hborns]; exact hnd
      have hsF : sortF (es.map (·.1)) = (sortT l0).map encA := by rw [hk0, sortF_map]
      rw [hsF] at hx
      cases hs : sortT l0 with
      | nil =>
        rw [hs] at hx
        refine ⟨_, _, _, hx, ?_⟩
        intro φ ν w0 w us H hc
        obtain ⟨m, rfl, hcall⟩ := hw φ ν w0 w us H hc
        refine .inl ⟨CV.ev _ _, hcall.mono ?_⟩
        rintro e w' ⟨v, rfl, hrow, hbel⟩
        have hl : l0.length = 0 := by rw [← (sortT_perm l0).length_eq, hs]; rfl
        rcases hrow with ⟨_, rfl, _⟩ | ⟨B, cap, cs, rfl, hB, hAt, hcap, hkc, hxl, hxs⟩
        · exact ⟨φ, _, Ev.refl _ _, H.grow hbel, rfl, rfl, rfl⟩
        · omega
      | cons a l =>
        rw [hs] at hx
        simp only [List.map_cons] at hx
        rw [newOpenK_eq] at hx
        refine ⟨_, _, _, hx, ?_⟩
        intro φ ν w0 w us H hc
        obtain ⟨m, rfl, hcall⟩ := hw φ ν w0 w us H hc
        refine .inl ⟨CV.ev _ _, hcall.mono ?_⟩
        rintro e w' ⟨v, rfl, hrow, hbel⟩
        have hl : l0.length = l.length + 1 := by rw [← (sortT_perm l0).length_eq, hs]; rfl
        rw [hs] at hrow
        rcases hrow with ⟨h0, _⟩ | ⟨B, cap, cs, rfl, hB, hAt, hcap, hkc, hxl, hxs⟩
        · omega
        · have Hg := H.grow hbel
          have hcl := concL_flat (φ := φ) (ν := ν) (a :: l)
          have hlen : (((a :: l).map encA).flatMap AV.cells).length = (((a :: l).flatMap encC)).length := (concL_length hcl).symm
          obtain ⟨H', ev⟩ := Hg.placeOpen (cells := ((a :: l).map encA).flatMap AV.cells) (esz := 3) (cap := cap) (Nat.le_trans H.below.size hB) hAt (fun p j hp e => by have := (H.ob p j hp).1; omega)
            (fun k o hk e => by have := (Array.getElem?_eq_some_iff.1 (H.priv k o hk).1).1; omega) hcl hxs (by omega) hcap
          refine ⟨_, _, ev, H', ?_, rfl, rfl⟩
          simp [conc, Phi.upd_self, capOf, hl]
    · cases hx
  · cases hx
end Go.Ev
namespace Go.Ev
open Go Go.RowKit
variable {P : Program} {E : TyE} {w : World} {n N : Nat} {β : Type} {ρ : Operand → Value} {o : Oper}

/-! ### maps.DeleteFunc over a set of triples -/
theorem x_cval {f : FuncId} {caps : Array Value} {x : Operand} {args : Array Operand} {ts : Array TypeId} {r : Result Next} (ho : o.op = .call { callee := .value x, args, argTypes := ts }) (hρ : ρ x = .func (.func f) #[] caps)
    (hr : (callFunc f (args.map ρ ++ caps)).run P w = r) : (execOp ρ o).run P w = r := by
  rw [← hr]
  simp [execOp, ho, resolve, hρ, Deferred.ofValue, invoke]
def entOf (x : T3 × Nat) : MapEntry := { key := encV x.1, val := .agg #[], born := x.2 }
def entsOf (L : List (T3 × Nat)) : Array MapEntry := (L.map entOf).toArray
def absOf (x : T3 × Nat) : AV × AV × Nat := (encA x.1, .agg [], x.2)
theorem ents_L {φ : Phi} {ν : Nu} (L : List (T3 × Nat)) : Ents φ ν (L.map absOf) (entsOf L).toList := by
  refine ⟨by simp [entsOf], fun j x hx => ?_⟩
  rw [List.getElem?_map, Option.map_eq_some_iff] at hx
  obtain ⟨a, ha, rfl⟩ := hx
  refine ⟨entOf a, by simp [entsOf, ha], ?_, ?_, rfl⟩
  · simp [absOf, encA, conc, concL, entOf, encV, encC]
  · simp [absOf, conc, concL, entOf]
abbrev d3 : KD := .flat [.int, .int, .int]
theorem eqA_T (a b : T3) : eqA bx d3 (encA a) (encA b) = some (decide (a = b)) := by
  obtain ⟨a1, a2, a3⟩ := a
  obtain ⟨b1, b2, b3⟩ := b
  have hk : kindEq .i64 .i64 = true := rfl
  simp only [eqA, encA, eqLeaves, isLD, eqLeaf, hk, cond_true, intEq_iff, Prod.mk.injEq]
  by_cases h1 : a1 = b1 <;> by_cases h2 : a2 = b2 <;> by_cases h3 : a3 = b3 <;> simp [h1, h2, h3]
theorem findK_L (a : T3) : ∀ (L : List (T3 × Nat)) (i : Nat), (L.map (·.1)).Nodup → (∃ b, (a, b) ∈ L) →
    ∃ j, findK bx d3 (encA a) (L.map absOf) i = some (some (i + j, .agg [])) ∧ j < L.length ∧ L.eraseIdx j = L.filter (fun x => decide (x.1 ≠ a))
  | [], _, _, ⟨_, h⟩ => by cases h
  | x :: L, i, hn, ⟨b, hm⟩ => by
    rw [List.map_cons, List.nodup_cons] at hn
    rw [List.map_cons, findK_cons, show (absOf x).1 = encA x.1 from rfl, eqA_T]
    by_cases h : a = x.1
    · refine ⟨0, by simp [h, absOf], by simp, ?_⟩
      have : L.filter (fun y => decide (y.1 ≠ a)) = L := by
        rw [List.filter_eq_self]
        intro y hy
        have : y.1 ≠ a := fun e => hn.1 (by rw [← h, ← e]; exact List.mem_map_of_mem hy)
        simpa using this
      rw [List.filter_cons, this]
      simp [h]
    · have hm' : (a, b) ∈ L := by
        rcases List.mem_cons.1 hm with e | e
        · exact absurd (by rw [← e]) h
        · exact e
      obtain ⟨j, h1, h2, h3⟩ := findK_L a L (i + 1) hn.2 ⟨b, hm'⟩
      refine ⟨j + 1, ?_, by simp; omega, ?_⟩
      · simp only [h, decide_false]; rw [h1]; congr 3; omega
      · have hx : decide (x.1 ≠ a) = true := by simpa using fun e => h e.symm
        rw [List.eraseIdx_cons_succ, h3, List.filter_cons, if_pos hx]
theorem map_eraseIdx {α γ : Type} (f : α → γ) : ∀ (l : List α) (j : Nat), (l.map f).eraseIdx j = (l.eraseIdx j).map f
  | [], _ => rfl
  | a :: l, 0 => rfl
  | a :: l, j + 1 => by simp [map_eraseIdx f l j]
theorem x_del {t kt el : TypeId} {ts : Array TypeId} {m x : Operand} {M clock : Nat} {a : T3} {L : List (T3 × Nat)} (he : EnvOK P E) (ho : o.op = .call { callee := .builtin .delete, args := #[m, x], argTypes := ts }) (hts : ts[0]? = some t)
    (ht : E.und t = some (.map kt el)) (hk : E.key kt = some d3) (hm : ρ m = .map (some M)) (hx : ρ x = encV a) (hM : w.heap[M]? = some (.map (entsOf L) clock)) (hn : (L.map (·.1)).Nodup) (hmem : ∃ b, (a, b) ∈ L) :
    (execOp ρ o).run P w = .ok (.value (.tuple #[])) (w.putObj M (.map (entsOf (L.filter fun y => decide (y.1 ≠ a))) clock)) := by
  obtain ⟨j, h1, h2, h3⟩ := findK_L a L 0 hn hmem
  have hc : conc (fun _ => none) { x := 1, y := 1, hx := by decide, hy := by decide } (encA a) = some (encV a) := by simp [encA, conc, concL, encV, encC]
  have hck := run_checkKey he hk hc (by rfl) (entsOf L).isEmpty w
  obtain ⟨r', q1, q2⟩ := run_findKey he hk hc w (ents_L L) h1
  simp only [Nat.zero_add] at q2
  obtain ⟨e, y, _, _, _, _, _, rfl⟩ := q2
  have hers : (entsOf L).eraseIdxIfInBounds j = entsOf (L.filter fun y => decide (y.1 ≠ a)) := by
    have hj : j < (entsOf L).size := by simpa [entsOf] using h2
    rw [← h3]
    unfold Array.eraseIdxIfInBounds
    rw [dif_pos hj]
    apply Array.toList_inj.1
    simp [entsOf, map_eraseIdx]
  have hrun : (Builtin.delete_ ts o.type #[ρ m, ρ x]).run P w = .ok (.tuple #[]) (w.putObj M (.map (entsOf (L.filter fun y => decide (y.1 ≠ a))) clock)) := by
    rw [← hers, hx]
    simp [Builtin.delete_, hts, run_und he ht, hm, run_map_obj hM, hck, q1, run_setObj hM (o := .map ((entsOf L).eraseIdxIfInBounds j) clock) (by simp)]
    rfl
  simp only [execOp, ho, resolve, invoke, builtin]
  simp [hrun]
structure DelCode (P : Program) (fd : FuncId) (tM tF tE tB : TypeId) : Prop where
  ex : ∃ fn i0 i1 i2 i3 i4 b0 b1 ops0 ops1 ops2 ops3 ops4, P.funcs[fd]? = some fn ∧ fn.ntmps = 19 ∧ fn.results = #[] ∧
    fn.body = some (.seq (.region i0 ops0 false) (.block b0 (.loop (.seq (.region i1 ops1 false) (.seq (.cond (.tmp 9) .skip (.exit b0)) (.block b1 (.seq (.region i2 ops2 false) (.seq (.region i3 ops3 false) (.cond (.tmp 16) (.region i4 ops4 false) .skip))))))))) ∧
    IsOps ops0 [(some 6, .move (.tmp 0)), (some 7, .range tM (.tmp 6))] ∧
    IsOps ops1 [(some 8, .next (.tmp 7) false), (some 9, .extract (.tmp 8) 0)] ∧
    IsOps ops2 [(some 10, .entry (.tmp 7)), (some 11, .extract (.tmp 10) 0), (some 12, .extract (.tmp 10) 1), (some 4, .alloc tF), (some 5, .alloc tE), (none, .store tF (.tmp 4) (.tmp 11)), (none, .store tE (.tmp 5) (.tmp 12))] ∧
    IsOps ops3 [(some 13, .move (.tmp 1)), (some 14, .load tF (.tmp 4)), (some 15, .load tE (.tmp 5)), (some 16, .call { callee := .value (.tmp 13), args := #[.tmp 14, .tmp 15], argTypes := #[tF, tE] })] ∧
    IsOps ops4 [(some 17, .move (.tmp 0)), (some 18, .load tF (.tmp 4)), (none, .call { callee := .builtin .delete, args := #[.tmp 17, .tmp 18], argTypes := #[tM, tF] })]
  enters : ∀ args w, (callFunc fd args).run P w = .ok (.enter fd args) w
structure DelTypes (P : Program) (E : TyE) (tM tF tE kt el : TypeId) : Prop where
  uM : P.underlying tM = some (.map kt el)
  eM : E.und tM = some (.map kt el)
  kM : E.key kt = some d3
  aF : ∀ w, (isAgg tF).run P w = .ok true w
  aE : ∀ w, (isAgg tE).run P w = .ok true w
  zF : ∀ w, (sizeOf tF).run P w = .ok 3 w
  zE : ∀ w, (sizeOf tE).run P w = .ok 0 w
  vF : ∃ z : Value, z.cells.size = 3 ∧ ∀ w, (zeroValue tF).run P w = .ok z w
  vE : ∃ z : Value, ∀ w, (zeroValue tE).run P w = .ok z w
theorem grownBy_put {W W1 : World} {m : Nat} {o : Obj} (h : W.grownBy W1 (some m)) : W.grownBy (W1.putObj m o) (some m) :=
  ⟨h.os, h.tape, h.output, by have := h.size; simpa using this, fun k hk hr => (World.putObj_heap_other (fun e => hr (by rw [e]))).trans (h.block k hk hr)⟩
theorem grownBy_trans {a b c : World} {m : Nat} (h1 : a.grownBy b (some m)) (h2 : b.grownBy c (some m)) : a.grownBy c (some m) :=
  ⟨h2.os.trans h1.os, h2.tape.trans h1.tape, h2.output.trans h1.output, Nat.le_trans h1.size h2.size, fun k hk hr => (h2.block k (Nat.lt_of_lt_of_le hk h1.size) hr).trans (h1.block k hk hr)⟩
theorem grownBy_old {a b c : World} {row : Option Nat} {I : Nat} (h1 : a.grownBy b row) (h2 : b.grownBy c (some I)) (hI : a.heap.size ≤ I) : a.grownBy c row :=
  ⟨h2.os.trans h1.os, h2.tape.trans h1.tape, h2.output.trans h1.output, Nat.le_trans h1.size h2.size, fun k hk hr => (h2.block k (Nat.lt_of_lt_of_le hk h1.size) (fun e => by cases e; omega)).trans (h1.block k hk hr)⟩
theorem below_by {a b : World} (h : Below a.heap.size a b) (row : Option Nat) : a.grownBy b row := ⟨h.os, h.tape, h.output, h.size, fun k hk _ => h.block k hk⟩
theorem map_inj {α γ : Type} {f : α → γ} : ∀ {l : List α}, (l.map f).Nodup → ∀ {x y : α}, x ∈ l → y ∈ l → f x = f y → x = y
  | [], _, _, _, h, _, _ => by cases h
  | a :: l, hn, x, y, hx, hy, h => by
    rw [List.map_cons, List.nodup_cons] at hn
    rcases List.mem_cons.1 hx with e1 | e1 <;> rcases List.mem_cons.1 hy with e2 | e2
    · rw [e1, e2]
    · exact absurd (by rw [← e1, h]; exact List.mem_map_of_mem e2) hn.1
    · exact absurd (by rw [← e2, ← h]; exact List.mem_map_of_mem e1) hn.1
    · exact map_inj hn.2 e1 e2 h
theorem grownBy_tn {a b c : World} (h1 : a.grownBy b none) (h2 : b.grownBy c none) : a.grownBy c none :=
  ⟨h2.os.trans h1.os, h2.tape.trans h1.tape, h2.output.trans h1.output, Nat.le_trans h1.size h2.size, fun k hk hr => (h2.block k (Nat.lt_of_lt_of_le hk h1.size) hr).trans (h1.block k hk hr)⟩
theorem mem_entsOf {L : List (T3 × Nat)} {e : MapEntry} : e ∈ (entsOf L).toList ↔ ∃ x ∈ L, entOf x = e := by simp [entsOf]
set_option maxHeartbeats 1000000 in
theorem del_fn {fd f : FuncId} {tM tF tE kt el tB : TypeId} {cap : Value} {δ : T3 → Bool} {m clock : Nat} {L : List (T3 × Nat)} (he : EnvOK P E) (C : DelCode P fd tM tF tE tB) (T : DelTypes P E tM tF tE kt el)
    (hborn : ∀ x ∈ L, x.2 < clock) (hnb : (L.map (·.2)).Nodup) (hnk : (L.map (·.1)).Nodup) (hm : w.heap[m]? = some (.map (entsOf L) clock))
    (hcall : ∀ W, w.grownBy W (some m) → ∀ x ∈ L, CallsTo P f #[encV x.1, .agg #[], cap] W fun e W' => e = .returned (.bool (δ x.1)) ∧ Below W.heap.size W W') :
    Calls P fd #[.map (some m), .func (.func f) #[] #[cap]] w fun e w' => e = .returned (.tuple #[]) ∧ w'.heap[m]? = some (.map (entsOf (L.filter fun x => !δ x.1)) clock) ∧ w.grownBy w' (some m) := by
  obtain ⟨fn, i0, i1, i2, i3, i4, b0, b1, ops0, ops1, ops2, ops3, ops4, hf, hnt, hres, hbody, q0, q1, q2, q3, q4⟩ := C.ex
  obtain ⟨z, hz3, vF⟩ := T.vF
  obtain ⟨ze, vE⟩ := T.vE
  have hfin : ∀ tmps w, (results fn tmps).run P w = .ok (.tuple #[]) w := fun tmps w => results_none hres tmps P w
  refine calls_of_cx hf hbody ?_
  rw [hnt, show (#[Value.map (some m), .func (.func f) #[] #[cap]] : Array Value).size + (19 - (#[Value.map (some m), .func (.func f) #[] #[cap]] : Array Value).size) = 19 from rfl]
  obtain ⟨σs, hσs⟩ : ∃ σs, σs = σ0 #[Value.map (some m), .func (.func f) #[] #[cap]] := ⟨_, rfl⟩
  have s0 : σs 0 = .map (some m) := by rw [hσs]; rfl
  have s1 : σs 1 = .func (.func f) #[] #[cap] := by rw [hσs]; rfl
  rw [← hσs]
  clear hσs
  obtain ⟨I, hI⟩ : ∃ I, I = w.heap.size := ⟨_, rfl⟩
  have hmlt : m < I := by rw [hI]; exact (Array.getElem?_eq_some_iff.1 hm).1
  have hLn : L.Nodup := (List.pairwise_map.1 hnb).imp fun h e => h (by rw [e])
  have kinj : ∀ x ∈ L, ∀ y ∈ L, x.1 = y.1 → x = y := fun x hx y hy h => map_inj hnk hx hy h
  have binj : ∀ x ∈ L, ∀ y ∈ L, x.2 = y.2 → x = y := fun x hx y hy h => map_inj hnb hx hy h
  obtain ⟨cur, hcur⟩ : ∃ cur : List (T3 × Nat) → List (T3 × Nat), cur = fun vis => L.filter fun x => decide (x ∉ vis) || !δ x.1 := ⟨_, rfl⟩
  have cur_sub : ∀ vis x, x ∈ cur vis → x ∈ L := fun vis x h => by rw [hcur] at h; exact (List.mem_filter.1 h).1
  have cur_nb : ∀ vis, ((cur vis).map (·.2)).Nodup := fun vis => by
    rw [hcur]; exact hnb.sublist (List.Sublist.map _ (List.filter_sublist))
  have cur_nk : ∀ vis, ((cur vis).map (·.1)).Nodup := fun vis => by
    rw [hcur]; exact hnk.sublist (List.Sublist.map _ (List.filter_sublist))
  have cur_all : ∀ vis, vis.Perm L → cur vis = L.filter fun x => !δ x.1 := fun vis hp => by
    rw [hcur]
    refine List.filter_congr fun x hx => ?_
    have : x ∈ vis := hp.symm.subset hx
    simp [this]
  have cur_del : ∀ vis x, x ∈ L → δ x.1 = true → (cur vis).filter (fun y => decide (y.1 ≠ x.1)) = cur (vis ++ [x]) := fun vis x hx hd => by
    rw [hcur]
    simp only [List.filter_filter]
    refine List.filter_congr fun y hy => ?_
    by_cases hyx : y = x
    · subst hyx; simp [hd]
    · have : y.1 ≠ x.1 := fun e => hyx (kinj y hy x hx e)
      simp [this, hyx]
  have cur_keep : ∀ vis x, x ∈ L → x ∉ vis → δ x.1 = false → cur vis = cur (vis ++ [x]) := fun vis x hx hv hd => by
    rw [hcur]
    refine List.filter_congr fun y hy => ?_
    by_cases hyx : y = x
    · subst hyx; simp [hd]
    · simp [hyx]
  -- the loop
  have loop : ∀ k vis rest W σ seen last, rest.length = k → (vis ++ rest).Perm L → clock ≤ last → w.grownBy W (some m) → W.heap[m]? = some (.map (entsOf (cur vis)) clock) → I < W.heap.size →
      σ 0 = .map (some m) → σ 1 = .func (.func f) #[] #[cap] → σ 7 = .pointer (some ⟨I, 0, none⟩) → W.heap[I]? = some (.mapIter (some m) clock seen last) →
      (∀ x ∈ L, seen.contains x.2 = true ↔ x ∈ vis) →
      LX none 0 P 19 (.seq (.region i1 ops1 false) (.seq (.cond (.tmp 9) .skip (.exit b0)) (.block b1 (.seq (.region i2 ops2 false) (.seq (.region i3 ops3 false) (.cond (.tmp 16) (.region i4 ops4 false) .skip))))))
        (XQ.blk b0 (bodyX P fn fun e w' => e = .returned (.tuple #[]) ∧ w'.heap[m]? = some (.map (entsOf (L.filter fun x => !δ x.1)) clock) ∧ w.grownBy w' (some m))) σ [] W := by
    intro k
    induction k with
    | zero =>
      intro vis rest W σ seen last hk hp hcl hg hM hIlt t0 t1 t7 hIt hseen
      have hr : rest = [] := List.eq_nil_of_length_eq_zero hk
      subst hr
      rw [List.append_nil] at hp
      refine lx_round (cx_seq (cx_region q1 ?_))
      refine ox_val (v := .tuple #[.bool false]) (w' := W) (fun o ho => ?_) (by simp) (by simp) ?_
      · rcases x_next (P := P) (_ty := 0) (ρ := ev σ) ho (by simp [ev, t7]) hIt hM (fun e he => by
          obtain ⟨x, hx, rfl⟩ := mem_entsOf.1 he; exact hborn x (cur_sub vis x hx)) hcl with ⟨_, h2⟩ | ⟨e, he, hs, _⟩
        · exact h2
        · obtain ⟨x, hx, rfl⟩ := mem_entsOf.1 he
          have := (hseen x (cur_sub vis x hx)).2 (hp.symm.subset (cur_sub vis x hx))
          rw [show (entOf x).born = x.2 from rfl] at hs
          rw [hs] at this; cases this
      refine ox_val (v := .bool false) (fun o ho => x_ext (vs := #[.bool false]) ho (by simp [ev, mkv]) rfl) (by simp) (by simp) ?_
      refine ox_nil (cx_seq (cx_false (by simp [ev, mkv]) (cx_exit ?_)))
      show XQ.blk b0 _ (.exit b0) _ _ _
      simp only [XQ.blk, if_true]
      exact ⟨W, .inl ⟨rfl, rfl⟩, _, fun tmps _ => hfin tmps W, rfl, by rw [hM, cur_all vis hp], hg⟩
    | succ k ih =>
      intro vis rest W σ seen last hk hp hcl hg hM hIlt t0 t1 t7 hIt hseen
      have hndr : (vis ++ rest).Nodup := hp.nodup_iff.2 hLn
      have hbn : ∀ e ∈ (entsOf (cur vis)).toList, e.born < clock := fun e he => by
        obtain ⟨x, hx, rfl⟩ := mem_entsOf.1 he; exact hborn x (cur_sub vis x hx)
      -- what next gives
      have hnext : ∃ x ∈ cur vis, seen.contains x.2 = false ∧ ∃ dr, ∀ o : Oper, o.op = .next (.tmp 7) false → (execOp (ev σ) o).run P W = .ok (.value (.tuple #[.bool true, encV x.1, .agg #[]])) (({ W with drawn := dr } : World).putObj I (.mapIter (some m) clock (seen.push x.2) clock)) := by
        obtain ⟨o0, ho0⟩ : ∃ o : Oper, o.op = .next (.tmp 7) false := ⟨{ dst := none, op := _, type := 0, pos := "", after := #[], guard := none }, rfl⟩
        rcases x_next (P := P) (_ty := 0) (ρ := ev σ) ho0 (by simp [ev, t7]) hIt hM hbn hcl with ⟨h1, _⟩ | ⟨e, he, hs, dr, hrun⟩
        · exfalso
          cases rest with
          | nil => simp at hk
          | cons x rest =>
            have hx : x ∈ L := hp.subset (by simp)
            have hxv : x ∉ vis := fun h => (List.nodup_append.1 hndr).2.2 x h x (by simp) rfl
            have hxc : x ∈ cur vis := by rw [hcur]; exact List.mem_filter.2 ⟨hx, by simp [hxv]⟩
            have := (hseen x hx).1 (h1 (entOf x) (mem_entsOf.2 ⟨x, hxc, rfl⟩))
            exact hxv this
        · obtain ⟨x, hx, rfl⟩ := mem_entsOf.1 he
          refine ⟨x, hx, hs, dr, fun o ho => ?_⟩
          have : (execOp (ev σ) o).run P W = (execOp (ev σ) o0).run P W := by simp only [execOp, ho, ho0, Instr.next]
          rw [this]; exact hrun
      obtain ⟨x, hxc, hs, dr, hrun⟩ := hnext
      have hx : x ∈ L := cur_sub vis x hxc
      have hxv : x ∉ vis := fun h => by have := (hseen x hx).2 h; rw [hs] at this; cases this
      have hxr : x ∈ rest := by
        have := hp.symm.subset hx
        rcases List.mem_append.1 this with h | h
        · exact absurd h hxv
        · exact h
      obtain ⟨rest', hl', hp'⟩ := perm_rest hp hxr
      obtain ⟨W1, hW1⟩ : ∃ W1, W1 = ({ W with drawn := dr } : World).putObj I (.mapIter (some m) clock (seen.push x.2) clock) := ⟨_, rfl⟩
      rw [← hW1] at hrun
      have hI1 : W1.heap[I]? = some (.mapIter (some m) clock (seen.push x.2) clock) := by rw [hW1]; exact World.putObj_heap_same hIlt
      have hsz1 : W1.heap.size = W.heap.size := by rw [hW1]; simp
      have hg1 : w.grownBy W1 (some m) := grownBy_old hg (by rw [hW1]; exact grownBy_next) (by omega)
      have hM1 : W1.heap[m]? = some (.map (entsOf (cur vis)) clock) := by rw [hW1, World.putObj_heap_other (by omega)]; exact hM
      refine lx_round (cx_seq (cx_region q1 ?_))
      refine ox_val (fun o ho => hrun o ho) (by simp) (by simp) ?_
      refine ox_val (v := .bool true) (fun o ho => x_ext (vs := #[.bool true, encV x.1, .agg #[]]) ho (by simp [ev, mkv]) rfl) (by simp) (by simp) ?_
      refine ox_nil (cx_seq (cx_true (by simp [ev, mkv]) (cx_skip ?_)))
      refine cx_block (cx_seq (cx_region q2 ?_))
      refine ox_val (v := .tuple #[encV x.1, .agg #[]]) (fun o ho => x_entry (e := entOf x) ho (by simp [ev, mkv, upd, t7]) hI1 hM1 (mem_entsOf.2 ⟨x, hxc, rfl⟩) (by
        have := cur_nb vis
        simpa [entsOf, entOf, Function.comp_def] using this)) (by simp) (by simp) ?_
      refine ox_val (v := encV x.1) (fun o ho => x_ext (vs := #[encV x.1, .agg #[]]) ho (by simp [ev, mkv]) rfl) (by simp) (by simp) ?_
      refine ox_val (v := .agg #[]) (fun o ho => x_ext (vs := #[encV x.1, .agg #[]]) ho (by simp [ev, mkv, upd]) rfl) (by simp) (by simp) ?_
      refine ox_val (fun o ho => x_alloc ho vF) (by simp) (by simp) ?_
      obtain ⟨X, hX⟩ : ∃ X, X = W1.heap.size := ⟨_, rfl⟩
      rw [← hX]
      obtain ⟨W2, hW2⟩ : ∃ W2, W2 = W1.alloc (.cells z.cells tF) := ⟨_, rfl⟩
      rw [← hW2]
      have aX2 : At W2 X z.cells tF := by rw [hW2, hX]; exact At.new
      have hsz2 : W2.heap.size = X + 1 := by rw [hW2, World.size_alloc, hX]
      refine ox_val (fun o ho => x_alloc ho vE) (by simp) (by simp) ?_
      rw [hsz2]
      obtain ⟨W3, hW3⟩ : ∃ W3, W3 = W2.alloc (.cells ze.cells tE) := ⟨_, rfl⟩
      rw [← hW3]
      have aX3 : At W3 X z.cells tF := by rw [hW3]; exact aX2.alloc
      have aY3 : At W3 (X + 1) ze.cells tE := by rw [hW3, ← hsz2]; exact At.new
      have hsz3 : W3.heap.size = X + 2 := by rw [hW3, World.size_alloc, hsz2]
      refine ox_skip (fun o ho => x_store (b := X) (j := 0) ho T.zF (by simp [ev, mkv, upd]) (by simp [ev, mkv, upd, encV, encC, Value.cells]) (by simp [ev, mkv, upd, encV, encC, Value.cells, Value.scalar]) aX3 (by omega)) (by simp) (by simp) ?_
      obtain ⟨W4, hW4⟩ : ∃ W4, W4 = World.putRow W3 X 0 (encC x.1) := ⟨_, rfl⟩
      rw [show World.putRow W3 X 0 _ = W4 from by rw [hW4]; simp [ev, mkv, upd, encV, Value.cells]]
      have aX4 : At W4 X (wr z.cells 0 (encC x.1)) tF := by rw [hW4]; exact putRow_at aX3
      have aY4 : At W4 (X + 1) ze.cells tE := (by rw [hW4, putRow_ne (by omega)] : W4.heap[X + 1]? = W3.heap[X + 1]?).trans aY3
      refine ox_skip (fun o ho => x_store (b := X + 1) (j := 0) ho T.zE (by simp [ev, upd, updO]) (by simp [ev, upd, updO, Value.cells]) (by simp [ev, upd, updO, Value.cells]) aY4 (by omega)) (by simp) (by simp) ?_
      obtain ⟨W5, hW5⟩ : ∃ W5, W5 = World.putRow W4 (X + 1) 0 [] := ⟨_, rfl⟩
      rw [show World.putRow W4 (X + 1) 0 _ = W5 from by rw [hW5]; simp [ev, upd, updO, Value.cells]]
      have aX5 : At W5 X (wr z.cells 0 (encC x.1)) tF := (by rw [hW5, putRow_ne (by omega)] : W5.heap[X]? = W4.heap[X]?).trans aX4
      have cX : ∀ {W' : World}, At W' X (wr z.cells 0 (encC x.1)) tF → ∀ (i : Nat) (u : Value), (encC x.1)[i]? = some u → W'.cell? ⟨X, 0 + i, none⟩ = some u := by
        intro W' aX i u hu
        refine aX.cell ?_
        have hi := (List.getElem?_eq_some_iff.1 hu).1
        simp only [encC, List.length_cons, List.length_nil] at hi
        rw [wr_get _ _ _ _ (by simp [encC]; omega), if_pos ⟨by omega, by simp [encC]; omega⟩]
        simpa using hu
      have old5 : ∀ q, q < X → W5.heap[q]? = W1.heap[q]? := fun q hq => by
        rw [hW5, putRow_ne (by omega), hW4, putRow_ne (by omega), hW3, alloc_old (by omega), hW2, alloc_old (by omega)]
      have hsz5 : W5.heap.size = X + 2 := by rw [hW5, hW4]; simp [World.putRow, hsz3]
      have hb15 : W1.grownBy W5 none := by
        rw [hW5, hW4, hW3, hW2]
        exact grownBy_putRow (grownBy_putRow (grownBy_tn (World.grownBy_alloc W1 _ none) (World.grownBy_alloc _ _ none)) (by omega)) (by omega)
      have hM5 : W5.heap[m]? = some (.map (entsOf (cur vis)) clock) := (old5 m (by omega)).trans hM1
      have hI5 : W5.heap[I]? = some (.mapIter (some m) clock (seen.push x.2) clock) := (old5 I (by omega)).trans hI1
      have hg5 : w.grownBy W5 (some m) := grownBy_trans hg1 (grownBy_but hb15 _)
      refine ox_nil (cx_seq (cx_region q3 ?_))
      refine ox_val (v := .func (.func f) #[] #[cap]) (fun o ho => x_mv (.inl ho) (by simp [ev, upd, updO, t1])) (by simp) (by simp) ?_
      refine ox_val (v := encV x.1) (fun o ho => x_loadn ho T.aF T.zF (b := X) (j := 0) (us := encC x.1) (by simp [ev, upd, updO]) rfl (cX aX5)) (by simp) (by simp) ?_
      refine ox_val (v := .agg #[]) (fun o ho => x_loadn ho T.aE T.zE (b := X + 1) (j := 0) (us := []) (by simp [ev, upd, updO]) rfl (by simp)) (by simp) (by simp) ?_
      -- behind the call
      have next : ∀ W6 σ', Below W5.heap.size W5 W6 → σ' 0 = .map (some m) → σ' 1 = .func (.func f) #[] #[cap] → σ' 7 = .pointer (some ⟨I, 0, none⟩) → σ' 4 = .pointer (some ⟨X, 0, none⟩) → σ' 16 = .bool (δ x.1) →
          CX none 0 P 19 (.cond (.tmp 16) (.region i4 ops4 false) .skip) (XQ.blk b1 (XQ.then (LX none 0 P 19 (.seq (.region i1 ops1 false) (.seq (.cond (.tmp 9) .skip (.exit b0)) (.block b1 (.seq (.region i2 ops2 false) (.seq (.region i3 ops3 false) (.cond (.tmp 16) (.region i4 ops4 false) .skip))))))
            (XQ.blk b0 (bodyX P fn fun e w' => e = .returned (.tuple #[]) ∧ w'.heap[m]? = some (.map (entsOf (L.filter fun x => !δ x.1)) clock) ∧ w.grownBy w' (some m))))
            (XQ.blk b0 (bodyX P fn fun e w' => e = .returned (.tuple #[]) ∧ w'.heap[m]? = some (.map (entsOf (L.filter fun x => !δ x.1)) clock) ∧ w.grownBy w' (some m))))) σ' [] W6 := by
        intro W6 σ' hb u0 u1 u7 u4 u16
        have keep : ∀ q, q < X + 2 → W6.heap[q]? = W5.heap[q]? := fun q hq => hb.block q (by omega)
        have hsz6 := hb.size
        have hg6 : w.grownBy W6 (some m) := grownBy_trans hg5 (below_by hb _)
        have hseen' : ∀ y ∈ L, (seen.push x.2).contains y.2 = true ↔ y ∈ vis ++ [x] := by
          intro y hy
          rw [Array.contains_push, Bool.or_eq_true, hseen y hy, List.mem_append, List.mem_singleton]
          refine or_congr_right ?_
          rw [beq_iff_eq]
          exact ⟨fun h => binj y hy x hx h, fun h => by rw [h]⟩
        by_cases hd : δ x.1 = true
        · refine cx_true (by simp [ev, u16, hd]) (cx_region q4 ?_)
          refine ox_val (v := .map (some m)) (fun o ho => x_mv (.inl ho) (by simp [ev, u0])) (by simp) (by simp) ?_
          refine ox_val (v := encV x.1) (fun o ho => x_loadn ho T.aF T.zF (b := X) (j := 0) (us := encC x.1) (by simp [ev, mkv, upd, u4]) rfl (cX ((keep X (by omega)).trans aX5))) (by simp) (by simp) ?_
          refine ox_val (fun o ho => x_del (M := m) (a := x.1) he ho rfl T.eM T.kM (by simp [ev, mkv, upd]) (by simp [ev, mkv, upd]) ((keep m (by omega)).trans hM5) (cur_nk vis) ⟨x.2, hxc⟩) (by simp) (by simp) ?_
          rw [cur_del vis x hx hd]
          refine ox_nil ?_
          show LX _ _ _ _ _ _ _ _ _
          refine ih (vis ++ [x]) rest' _ _ (seen.push x.2) clock (by omega) hp' (Nat.le_refl _) (grownBy_put hg6) (World.putObj_heap_same (by omega)) (by rw [World.putObj_size]; omega) (by simp [upd, updO, u0]) (by simp [upd, updO, u1]) (by simp [upd, updO, u7]) ?_ hseen'
          rw [World.putObj_heap_other (by omega)]
          exact (keep I (by omega)).trans hI5
        · have hd : δ x.1 = false := by simpa using hd
          refine cx_false (by simp [ev, u16, hd]) (cx_skip ?_)
          show LX _ _ _ _ _ _ _ _ _
          refine ih (vis ++ [x]) rest' _ _ (seen.push x.2) clock (by omega) hp' (Nat.le_refl _) hg6 ?_ (by omega) u0 u1 u7 ((keep I (by omega)).trans hI5) hseen'
          rw [← cur_keep vis x hx hxv hd]
          exact (keep m (by omega)).trans hM5
      rcases hcall W5 hg5 x hx with ⟨c1, c2⟩ | ⟨u, W6, c1, c2, c3⟩
      · refine ox_call (f := f) (args := #[encV x.1, .agg #[], cap]) (w' := W5) (fun o ho => x_cval (f := f) (caps := #[cap]) ho (by simp [ev, mkv, upd]) (by simpa [ev, mkv, upd, updO] using c1)) (by simp) (by simp) c2 ?_
        rintro e W6 ⟨rfl, hb⟩
        refine ⟨_, rfl, ox_nil ?_⟩
        exact next W6 _ hb (by simp [upd, updO, t0]) (by simp [upd, updO, t1]) (by simp [upd, updO, t7]) (by simp [upd, updO]) (by simp [mkv])
      · cases c2
        refine ox_val (w' := W6) (v := .bool (δ x.1)) (fun o ho => x_cval (f := f) (caps := #[cap]) ho (by simp [ev, mkv, upd]) (by simpa [ev, mkv, upd, updO] using c1)) (by simp) (by simp) ?_
        refine ox_nil ?_
        exact next W6 _ c3 (by simp [upd, updO, t0]) (by simp [upd, updO, t1]) (by simp [upd, updO, t7]) (by simp [upd, updO]) (by simp [mkv])
  have hg0 : w.grownBy (w.alloc (.mapIter (some m) clock #[] clock)) (some m) := grownBy_but (World.grownBy_alloc w _ none) _
  refine cx_seq (cx_region q0 ?_)
  refine ox_val (v := .map (some m)) (fun o ho => x_mv (.inl ho) (by simp [ev, s0])) (by simp) (by simp) ?_
  refine ox_val (fun o ho => x_range ho T.uM (by simp [ev, mkv]) hm) (by simp) (by simp) ?_
  rw [← hI]
  have hc0 : cur [] = L := by rw [hcur]; simp
  refine ox_nil (cx_block (cx_loop (loop L.length [] L _ _ #[] clock rfl (by simp) (Nat.le_refl _) hg0 ?_ ?_ ?_ ?_ ?_ ?_ ?_)))
  · rw [alloc_old (by omega), hc0]; exact hm
  · rw [World.size_alloc]; omega
  · simp [mkv, upd, s0]
  · simp [mkv, upd, s1]
  · simp [mkv]
  · rw [hI]; exact World.alloc_heap_new w _
  · intro e he; simp
end Go.Ev
namespace Go.Ev
open Go Go.RowKit
variable {P : Program} {E : TyE} {w : World} {n N : Nat} {β : Type}

theorem sameF_T (a b : T3) : sameF (encA a) (encA b) = decide (a = b) := by
  obtain ⟨a1, a2, a3⟩ := a
  obtain ⟨b1, b2, b3⟩ := b
  simp only [sameF, encA, intEq_iff, Prod.mk.injEq]
  by_cases h1 : a1 = b1 <;> by_cases h2 : a2 = b2 <;> by_cases h3 : a3 = b3 <;> simp [h1, h2, h3]
theorem memF_T (a : T3) : ∀ L : List (T3 × Nat), memF (encA a) (L.map absOf) = decide (a ∈ L.map (·.1))
  | [] => by simp [memF]
  | x :: L => by
    simp only [List.map_cons, memF, show (absOf x).1 = encA x.1 from rfl, sameF_T, memF_T a L]
    by_cases h : a = x.1 <;> simp [h]
theorem setOk_spec {clock : Nat} {es : List (AV × AV × Nat)} (h1 : keysOk clock es 0 = true) (h2 : unitsOk es = true) : ∃ L : List (T3 × Nat), es = L.map absOf ∧ (∀ x ∈ L, x.2 < clock) ∧ (L.map (·.2)).Nodup ∧ (L.map (·.1)).Nodup := by
  obtain ⟨⟨l0, q1⟩, q2, q3⟩ := keysOk_spec h1
  have main : ∀ (es : List (AV × AV × Nat)) (l0 : List T3), es.map (·.1) = l0.map encA → unitsOk es = true → ∃ L : List (T3 × Nat), es = L.map absOf ∧ (L.map (·.1)).Nodup := by
    intro es
    induction es with
    | nil => intro l0 _ _; exact ⟨[], rfl, by simp⟩
    | cons e l ih =>
      intro l0 hk hu
      cases l0 with
      | nil => cases hk
      | cons a l0 =>
        simp only [List.map_cons, List.cons.injEq] at hk
        obtain ⟨k, v, b⟩ := e
        simp only at hk
        obtain ⟨rfl, hk⟩ := hk
        rw [unitsOk] at hu
        split at hu
        · rename_i hv
          simp only at hv
          cases hm : memF (encA a) l with
          | true => simp only [hm, cond_true] at hu; cases hu
          | false =>
            simp only [hm, cond_false] at hu
            obtain ⟨L, rfl, hn⟩ := ih l0 hk hu
            refine ⟨(a, b) :: L, by simp [absOf, hv], ?_⟩
            rw [memF_T, decide_eq_false_iff_not] at hm
            exact List.nodup_cons.2 ⟨hm, hn⟩
        · cases hu
  obtain ⟨L, rfl, hn⟩ := main es l0 q1 h2
  refine ⟨L, rfl, fun x hx => (q2 (absOf x) (List.mem_map_of_mem hx)).2, ?_, hn⟩
  simpa [absOf, Function.comp_def] using q3
theorem delF_spec {cl : Callee β} (hcl : ClOK P cl) {f : FuncId} {c : AV} {h : AH} {res : β} : ∀ {L : List (T3 × Nat)} {k : List (AV × AV × Nat) → Option β}, (L.map (·.1)).Nodup → delF cl (posOf f) c h (L.map absOf) k = some res →
    ∃ δ : T3 → Bool, (∀ x ∈ L, ∃ h', Answers P f [encA x.1, .agg [], c] h false (.bool (δ x.1)) h') ∧ k ((L.filter fun x => !δ x.1).map absOf) = some res
  | [], k, _, hx => ⟨fun _ => false, by simp, hx⟩
  | x :: L, k, hn, hx => by
    rw [List.map_cons, List.nodup_cons] at hn
    obtain ⟨p, v, h', q1, q2⟩ := hcl f _ _ _ _ hx
    cases p with
    | true => cases q1
    | false =>
      cases v <;> first | (cases q1; done) | skip
      rename_i b
      obtain ⟨δ, d1, d2⟩ := delF_spec hcl hn.2 q1
      refine ⟨fun t => if t = x.1 then b else δ t, ?_, ?_⟩
      · intro y hy
        rcases List.mem_cons.1 hy with rfl | hy
        · exact ⟨h', by simpa [absOf] using q2⟩
        · have : y.1 ≠ x.1 := fun e => hn.1 (by rw [← e]; exact List.mem_map_of_mem hy)
          obtain ⟨h'', q⟩ := d1 y hy
          exact ⟨h'', by simpa [this] using q⟩
      · have e : L.filter (fun y => !(if y.1 = x.1 then b else δ y.1)) = L.filter fun y => !δ y.1 := by
          refine List.filter_congr fun y hy => ?_
          have : y.1 ≠ x.1 := fun e => hn.1 (by rw [← e]; exact List.mem_map_of_mem hy)
          simp [this]
        rw [List.filter_cons, e]
        cases b with
        | true => simpa using d2
        | false => simpa using d2
theorem closedL_mem : ∀ {l : List AV}, closedL l = true → ∀ v ∈ l, closedV v = true
  | [], _, v, hv => by cases hv
  | a :: l, h, v, hv => by
    rw [closedL] at h
    obtain ⟨h1, h2⟩ : closedV a = true ∧ closedL l = true := by cases hq : closedV a with | true => rw [hq] at h; exact ⟨rfl, h⟩ | false => rw [hq] at h; cases h
    rcases List.mem_cons.1 hv with rfl | hv
    · exact h1
    · exact closedL_mem h2 v hv
theorem conc_closed {φ φ' : Phi} {ν : Nu} {v : AV} (h : closedV v = true) : conc φ ν v = conc φ' ν v := by
  cases v <;> first | rfl | (cases h; done)
/-- a world that has grown but for one block of the evaluator's, seen by one other block alone -/
theorem HR.alone {φ : Phi} {ν : Nu} {w0 W : World} {h : AH} (H : HR ν w0 φ h w) {b : Pos} {i : BI} {esz n m : Nat} {cs : List (List AV)} {ro : Bool} (hb : h.objs.get b = some (.cells esz n cs ro none)) (hcs : closedL (flatL cs) = true) (hi : φ b = some i) (hm0 : w0.heap.size ≤ m) (hmi : i.blk ≠ m) (hmp : ∀ k o, (k, o) ∈ ν.priv → k ≠ m)
    (hg : w.grownBy W (some m)) : HR ν W (fun p => if p = b then some i else none) ⟨PT.set b (.cells esz n cs true none) .e, h.next, .e⟩ W := by
  obtain ⟨hib, o, ho, hok⟩ := H.ob b i hi
  rw [hb] at ho; cases ho
  obtain ⟨g1, g2, g3, g4, c, t, fz, g5, g6, g7, g8, g9⟩ := hok
  have keep : ∀ k, k < w.heap.size → k ≠ m → W.heap[k]? = w.heap[k]? := fun k hk hne => hg.block k hk (fun e => hne (by cases e; rfl))
  have hbl : b.val < h.next.val := by
    rcases Nat.lt_or_ge b.val h.next.val with hh | hh
    · exact hh
    · rw [(H.fr b hh).1] at hi; cases hi
  refine ⟨Below.refl _ _, ?_, ?_, ?_, ?_, ?_, ?_, ?_⟩
  · intro p hp
    have hpb : p ≠ b := fun e => by subst e; simp only at hp; omega
    refine ⟨by simp [hpb], ?_, by exact PT.get_e p⟩
    show PT.get p (PT.set b _ .e) = none
    rw [PT.get_set, if_neg (Ne.symm hpb)]; exact PT.get_e p
  · intro p j hp
    by_cases hpb : p = b
    · subst hpb
      simp only [if_true] at hp; cases hp
      refine ⟨Nat.lt_of_lt_of_le hib hg.size, .cells esz n cs true none, ?_, g1, .inl rfl, g3, g4, c, t, fz, (keep _ hib hmi).trans g5, (by simp), g7, g8, ?_⟩
      · show PT.get p (PT.set p _ .e) = _
        rw [PT.get_set, if_pos rfl]
      · intro _ j v hj
        obtain ⟨u, r1, r2⟩ := g9 (fun c hc => by cases hc) j v hj
        refine ⟨u, ?_, r2⟩
        rw [← r1]
        refine conc_closed (closedL_mem hcs v ?_)
        rw [flatL_eq]
        rw [Reg.flat g3] at hj
        exact List.mem_of_getElem? hj
    · simp [hpb] at hp
  · intro p q j k hp hq hne _
    by_cases hpb : p = b <;> by_cases hqb : q = b <;> simp_all
  · intro c l hl
    have : PT.get c (PT.e : PT (List Pos)) = none := PT.get_e c
    rw [show (AH.mk (PT.set b (.cells esz n cs true none) .e) h.next .e).cls.get c = none from this] at hl; cases hl
  · intro c l p hl
    have : PT.get c (PT.e : PT (List Pos)) = none := PT.get_e c
    rw [show (AH.mk (PT.set b (.cells esz n cs true none) .e) h.next .e).cls.get c = none from this] at hl; cases hl
  · intro g hgm
    obtain ⟨x, hx⟩ := H.start g hgm
    have hlt : g < w0.heap.size := World.block_lt_of_cell? _ _ hx
    refine ⟨x, ?_⟩
    have e1 : w.cell? ⟨g, 0, none⟩ = w0.cell? ⟨g, 0, none⟩ := H.below.cell (p := ⟨g, 0, none⟩) hlt
    have e2 : W.cell? ⟨g, 0, none⟩ = w.cell? ⟨g, 0, none⟩ := World.cell?_of_block (keep g (Nat.lt_of_lt_of_le hlt H.below.size) (by omega))
    rw [e2, e1]; exact hx
  · intro k o hk
    obtain ⟨h1, h2⟩ := H.priv k o hk
    have hlt := (Array.getElem?_eq_some_iff.1 h1).1
    refine ⟨(keep k hlt (hmp k o hk)).trans h1, fun p j hp => ?_⟩
    by_cases hpb : p = b
    · subst hpb
      simp only [if_true] at hp; cases hp
      exact h2 p _ hi
    · simp [hpb] at hp
theorem intr_delFunc {fd : FuncId} {tM tF tE kt el tB : TypeId} (he : EnvOK P E) (C : DelCode P fd tM tF tE tB) (T : DelTypes P E tM tF tE kt el) : IntrOK (β := β) P E fd iDelFunc := by
  intro run _ cl hcl args h k res hx
  unfold iDelFunc at hx
  split at hx
  · rename_i r f b off
    split at hx
    · rename_i es clock hr
      obtain ⟨hk, hx⟩ := bif_some hx
      obtain ⟨hu, hx⟩ := bif_some hx
      obtain ⟨L, rfl, hborn, hnb, hnk⟩ := setOk_spec hk hu
      unfold roK at hx
      split at hx
      · rename_i esz n cs ro hb
        obtain ⟨hcs, hx⟩ := bif_some hx
        rw [PT.setK_eq] at hx
        obtain ⟨δ, hd1, hd2⟩ := delF_spec hcl hnk hx
        rw [putK_eq] at hd2
        refine ⟨_, _, _, hd2, ?_⟩
        intro φ ν w0 w us H hc
        simp only [concL, conc, Option.bind_some, Option.map_some, Option.bind_eq_some_iff, Option.map_eq_some_iff, Option.some.injEq] at hc
        obtain ⟨u1, ⟨im, him, rfl⟩, us2, ⟨u2, ⟨u3, ⟨u4, ⟨ib, hib, rfl⟩, rfl⟩, rfl⟩, rfl⟩, rfl⟩ := hc
        obtain ⟨hml, o, ho, hok⟩ := H.ob r im him
        rw [hr] at ho; cases ho
        obtain ⟨hB, es', k1, k2, k3⟩ := hok
        have hes : es' = entsOf L := by
          apply Array.ext_getElem?
          intro j
          cases hj : (L.map absOf)[j]? with
          | none =>
            have := List.getElem?_eq_none_iff.1 hj
            rw [Array.getElem?_eq_none (by omega), Array.getElem?_eq_none (by simpa [entsOf] using this)]
          | some x =>
            obtain ⟨y, hy, c1, c2, c3⟩ := k3 j x hj
            rw [hy]
            rw [List.getElem?_map, Option.map_eq_some_iff] at hj
            obtain ⟨a, ha, rfl⟩ := hj
            have : (entsOf L)[j]? = some (entOf a) := by simp [entsOf, ha]
            rw [this]
            obtain ⟨yk, yv, yb⟩ := y
            simp only [absOf, encA, conc, concL, Option.bind_some, Option.map_some, Option.some.injEq] at c1 c2 c3
            simp [entOf, encV, encC, ← c1, ← c2, ← c3]
        subst hes
        have hne : ib.blk ≠ im.blk := fun e => by
          have hrb : b ≠ r := fun e => by rw [e, hr] at hb; cases hb
          obtain ⟨c, c1, _⟩ := H.inj b r ib im hib him hrb e
          unfold clsOf at c1; rw [hb] at c1; cases c1
        have hpriv : ∀ k o, (k, o) ∈ ν.priv → k ≠ im.blk := fun k o hk e => (H.priv k o hk).2 r im him e.symm
        refine .inl ⟨C.enters _ _, ?_⟩
        refine (del_fn (δ := δ) (cap := .pointer (some ⟨ib.blk, ib.off + off, none⟩)) he C T hborn hnb hnk k1 ?_).mono ?_
        · intro W hg x hxL
          obtain ⟨h', hans⟩ := hd1 x hxL
          have Hro := H.alone hb hcs hib hB hne hpriv hg
          have hcc : concL (fun p => if p = b then some ib else none) ν [encA x.1, .agg [], .ptr b off] = some [encV x.1, .agg #[], .pointer (some ⟨ib.blk, ib.off + off, none⟩)] := by
            simp [concL, conc, encA, encV, encC]
          have := hans _ _ _ _ _ Hro hcc
          have fin : ∀ e w', (∃ φ' u, Ev (fun p => if p = b then some ib else none) (AH.mk (PT.set b (.cells esz n cs true none) .e) h.next .e) φ' h' ∧ HR ν W φ' h' w' ∧ conc φ' ν (.bool (δ x.1)) = some u ∧ match e with
              | Ending.returned x => false = false ∧ x = u
              | Ending.panicked c => false = true ∧ c = [({ v := u, recovered := false } : PanicEntry)]
              | Ending.outgrown => False) → e = .returned (.bool (δ x.1)) ∧ Below W.heap.size W w' := by
            rintro e w' ⟨φ', u, _, H', hu', hm⟩
            simp only [conc, Option.some.injEq] at hu'
            subst hu'
            cases e with
            | returned y => exact ⟨by rw [hm.2], H'.below⟩
            | panicked c => exact absurd hm.1 (by simp)
            | outgrown => exact hm.elim
          rcases this with ⟨q1, q2⟩ | ⟨u, w', q1, q2⟩
          · exact .inl ⟨q1, q2.mono fin⟩
          · exact .inr ⟨u, w', q1, fin _ _ q2⟩
        · rintro e w' ⟨rfl, hw1, hw2⟩
          obtain ⟨H', ev⟩ := H.setMap (clock2 := clock) (es2 := (L.filter fun x => !δ x.1).map absOf) hr him (ents_L (L.filter fun x => !δ x.1))
          refine ⟨φ, _, ev, H'.grow ?_, rfl, rfl, rfl⟩
          refine ⟨hw2.os, hw2.tape, hw2.output, by have := hw2.size; simpa [World.setObj'] using this, fun k hk => ?_⟩
          have hk : k < w.heap.size := by simpa [World.setObj'] using hk
          by_cases hkm : k = im.blk
          · subst hkm; rw [hw1, setObj'_at hk]
          · rw [hw2.block k hk (fun e => hkm (by cases e; rfl))]
            show _ = (w.heap.setIfInBounds im.blk _)[k]?
            rw [Array.getElem?_setIfInBounds_ne (fun e => hkm e.symm)]
      · cases hx
    · cases hx
  · cases hx
end Go.Ev
namespace Go.Ev
open Go Go.RowKit
variable {P : Program} {E : TyE} {w : World} {n N : Nat} {β : Type}

/-! ### strings.ReplaceAll of one byte -/
theorem repl1_cons {a c : UInt8} {b l : List UInt8} : repl1 a b (c :: l) = if c = a then b ++ repl1 a b l else c :: repl1 a b l := by
  simp only [repl1]
  by_cases h : c = a
  · subst h; simp
  · have : Nat.beq c.toNat a.toNat = false := by
      cases hq : Nat.beq c.toNat a.toNat with
      | false => rfl
      | true => exact absurd (UInt8.toNat_inj.1 (Nat.eq_of_beq_eq_true hq)) h
    rw [this, if_neg h]; rfl
theorem repl1_self (a : UInt8) : ∀ s, repl1 a [a] s = s
  | [] => rfl
  | c :: l => by
    rw [repl1_cons, repl1_self a l]
    by_cases h : c = a
    · subst h; simp
    · rw [if_neg h]
theorem replaceK_one (a : UInt8) (b : List UInt8) : ∀ s : List UInt8, Lib.replaceK [a] b (Lib.count s [a]) s = repl1 a b s
  | [] => by
    have : Lib.count [] [a] = 0 := Lib.count_miss rfl
    rw [this]; rfl
  | c :: l => by
    have ih := replaceK_one a b l
    rw [repl1_cons]
    by_cases h : c = a
    · subst h
      have hi : Lib.index (c :: l) [c] = ((0 : Nat) : Int) := by simp [Lib.index]
      rw [Lib.count_cons_eq, Nat.add_comm, Lib.replaceK_hit _ _ _ _ _ hi, if_pos rfl]
      simp [ih]
    · rw [Lib.count_cons_ne _ _ _ h, if_neg h, ← ih]
      cases hk : Lib.count l [a] with
      | zero => rfl
      | succ k =>
        obtain ⟨i, hi⟩ := Lib.index_of_count (s := l) (old := [a]) (by omega)
        have hi' : Lib.index (c :: l) [a] = ((i + 1 : Nat) : Int) := by
          have h0 : [a].isPrefixOf (c :: l) = false := by simp [List.isPrefixOf]; exact fun e => h e.symm
          have h1 : ((i : Int) == -1) = false := by rw [beq_eq_false_iff_ne]; omega
          simp [Lib.index, h0, hi, h1]
        rw [Lib.replaceK_hit _ _ _ _ _ hi, Lib.replaceK_hit _ _ _ _ _ hi']
        simp
theorem replaceAll_one (s : List UInt8) (a : UInt8) (b : List UInt8) : Lib.replaceAll s [a] b = repl1 a b s := by
  unfold Lib.replaceAll Lib.replace Lib.replaceNum
  by_cases h : [a] = b
  · subst h; simp [repl1_self]
  · have : ([a] == b) = false := by simpa using h
    rw [this]
    simp only [Bool.false_eq_true, if_false]
    rw [if_pos (Or.inl (by decide)), replaceK_one]
def ReplOK (P : Program) (f g : Nat) : Prop := ∀ (s old new : ByteArray) (m : Int) (w : World), s.size < 4294967281 → w.cell? ⟨g, 0, none⟩ = some (.int .i64 m) → 1 ≤ old.size → s.size + Lib.countB s old * new.size ≤ 140737488355328 →
  Calls P f #[.string s, .string old, .string new] w fun e w' => e = .returned (.string ⟨(Lib.replaceAll s.data.toList old.data.toList new.data.toList).toArray⟩) ∧ Below w.heap.size w w'
theorem intr_replaceAll {f g : Nat} (hg : g ∈ startInts) (hR : ReplOK P f g) (enters : ∀ args w, (callFunc f args).run P w = .ok (.enter f args) w) : IntrOK (β := β) P E f iReplaceAll := by
  intro run _ cl hcl args h k res hx
  unfold iReplaceAll at hx
  split at hx
  · rename_i s a b
    obtain ⟨h1, hx⟩ := bif_some hx
    obtain ⟨h2, hx⟩ := bif_some hx
    have h1 := Nat.le_of_ble_eq_true h1
    have h2 := Nat.le_of_ble_eq_true h2
    refine ⟨_, _, _, hx, ?_⟩
    intro φ ν w0 w us H hc
    simp only [concL, conc, Option.bind_some, Option.map_some, Option.some.injEq] at hc
    subst hc
    obtain ⟨m, hm⟩ := H.start g hg
    have hlt : g < w0.heap.size := World.block_lt_of_cell? _ _ hm
    have hm' : w.cell? ⟨g, 0, none⟩ = some (.int .i64 m) := (H.below.cell (p := ⟨g, 0, none⟩) hlt).trans hm
    have hcnt : Lib.countB ⟨s.toArray⟩ ⟨#[a]⟩ ≤ s.length + 1 := Lib.count_le s [a]
    refine .inl ⟨enters _ _, (hR ⟨s.toArray⟩ ⟨#[a]⟩ ⟨b.toArray⟩ m w ?_ hm' (Nat.le_refl 1) ?_).mono ?_⟩
    · show s.length < _; omega
    · show s.length + _ * b.length ≤ _
      have : Lib.countB ⟨s.toArray⟩ ⟨#[a]⟩ * b.length ≤ 1000001 * 1000 := Nat.mul_le_mul (by omega) h2
      omega
    · rintro e w' ⟨rfl, hb⟩
      refine ⟨φ, _, Ev.refl _ _, H.grow hb, ?_, rfl, rfl⟩
      have e : (⟨#[a]⟩ : ByteArray).data.toList = [a] := rfl
      simp only [conc, replaceAll_one]
  · cases hx
end Go.Ev
namespace Go.Ev
open Go Go.RowKit
variable {P : Program} {E : TyE}
/-! ### what the compiler of the program's code has made, is held as a literal -/
theorem resRel_of {X : Tmp → Bool} : ∀ {l : List ResultVar} {rs : List CR}, (∀ r ∈ l, match r with | .tmp t | .cell t _ => X t = true) →
    l.mapM (fun r => match r with
      | .tmp t => some (CR.tmp (posN t))
      | .cell t ty => do let g ← E.agg ty; let z ← E.size ty; if g then pure (CR.cell (posN t) (some z)) else pure (CR.cell (posN t) none)) = some rs → ResRel E X l rs
  | [], rs, _, h => by simp at h; subst h; trivial
  | r :: l, rs, hX, h => by
    rw [List.mapM_cons, Option.bind_eq_bind, Option.bind_eq_some_iff] at h
    obtain ⟨c, hc, h⟩ := h
    rw [Option.bind_eq_bind, Option.bind_eq_some_iff] at h
    obtain ⟨m, hm, h⟩ := h
    simp only [pure, Option.some.injEq] at h
    subst h
    have ih := resRel_of (fun r hr => hX r (List.mem_cons_of_mem _ hr)) hm
    have h0 := hX r (by simp)
    cases r with
    | tmp t =>
      simp only [Option.some.injEq] at hc
      subst hc
      exact ⟨rfl, h0, ih⟩
    | cell t ty =>
      simp only [Option.bind_eq_bind, Option.bind_eq_some_iff] at hc
      obtain ⟨g, hg, z, hz, hc⟩ := hc
      cases g with
      | true =>
        simp only [if_true, pure, Option.some.injEq] at hc
        subst hc
        exact ⟨rfl, h0, ⟨true, z, hg, hz, rfl⟩, ih⟩
      | false =>
        simp only [Bool.false_eq_true, if_false, pure, Option.some.injEq] at hc
        subst hc
        exact ⟨rfl, h0, ⟨false, z, hg, hz, rfl⟩, ih⟩
theorem seenF_mono : ∀ (l : List ResultVar) (s : List Tmp) (t : Tmp), t ∈ s → t ∈ l.foldl (fun s r => match r with | .tmp t | .cell t _ => if s.contains t then s else t :: s) s
  | [], s, t, h => h
  | r :: l, s, t, h => by
    rw [List.foldl_cons]
    refine seenF_mono l _ t ?_
    cases r <;> (simp only; split <;> simp [h])
theorem seenF_res : ∀ (l : List ResultVar) (s : List Tmp), ∀ r ∈ l, match r with | .tmp t | .cell t _ => t ∈ l.foldl (fun s r => match r with | .tmp t | .cell t _ => if s.contains t then s else t :: s) s
  | [], _, r, h => by cases h
  | r0 :: l, s, r, h => by
    rcases List.mem_cons.1 h with rfl | h
    · rw [List.foldl_cons]
      cases r with
      | tmp t => simp only; refine seenF_mono l _ t ?_; split <;> simp_all
      | cell t ty => simp only; refine seenF_mono l _ t ?_; split <;> simp_all
    · have := fun s => seenF_res l s r h
      rw [List.foldl_cons]
      cases r <;> exact this _
theorem fnOK_of {f : FuncId} {fn : Func} {cf : CF} (hf : P.funcs[f]? = some fn) (hn : fn.name ≠ "runtime.NumGoroutine") (hd : (match fn.body with | some c => dstsOk fn.ntmps c | none => true) = true) (hc : compF E fn = some cf) : FnOK P E f cf := by
  unfold compF at hc
  split at hc
  · cases hc
  · rename_i c hb
    rw [hb] at hd
    simp only at hc hd
    split at hc
    · rename_i rs hr
      simp only [Option.some.injEq] at hc
      subst hc
      refine ⟨fn, c, _, hf, hb, hn, rfl, resRel_of (fun r hr => ?_) hr, hd⟩
      have := seenF_res fn.results.toList (seenC c []) r hr
      cases r <;> (simp only at this ⊢; rw [List.contains_iff_mem]; exact this)
    · cases hc
end Go.Ev
namespace Go.Ev
open Go Go.RowKit
variable {P : Program} {E : TyE} {β : Type}
/-! ### a table, out of a list -/
theorem mkPT_get {α : Type} {p : Pos} {y : α} : ∀ {l : List (Nat × α)} {t : PT α}, (mkPT l t).get p = some y → (∃ f, p = Go.Ev.posOf f ∧ (f, y) ∈ l) ∨ t.get p = some y
  | [], t, h => .inr h
  | (f, i) :: l, t, h => by
    rw [mkPT, PT.setK_eq] at h
    rcases mkPT_get h with ⟨g, h1, h2⟩ | h
    · exact .inl ⟨g, h1, List.mem_cons_of_mem _ h2⟩
    · rw [PT.get_set] at h
      split at h
      · rename_i hp
        cases h
        exact .inl ⟨f, hp.symm, by simp⟩
      · exact .inr h
def AllFn (P : Program) (E : TyE) (l : List (Nat × CF)) : Prop := ∀ x ∈ l, FnOK P E x.1 x.2
def AllIn (P : Program) (E : TyE) (l : List (Nat × Intr β)) : Prop := ∀ x ∈ l, IntrOK P E x.1 x.2
theorem AllFn.nil : AllFn P E [] := fun _ h => by cases h
theorem AllFn.cons {f : Nat} {c : CF} {l : List (Nat × CF)} (h : FnOK P E f c) (hl : AllFn P E l) : AllFn P E ((f, c) :: l) := fun x hx => by
  rcases List.mem_cons.1 hx with rfl | hx
  · exact h
  · exact hl x hx
theorem AllFn.append {l m : List (Nat × CF)} (hl : AllFn P E l) (hm : AllFn P E m) : AllFn P E (l ++ m) := fun x hx => by
  rcases List.mem_append.1 hx with hx | hx
  · exact hl x hx
  · exact hm x hx
theorem AllIn.nil : AllIn (β := β) P E [] := fun _ h => by cases h
theorem AllIn.cons {f : Nat} {c : Intr β} {l : List (Nat × Intr β)} (h : IntrOK P E f c) (hl : AllIn P E l) : AllIn P E ((f, c) :: l) := fun x hx => by
  rcases List.mem_cons.1 hx with rfl | hx
  · exact h
  · exact hl x hx
theorem tabOK_of {fs : List (Nat × CF)} {is : List (Nat × Intr β)} (hf : AllFn P E fs) (hi : AllIn P E is) : TabOK P E ⟨mkPT fs .e, mkPT is .e⟩ := {
  fn f cf h := by
    rcases mkPT_get h with ⟨g, h1, h2⟩ | h
    · rw [posOf_inj h1]; exact hf _ h2
    · rw [PT.get_e] at h; cases h
  intr f s h := by
    rcases mkPT_get h with ⟨g, h1, h2⟩ | h
    · rw [posOf_inj h1]; exact hi _ h2
    · rw [PT.get_e] at h; cases h }
theorem envOK_of {eqs : List TypeId} (h : ∀ t ∈ eqs, P.eqGuardType P.depth t = false ∧ P.stoodInHeld t = false) : EnvOK P (TyE.of P fun t => eqs.contains t) := {
  ty t i h := by
    have h : P.types[t]? = some i := h
    have := (Array.getElem?_eq_some_iff.1 h).1
    simp only [Tables.info?]
    rw [if_pos this]; exact h
  eqs t ht := h t (List.contains_iff_mem.1 ht) }
end Go.Ev
