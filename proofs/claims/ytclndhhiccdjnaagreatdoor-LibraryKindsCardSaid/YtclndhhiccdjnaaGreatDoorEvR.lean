/- The law's call returns true, given its runs. -/
import Derived.Test.YtclndhhiccdjnaaGreatDoorEvM
set_option maxRecDepth 1000000
set_option maxHeartbeats 400000
namespace Go.Ev
open Go Go.RowKit Go.Proofs
variable {w : World}
/-- what is asked of the runs -/
def LawRuns : Prop := ∀ s ∈ namesL, lawRun s = some true
theorem tmps_of {a : Act} {σ : Tmp → Value} {N t : Nat} (hE : EvalIs a σ N) (ht : t < N) : a.tmps[t]? = some (σ t) := by
  have h1 := congrFun hE.2 (.tmp t)
  have h2 : a.tmps.getD t undef = σ t := h1
  have h3 : t < a.tmps.size := by rw [hE.1]; exact ht
  rw [Array.getElem?_eq_getElem h3, ← h2, Array.getD_eq_getD_getElem?, Array.getElem?_eq_getElem h3]; rfl
theorem tmpsOK_list {φ : Phi} {ν : Nu} {X : Tmp → Bool} {a : Act} {σ : Tmp → Value} {N : Nat} {l : List (Nat × AV)} (hE : EvalIs a σ N) (h : ∀ x ∈ l, x.1 < N ∧ conc φ ν x.2 = some (σ x.1)) : TmpsOK φ ν (sgL X (mkPT l .e)) a All := by
  intro t v _ hv
  have hg : (mkPT l .e).get (posN t) = some v := by
    unfold sgL sg Rv at hv
    simp only [Go.Ev.res, look, Option.bind_eq_some_iff] at hv
    obtain ⟨c, q1, q2⟩ := hv
    split at q1
    · cases q1; exact q2
    · cases q1
  rcases mkPT_get hg with ⟨f, h1, h2⟩ | h1
  · have : t = f := by rw [posN_eq] at h1; exact posOf_inj h1
    subst this
    obtain ⟨q1, q2⟩ := h _ h2
    exact ⟨_, tmps_of hE q1, q2⟩
  · rw [PT.get_e] at h1; cases h1
theorem x_mks2 {P : Program} {ρ : Operand → Value} {o : Oper} {tL tE : TypeId} {x y : Operand} {u v z : Value} (ho : o.op = .buildSlice tL 2 #[(0, x), (1, y)]) (uL : P.underlying tL = some (.slice tE)) (zE : ∀ w, (sizeOf tE).run P w = .ok 1 w) (vE : ∀ w, (zeroValue tE).run P w = .ok z w) (hz : z.cells.size = 1)
    (hx : ρ x = u) (hy : ρ y = v) (hu : u.cells = #[u]) (hv : v.cells = #[v]) : (execOp ρ o).run P w = .ok (.value (.slice (some ⟨w.heap.size, 0, none⟩) 2 2)) (w.alloc (.cells #[u, v] tE)) := by
  have h1 := run_underlying (P := P) (w := w) uL
  simp only [execOp, ho, Sem.run_bind, Instr.buildSlice]
  simp [h1, zE, vE, hx, hy, newRow, Instr.fill, hu, hv, hz]
  have e : (((Array.map (fun x => z.cells[x % 1]!) (Array.range 2)).setIfInBounds 0 u).setIfInBounds 1 v) = #[u, v] := by
    rw [show Array.range 2 = #[0, 1] from rfl]; simp
  rw [e]
theorem x_add {P : Program} {ρ : Operand → Value} {o : Oper} {t t' : TypeId} {x y : Operand} {m k : Int} (ho : o.op = .binOp .add t x y t') (hx : ρ x = .int .i64 m) (hy : ρ y = .int .i64 k) (h1 : -9223372036854775808 ≤ m + k) (h2 : m + k < 9223372036854775808) :
    (execOp ρ o).run P w = .ok (.value (.int .i64 (m + k))) w := by
  have := wrap_i64_id h1 h2
  simp [execOp, ho, binOp, hx, hy, go_sem, this]
theorem kernel_calls (hruns : LawRuns) (hs : Start w) (k x y : Int) : Calls Tryz.prog 5 #[.int .i64 k, .int .i64 x, .int .i64 y, .int .i64 256] w fun e w' => ∃ (ν : Nu) (φ : Phi) (h : AH) (v8 v9 : AV) (u8 u9 : Value),
    e = .returned (.tuple #[u8, u9]) ∧ HR ν w φ h w' ∧ conc φ ν v8 = some u8 ∧ conc φ ν v9 = some u9 ∧ run (T0 Bool) 1000000 lawC (Ll v8 v9) h lawEnd = some true := by
  refine calls_of_cx Tryz.func5 rfl ?_
  obtain ⟨σs, hσs⟩ : ∃ σs, σs = σ0 #[.int .i64 k, .int .i64 x, .int .i64 y, .int .i64 256] := ⟨_, rfl⟩
  have s0 : σs 0 = .int .i64 k := by rw [hσs]; rfl
  have s1 : σs 1 = .int .i64 x := by rw [hσs]; rfl
  have s2 : σs 2 = .int .i64 y := by rw [hσs]; rfl
  have s3 : σs 3 = .int .i64 256 := by rw [hσs]; rfl
  rw [← hσs, show (#[Value.int .i64 k, .int .i64 x, .int .i64 y, .int .i64 256] : Array Value).size + (Tryz.f5.ntmps - (#[Value.int .i64 k, .int .i64 x, .int .i64 y, .int .i64 256] : Array Value).size) = 36 from rfl]
  clear hσs
  refine cx_seq (cx_region (l := [(some 8, .assign (.const (.string ⟨#[]⟩))), (some 9, .assign (.const (.slice none 0 0)))]) rfl ?_)
  refine ox_val (fun o ho => x_mv (.inr ho) rfl) (by simp) (by simp) ?_
  refine ox_val (fun o ho => x_mv (.inr ho) rfl) (by simp) (by simp) ?_
  refine ox_nil (cx_seq (cx_region (l := [(some 13, .call { callee := .value (.func 16), args := #[], argTypes := #[] }), (some 10, .assign (.tmp 13))]) rfl ?_))
  refine ox_call (f := 16) (args := #[]) (w' := w) (fun o ho => (x_call ho rfl (fun _ _ => run_callFunc Tryz.func16 rfl (by decide))).trans (by simp)) (by simp) (by simp) (names_calls hs) ?_
  rintro e w1 ⟨B, o, rfl, hb1, hnames⟩
  refine ⟨_, rfl, ?_⟩
  refine ox_val (v := .slice (some ⟨B, o, none⟩) 12 12) (fun o ho => x_mv (.inr ho) (by simp [ev, updO, upd])) (by simp) (by simp) ?_
  refine ox_nil (cx_seq (cx_region (l := [(some 14, .move (.tmp 10)), (some 15, .move (.tmp 0)), (some 16, .move (.tmp 10)), (some 17, .call { callee := .builtin .len, args := #[.tmp 16], argTypes := #[53] }), (some 18, .call { callee := .value (.func 17), args := #[.tmp 15, .tmp 17], argTypes := #[3, 3] }), (some 19, .indexAddr 53 (.tmp 14) (.tmp 18)), (some 20, .load 9 (.tmp 19)), (some 11, .assign (.tmp 20))]) rfl ?_))
  refine ox_val (v := .slice (some ⟨B, o, none⟩) 12 12) (fun o ho => x_mv (.inl ho) (by simp [ev, updO, upd])) (by simp) (by simp) ?_
  refine ox_val (v := .int .i64 k) (fun o ho => x_mv (.inl ho) (by simp [ev, updO, upd, s0])) (by simp) (by simp) ?_
  refine ox_val (v := .slice (some ⟨B, o, none⟩) 12 12) (fun o ho => x_mv (.inl ho) (by simp [ev, updO, upd])) (by simp) (by simp) ?_
  refine ox_val (v := .int .i64 12) (fun o' ho => x_len (p := some ⟨B, o, none⟩) (c := 12) (n := 12) ho rfl Tryz.underlying53 (by simp [ev, mkv])) (by simp) (by simp) ?_
  refine ox_call (f := 17) (args := #[.int .i64 k, .int .i64 (12 : Nat)]) (w' := w1) (fun o ho => (x_call ho rfl (fun _ _ => run_callFunc Tryz.func17 rfl (by decide))).trans (by simp [ev, updO, upd])) (by simp) (by simp) (pick_any k 12 (by omega) (by omega) w1) ?_
  rintro e w1' ⟨⟨p, rfl, hp⟩, rfl⟩
  refine ⟨_, rfl, ?_⟩
  obtain ⟨s, hsn⟩ : ∃ s, namesL[p]? = some s := by
    have : p < namesL.length := hp
    exact ⟨_, List.getElem?_eq_getElem this⟩
  have hsm : s ∈ namesL := List.mem_of_getElem? hsn
  refine ox_val (v := .pointer (some ⟨B, o + p, none⟩)) (w' := w1') (fun o' ho => (x_ia (sz := 1) (b := B) (n := 12) (c := 12) (j := o) (i := p) ho Tryz.underlying53 Tryz.sizeOf9 (by simp [ev, updO, upd]) (by simp [ev, updO, upd]) hp).trans (by simp)) (by simp) (by simp) ?_
  refine ox_val (v := .string ⟨s.toArray⟩) (fun o' ho => x_load1 ho Tryz.isAgg9 (b := B) (j := o + p) (by simp [ev, updO, upd]) (hnames p s hsn)) (by simp) (by simp) ?_
  refine ox_val (v := .string ⟨s.toArray⟩) (fun o ho => x_mv (.inr ho) (by simp [ev, updO, upd])) (by simp) (by simp) ?_
  refine ox_nil (cx_seq (cx_region (l := [(some 21, .move (.tmp 1)), (some 22, .move (.tmp 3)), (some 23, .call { callee := .value (.func 17), args := #[.tmp 21, .tmp 22], argTypes := #[3, 3] }), (some 24, .binOp .add 3 (.const (.int .i64 1)) (.tmp 23) 3), (some 25, .move (.tmp 2)), (some 26, .move (.tmp 3)), (some 27, .call { callee := .value (.func 17), args := #[.tmp 25, .tmp 26], argTypes := #[3, 3] }), (some 28, .binOp .add 3 (.const (.int .i64 1)) (.tmp 27) 3), (some 29, .buildSlice 23 2 #[(0, .tmp 24), (1, .tmp 28)]), (some 12, .assign (.tmp 29))]) rfl ?_))
  refine ox_val (v := .int .i64 x) (fun o ho => x_mv (.inl ho) (by simp [ev, updO, upd, s1])) (by simp) (by simp) ?_
  refine ox_val (v := .int .i64 256) (fun o ho => x_mv (.inl ho) (by simp [ev, updO, upd, s3])) (by simp) (by simp) ?_
  refine ox_call (f := 17) (args := #[.int .i64 x, .int .i64 (256 : Nat)]) (w' := w1') (fun o ho => (x_call ho rfl (fun _ _ => run_callFunc Tryz.func17 rfl (by decide))).trans (by simp [ev, updO, upd])) (by simp) (by simp) (pick_any x 256 (by omega) (by omega) w1') ?_
  rintro e w1'' ⟨⟨a, rfl, ha⟩, rfl⟩
  refine ⟨_, rfl, ?_⟩
  refine ox_val (v := .int .i64 (1 + (a : Int))) (fun o ho => x_add (m := 1) (k := a) ho rfl (by simp [ev, updO, upd]) (by omega) (by omega)) (by simp) (by simp) ?_
  refine ox_val (v := .int .i64 y) (fun o ho => x_mv (.inl ho) (by simp [ev, updO, upd, s2])) (by simp) (by simp) ?_
  refine ox_val (v := .int .i64 256) (fun o ho => x_mv (.inl ho) (by simp [ev, updO, upd, s3])) (by simp) (by simp) ?_
  refine ox_call (f := 17) (args := #[.int .i64 y, .int .i64 (256 : Nat)]) (w' := w1'') (fun o ho => (x_call ho rfl (fun _ _ => run_callFunc Tryz.func17 rfl (by decide))).trans (by simp [ev, updO, upd])) (by simp) (by simp) (pick_any y 256 (by omega) (by omega) w1'') ?_
  rintro e w2 ⟨⟨b, rfl, hb⟩, rfl⟩
  refine ⟨_, rfl, ?_⟩
  refine ox_val (v := .int .i64 (1 + (b : Int))) (fun o ho => x_add (m := 1) (k := b) ho rfl (by simp [ev, updO, upd]) (by omega) (by omega)) (by simp) (by simp) ?_
  refine ox_val (v := .slice (some ⟨w2.heap.size, 0, none⟩) 2 2) (w' := w2.alloc (.cells #[.int .i64 (1 + (a : Int)), .int .i64 (1 + (b : Int))] 3)) (fun o ho => x_mks2 ho Tryz.underlying23 Tryz.sizeOf3 Tryz.zeroValue3 rfl (by simp [ev, updO, upd]) (by simp [ev, updO, upd]) rfl rfl) (by simp) (by simp) ?_
  refine ox_val (v := .slice (some ⟨w2.heap.size, 0, none⟩) 2 2) (fun o ho => x_mv (.inr ho) (by simp [ev, updO, upd])) (by simp) (by simp) ?_
  refine ox_nil ?_
  -- the evaluator's part
  obtain ⟨w3, hw3⟩ : ∃ w3, w3 = w2.alloc (.cells #[.int .i64 (1 + (a : Int)), .int .i64 (1 + (b : Int))] 3) := ⟨_, rfl⟩
  rw [← hw3]
  let ν : Nu := { x := 1 + a, y := 1 + b, hx := by unfold bx; omega, hy := by unfold bx; omega }
  have hb3 : Below w.heap.size w w3 := by rw [hw3]; exact hb1.alloc hb1.size _
  have H0 : HR ν w (fun _ => none) h0 w3 := (HR.empty hs rfl).grow hb3
  have hsz : w3.heap.size = w2.heap.size + 1 := by rw [hw3, World.size_alloc]
  obtain ⟨H1, _⟩ := H0.place (ob := .cells 1 2 (chunk [.lin .i64 0 1 0, .lin .i64 0 0 1]) false none) (i := ⟨w2.heap.size, 0, 0, 1⟩) (by intro _ _ _ _ _ e; cases e; rfl) (by rw [hsz]; exact Nat.lt_succ_self _) (fun p j hp => by cases hp) (fun k o hk => by cases hk) (by
    rw [hw3]
    exact ok_cells (us := #[.int .i64 (1 + (a : Int)), .int .i64 (1 + (b : Int))]) rfl hb1.size (by simp [concL, conc, ν]))
  rw [show h0.next = Pos.one from rfl] at H1
  have hrun := hruns s hsm
  unfold lawRun at hrun
  have hcode : kernC = compC E0 (fun t => ((match Tryz.f5.body with | some c => seenF Tryz.f5 c | none => []) : List Tmp).contains t) (match Tryz.f5.body with | some (.seq _ (.seq _ (.seq _ (.seq _ c)))) => c | _ => .skip) := by kernel_rfl
  rw [hcode] at hrun
  obtain ⟨x', L', h', hk', hgo⟩ := run_spec env0 mixed0 tab0 1000000 _ 36 _ _ _ _ _ (by kernel_rfl) hrun
  unfold kernEnd at hk'
  split at hk'
  · split at hk'
    · rename_i v8 v9 hv8 hv9
      intro act hd hE
      refine wpIn_wide.2 (WpX.wp (hgo _ _ ν w w3 act H1 ?_ hE.1 ?_))
      · refine tmpsOK_list hE ?_
        intro x hx
        simp only [List.mem_cons, List.not_mem_nil, or_false] at hx
        rcases hx with rfl | rfl
        · exact ⟨(by decide : 11 < 36), by simp [conc, updO, upd]⟩
        · exact ⟨(by decide : 12 < 36), by simp [conc, updO, upd, Phi.upd_self, capOf]⟩
      · intro φ' w' a' e' _ H' ha'
        obtain ⟨q1, rfl, hT, hN⟩ := ha'
        obtain ⟨u8, r1, r2⟩ := hT 8 v8 trivial (sgL_get (by kernel_rfl) (by rw [posN_eq]; exact hv8))
        obtain ⟨u9, r3, r4⟩ := hT 9 v9 trivial (sgL_get (by kernel_rfl) (by rw [posN_eq]; exact hv9))
        refine ⟨fun t => a'.tmps.getD t undef, _, rfl, ⟨hN, eval_ext fun t => rfl⟩, ?_⟩
        refine ⟨w', .inl ⟨by rw [q1, hd], rfl⟩, .tuple #[u8, u9], fun tmps ht => ?_, ν, φ', _, v8, v9, u8, u9, rfl, H', r2, r4, hk'⟩
        rw [results_tmp2 rfl, ht 8, ht 9]
        simp only [Array.getD_eq_getD_getElem?, r1, r3]; rfl
    · cases hk'
  · cases hk'
theorem law_calls (hruns : LawRuns) (hs : Start w) (k x y : Int) : Calls Tryz.prog 3 #[.int .i64 k, .int .i64 x, .int .i64 y] w fun e w' => e = .returned (.bool true) ∧ Below w.heap.size w w' := by
  refine calls_of_cx Tryz.func3 rfl ?_
  obtain ⟨σs, hσs⟩ : ∃ σs, σs = σ0 #[.int .i64 k, .int .i64 x, .int .i64 y] := ⟨_, rfl⟩
  have s0 : σs 0 = .int .i64 k := by rw [hσs]; rfl
  have s1 : σs 1 = .int .i64 x := by rw [hσs]; rfl
  have s2 : σs 2 = .int .i64 y := by rw [hσs]; rfl
  rw [← hσs, show (#[Value.int .i64 k, .int .i64 x, .int .i64 y] : Array Value).size + (Tryz.f3.ntmps - (#[Value.int .i64 k, .int .i64 x, .int .i64 y] : Array Value).size) = 110 from rfl]
  clear hσs
  refine cx_seq (cx_region (l := [(some 6, .assign (.const (.bool false)))]) rfl ?_)
  refine ox_val (fun o ho => x_mv (.inr ho) rfl) (by simp) (by simp) ?_
  refine ox_nil (cx_seq (cx_seq (cx_region (l := [(some 19, .call { callee := .value (.func 4), args := #[], argTypes := #[] }), (some 20, .unOp .not 4 (.tmp 19))]) rfl ?_)))
  refine ox_call (f := 4) (args := #[]) (w' := w) (fun o ho => (x_call ho rfl (fun _ _ => run_callFunc Tryz.func4 rfl (by decide))).trans (by simp)) (by simp) (by simp) (lives_calls hs) ?_
  rintro e w1 ⟨rfl, hb1⟩
  refine ⟨_, rfl, ?_⟩
  refine ox_val (v := .bool false) (fun q ho => by rw [x_not (b := true) ho (by simp [ev, mkv])]; rfl) (by simp) (by simp) ?_
  refine ox_nil (cx_false (by simp [ev, mkv]) (cx_skip ?_))
  have hs1 : Start w1 := fun g hg => by
    obtain ⟨m, hm⟩ := hs g hg
    exact ⟨m, (hb1.cell (p := ⟨g, 0, none⟩) (World.block_lt_of_cell? _ _ hm)).trans hm⟩
  refine cx_seq (cx_region (l := [(some 22, .move (.tmp 0)), (some 23, .move (.tmp 1)), (some 24, .move (.tmp 2)), (some 25, .call { callee := .value (.func 5), args := #[.tmp 22, .tmp 23, .tmp 24, .const (.int .i64 256)], argTypes := #[3, 3, 3, 3] }), (some 21, .move (.tmp 25)), (some 26, .extract (.tmp 21) 0), (some 27, .extract (.tmp 21) 1), (some 7, .assign (.tmp 26)), (some 8, .assign (.tmp 27))]) rfl ?_)
  refine ox_val (v := .int .i64 k) (fun o ho => x_mv (.inl ho) (by simp [ev, updO, upd, s0])) (by simp) (by simp) ?_
  refine ox_val (v := .int .i64 x) (fun o ho => x_mv (.inl ho) (by simp [ev, updO, upd, s1])) (by simp) (by simp) ?_
  refine ox_val (v := .int .i64 y) (fun o ho => x_mv (.inl ho) (by simp [ev, updO, upd, s2])) (by simp) (by simp) ?_
  refine ox_call (f := 5) (args := #[.int .i64 k, .int .i64 x, .int .i64 y, .int .i64 256]) (w' := w1) (fun o ho => (x_call ho rfl (fun _ _ => run_callFunc Tryz.func5 rfl (by decide))).trans (by simp [ev, updO, upd])) (by simp) (by simp) (kernel_calls hruns hs1 k x y) ?_
  rintro e w2 ⟨ν, φ, h, v8, v9, u8, u9, rfl, H, hc8, hc9, hrun⟩
  refine ⟨_, rfl, ?_⟩
  refine ox_val (v := .tuple #[u8, u9]) (fun o ho => x_mv (.inl ho) (by simp [ev, updO, upd])) (by simp) (by simp) ?_
  refine ox_val (v := u8) (fun o ho => x_ext (vs := #[u8, u9]) ho (by simp [ev, updO, upd]) rfl) (by simp) (by simp) ?_
  refine ox_val (v := u9) (fun o ho => x_ext (vs := #[u8, u9]) ho (by simp [ev, updO, upd]) rfl) (by simp) (by simp) ?_
  refine ox_val (v := u8) (fun o ho => x_mv (.inr ho) (by simp [ev, updO, upd])) (by simp) (by simp) ?_
  refine ox_val (v := u9) (fun o ho => x_mv (.inr ho) (by simp [ev, updO, upd])) (by simp) (by simp) ?_
  refine ox_nil ?_
  have hcode : lawC = compC E0 (fun t => ((match Tryz.f3.body with | some c => seenF Tryz.f3 c | none => []) : List Tmp).contains t) (match Tryz.f3.body with | some (.seq _ (.seq _ (.seq _ c))) => c | _ => .skip) := by kernel_rfl
  rw [hcode] at hrun
  obtain ⟨x', L', h', hk', hgo⟩ := run_spec env0 mixed0 tab0 1000000 _ 110 _ _ _ _ _ (by kernel_rfl) hrun
  unfold lawEnd at hk'
  split at hk'
  · split at hk'
    · rename_i hv6
      intro act hd hE
      refine wpIn_wide.2 (WpX.wp (hgo _ _ ν w1 w2 act H ?_ hE.1 ?_))
      · refine tmpsOK_list hE ?_
        intro x hx
        simp only [List.mem_cons, List.not_mem_nil, or_false] at hx
        rcases hx with rfl | rfl
        · exact ⟨(by decide : 7 < 110), by simpa [updO, upd] using hc8⟩
        · exact ⟨(by decide : 8 < 110), by simpa [updO, upd] using hc9⟩
      · intro φ' w' a' e' _ H' ha'
        obtain ⟨q1, rfl, hT, hN⟩ := ha'
        obtain ⟨u6, r1, r2⟩ := hT 6 _ trivial (sgL_get (by kernel_rfl) (by rw [posN_eq]; exact hv6))
        simp only [conc, Option.some.injEq] at r2
        subst r2
        refine ⟨fun t => a'.tmps.getD t undef, _, rfl, ⟨hN, eval_ext fun t => rfl⟩, ?_⟩
        refine ⟨w', .inl ⟨by rw [q1, hd], rfl⟩, .bool true, fun tmps ht => ?_, rfl, hb1.trans (H'.below.mono hb1.size)⟩
        rw [results_tmp rfl, ht 6]
        simp only [Array.getD_eq_getD_getElem?, r1]; rfl
    · cases hk'
  · cases hk'
end Go.Ev
