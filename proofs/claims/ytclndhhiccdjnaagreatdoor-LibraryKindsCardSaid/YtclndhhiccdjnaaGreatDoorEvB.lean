/- The evaluator is sound, the second part: operations. No condition. -/
import Derived.MapKept
import Derived.Lib.SlicesS
import Derived.Laws.Append
import Derived.Laws.Tables
import Derived.Great.BuildSlice
import Derived.Orders
import Derived.Test.YtclndhhiccdjnaaGreatDoorEvA
set_option maxRecDepth 1000000
set_option maxHeartbeats 400000
namespace Go.Ev
open Go Go.RowKit
variable {P : Program} {E : TyE} {o : Oper} {ρ : Rho}

/-! ### keys of maps -/
theorem key_kd {t : TypeId} {d : KD} (h : E.key t = some d) : E.kd t = some d ∧ (d = .leaf .int ∨ d = .leaf .str ∨ ∃ l, d = .flat l) := by
  unfold TyE.key at h
  split at h <;> first | (cases h; done) | (cases h; exact ⟨by assumption, by simp⟩)
theorem kd_leaf {t : TypeId} {l : LD} (h : E.kd t = some (.leaf l)) : ∃ D, E.und t = some D ∧ leafD D = some l := by
  unfold TyE.kd at h
  cases hu : E.und t with
  | none => rw [hu] at h; cases h
  | some D =>
    rw [hu] at h
    refine ⟨D, rfl, ?_⟩
    cases D <;> simp only [leafD, Option.map_some, Option.map_none, Option.some.injEq, reduceCtorEq, KD.leaf.injEq] at h ⊢
    all_goals first
      | exact h
      | (split at h
         · cases hf : flatF E _ 0 with
           | none => rw [hf] at h; cases h
           | some _ => rw [hf] at h; cases h
         · cases h)
theorem kd_flat {t : TypeId} {ds : List LD} (h : E.kd t = some (.flat ds)) : ∃ fs : Array Field, E.und t = some (.struct fs) ∧ flatF E fs.toList 0 = some ds := by
  unfold TyE.kd at h
  cases hu : E.und t with
  | none => rw [hu] at h; cases h
  | some D =>
    rw [hu] at h
    cases D <;> simp only [leafD, Option.map_some, Option.map_none, Option.some.injEq, reduceCtorEq] at h
    case struct fs =>
      split at h
      · cases hf : flatF E fs.toList 0 with
        | none => rw [hf] at h; cases h
        | some ds' => rw [hf] at h; simp at h; subst h; exact ⟨fs, rfl, hf⟩
      · cases h
theorem checkKey_leaf {t : TypeId} {D : TypeDesc} (he : EnvOK P E) (hu : E.und t = some D) {l : LD} (hl : leafD D = some l) (em : Bool) (n : Nat) (a : Value) (w : World) :
    (Instr.checkKey em (n + 1) t a).run P w = .ok () w := by
  cases D <;> simp only [leafD, reduceCtorEq] at hl <;> simp [Instr.checkKey, run_und he hu]
/-- a run over a list, each step of which changes nothing -/
theorem run_forIn_ok {α : Type} {w : World} (f : α → PUnit → Sem (ForInStep PUnit)) : ∀ (l : List α), (∀ x ∈ l, (f x ⟨⟩).run P w = .ok (.yield ⟨⟩) w) → (forIn l ⟨⟩ f : Sem PUnit).run P w = .ok ⟨⟩ w
  | [], _ => by simp
  | x :: l, h => by
    rw [List.forIn_cons, Sem.run_bind, h x (by simp)]
    exact run_forIn_ok f l fun y hy => h y (by simp [hy])
theorem flat_fields : ∀ {fs : List Field} {i : Nat} {ds : List LD}, flatF E fs i = some ds → fs.length = ds.length ∧ ∀ (j : Nat) (f : Field), fs[j]? = some f → f.offset = i + j ∧ ∃ D l, E.und f.type = some D ∧ leafD D = some l
  | [], i, ds, h => by simp only [flatF, Option.some.injEq] at h; subst h; simp
  | f :: fs, i, ds, h => by
    simp only [flatF] at h
    split at h
    · rename_i hf
      split at h
      · rename_i d hd
        split at h
        · rename_i k m h1 h2
          cases h
          obtain ⟨ih1, ih2⟩ := flat_fields h2
          refine ⟨by simp [ih1], ?_⟩
          intro j g hj
          cases j with
          | zero => simp at hj; subst hj; exact ⟨by simpa using hf.2, d, k, hd, h1⟩
          | succ j =>
            obtain ⟨a, b⟩ := ih2 j g (by simpa using hj)
            exact ⟨by omega, b⟩
        · cases h
      · cases h
    · cases h
theorem lenL_len {α : Type} (l : List α) : lenL l = l.length := lenL_eq l
theorem run_checkKey (he : EnvOK P E) {t : TypeId} {d : KD} {φ : Phi} {ν : Nu} {x : AV} {a : Value} (hk : E.key t = some d) (hx : conc φ ν x = some a) (hok : keyOk d x = true) (em : Bool) (w : World) :
    (Instr.checkKey em 10000 t a).run P w = .ok () w := by
  obtain ⟨h1, h2⟩ := key_kd hk
  rcases h2 with rfl | rfl | ⟨ds, rfl⟩
  · obtain ⟨D, h3, h4⟩ := kd_leaf h1
    exact checkKey_leaf he h3 h4 em 9999 a w
  · obtain ⟨D, h3, h4⟩ := kd_leaf h1
    exact checkKey_leaf he h3 h4 em 9999 a w
  · obtain ⟨fs, h3, h4⟩ := kd_flat h1
    cases x <;> simp only [keyOk, Bool.false_eq_true] at hok
    rename_i l
    have hlen := Nat.eq_of_beq_eq_true hok
    rw [lenL_len, lenL_len] at hlen
    simp only [conc, Option.map_eq_some_iff] at hx
    obtain ⟨l', hl', rfl⟩ := hx
    obtain ⟨hf1, hf2⟩ := flat_fields h4
    show (Instr.checkKey em (9998 + 1 + 1) t _).run P w = _
    rw [Instr.checkKey, Sem.run_bind, run_und he h3]
    simp only [Result.andThen_ok]
    rw [← Array.forIn_toList, Sem.run_bind]
    rw [run_forIn_ok]
    · rfl
    · intro f hf
      obtain ⟨j, hj⟩ := List.mem_iff_getElem?.1 hf
      obtain ⟨e1, D, k, e2, e3⟩ := hf2 j f hj
      have hjl : j < l'.length := by
        have := (List.getElem?_eq_some_iff.1 hj).1
        have := concL_length hl'
        omega
      split
      · have hp := run_part1 (P := P) he e2 (by simp [e3]) l'.toArray f.offset l'[j] (by simp [e1]) w
        simp [hp, checkKey_leaf he e2 e3 em 9998]
      · rfl
/-! ### finding a key -/
theorem findK_cons {M : Int} {d : KD} {k : AV} {x : AV × AV × Nat} {l : List (AV × AV × Nat)} {i : Nat} :
    findK M d k (x :: l) i = (match eqA M d k x.1 with | none => none | some true => some (some (i, x.2.1)) | some false => findK M d k l (i + 1)) := by
  show Option.rec (motive := fun _ => Option (Option (Nat × AV))) none (fun b => Bool.rec (motive := fun _ => Option (Option (Nat × AV))) (findK M d k l (Nat.succ i)) (some (some (i, x.2.1))) b) (eqA M d k x.1) = _
  cases h : eqA M d k x.1 with
  | none => rfl
  | some b => cases b <;> rfl
def Ents (φ : Phi) (ν : Nu) (es : List (AV × AV × Nat)) (es' : List MapEntry) : Prop :=
  es'.length = es.length ∧ ∀ (j : Nat) (x : AV × AV × Nat), es[j]? = some x → ∃ y, es'[j]? = some y ∧ concE φ ν x y
theorem Ents.tail {φ : Phi} {ν : Nu} {x : AV × AV × Nat} {es : List (AV × AV × Nat)} {y : MapEntry} {es' : List MapEntry} (h : Ents φ ν (x :: es) (y :: es')) : concE φ ν x y ∧ Ents φ ν es es' := by
  obtain ⟨h1, h2⟩ := h
  refine ⟨?_, by simpa using h1, fun j z hj => by simpa using h2 (j + 1) z (by simpa using hj)⟩
  obtain ⟨y', hy, hc⟩ := h2 0 x rfl
  simp at hy; subst hy; exact hc
theorem sameNow_equal {t : TypeId} {D : TypeDesc} {a b : Value} {c : Bool} (hP : P.underlying t = some D) (h : Instr.sameNow D a b = some c) (w : World) : (Op.equal t a b).run P w = .ok c w := by
  show (Op.equalIn (9999 + 1) t a b).run P w = _
  generalize 9999 = dd
  cases D <;> cases a <;> cases b <;> simp only [Instr.sameNow, reduceCtorEq, Option.some.injEq] at h
  all_goals first
    | (subst h; simp [Op.equalIn, underlying, program, Sem.run, bind, Sem.bind, pure, hP]; done)
    | (split at h
       · rename_i e
         cases h; subst e
         simp [Op.equalIn, underlying, program, Sem.run, bind, Sem.bind, pure, hP]
       · cases h)
theorem find_spec (he : EnvOK P E) {t : TypeId} {d : KD} {D : TypeDesc} {φ : Phi} {ν : Nu} {k : AV} {a : Value} (hk : E.kd t = some d) (hD : P.underlying t = some D) (hx : conc φ ν k = some a) (w : World) :
    ∀ (es : List (AV × AV × Nat)) (es' : List MapEntry) (i : Nat) (r : Option (Nat × AV)), Ents φ ν es es' → findK bx d k es i = some r →
      ∃ r' : Option (Nat × Value), (Instr.findAsking t a es' i).run P w = .ok r' w ∧ (Instr.findNow D a es' i = none ∨ Instr.findNow D a es' i = some r') ∧
        match r with
        | none => r' = none
        | some (j, v) => i ≤ j ∧ ∃ e y, es[j - i]? = some e ∧ es'[j - i]? = some y ∧ concE φ ν e y ∧ e.2.1 = v ∧ eqA bx d k e.1 = some true ∧ r' = some (j, y.val)
  | [], [], i, r, _, h => by
    have : r = none := by
      have h' : (some none : Option (Option (Nat × AV))) = some r := h
      cases h'; rfl
    subst this
    exact ⟨none, by simp [Instr.findAsking], .inr rfl, rfl⟩
  | [], y :: es', i, r, ⟨hl, _⟩, _ => by simp at hl
  | x :: es, [], i, r, ⟨hl, _⟩, _ => by simp at hl
  | x :: es, y :: es', i, r, hE, h => by
    obtain ⟨hc, hE'⟩ := hE.tail
    rw [findK_cons] at h
    cases hq : eqA bx d k x.1 with
    | none => rw [hq] at h; cases h
    | some b =>
      have heq := equal_spec he hk hx hc.1 hq w
      have hsn : Instr.sameNow D a y.key = none ∨ Instr.sameNow D a y.key = some b := by
        cases hs : Instr.sameNow D a y.key with
        | none => exact .inl rfl
        | some c =>
          have := sameNow_equal hD hs w
          rw [heq] at this; cases this; exact .inr rfl
      rw [hq] at h
      cases b with
      | true =>
        cases h
        refine ⟨some (i, y.val), by simp [Instr.findAsking, heq], ?_, Nat.le_refl _, x, y, by simp, by simp, hc, rfl, hq, rfl⟩
        rcases hsn with h1 | h1 <;> simp [Instr.findNow, h1]
      | false =>
        obtain ⟨r', h1, h2, h3⟩ := find_spec he hk hD hx w es es' (i + 1) r hE' h
        refine ⟨r', by simp [Instr.findAsking, heq, h1], ?_, ?_⟩
        · rcases hsn with hh | hh <;> simp [Instr.findNow, hh]
          exact h2
        · cases r with
          | none => exact h3
          | some jv =>
            obtain ⟨j, v⟩ := jv
            obtain ⟨h4, e, z, h5, h6, h7⟩ := h3
            have : j - i = (j - (i + 1)) + 1 := by omega
            exact ⟨by omega, e, z, by rw [this]; exact h5, by rw [this]; exact h6, h7⟩
theorem run_findKey (he : EnvOK P E) {t : TypeId} {d : KD} {φ : Phi} {ν : Nu} {k : AV} {a : Value} (hk : E.key t = some d) (hx : conc φ ν k = some a) (w : World)
    {es : List (AV × AV × Nat)} {es' : List MapEntry} {r : Option (Nat × AV)} (hE : Ents φ ν es es') (h : findK bx d k es 0 = some r) :
    ∃ r' : Option (Nat × Value), (Instr.findKey t a es').run P w = .ok r' w ∧
        match r with
        | none => r' = none
        | some (j, v) => ∃ e y, es[j]? = some e ∧ es'[j]? = some y ∧ concE φ ν e y ∧ e.2.1 = v ∧ eqA bx d k e.1 = some true ∧ r' = some (j, y.val) := by
  have hkd := (key_kd hk).1
  have hu : ∃ D, E.und t = some D := by
    unfold TyE.kd at hkd
    cases hu : E.und t with
    | none => rw [hu] at hkd; cases hkd
    | some D => exact ⟨D, rfl⟩
  obtain ⟨D, hu⟩ := hu
  obtain ⟨r', h1, h2, h3⟩ := find_spec he hkd (he.und hu) hx w es es' 0 r hE h
  refine ⟨r', ?_, ?_⟩
  · unfold Instr.findKey
    rw [Sem.run_bind, run_und he hu]
    simp only [Result.andThen_ok]
    rcases h2 with h2 | h2
    · rw [h2]; exact h1
    · rw [h2]; rfl
  · cases r with
    | none => exact h3
    | some jv => obtain ⟨j, v⟩ := jv; simpa using h3.2
/-- equal keys are the same value -/
theorem sameBits_leaf {a : Value} (h : (leafRes a a).isSome = true) (n : Nat) : Instr.sameBits n a a = true := by
  cases a <;> simp [leafRes] at h <;> cases n <;> simp [Instr.sameBits, MapKept.bytes_beq]
theorem leafRes_true {a b : Value} (h : leafRes a b = some true) : a = b ∧ ∀ n, Instr.sameBits n a a = true := by
  have e : a = b := by
    cases a <;> cases b <;> simp [leafRes] at h
    · subst h; rfl
    · obtain ⟨rfl, rfl⟩ := h; rfl
    · rename_i x y
      have : x = y := (Go.Lib.bytes_beq_iff x y).1 (by simpa using h)
      rw [this]
  subst e
  exact ⟨rfl, sameBits_leaf (by rw [h]; rfl)⟩
theorem eqLeaves_true {φ : Phi} {ν : Nu} : ∀ {ds : List LD} {l m : List AV} {l' m' : List Value}, l.length = ds.length → m.length = ds.length → concL φ ν l = some l' → concL φ ν m = some m' →
    eqLeaves bx ds l m = some true → l' = m' ∧ ∀ v ∈ l', ∀ n, Instr.sameBits n v v = true
  | [], [], [], l', m', _, _, h1, h2, _ => by simp [concL] at h1 h2; subst h1; subst h2; simp
  | d :: ds, x :: l, y :: m, l', m', hl, hm, h1, h2, h => by
    simp only [concL, Option.bind_eq_some_iff, Option.map_eq_some_iff] at h1 h2
    obtain ⟨u, hu, l1, hl1, rfl⟩ := h1
    obtain ⟨v, hv, m1, hm1, rfl⟩ := h2
    have e : eqLeaves bx (d :: ds) (x :: l) (y :: m) = (match isLD d x with | false => none | true => match eqLeaf bx x y with | none => none | some false => some false | some true => eqLeaves bx ds l m) := by
      show Bool.casesOn (motive := fun _ => Option Bool) (isLD d x) none (Option.casesOn (motive := fun _ => Option Bool) (eqLeaf bx x y) none (fun r => Bool.casesOn (motive := fun _ => Option Bool) r (some false) (eqLeaves bx ds l m))) = _
      cases isLD d x with
      | false => rfl
      | true =>
        cases eqLeaf bx x y with
        | none => rfl
        | some b => cases b <;> rfl
    rw [e] at h
    cases hi : isLD d x with
    | false => rw [hi] at h; cases h
    | true =>
      rw [hi] at h
      cases hq : eqLeaf bx x y with
      | none => rw [hq] at h; cases h
      | some b =>
        rw [hq] at h
        cases b with
        | false => cases h
        | true =>
          obtain ⟨e1, e2⟩ := leafRes_true (eqLeaf_spec hu hv hq)
          obtain ⟨e3, e4⟩ := eqLeaves_true (by simpa using hl) (by simpa using hm) hl1 hm1 h
          refine ⟨by rw [e1, e3], ?_⟩
          intro z hz
          rcases List.mem_cons.1 hz with rfl | hz
          · exact e2
          · exact e4 z hz
  | [], _ :: _, _, _, _, h, _, _, _, _ | [], [], _ :: _, _, _, _, h, _, _, _ | _ :: _, [], _, _, _, h, _, _, _, _ | _ :: _, _ :: _, [], _, _, _, h, _, _, _ => by simp at h
theorem keep_spec {d : KD} {φ : Phi} {ν : Nu} {k k' : AV} {a b : Value} (hd : d = .leaf .int ∨ d = .leaf .str ∨ ∃ l, d = .flat l) (h1 : keyOk d k = true) (h2 : keyOk d k' = true)
    (hx : conc φ ν k = some a) (hy : conc φ ν k' = some b) (h : eqA bx d k k' = some true) : a = b ∧ Instr.sameBits 10000 b a = true := by
  have leaf : ∀ l, eqA bx (.leaf l) k k' = some true → a = b ∧ Instr.sameBits 10000 b a = true := by
    intro l h
    simp only [eqA] at h
    cases hi : isLD l k with
    | false => rw [hi] at h; cases h
    | true =>
      rw [hi] at h
      obtain ⟨e1, e2⟩ := leafRes_true (eqLeaf_spec hx hy h)
      exact ⟨e1, by rw [← e1]; exact e2 _⟩
  rcases hd with rfl | rfl | ⟨ds, rfl⟩
  · exact leaf _ h
  · exact leaf _ h
  · cases k <;> simp only [keyOk, Bool.false_eq_true] at h1
    cases k' <;> simp only [keyOk, Bool.false_eq_true] at h2
    have n1 := Nat.eq_of_beq_eq_true h1
    have n2 := Nat.eq_of_beq_eq_true h2
    rw [lenL_len, lenL_len] at n1 n2
    simp only [conc, Option.map_eq_some_iff] at hx hy
    obtain ⟨l', hl, rfl⟩ := hx
    obtain ⟨m', hm, rfl⟩ := hy
    obtain ⟨e1, e2⟩ := eqLeaves_true n1 n2 hl hm h
    subst e1
    refine ⟨rfl, ?_⟩
    show Instr.sameBits (9999 + 1) _ _ = true
    simp only [Instr.sameBits, beq_self_eq_true, Bool.true_and, List.all_eq_true]
    rintro ⟨p, q⟩ hpq
    obtain ⟨j, hj⟩ := List.mem_iff_getElem?.1 hpq
    rw [List.getElem?_zip_eq_some] at hj
    obtain ⟨h1, h2⟩ := hj
    simp only [h1, Option.some.injEq] at h2
    subst h2
    exact e2 p (List.mem_iff_getElem?.2 ⟨j, by simpa using h1⟩) 9999
end Go.Ev
namespace Go.Ev
open Go Go.RowKit
variable {P : Program} {E : TyE} {o : Oper} {ρ : Rho}

def lkpV (ok : Bool) (z : AV) : Option (Nat × AV) → AV
  | some (_, v) => bif ok then .tuple [v, .bool true] else v
  | none => bif ok then .tuple [z, .bool false] else z
theorem run_map_obj {w : World} {r : Nat} {es : Array MapEntry} {clock : Nat} (hr : w.heap[r]? = some (.map es clock)) : (getObj r).run P w = .ok (.map es clock) w := run_getObj hr (by simp)
theorem read_lkp {t kt el : TypeId} {d : KD} {z mv kv : AV} {x ix : Operand} {ok : Bool} {h : AH} {es : List (AV × AV × Nat)} {r : Option (Nat × AV)} (he : EnvOK P E)
    (ho : o.op = .lookup t x ix ok) (ht : E.und t = some (.map kt el)) (hk : E.key kt = some d) (hz : E.zero el = some z) (hx : ρ x = some mv) (hi : ρ ix = some kv)
    (hok : keyOk d kv = true) (hm : mapOf h mv = some es) (hf : findK bx d kv es 0 = some r) : Read P o ρ h (lkpV ok z r) := by
  have core : ∀ (φ : Phi) (ν : Nu) (w : World) (ρc : Operand → Value) (es' : Array MapEntry), Agree φ ν o ρ ρc → Ents φ ν es es'.toList →
      ((ρc x = .map none ∧ es' = #[]) ∨ ∃ q clock, ρc x = .map (some q) ∧ w.heap[q]? = some (.map es' clock)) →
      ∃ u, conc φ ν (lkpV ok z r) = some u ∧ (execOp ρc o).run P w = .ok (.value u) w := by
    intro φ ν w ρc es' hA hE hmap
    have hkc := hA ix (by simp [ho, Op.operands]) _ hi
    obtain ⟨r', h1, h2⟩ := run_findKey he hk hkc w hE hf
    have hck := run_checkKey he hk hkc hok es'.isEmpty w
    obtain ⟨zv, hz1, hz2⟩ := run_zero (P := P) he hz φ ν
    have hrun : ∀ (u : Value), (match r' with
        | some (_, v) => if ok then .tuple #[v, .bool true] else v
        | none => if ok then .tuple #[zv, .bool false] else zv) = u → (execOp ρc o).run P w = .ok (.value u) w := by
      intro u hu
      simp only [execOp, ho, Instr.lookup]
      simp only [Sem.run_bind, run_und he ht, Result.andThen_ok]
      rcases hmap with ⟨e1, rfl⟩ | ⟨q, clock, e1, e2⟩
      · rw [e1]
        simp only [Sem.run_bind, Sem.run_pure, Result.andThen_ok, hck, h1]
        cases r' with
        | none =>
          simp only [Sem.run_bind, hz2, Result.andThen_ok, Sem.run_pure]
          simp only at hu
          rw [← hu]
        | some jv =>
          simp only [Sem.run_bind, Result.andThen_ok, Sem.run_pure]
          simp only at hu
          rw [← hu]
      · rw [e1]
        simp only [Sem.run_bind, run_map_obj e2, Sem.run_pure, Result.andThen_ok, hck, h1]
        cases r' with
        | none =>
          simp only [Sem.run_bind, hz2, Result.andThen_ok, Sem.run_pure]
          simp only at hu
          rw [← hu]
        | some jv =>
          simp only [Sem.run_bind, Result.andThen_ok, Sem.run_pure]
          simp only at hu
          rw [← hu]
    cases r with
    | none =>
      simp only at h2; subst h2
      refine ⟨_, ?_, hrun _ rfl⟩
      cases ok <;> simp [lkpV, conc, concL, hz1]
    | some jv =>
      obtain ⟨j, v⟩ := jv
      obtain ⟨e, y, _, _, hc, rfl, _, rfl⟩ := h2
      refine ⟨_, ?_, hrun _ rfl⟩
      cases ok <;> simp [lkpV, conc, concL, hc.2.1]
  rcases mapOf_some hm with ⟨rfl, rfl⟩ | ⟨b, clock, rfl, hb⟩
  · refine Pure.read fun φ ν ρc w hA => ?_
    have h1 := hA x (by simp [ho, Op.operands]) _ hx
    simp only [conc, Option.some.injEq] at h1
    exact core φ ν w ρc #[] hA ⟨rfl, by simp⟩ (.inl ⟨h1.symm, rfl⟩)
  · refine ⟨[b], by simp [hb], ?_⟩
    intro h2 hc hbs φ ν w0 w ρc H hA
    obtain ⟨i, hi', hp⟩ := conc_map (hA x (by simp [ho, Op.operands]) _ hx)
    obtain ⟨_, o', ho', hok'⟩ := H.ob b i hi'
    rw [hbs b (by simp), hb] at ho'; cases ho'
    obtain ⟨_, es', k1, k2, k3⟩ := hok'
    refine core φ ν w ρc es' hA ⟨by simpa using k2, fun j x hj => by obtain ⟨y, h1, h2⟩ := k3 j x hj; exact ⟨y, by simpa using h1, h2⟩⟩ (.inr ⟨_, _, hp, k1⟩)

/-! ### operations that change the world -/
def Big (P : Program) (o : Oper) (ρ : Rho) (h h' : AH) (v : AV) : Prop :=
  ∀ φ ν w0 w ρc, HR ν w0 φ h w → Agree φ ν o ρ ρc → ∃ φ' w' u, Ev φ h φ' h' ∧ HR ν w0 φ' h' w' ∧ conc φ' ν v = some u ∧
    ((execOp ρc o).run P w = .ok (.value u) w' ∨ ((execOp ρc o).run P w = .ok .skip w' ∧ u = undef))
theorem ReadAt.big {h : AH} {v : AV} (hr : ReadAt P o ρ h v) : Big P o ρ h h v := fun φ ν w0 w ρc H hA => by
  obtain ⟨u, h1, h2⟩ := hr φ ν w0 w ρc H hA
  exact ⟨φ, w, u, Ev.refl _ _, H, h1, .inl h2⟩
theorem conc_unit {φ : Phi} {ν : Nu} : conc φ ν (.tuple []) = some undef := by simp [conc, concL, undef]
theorem Ents.of_ok {φ : Phi} {ν : Nu} {es : List (AV × AV × Nat)} {es' : Array MapEntry} (h1 : es'.size = es.length)
    (h2 : ∀ (j : Nat) (x : AV × AV × Nat), es[j]? = some x → ∃ y, es'[j]? = some y ∧ concE φ ν x y) : Ents φ ν es es'.toList :=
  ⟨by simpa using h1, fun j x hj => by obtain ⟨y, a, b⟩ := h2 j x hj; exact ⟨y, by simpa using a, b⟩⟩
theorem setVal_length (v : AV) : ∀ (es : List (AV × AV × Nat)) (i : Nat), (setVal v es i).length = es.length
  | [], _ => rfl
  | (k, _, b) :: l, 0 => rfl
  | x :: l, i + 1 => by simp [setVal, setVal_length v l i]
theorem setVal_get (v : AV) : ∀ (es : List (AV × AV × Nat)) (i j : Nat), (setVal v es i)[j]? = (es[j]?).map fun e => if j = i then (e.1, v, e.2.2) else e
  | [], _, j => by simp [setVal]
  | (k, x, b) :: l, 0, 0 => by simp [setVal]
  | (k, x, b) :: l, 0, j + 1 => by simp [setVal]
  | x :: l, i + 1, 0 => by simp [setVal]
  | x :: l, i + 1, j + 1 => by simp [setVal, setVal_get v l i j]
theorem eraseAt_eq : ∀ (es : List (AV × AV × Nat)) (i : Nat), eraseAt es i = es.eraseIdx i
  | [], _ => rfl
  | _ :: l, 0 => rfl
  | x :: l, i + 1 => by simp [eraseAt, eraseAt_eq l i]
theorem clsOf_map {h : AH} {b : Pos} {es : List (AV × AV × Nat)} {clock : Nat} (hb : h.objs.get b = some (.map es clock)) : clsOf h b = none := by unfold clsOf; rw [hb]
theorem HR.setMap {ν : Nu} {w0 w : World} {φ : Phi} {h : AH} (H : HR ν w0 φ h w) {b : Pos} {i : BI} {es es2 : List (AV × AV × Nat)} {clock clock2 : Nat} {es' : Array MapEntry}
    (hb : h.objs.get b = some (.map es clock)) (hi : φ b = some i) (hE : Ents φ ν es2 es'.toList) :
    HR ν w0 φ (h.put b (.map es2 clock2)) (World.setObj' w i.blk (.map es' clock2)) ∧ Ev φ h φ (h.put b (.map es2 clock2)) := by
  obtain ⟨hs, o', ho', hok⟩ := H.ob b i hi
  rw [hb] at ho'; cases ho'
  obtain ⟨k0, es0, k1, k2, k3⟩ := hok
  refine H.setObj hb hi k0 (clsOf_map hb) (by simp) ?_
  exact ⟨k0, es', setObj'_at hs, by simpa using hE.1, fun j x hj => by obtain ⟨y, h1, h2⟩ := hE.2 j x hj; exact ⟨y, by simpa using h1, h2⟩⟩
theorem big_upd {t kt el : TypeId} {d : KD} {kv vv : AV} {m x v : Operand} {h : AH} {b : Pos} {clock : Nat} {es : List (AV × AV × Nat)} {r : Option (Nat × AV)} (he : EnvOK P E)
    (ho : o.op = .mapUpdate t m x v ∨ o.op = .insert t m x v) (ht : E.und t = some (.map kt el)) (hk : E.key kt = some d) (hm : ρ m = some (.map b)) (hx : ρ x = some kv) (hv : ρ v = some vv)
    (hok : keyOk d kv = true) (hb : h.objs.get b = some (.map es clock)) (hf : findK bx d kv es 0 = some r)
    (hkeep : ∀ j w, r = some (j, w) → ∀ e, es[j]? = some e → keyOk d e.1 = true) :
    Big P o ρ h (match r with | some (j, _) => h.put b (.map (setVal vv es j) clock) | none => h.put b (.map (es ++ [(kv, vv, clock)]) (clock + 1))) (.tuple []) := by
  intro φ ν w0 w ρc H hA
  have mem : m ∈ o.op.operands ∧ x ∈ o.op.operands ∧ v ∈ o.op.operands := by rcases ho with ho | ho <;> simp [ho, Op.operands]
  have hkc := hA x mem.2.1 _ hx
  have hvc := hA v mem.2.2 _ hv
  obtain ⟨i, hi, hp⟩ := conc_map (hA m mem.1 _ hm)
  obtain ⟨_, o', ho', hok'⟩ := H.ob b i hi
  rw [hb] at ho'; cases ho'
  obtain ⟨_, es', k1, k2, k3⟩ := hok'
  have hE := Ents.of_ok k2 k3
  have hck := run_checkKey he hk hkc hok false w
  obtain ⟨r', h1, h2⟩ := run_findKey he hk hkc w hE hf
  have hrun : ∀ w', (Instr.mapUpdate t (ρc m) (ρc x) (ρc v)).run P w = .ok () w' → (execOp ρc o).run P w = .ok .skip w' := by
    intro w' hw
    rcases ho with ho | ho <;> simp [execOp, ho, hw]
  cases r with
  | none =>
    simp only at h2; subst h2
    have hE2 : Ents φ ν (es ++ [(kv, vv, clock)]) (es'.push { key := ρc x, val := ρc v, born := clock }).toList := by
      refine ⟨by simp [k2], ?_⟩
      intro j z hj
      rw [List.getElem?_append] at hj
      split at hj
      · obtain ⟨y, a1, a2⟩ := k3 j z hj
        refine ⟨y, ?_, a2⟩
        rw [Array.getElem?_toList, Array.getElem?_push, if_neg (by omega)]; exact a1
      · rename_i hnl
        have hj0 : j - es.length = 0 := by
          have := (List.getElem?_eq_some_iff.1 hj).1
          simp at this; omega
        rw [hj0] at hj; simp at hj; subst hj
        refine ⟨{ key := ρc x, val := ρc v, born := clock }, ?_, hkc, hvc, rfl⟩
        rw [Array.getElem?_toList, Array.getElem?_push, if_pos (by omega)]
    obtain ⟨H', ev⟩ := H.setMap (clock2 := clock + 1) hb hi hE2
    refine ⟨φ, _, undef, ev, H', conc_unit, .inr ⟨hrun _ ?_, rfl⟩⟩
    unfold Instr.mapUpdate
    simp only [Sem.run_bind, run_und he ht, Result.andThen_ok, hp, run_map_obj k1, hck, h1]
    exact run_setObj k1 (by simp)
  | some jv =>
    obtain ⟨j, v0⟩ := jv
    obtain ⟨e, y, e1, e2, e3, e4, e5, rfl⟩ := h2
    obtain ⟨q1, q2⟩ := keep_spec (key_kd hk).2 hok (hkeep j v0 rfl e e1) hkc e3.1 e5
    have e2' : es'[j]? = some y := by simpa using e2
    have hE2 : Ents φ ν (setVal vv es j) (es'.modify j fun e => { e with key := ρc x, val := ρc v }).toList := by
      refine ⟨by simp [setVal_length, k2], ?_⟩
      intro l z hl
      rw [setVal_get, Option.map_eq_some_iff] at hl
      obtain ⟨z0, hz0, hz⟩ := hl
      obtain ⟨y0, a1, a2⟩ := k3 l z0 hz0
      rw [Array.getElem?_toList, Array.getElem?_modify]
      by_cases hlj : l = j
      · subst hlj
        rw [e1] at hz0; cases hz0
        rw [e2'] at a1; cases a1
        rw [if_pos rfl] at hz ⊢
        subst hz
        refine ⟨{ y with key := ρc x, val := ρc v }, by rw [e2']; simp, ?_, hvc, a2.2.2⟩
        show conc φ ν e.1 = some (ρc x)
        rw [q1]; exact a2.1
      · rw [if_neg hlj] at hz
        rw [if_neg (Ne.symm hlj)]
        subst hz
        exact ⟨y0, a1, a2⟩
    obtain ⟨H', ev⟩ := H.setMap (clock2 := clock) hb hi hE2
    refine ⟨φ, _, undef, ev, H', conc_unit, .inr ⟨hrun _ ?_, rfl⟩⟩
    unfold Instr.mapUpdate
    simp only [Sem.run_bind, run_und he ht, Result.andThen_ok, hp, run_map_obj k1, hck, h1]
    have hks : (Instr.keyThatStays (((es'[j]?).map (·.key)).getD (ρc x)) (ρc x)).run P w = .ok (ρc x) w := by
      rw [e2']
      show (Instr.keyThatStays y.key (ρc x)).run P w = _
      unfold Instr.keyThatStays
      rw [if_pos q2]; rfl
    rw [hks]
    simp only [Result.andThen_ok]
    exact run_setObj k1 (by simp)
end Go.Ev
namespace Go.Ev
open Go Go.RowKit
variable {P : Program} {E : TyE} {o : Oper} {ρ : Rho}

/-- storing a value's cells -/
def Stores (h : AH) (b : Pos) (off : Nat) (vs : List AV) (h' : AH) : Prop :=
  scalars vs = true ∧ ∀ (ν : Nu) (w0 : World) (φ : Phi) (w : World) (i : BI) (us : List Value), HR ν w0 φ h w → φ b = some i → concL φ ν vs = some us →
      HR ν w0 φ h' (World.putRow w i.blk (i.off + off) us) ∧ Ev φ h φ h' ∧
      ∃ c t fz, w.heap[i.blk]? = some (.cells c t fz) ∧ (∀ k, (decide (fz.1 ≤ k) && decide (k < fz.2)) = false) ∧ i.off + off + us.length ≤ c.size
theorem storeCellsK_stores {β : Type} {h : AH} {b : Pos} {off : Nat} {vs : List AV} {k : AH → Option β} {r : β} (hk : storeCellsK h b off vs k = some r) : ∃ h', k h' = some r ∧ Stores h b off vs h' := by
  obtain ⟨h', h1, h2, h3⟩ := storeCellsK_spec hk
  exact ⟨h', h1, h2, h3⟩
theorem Stores.run {h h' : AH} {b : Pos} {off : Nat} {vs : List AV} (hs : Stores h b off vs h') {ν : Nu} {w0 w : World} {φ : Phi} {i : BI} {us : List Value} (H : HR ν w0 φ h w) (hi : φ b = some i) (hu : concL φ ν vs = some us) :
    ∃ w', HR ν w0 φ h' w' ∧ Ev φ h φ h' ∧ (Go.storeCells ⟨i.blk, i.off + off, none⟩ us).run P w = .ok () w' := by
  obtain ⟨h1, h2⟩ := hs
  obtain ⟨a1, a2, c, t, fz, a3, a4, a5⟩ := h2 ν w0 φ w i us H hi hu
  exact ⟨_, a1, a2, run_storeCells a4 us (i.off + off) 0 w c (scalars_conc h1 hu) a3 (by omega)⟩
theorem big_sto {t : TypeId} {x v : Operand} {h h' : AH} {b : Pos} {off n : Nat} {a : AV} (he : EnvOK P E) (ho : o.op = .store t x v) (hz : E.size t = some n) (hx : ρ x = some (.ptr b off)) (hv : ρ v = some a)
    (hn : a.cells.length = n) (hs : Stores h b off a.cells h') : Big P o ρ h h' (.tuple []) := fun φ ν w0 w ρc H hA => by
  obtain ⟨i, hi, hp⟩ := conc_ptr (hA x (by simp [ho, Op.operands]) _ hx)
  have hc := conc_cells (hA v (by simp [ho, Op.operands]) _ hv)
  obtain ⟨w', H', ev, hrun⟩ := hs.run (P := P) H hi hc
  refine ⟨φ, w', undef, ev, H', conc_unit, .inr ⟨?_, rfl⟩⟩
  have hl : (ρc v).cells.size = n := by have := concL_length hc; simp at this; omega
  simp [execOp, ho, Instr.storeAt, hp, Instr.sureAddr, storeVar, run_size he hz, hl, hrun]
theorem big_del {t kt el : TypeId} {_ty : TypeId} {ts : Array TypeId} {d : KD} {kv : AV} {m x : Operand} {h : AH} {b : Pos} {clock : Nat} {es : List (AV × AV × Nat)} {r : Option (Nat × AV)} (he : EnvOK P E)
    (ho : o.op = .call { callee := .builtin .delete, args := #[m, x], argTypes := ts }) (hts : ts[0]? = some t) (ht : E.und t = some (.map kt el)) (hk : E.key kt = some d) (hm : ρ m = some (.map b)) (hx : ρ x = some kv)
    (hok : keyOk d kv = true) (hb : h.objs.get b = some (.map es clock)) (hf : findK bx d kv es 0 = some r) :
    Big P o ρ h (match r with | some (j, _) => h.put b (.map (eraseAt es j) clock) | none => h.put b (.map es clock)) (.tuple []) := fun φ ν w0 w ρc H hA => by
  have hkc := hA x (by simp [ho, Op.operands, Call.operands]) _ hx
  obtain ⟨i, hi, hp⟩ := conc_map (hA m (by simp [ho, Op.operands, Call.operands]) _ hm)
  obtain ⟨_, o', ho', hok'⟩ := H.ob b i hi
  rw [hb] at ho'; cases ho'
  obtain ⟨_, es', k1, k2, k3⟩ := hok'
  have hE := Ents.of_ok k2 k3
  have hck := run_checkKey he hk hkc hok es'.isEmpty w
  obtain ⟨r', h1, h2⟩ := run_findKey he hk hkc w hE hf
  have fin : ∀ (es2 : List (AV × AV × Nat)) (es2' : Array MapEntry), Ents φ ν es2 es2'.toList →
      (Builtin.delete_ ts o.type #[ρc m, ρc x]).run P w = .ok (.tuple #[]) (World.setObj' w i.blk (.map es2' clock)) →
      ∃ φ' w' u, Ev φ h φ' (h.put b (.map es2 clock)) ∧ HR ν w0 φ' (h.put b (.map es2 clock)) w' ∧ conc φ' ν (.tuple []) = some u ∧
        ((execOp ρc o).run P w = .ok (.value u) w' ∨ ((execOp ρc o).run P w = .ok .skip w' ∧ u = undef)) := by
    intro es2 es2' hE2 hr
    obtain ⟨H', ev⟩ := H.setMap (clock2 := clock) hb hi hE2
    refine ⟨φ, _, undef, ev, H', conc_unit, .inl ?_⟩
    simp only [execOp, ho, resolve, invoke, builtin]
    simp [hr, undef]
  cases r with
  | none =>
    simp only at h2; subst h2
    refine fin es es' hE ?_
    simp [Builtin.delete_, hts, run_und he ht, hp, run_map_obj k1, hck, h1, run_setObj k1 (o := .map es' clock) (by simp)]
  | some jv =>
    obtain ⟨j, v0⟩ := jv
    obtain ⟨e, y, e1, e2, e3, e4, e5, rfl⟩ := h2
    refine fin (eraseAt es j) (es'.eraseIdxIfInBounds j) ?_ ?_
    · have hjl : j < es'.size := by have := (List.getElem?_eq_some_iff.1 e1).1; omega
      have hl : (es'.eraseIdxIfInBounds j).toList = es'.toList.eraseIdx j := by
        unfold Array.eraseIdxIfInBounds
        rw [dif_pos hjl]; simp
      rw [hl, eraseAt_eq]
      refine ⟨by simp [List.length_eraseIdx, k2], ?_⟩
      intro l z hz
      rw [List.getElem?_eraseIdx] at hz ⊢
      split at hz
      · rename_i hlt
        rw [if_pos hlt]; exact hE.2 l z hz
      · rename_i hlt
        rw [if_neg hlt]; exact hE.2 (l + 1) z hz
    · simp [Builtin.delete_, hts, run_und he ht, hp, run_map_obj k1, hck, h1, run_setObj k1 (o := .map (es'.eraseIdxIfInBounds j) clock) (by simp)]

/-! ### what a slice holds -/
/-- n elements of x -/
def SlCells (h : AH) (x : AV) (cnt : Nat) (l : List AV) : Prop :=
  match x with
  | .nils => l = []
  | .slice b e _ _ => l.length = cnt ∧ ∀ (j : Nat) (v : AV), l[j]? = some v → LoadAt h b (e + j) v
  | .slicez .. => l = [] ∧ cnt = 0
  | _ => False
theorem sliceCellsK_spec {β : Type} {h : AH} {esz n m : Nat} {x : AV} {k : List AV → Option β} {r : β} (hm : lenA x = some m) (hn : n ≤ m) (hk : sliceCellsK h esz n x k = some r) : ∃ l, k l = some r ∧ SlCells h x (n * esz) l := by
  unfold sliceCellsK at hk
  cases x <;> first | (cases hk; done) | skip
  · exact ⟨[], hk, rfl⟩
  · rename_i b e len cap
    obtain ⟨l, h1, h2, h3⟩ := loadCellsK_spec hk
    exact ⟨l, h3, h1, h2⟩
  · rename_i b e z
    simp only [lenA, Option.some.injEq] at hm
    exact ⟨[], hk, rfl, by subst hm; have : n = 0 := by omega
                           subst this; simp⟩
theorem SlCells.run {h : AH} {x : AV} {esz n : Nat} {l : List AV} (hs : SlCells h x (n * esz) l) {ν : Nu} {w0 w : World} {φ : Phi} {u : Value} (H : HR ν w0 φ h w) (hx : conc φ ν x = some u) :
    ∃ us, concL φ ν l = some us ∧ ∀ w2 : World, w2.heap = w.heap → (Builtin.firstCells esz n u).run P w2 = .ok us.toArray w2 := by
  cases x <;> first | (cases hs; done) | skip
  · simp only [conc, Option.some.injEq] at hx
    have hs : l = [] := hs
    subst hs; subst hx
    exact ⟨[], rfl, fun w2 _ => rfl⟩
  · rename_i b e len cap
    obtain ⟨h1, h2⟩ := hs
    obtain ⟨i, hi, hu⟩ := conc_slice hx
    obtain ⟨us, h3, h4, h5⟩ := load_list H hi h2
    subst hu
    refine ⟨us, h3, fun w2 hw => ?_⟩
    have := run_loadCells (P := P) (w := w2) i.blk (i.off + e) us 0 (n * esz) #[] (by omega) (fun j u hj => by
      have h6 := h5 j u hj
      simp only [World.cell?] at h6 ⊢
      rw [hw]; simpa using h6)
    simpa [Builtin.firstCells, loadCells] using this
  · rename_i b e z
    obtain ⟨rfl, h2⟩ := hs
    simp only [conc, Option.map_eq_some_iff] at hx
    obtain ⟨i, hi, hx⟩ := hx
    subst hx
    exact ⟨[], rfl, fun w2 _ => by simp [Builtin.firstCells, loadCells, h2, loadCellsFrom]⟩
theorem lenA_run {x : AV} {n : Nat} {φ : Phi} {ν : Nu} {u : Value} (h : lenA x = some n) (hx : conc φ ν x = some u) (w : World) : (Builtin.lenOf u).run P w = .ok n w := by
  cases x <;> simp only [lenA, reduceCtorEq, Option.some.injEq] at h <;> subst h
  · rename_i s
    simp only [conc, Option.some.injEq] at hx; subst hx
    have : (⟨s.toArray⟩ : ByteArray).size = s.length := by show s.toArray.size = _; simp
    simp [Builtin.lenOf, this, lenL_eq]
  · simp only [conc, Option.some.injEq] at hx; subst hx; rfl
  · obtain ⟨i, _, rfl⟩ := conc_slice hx; rfl
  · simp only [conc, Option.map_eq_some_iff] at hx
    obtain ⟨i, hi, rfl⟩ := hx; rfl
theorem big_cpy {t el : TypeId} {ts : Array TypeId} {esz n m : Nat} {dv sv : AV} {d s : Operand} {h h' : AH} {new : List AV} (he : EnvOK P E)
    (ho : o.op = .call { callee := .builtin .copy, args := #[d, s], argTypes := ts }) (hts : ts[0]? = some t) (ht : E.und t = some (.slice el)) (hz : E.size el = some esz) (hd : ρ d = some dv) (hs : ρ s = some sv)
    (hn : lenA dv = some n) (hm : lenA sv = some m) (hc : SlCells h sv (min m n * esz) new)
    (hst : (dv = .nils ∧ h' = h) ∨ ∃ b e l c, dv = .slice b e l c ∧ Stores h b e new h') : Big P o ρ h h' (.int .i64 (Int.ofNat (min m n))) := fun φ ν w0 w ρc H hA => by
  have hdc := hA d (by simp [ho, Op.operands, Call.operands]) _ hd
  have hsc := hA s (by simp [ho, Op.operands, Call.operands]) _ hs
  obtain ⟨us, hu1, hu2⟩ := hc.run (P := P) H hsc
  have hl := lenA_run (P := P) hm hsc w
  have hrun : ∀ w', (Builtin.copy_ ts o.type #[ρc d, ρc s]).run P w = .ok (goInt ((min m n : Nat) : Int)) w' → (execOp ρc o).run P w = .ok (.value (.int .i64 (Int.ofNat (min m n)))) w' := by
    intro w' hr
    simp only [execOp, ho, resolve, invoke, builtin]
    simp [hr, goInt]
  rcases hst with ⟨rfl, rfl⟩ | ⟨b, e, l, c, rfl, hst⟩
  · simp only [conc, Option.some.injEq] at hdc
    simp only [lenA, Option.some.injEq] at hn
    refine ⟨φ, w, _, Ev.refl _ _, H, rfl, .inl (hrun w ?_)⟩
    subst hn
    simp only [Builtin.copy_, hts, ← hdc]
    have h0 := hu2 w rfl
    rw [Nat.min_zero] at h0
    simp [run_und he ht, hl, run_size he hz, h0]
  · simp only [lenA, Option.some.injEq] at hn
    subst hn
    obtain ⟨i, hi, hdv⟩ := conc_slice hdc
    obtain ⟨w', H', ev, hr⟩ := hst.run (P := P) H hi hu1
    refine ⟨φ, w', _, ev, H', rfl, .inl (hrun w' ?_)⟩
    have : Nat.min m l = min m l := rfl
    simp [Builtin.copy_, hts, hdv, run_und he ht, hl, run_size he hz, hu2 w rfl, hr, this]

theorem repeatL_get (z : List AV) : ∀ (n j : Nat), (repeatL z n)[j]? = if j < n * z.length then z[j % z.length]? else none
  | 0, j => by rw [if_neg (by omega)]; rfl
  | n + 1, j => by
    show (appL z (repeatL z n))[j]? = _
    rw [appL_eq, List.getElem?_append, Nat.succ_mul]
    by_cases hj : j < z.length
    · rw [if_pos hj, if_pos (by omega), Nat.mod_eq_of_lt hj]
    · rw [if_neg hj, repeatL_get z n]
      by_cases h2 : j < n * z.length + z.length
      · rw [if_pos h2, if_pos (by omega)]
        congr 1
        conv => rhs; rw [show j = (j - z.length) + z.length from by omega, Nat.add_mod_right]
      · rw [if_neg h2, if_neg (by omega)]
theorem conc_repeat {φ : Phi} {ν : Nu} {z : List AV} {Z : Array Value} (h : concL φ ν z = some Z.toList) (n : Nat) : concL φ ν (repeatL z n) = some (Builtin.zeroCells Z n).toList := by
  have hl := concL_length h
  have hl : Z.size = z.length := by simpa using hl
  refine concL_of (by simp [Builtin.zeroCells, repeatL_length, hl]) ?_
  intro j v hj
  rw [repeatL_get] at hj
  split at hj
  · rename_i hlt
    obtain ⟨u, h1, h2⟩ := concL_get h _ _ hj
    refine ⟨u, h1, ?_⟩
    have hz : 0 < z.length := Nat.pos_of_ne_zero (fun e => by rw [e] at hlt; omega)
    have h2' : Z[j % Z.size]? = some u := by rw [hl]; simpa using h2
    have h3 : Z[j % Z.size]! = u := by
      rw [Array.getElem!_eq_getD, Array.getD_eq_getD_getElem?, h2']; rfl
    simp [Builtin.zeroCells, hl, hlt]
    rw [← hl]; exact h3
  · cases hj
theorem big_clr {t el : TypeId} {ts : Array TypeId} {z xv : AV} {x : Operand} {h h' : AH} (he : EnvOK P E)
    (ho : o.op = .call { callee := .builtin .clear, args := #[x], argTypes := ts }) (hts : ts[0]? = some t) (ht : E.und t = some (.slice el)) (hz : E.zero el = some z) (hx : ρ x = some xv)
    (hst : (h' = h ∧ (xv = .nils ∨ (∃ b e q, xv = .slicez b e q) ∨ ∃ b e c, xv = .slice b e 0 c)) ∨ ∃ b e n c, xv = .slice b e n c ∧ n ≠ 0 ∧ Stores h b e (repeatL z.cells n) h') : Big P o ρ h h' (.tuple []) := fun φ ν w0 w ρc H hA => by
  have hxc := hA x (by simp [ho, Op.operands, Call.operands]) _ hx
  have hrun : ∀ w', (Builtin.clear_ ts o.type #[ρc x]).run P w = .ok (.tuple #[]) w' → (execOp ρc o).run P w = .ok (.value undef) w' := by
    intro w' hr
    simp only [execOp, ho, resolve, invoke, builtin]
    simp [hr, undef]
  rcases hst with ⟨rfl, hst⟩ | ⟨b, e, n, c, rfl, hn, hst⟩
  · refine ⟨φ, w, undef, Ev.refl _ _, H, conc_unit, .inl (hrun w ?_)⟩
    rcases hst with rfl | ⟨b, e, q, rfl⟩ | ⟨b, e, c, rfl⟩
    · simp only [conc, Option.some.injEq] at hxc
      simp [Builtin.clear_, hts, ← hxc, run_und he ht]
    · simp only [conc, Option.map_eq_some_iff] at hxc
      obtain ⟨i, hi, hxc⟩ := hxc
      simp [Builtin.clear_, hts, ← hxc, run_und he ht]
    · obtain ⟨i, hi, hxc⟩ := conc_slice hxc
      simp [Builtin.clear_, hts, hxc, run_und he ht]
  · obtain ⟨i, hi, hxc⟩ := conc_slice hxc
    obtain ⟨zv, hz1, hz2⟩ := run_zero (P := P) he hz φ ν
    obtain ⟨w', H', ev, hr⟩ := hst.run (P := P) H hi (conc_repeat (conc_cells hz1) n)
    refine ⟨φ, w', undef, ev, H', conc_unit, .inl (hrun w' ?_)⟩
    cases n with
    | zero => exact absurd rfl hn
    | succ n => simp [Builtin.clear_, hts, hxc, run_und he ht, hz2, hr]
theorem big_rng {t : TypeId} {x : Operand} {s : List UInt8} {h : AH} (he : EnvOK P E) (ho : o.op = .range t x) (ht : E.und t = some .string) (hx : ρ x = some (.str s)) :
    Big P o ρ h (h.alloc (.siter s 0)) (.ptr h.next 0) := fun φ ν w0 w ρc H hA => by
  have hxc := hA x (by simp [ho, Op.operands]) _ hx
  simp only [conc, Option.some.injEq] at hxc
  obtain ⟨H1, ev1⟩ := H.alloc (.siter s 0)
  have hn : φ h.next = none := (H.fr h.next (Nat.le_refl _)).1
  have hget : (h.alloc (.siter s 0)).objs.get h.next = some (.siter s 0) := by
    show PT.get h.next (PT.set h.next _ h.objs) = _
    rw [PT.get_set, if_pos rfl]
  let i : BI := ⟨w.heap.size, 0, 0, 0⟩
  have H2 := H1.make (O := .stringIter ⟨s.toArray⟩ 0) (i := i) hn hget rfl (by unfold clsOf; rw [hget])
    ⟨H.below.size, rfl, s, by show (w.heap.push _)[w.heap.size]? = _; simp, rfl, Nat.zero_le _⟩
  refine ⟨φ.upd h.next i, _, .pointer (some ⟨w.heap.size, 0, none⟩), ⟨Phi.le_upd hn, ?_, ev1.next⟩, H2, ?_, .inl ?_⟩
  · intro p hp hlt
    have : p ≠ h.next := fun e => by subst e; omega
    rw [Phi.upd_ne this]; exact ev1.pend p hp hlt
  · simp [conc, Phi.upd_self, i]
  · simp [execOp, ho, Instr.range, run_und he ht, ← hxc]
theorem big_nxt {x : Operand} {b : Pos} {s : List UInt8} {pos : Nat} {h : AH} (ho : o.op = .next x true) (hx : ρ x = some (.ptr b 0)) (hb : h.objs.get b = some (.siter s pos)) :
    match s with
    | [] => Big P o ρ h h (.tuple [.bool false])
    | c :: s' => c.toNat < 128 → Big P o ρ h (h.put b (.siter s' (pos + 1))) (.tuple [.bool true, .int .i64 (Int.ofNat pos), .int .i32 (Int.ofNat c.toNat)]) := by
  have pre : ∀ φ ν w0 w ρc, HR ν w0 φ h w → Agree φ ν o ρ ρc → ∃ (i : BI) (s0 : List UInt8), φ b = some i ∧ ρc x = .pointer (some ⟨i.blk, 0, none⟩) ∧ w0.heap.size ≤ i.blk ∧ i.off = 0 ∧ i.blk < w.heap.size ∧
      w.heap[i.blk]? = some (.stringIter ⟨s0.toArray⟩ pos) ∧ s0.drop pos = s ∧ pos ≤ s0.length := by
    intro φ ν w0 w ρc H hA
    obtain ⟨i, hi, hp⟩ := conc_ptr (hA x (by simp [ho, Op.operands]) _ hx)
    obtain ⟨hs, o', ho', hok⟩ := H.ob b i hi
    rw [hb] at ho'; cases ho'
    obtain ⟨k0, k1, s0, k2, k3, k4⟩ := hok
    exact ⟨i, s0, hi, by rw [hp, k1], k0, k1, hs, k2, k3, k4⟩
  have hsz : ∀ l : List UInt8, (⟨l.toArray⟩ : ByteArray).size = l.length := fun l => by show l.toArray.size = _; simp
  cases s with
  | nil =>
    intro φ ν w0 w ρc H hA
    obtain ⟨i, s0, hi, hp, k0, k1, hs, k2, k3, k4⟩ := pre φ ν w0 w ρc H hA
    refine ⟨φ, w, _, Ev.refl _ _, H, rfl, .inl ?_⟩
    have hlen : s0.length ≤ pos := by have := congrArg List.length k3; simp at this; omega
    have hg := run_getObj (P := P) k2 (by simp)
    have : ¬ pos < (⟨s0.toArray⟩ : ByteArray).size := by rw [hsz]; omega
    simp [execOp, ho, Instr.next, hp, hg, this]
  | cons c s' =>
    intro hc φ ν w0 w ρc H hA
    obtain ⟨i, s0, hi, hp, k0, k1, hs, k2, k3, k4⟩ := pre φ ν w0 w ρc H hA
    have hcl : s0[pos]? = some c := by have := congrArg (·[0]?) k3; simpa using this
    have hpl := (List.getElem?_eq_some_iff.1 hcl).1
    have hg := run_getObj (P := P) k2 (by simp)
    have hlt : pos < (⟨s0.toArray⟩ : ByteArray).size := by rw [hsz]; omega
    have hd : Utf8.decode ⟨s0.toArray⟩ pos = (c.toNat, 1) := by
      have hget : (⟨s0.toArray⟩ : ByteArray).get! pos = c := by
        show s0.toArray[pos]! = c
        rw [Array.getElem!_eq_getD, Array.getD_eq_getD_getElem?]
        simp [hcl]
      unfold Utf8.decode
      simp [hget, hc]
    have hok : OK φ ν w0.heap.size h.cls b i (World.setObj' w i.blk (.stringIter ⟨s0.toArray⟩ (pos + 1))) (.siter s' (pos + 1)) :=
      ⟨k0, k1, s0, setObj'_at hs, by rw [← List.drop_drop, k3]; rfl, by omega⟩
    obtain ⟨H', ev⟩ := H.setObj hb hi k0 (by unfold clsOf; rw [hb]) (by simp) hok
    refine ⟨φ, _, _, ev, H', rfl, .inl ?_⟩
    have hst := run_setObj (P := P) (o := .stringIter ⟨s0.toArray⟩ (pos + 1)) k2 (by simp)
    simp [execOp, ho, Instr.next, hp, hg, hlt, hd, hst, goInt]
end Go.Ev
namespace Go.Ev
open Go Go.RowKit
variable {P : Program} {E : TyE} {o : Oper} {ρ : Rho}

def NoZeros (E : TyE) (ts : Array TypeId) : Prop := ∀ u, ts[1]? = some u → ∃ d, E.und u = some d ∧ ∀ k, d ≠ .int k
theorem run_append_fit (he : EnvOK P E) {t el ty : TypeId} {ts : Array TypeId} {esz : Nat} (hts : ts[0]? = some t) (h1 : NoZeros E ts) (ht : E.und t = some (.slice el)) (hz : E.size el = some esz)
    {base : Option Addr} {sLen sCap n : Nat} {x : Value} {us : List Value} {w w' : World} (hl : (Builtin.lenOf x).run P w = .ok n w) (hf : (Builtin.firstCells esz n x).run P w = .ok us.toArray w)
    (hfit : sLen + n ≤ sCap) (hst : (base = none ∧ w' = w) ∨ ∃ a, base = some a ∧ (Go.storeCells (a.add (sLen * esz)) us).run P w = .ok () w') :
    (Builtin.append_ ts ty #[.slice base sLen sCap, x]).run P w = .ok (.slice base (sLen + n) sCap) w' := by
  cases hu : ts[1]? with
  | none => rcases hst with ⟨rfl, rfl⟩ | ⟨a, rfl, hst⟩ <;> simp [Builtin.append_, run_und he ht, run_size he hz, *]
  | some u =>
    obtain ⟨d, h2, h3⟩ := h1 u hu
    have hd : ∀ (a b : Sem Nat), (match d with | .int _ => a | _ => b) = b := by
      intro a b; cases d <;> first | rfl | exact absurd rfl (h3 _)
    have hd2 : (match d with | .int _ => true | _ => false) = false := by cases d <;> first | rfl | exact absurd rfl (h3 _)
    rcases hst with ⟨rfl, rfl⟩ | ⟨a, rfl, hst⟩ <;> simp [Builtin.append_, run_und he ht, run_und he h2, run_size he hz, *]
theorem run_append_new (he : EnvOK P E) {t el ty : TypeId} {ts : Array TypeId} {i : TypeInfo} {z : Value} (hts : ts[0]? = some t) (h1 : NoZeros E ts) (ht : E.und t = some (.slice el)) (hi : E.ty el = some i) (hz : i.zero = some z)
    {base : Option Addr} {sLen sCap n : Nat} {x : Value} {olds us : List Value} {w : World} (hl : (Builtin.lenOf x).run P w = .ok n w)
    (hf : ∀ w2 : World, w2.heap = w.heap → (Builtin.firstCells i.size n x).run P w2 = .ok us.toArray w2)
    (ho : ∀ w2 : World, w2.heap = w.heap → (Builtin.firstCells i.size sLen (.slice base sLen sCap)).run P w2 = .ok olds.toArray w2)
    (hg : sCap < sLen + n) (h63 : sLen + n ≤ 9223372036854775807) (hb : (sLen + n) * i.bytes ≤ 140737488355328) :
    (Builtin.append_ ts ty #[.slice base sLen sCap, x]).run P w =
      .ok (.slice (some ⟨w.heap.size, 0, none⟩) (sLen + n) (grownCap w (sLen + n) sCap el))
        (w.drew.alloc (.cells ((olds ++ us).toArray ++ Builtin.zeroCells z.cells (grownCap w (sLen + n) sCap el - (sLen + n))) el)) := by
  have hfit := growslice_fits hg hb
  have hn : ¬ (sLen + n ≤ sCap) := by omega
  have h63' : ¬ (9223372036854775807 < ((sLen : Int) + (n : Int))) := by omega
  have h48' : ¬ (281474976710656 < Builtin.nextslicecap (sLen + n) sCap * i.bytes) := by omega
  have hsz : E.size el = some i.size := by simp [TyE.size, hi]
  have hzv : ∀ w, (zeroValue el).run P w = .ok z w := fun w => by simp [zeroValue, run_info he hi, hz]
  have hfd := hf w.drew rfl
  have hod := ho w.drew rfl
  cases hu : ts[1]? with
  | none =>
    simp [Builtin.append_, hts, hu, run_und he ht, run_size he hsz, run_info he hi, hl, hn, h63', h48', Question.forced, hfd, hod, hzv, newRow, grownCap]
    congr 2
    apply Array.ext'
    simp
  | some u =>
    obtain ⟨d, h2, h3⟩ := h1 u hu
    have hd2 : (match d with | .int _ => true | _ => false) = false := by cases d <;> first | rfl | exact absurd rfl (h3 _)
    simp [Builtin.append_, hts, hu, run_und he ht, run_und he h2, run_size he hsz, run_info he hi, hl, hn, h63', h48', Question.forced, hfd, hod, hzv, newRow, grownCap]
    congr 2
    apply Array.ext'
    simp

section
variable {ν : Nu} {w0 w : World} {φ : Phi} {h : AH}
/-- a new block in class c, in a new block of the world -/
theorem HR.newFresh (H : HR ν w0 φ h w) {c : Pos} {tl l0 : List Pos} (hc : (c = h.next ∧ tl = []) ∨ (h.cls.get c = some l0 ∧ tl.Sublist l0)) {esz newCap : Nat} {cells : List AV} {us : List Value} {A : Array Value} {el : TypeId}
    (hu : concL φ ν cells = some us) (h1 : ∀ (j : Nat) (u : Value), us[j]? = some u → A[j]? = some u) (h2 : cells.length ≤ newCap * esz) (h3 : newCap * esz ≤ A.size) :
    HR ν w0 (φ.upd h.next ⟨w.heap.size, 0, newCap, esz⟩) ((h.setCls c (h.next :: tl)).alloc (.cells esz cells.length (chunk cells) false (some c))) (w.drew.alloc (.cells A el)) ∧
      Ev φ h (φ.upd h.next ⟨w.heap.size, 0, newCap, esz⟩) ((h.setCls c (h.next :: tl)).alloc (.cells esz cells.length (chunk cells) false (some c))) := by
  have hn : φ h.next = none := (H.fr h.next (Nat.le_refl _)).1
  have hsz : (w.drew.alloc (.cells A el)).heap.size = w.heap.size + 1 := by show (w.heap.push _).size = _; simp
  have hB := H.below.size
  refine H.newIn (l0 := l0) (i' := ⟨w.heap.size, 0, newCap, esz⟩) rfl hc (H.below.drew.alloc hB _) (by omega) (by show w.heap.size < _; omega) ?_ ?_ ?_ ?_ (fun k _ _ hk hne => ⟨Below.heap_alloc _ _ _ hk, by show w.heap.size ≠ k; omega⟩)
  · intro p j o1 hp ho hm hok
    have hlt := (H.ob p j hp).1
    refine OK.table (hok.keep (Phi.le_refl _) (Below.heap_alloc _ _ _ hlt)) ?_
    intro esz1 n1 cs1 ro1 cl1 e hmay c' hc'
    obtain ⟨l, hl1, hl2⟩ := hmay c' hc'
    by_cases hcc : c' = c
    · subst hcc
      have := hm esz1 n1 cs1 ro1 cl1 e hc' hmay
      rcases hc with ⟨_, rfl⟩ | ⟨hc1, hc2⟩
      · cases this
      · exact ⟨l0, hc1, hc2.subset this⟩
    · rw [setCls_ne hcc] at hl1; exact ⟨l, hl1, hl2⟩
  · refine ⟨rfl, .inr (by show _ ≤ w.heap.size; omega), chunk_reg _, ?_, A, el, (0, 0), ?_, ?_, ?_, ?_, ?_⟩
    · intro j v hj; rw [chunk_get] at hj; exact (List.getElem?_eq_some_iff.1 hj).1
    · show (w.heap.push _)[w.heap.size]? = _; simp
    · intro _ k; simp
    · show 0 + cells.length ≤ A.size; omega
    · intro _; exact ⟨by show 0 + newCap * esz ≤ _; omega, h2⟩
    · intro _ j v hj
      rw [chunk_get] at hj
      obtain ⟨u, g1, g2⟩ := concL_get hu j v hj
      refine ⟨u, conc_mono (Phi.le_upd hn) _ _ g1, ?_⟩
      show A[0 + j]? = _
      rw [Nat.zero_add]; exact h1 j u g2
  · intro p j hp hb
    have := (H.ob p j hp).1
    simp only at hb; omega
  · intro p j _ hp hb
    have := (H.ob p j hp).1
    simp only at hb; omega
/-- a new block in class c, which lies where b lies, and holds more -/
theorem HR.newPlace (H : HR ν w0 φ h w) {b c : Pos} {l : List Pos} {esz n : Nat} {cs : List (List AV)} {i : BI} {old new : List AV} {us : List Value}
    (hb : h.objs.get b = some (.cells esz n cs false (some c))) (hi : φ b = some i) (hl : h.cls.get c = some l) (hm : b ∈ l)
    (ho1 : old.length = n) (ho2 : ∀ j, j < n → old[j]? = cellGet cs j) (hu : concL φ ν new = some us) (hfit : n + new.length ≤ i.cap * esz) :
    HR ν w0 (φ.upd h.next i) ((h.setCls c (h.next :: dropTo b l)).alloc (.cells esz (n + new.length) (chunk (old ++ new)) false (some c))) (World.putRow w i.blk (i.off + n) us) ∧
      Ev φ h (φ.upd h.next i) ((h.setCls c (h.next :: dropTo b l)).alloc (.cells esz (n + new.length) (chunk (old ++ new)) false (some c))) ∧
      ∃ cc t fz, w.heap[i.blk]? = some (.cells cc t fz) ∧ (∀ k, (decide (fz.1 ≤ k) && decide (k < fz.2)) = false) ∧ i.off + n + us.length ≤ cc.size := by
  have hn : φ h.next = none := (H.fr h.next (Nat.le_refl _)).1
  obtain ⟨pre, rest, hl1, hl2⟩ := dropTo_spec b l hm
  obtain ⟨hbs, o', ho', hok⟩ := H.ob b i hi
  rw [hb] at ho'; cases ho'
  obtain ⟨k1, k2, k3, k4, cc, t, fz, k5, k6, k7, k8, k9⟩ := hok
  obtain ⟨k8, k8'⟩ := k8 rfl
  have hB : w0.heap.size ≤ i.blk := k2.resolve_left (by simp)
  have hul := concL_length hu
  have hsz : (World.putRow w i.blk (i.off + n) us).heap.size = w.heap.size := by simp [World.putRow]
  have hclsb : clsOf h b = some c := by unfold clsOf; rw [hb]
  have hsizeb : sizeOfB h b = n := by unfold sizeOfB; rw [hb]
  have hsub : (dropTo b l).Sublist l := by rw [hl2, hl1]; exact List.sublist_append_right _ _
  have hmayb : mayRead h.cls b (some c) := fun c' hc' => by cases hc'; exact ⟨l, hl, hm⟩
  have hpw := H.chain c l hl
  rw [hl1] at hpw
  have hfits : i.off + n + us.length ≤ cc.size := by omega
  have hput := putRow_at (off := i.off + n) (vs := us) k5
  rw [← and_assoc]
  refine ⟨?_, cc, t, fz, k5, k6 rfl, hfits⟩
  refine H.newIn (l0 := l) (i' := i) (tl := dropTo b l) rfl (.inr ⟨hl, hsub⟩) (Below.putRow H.below hB) (by omega) (by omega) ?_ ?_ ?_ ?_ (fun k _ _ hk hne => ⟨putRow_ne (hne b i hi), hne b i hi⟩)
  · intro p j o1 hp ho hmp hok1
    by_cases hbk : j.blk = i.blk
    · -- the same block of the world
      have hcp : clsOf h p = some c := by
        by_cases hpb : p = b
        · rw [hpb]; exact hclsb
        · obtain ⟨c', e1, e2⟩ := H.inj p b j i hp hi hpb hbk
          rw [hclsb] at e2; cases e2; exact e1
      cases o1 with
      | map => unfold clsOf at hcp; rw [ho] at hcp; cases hcp
      | siter => unfold clsOf at hcp; rw [ho] at hcp; cases hcp
      | cells esz1 n1 cs1 ro1 cl1 =>
        have : cl1 = some c := by unfold clsOf at hcp; rw [ho] at hcp; exact hcp
        subst this
        obtain ⟨g1, g2, g3, g4, cc', t', fz', g5, g6, g7, g8, g9⟩ := hok1
        rw [hbk, k5] at g5; cases g5
        refine ⟨g1, g2, g3, g4, _, t, fz, by rw [hbk]; exact hput, g6, by rw [wr_size]; exact g7, fun hh => by rw [wr_size]; exact g8 hh, ?_⟩
        intro hmay q v hq
        have hptl := hmp _ _ _ _ _ rfl rfl hmay
        obtain ⟨u, r1, r2⟩ := g9 (fun c' hc' => by cases hc'; exact ⟨l, hl, hsub.subset hptl⟩) q v hq
        refine ⟨u, r1, ?_⟩
        have hqn := g4 q v hq
        have hsp : sizeOfB h p = n1 := by unfold sizeOfB; rw [ho]
        have hend : j.off + n1 ≤ i.off + n := by
          rw [hl2] at hptl
          rcases List.mem_cons.1 hptl with hpb | hpr
          · subst hpb
            rw [hi] at hp; cases hp
            rw [ho] at hb; cases hb
            omega
          · have := (List.pairwise_append.1 hpw).2.1
            have := (List.pairwise_cons.1 this).1 p hpr i j hi hp hbk.symm
            rw [hsp, hsizeb] at this; exact this
        rw [wr_get _ _ _ _ hfits, if_neg (by omega)]
        exact r2
    · refine OK.table (hok1.keep (Phi.le_refl _) (putRow_ne (fun e => hbk e.symm))) ?_
      intro esz1 n1 cs1 ro1 cl1 e hmay c' hc'
      obtain ⟨l', q1, q2⟩ := hmay c' hc'
      by_cases hcc : c' = c
      · subst hcc
        have := hmp esz1 n1 cs1 ro1 cl1 e hc' hmay
        exact ⟨l, hl, hsub.subset this⟩
      · rw [setCls_ne hcc] at q1; exact ⟨l', q1, q2⟩
  · refine ⟨k1, .inr hB, chunk_reg _, ?_, _, t, fz, hput, k6, ?_, ?_, ?_⟩
    · intro j v hj
      rw [chunk_get] at hj
      have := (List.getElem?_eq_some_iff.1 hj).1
      simp at this; omega
    · rw [wr_size]; omega
    · intro _; rw [wr_size]; exact ⟨k8, hfit⟩
    · intro _ j v hj
      rw [chunk_get, List.getElem?_append] at hj
      rw [wr_get _ _ _ _ hfits]
      split at hj
      · rename_i hlt
        rw [if_neg (by omega)]
        rw [ho2 j (by omega)] at hj
        obtain ⟨u, r1, r2⟩ := k9 hmayb j v hj
        exact ⟨u, conc_mono (Phi.le_upd hn) _ _ r1, r2⟩
      · rename_i hlt
        have hjl := (List.getElem?_eq_some_iff.1 hj).1
        rw [if_pos (by omega)]
        obtain ⟨u, r1, r2⟩ := concL_get hu _ v hj
        refine ⟨u, conc_mono (Phi.le_upd hn) _ _ r1, ?_⟩
        rw [show i.off + j - (i.off + n) = j - old.length from by omega]; exact r2
  · intro p j hp hbk
    by_cases hpb : p = b
    · rw [hpb]; exact hclsb
    · obtain ⟨c', e1, e2⟩ := H.inj p b j i hp hi hpb hbk
      rw [hclsb] at e2; cases e2; exact e1
  · intro p j hptl hp hbk
    rw [hl2] at hptl
    rcases List.mem_cons.1 hptl with hpb | hpr
    · subst hpb
      rw [hi] at hp; cases hp
      rw [hsizeb]; omega
    · have := (List.pairwise_append.1 hpw).2.1
      have := (List.pairwise_cons.1 this).1 p hpr i j hi hp hbk
      rw [hsizeb] at this; omega
end
end Go.Ev
namespace Go.Ev
open Go Go.RowKit
variable {P : Program} {E : TyE} {o : Oper} {ρ : Rho}

theorem zero_ty {t : TypeId} {a : AV} {i : TypeInfo} (h : E.zero t = some a) (hi : E.ty t = some i) : ∃ Z, i.zero = some Z ∧ ofV Z = some a := by
  unfold TyE.zero at h
  rw [hi] at h
  simp only at h
  cases hz : i.zero with
  | none => rw [hz] at h; cases h
  | some z => rw [hz] at h; exact ⟨z, rfl, h⟩
theorem grown_ge (w : World) (need old : Nat) (e : TypeId) : need ≤ grownCap w need old e := by
  show need ≤ need + _
  omega
theorem SlCells.len {h : AH} {x : AV} {m esz : Nat} {l : List AV} (hm : lenA x = some m) (hs : SlCells h x (m * esz) l) : l.length = m * esz := by
  cases x <;> first | (cases hs; done) | skip
  · simp only [lenA, Option.some.injEq] at hm
    have hs : l = [] := hs
    subst hm; subst hs; simp
  · exact hs.1
  · obtain ⟨rfl, h2⟩ := hs; rw [h2]; rfl
theorem newOpenK_eq {β : Type} {h : AH} {esz : Nat} {vs : List AV} {k : Pos → AH → Option β} :
    newOpenK h esz vs k = k h.next ((h.setCls h.next [h.next]).alloc (.cells esz vs.length (chunk vs) false (some h.next))) := by
  unfold newOpenK
  rw [setClsK_eq, newK_eq, lenL_eq]; rfl
theorem big_app {β : Type} {t el : TypeId} {ts : Array TypeId} {i : TypeInfo} {s x : Operand} {sv xv zv : AV} {m : Nat} {new : List AV} {h : AH} {k : AV → AH → Option β} {r : β} (he : EnvOK P E)
    (ho : o.op = .call { callee := .builtin .append, args := #[s, x], argTypes := ts }) (hts : ts[0]? = some t) (h1 : NoZeros E ts) (ht : E.und t = some (.slice el)) (hi : E.ty el = some i)
    (hz : E.zero el = some zv) (hzc : zv.cells.length = i.size) (hsz : i.size ≠ 0) (hby : i.bytes ≤ 10000) (hs : ρ s = some sv) (hx : ρ x = some xv)
    (hm : lenA xv = some m) (hc : SlCells h xv (m * i.size) new) (hk : appendK h i.size m sv new k = some r) : ∃ v h', k v h' = some r ∧ Big P o ρ h h' v := by
  have hnl := hc.len hm
  obtain ⟨Z, hZ1, hZ2⟩ := zero_ty hz hi
  have hE : E.size el = some i.size := by simp [TyE.size, hi]
  have lift : ∀ {ρc : Operand → Value} {w w' : World} {u : Value}, (Builtin.append_ ts o.type #[ρc s, ρc x]).run P w = .ok u w' → (execOp ρc o).run P w = .ok (.value u) w' := by
    intro ρc w w' u hr
    simp only [execOp, ho, resolve, invoke, builtin]
    simp [hr]
  have zsz : ∀ (φ : Phi) (ν : Nu), Z.cells.size = i.size := by
    intro φ ν
    have := concL_length (conc_cells (ofV_conc (φ := φ) (ν := ν) _ _ hZ2))
    simp at this; omega
  -- a new row
  have fresh : ∀ {c : Pos} {tl l0 : List Pos} {cells old : List AV} {len e : Nat} {φ : Phi} {ν : Nu} {w0 w : World} {ρc : Operand → Value} {base : Option Addr} {sCap : Nat} {olds : List Value}
      (hcl : (c = h.next ∧ tl = []) ∨ (h.cls.get c = some l0 ∧ tl.Sublist l0)) (H : HR ν w0 φ h w) (hA : Agree φ ν o ρ ρc) (hsv : ρc s = .slice base len sCap) (hg : sCap < len + m) (hle : len + m ≤ 1000000)
      (ho1 : old.length = len * i.size) (ho2 : concL φ ν old = some olds) (ho3 : ∀ w2 : World, w2.heap = w.heap → (Builtin.firstCells i.size len (.slice base len sCap)).run P w2 = .ok olds.toArray w2),
      ∃ φ' w' u, Ev φ h φ' ((h.setCls c (h.next :: tl)).alloc (.cells i.size (old ++ new).length (chunk (old ++ new)) false (some c))) ∧
        HR ν w0 φ' ((h.setCls c (h.next :: tl)).alloc (.cells i.size (old ++ new).length (chunk (old ++ new)) false (some c))) w' ∧ conc φ' ν (.slice h.next 0 (len + m) none) = some u ∧
        (execOp ρc o).run P w = .ok (.value u) w' := by
    intro c tl l0 cells old len e φ ν w0 w ρc base sCap olds hcl H hA hsv hg hle ho1 ho2 ho3
    have hxc := hA x (by simp [ho, Op.operands, Call.operands]) _ hx
    obtain ⟨us, hu1, hu2⟩ := hc.run (P := P) H hxc
    have hlr := lenA_run (P := P) hm hxc w
    have hb : (len + m) * i.bytes ≤ 140737488355328 := Nat.le_trans (Nat.mul_le_mul hle hby) (by decide)
    have hrun := run_append_new (ty := o.type) he hts h1 ht hi hZ1 hlr hu2 ho3 hg (by omega) hb
    have hge := grown_ge w (len + m) sCap el
    have hA3 : grownCap w (len + m) sCap el * i.size ≤ ((olds ++ us).toArray ++ Builtin.zeroCells Z.cells (grownCap w (len + m) sCap el - (len + m))).size := by
      have e1 := concL_length ho2
      have e2 := concL_length hu1
      simp only [Array.size_append, List.size_toArray, List.length_append, Builtin.zeroCells, Array.size_map, Array.size_range, zsz φ ν]
      have : grownCap w (len + m) sCap el = (len + m) + (grownCap w (len + m) sCap el - (len + m)) := by omega
      rw [e1, e2, ho1, hnl]
      conv => lhs; rw [this]
      rw [Nat.add_mul, Nat.add_mul]; omega
    obtain ⟨H', ev⟩ := H.newFresh (A := (olds ++ us).toArray ++ Builtin.zeroCells Z.cells (grownCap w (len + m) sCap el - (len + m))) (el := el) (esz := i.size) (newCap := grownCap w (len + m) sCap el) hcl (concL_append ho2 hu1)
      (fun j u hj => by
        have := (List.getElem?_eq_some_iff.1 hj).1
        rw [Array.getElem?_append_left (by simpa using this)]; simpa using hj)
      (by simp only [List.length_append, ho1, hnl, ← Nat.add_mul]; exact Nat.mul_le_mul_right _ hge) hA3
    refine ⟨_, _, _, ev, H', ?_, lift (by rw [hsv]; exact hrun)⟩
    simp [conc, Phi.upd_self, capOf]
  cases sv <;> first | (cases hk; done) | skip
  case nils =>
    simp only [appendK] at hk
    cases hm0 : Nat.beq m 0 with
    | true =>
      rw [hm0] at hk
      have hm0 := Nat.eq_of_beq_eq_true hm0
      subst hm0
      refine ⟨_, _, hk, fun φ ν w0 w ρc H hA => ?_⟩
      have hsc := hA s (by simp [ho, Op.operands, Call.operands]) _ hs
      have hxc := hA x (by simp [ho, Op.operands, Call.operands]) _ hx
      obtain ⟨us, hu1, hu2⟩ := hc.run (P := P) H hxc
      simp only [conc, Option.some.injEq] at hsc
      refine ⟨φ, w, _, Ev.refl _ _, H, rfl, .inl (lift ?_)⟩
      rw [← hsc]
      exact run_append_fit he hts h1 ht hE (lenA_run hm hxc w) (hu2 w rfl) (Nat.le_refl _) (.inl ⟨rfl, rfl⟩)
    | false =>
      rw [hm0] at hk
      cases hle : Nat.ble m 1000000 with
      | false => rw [hle] at hk; cases hk
      | true =>
        rw [hle] at hk
        simp only [cond_true, cond_false] at hk
        rw [newOpenK_eq] at hk
        have hmp : m ≠ 0 := fun e => by subst e; cases hm0
        refine ⟨_, _, hk, fun φ ν w0 w ρc H hA => ?_⟩
        have hsc := hA s (by simp [ho, Op.operands, Call.operands]) _ hs
        simp only [conc, Option.some.injEq] at hsc
        obtain ⟨φ', w', u, a1, a2, a3, a4⟩ := fresh (cells := []) (e := 0) (l0 := []) (old := []) (len := 0) (olds := []) (.inl ⟨rfl, rfl⟩) H hA hsc.symm (by omega) (by simpa using Nat.le_of_ble_eq_true hle) (by simp) rfl (fun w2 _ => rfl)
        simp only [List.nil_append, Nat.zero_add] at a1 a2 a3
        exact ⟨φ', w', u, a1, a2, a3, .inl a4⟩
  case slice b e len cap =>
    simp only [appendK] at hk
    cases hle : Nat.ble (len + m) 1000000 with
    | false => rw [hle] at hk; cases hk
    | true =>
      rw [hle] at hk
      simp only [Bool.not_true, cond_false] at hk
      have hle := Nat.le_of_ble_eq_true hle
      obtain ⟨esz', n, cs, ro, cls, hb, hmay, hk2⟩ := blockK_spec hk
      clear hk
      -- in place
      have place : ∀ {h' : AH}, (m = 0 ∧ h' = h ∨ Stores h b (e + len * i.size) new h') → (∀ (φ : Phi) (ν : Nu) (w0 w : World) (bi : BI), HR ν w0 φ h w → φ b = some bi → len + m ≤ capOf bi e cap) →
          Big P o ρ h h' (.slice b e (len + m) cap) := by
        intro h' hst hcap φ ν w0 w ρc H hA
        have hsc := hA s (by simp [ho, Op.operands, Call.operands]) _ hs
        have hxc := hA x (by simp [ho, Op.operands, Call.operands]) _ hx
        obtain ⟨us, hu1, hu2⟩ := hc.run (P := P) H hxc
        obtain ⟨bi, hbi, hsv⟩ := conc_slice hsc
        have hfit := hcap φ ν w0 w bi H hbi
        have hval : conc φ ν (.slice b e (len + m) cap) = some (.slice (some ⟨bi.blk, bi.off + e, none⟩) (len + m) (capOf bi e cap)) := by simp [conc, hbi]
        rcases hst with ⟨rfl, rfl⟩ | hst
        · have hus : us = [] := by
            have := concL_length hu1
            rw [hnl] at this; simp at this; exact this
          subst hus
          refine ⟨φ, w, _, Ev.refl _ _, H, hval, .inl (lift ?_)⟩
          rw [hsv]
          exact run_append_fit he hts h1 ht hE (lenA_run hm hxc w) (hu2 w rfl) hfit (.inr ⟨_, rfl, rfl⟩)
        · obtain ⟨w', H', ev, hr⟩ := hst.run (P := P) H hbi hu1
          refine ⟨φ, w', _, ev, H', hval, .inl (lift ?_)⟩
          rw [hsv]
          refine run_append_fit he hts h1 ht hE (lenA_run hm hxc w) (hu2 w rfl) hfit (.inr ⟨_, rfl, ?_⟩)
          rw [Addr.add_mk, Nat.add_assoc]; exact hr
      cases cap with
      | some c =>
        simp only at hk2
        cases hfc : Nat.ble (len + m) c with
        | true =>
          rw [hfc] at hk2
          simp only [cond_true] at hk2
          have hfc := Nat.le_of_ble_eq_true hfc
          cases hm0 : Nat.beq m 0 with
          | true =>
            rw [hm0] at hk2
            have hm0 := Nat.eq_of_beq_eq_true hm0
            have := place (h' := h) (.inl ⟨hm0, rfl⟩) (fun _ _ _ _ _ _ _ => hfc)
            rw [hm0] at this
            exact ⟨_, _, hk2, this⟩
          | false =>
            rw [hm0] at hk2
            obtain ⟨h', hk', hst⟩ := storeCellsK_stores hk2
            exact ⟨_, _, hk', place (.inr hst) (fun _ _ _ _ _ _ _ => hfc)⟩
        | false =>
          rw [hfc] at hk2
          simp only [cond_false] at hk2
          have hnf : ¬ len + m ≤ c := fun hh => by rw [Nat.ble_eq_true_of_le hh] at hfc; cases hfc
          obtain ⟨old, hk', o1, o2⟩ := loadNK_spec _ _ _ _ _ hk2
          rw [newOpenK_eq, appL_eq] at hk'
          refine ⟨_, _, hk', fun φ ν w0 w ρc H hA => ?_⟩
          have hsc := hA s (by simp [ho, Op.operands, Call.operands]) _ hs
          obtain ⟨bi, hbi, hsv⟩ := conc_slice hsc
          have hso : SlCells h (.slice b e len (some c)) (len * i.size) old := ⟨o1, fun j v hj => ⟨esz', n, cs, ro, cls, hb, hmay, by
            rw [← o2 j (by have := (List.getElem?_eq_some_iff.1 hj).1; omega)]; exact hj⟩⟩
          obtain ⟨olds, p1, p2⟩ := hso.run (P := P) H hsc
          rw [hsv] at p2
          obtain ⟨φ', w', u, a1, a2, a3, a4⟩ := fresh (cells := []) (e := 0) (l0 := []) (.inl ⟨rfl, rfl⟩) H hA hsv (by simp only [capOf]; omega) hle o1 p1 p2
          exact ⟨φ', w', u, a1, a2, a3, .inl a4⟩
      | none =>
        simp only at hk2
        cases hee : Nat.beq i.size esz' with
        | false => rw [hee] at hk2; cases hk2
        | true =>
          rw [hee] at hk2
          have hee := Nat.eq_of_beq_eq_true hee
          subst hee
          cases cls with
          | none => cases hk2
          | some c =>
            simp only [Bool.not_true, cond_false] at hk2
            have hcapb : ∀ (φ : Phi) (ν : Nu) (w0 w : World) (bi : BI), HR ν w0 φ h w → φ b = some bi → bi.esz = i.size ∧ n ≤ bi.cap * i.size := by
              intro φ ν w0 w bi H hbi
              obtain ⟨_, o', ho', hok⟩ := H.ob b bi hbi
              rw [hb] at ho'; cases ho'
              obtain ⟨q1, _, _, _, _, _, _, _, _, _, q8, _⟩ := hok
              exact ⟨q1, (q8 rfl).2⟩
            cases hfc : Nat.ble (e + (len + m) * i.size) n with
            | true =>
              rw [hfc] at hk2
              simp only [cond_true] at hk2
              have hfc := Nat.le_of_ble_eq_true hfc
              have hcap : ∀ (φ : Phi) (ν : Nu) (w0 w : World) (bi : BI), HR ν w0 φ h w → φ b = some bi → len + m ≤ capOf bi e none := by
                intro φ ν w0 w bi H hbi
                obtain ⟨q1, q2⟩ := hcapb φ ν w0 w bi H hbi
                have : (e + (len + m) * i.size) / i.size ≤ bi.cap := by
                  refine Nat.le_trans (Nat.div_le_div_right (Nat.le_trans hfc q2)) ?_
                  rw [Nat.mul_div_cancel _ (by omega)]; exact Nat.le_refl _
                rw [Nat.add_mul_div_right _ _ (by omega)] at this
                simp only [capOf, q1]; omega
              cases hm0 : Nat.beq m 0 with
              | true =>
                rw [hm0] at hk2
                have hm0 := Nat.eq_of_beq_eq_true hm0
                have := place (h' := h) (.inl ⟨hm0, rfl⟩) hcap
                rw [hm0] at this
                exact ⟨_, _, hk2, this⟩
              | false =>
                rw [hm0] at hk2
                obtain ⟨h', hk', hst⟩ := storeCellsK_stores hk2
                exact ⟨_, _, hk', place (.inr hst) hcap⟩
            | false =>
              rw [hfc] at hk2
              simp only [cond_false] at hk2
              cases hcond : (!Nat.beq (len * i.size) n || !Nat.beq e 0 || ro || !scalars new) with
              | true => rw [hcond] at hk2; cases hk2
              | false =>
                rw [hcond] at hk2
                simp only [cond_false] at hk2
                simp only [Bool.or_eq_false_iff, Bool.not_eq_false'] at hcond
                obtain ⟨⟨⟨g1, g2⟩, rfl⟩, hsca⟩ := hcond
                have g1 := Nat.eq_of_beq_eq_true g1
                have g2 := Nat.eq_of_beq_eq_true g2
                subst g2
                obtain ⟨old, hk', o1, o2⟩ := loadNK_spec _ _ _ _ _ hk2
                cases hcl : h.cls.get c with
                | none => rw [hcl] at hk'; cases hk'
                | some l =>
                  rw [hcl] at hk'
                  simp only [setClsK_eq, newK_eq, appL_eq, lenL_eq] at hk'
                  have hbl : b ∈ l := by obtain ⟨l', e1, e2⟩ := hmay c rfl; rw [hcl] at e1; cases e1; exact e2
                  have hsub : (dropTo b l).Sublist l := by
                    obtain ⟨pre, rest, e1, e2⟩ := dropTo_spec b l hbl
                    rw [e2]; conv => rhs; rw [e1]
                    exact List.sublist_append_right _ _
                  refine ⟨_, _, hk', fun φ ν w0 w ρc H hA => ?_⟩
                  have hsc := hA s (by simp [ho, Op.operands, Call.operands]) _ hs
                  have hxc := hA x (by simp [ho, Op.operands, Call.operands]) _ hx
                  obtain ⟨bi, hbi, hsv⟩ := conc_slice hsc
                  obtain ⟨q1, q2⟩ := hcapb φ ν w0 w bi H hbi
                  have hcapv : capOf bi 0 none = bi.cap := by simp [capOf]
                  rw [hcapv] at hsv
                  by_cases hin : len + m ≤ bi.cap
                  · -- room enough
                    obtain ⟨us, hu1, hu2⟩ := hc.run (P := P) H hxc
                    obtain ⟨H', ev, cc, t', fz, p5, p6, p7⟩ := H.newPlace hb hbi hcl hbl o1 (fun j hj => by rw [o2 j hj, Nat.zero_add]) hu1 (by rw [hnl, ← g1, ← Nat.add_mul]; exact Nat.mul_le_mul_right _ hin)
                    refine ⟨_, _, .slice (some ⟨bi.blk, bi.off + 0, none⟩) (len + m) bi.cap, ev, H', ?_, .inl (lift ?_)⟩
                    · show (Phi.upd φ h.next bi h.next).map _ = _
                      rw [Phi.upd_self]; simp [capOf]
                    · rw [hsv]
                      refine run_append_fit he hts h1 ht hE (lenA_run hm hxc w) (hu2 w rfl) hin (.inr ⟨_, rfl, ?_⟩)
                      rw [Addr.add_mk, Nat.add_zero, g1]
                      exact run_storeCells p6 us (bi.off + n) 0 w cc (scalars_conc hsca hu1) p5 (by omega)
                  · have hso : SlCells h (.slice b 0 len none) (len * i.size) old := ⟨by omega, fun j v hj => ⟨i.size, n, cs, false, some c, hb, hmay, by
                      rw [← o2 j (by have := (List.getElem?_eq_some_iff.1 hj).1; omega)]; exact hj⟩⟩
                    obtain ⟨olds, p1, p2⟩ := hso.run (P := P) H hsc
                    rw [hsv] at p2
                    obtain ⟨φ', w', u, a1, a2, a3, a4⟩ := fresh (cells := []) (e := 0) (.inr ⟨hcl, hsub⟩) H hA hsv (by omega) hle (by omega) p1 p2
                    rw [List.length_append, o1] at a1 a2
                    exact ⟨φ', w', u, a1, a2, a3, .inl a4⟩
end Go.Ev
namespace Go.Ev
open Go Go.RowKit
variable {P : Program} {E : TyE} {o : Oper} {ρ : Rho}

/-! ### filling in parts -/
def setL : List AV → Nat → List AV → List AV
  | l, _, [] => l
  | l, off, v :: vs => setL (l.set off v) (off + 1) vs
theorem setL_length : ∀ (vs : List AV) (l : List AV) (off : Nat), (setL l off vs).length = l.length
  | [], _, _ => rfl
  | v :: vs, l, off => by rw [setL, setL_length vs]; simp
theorem setL_get : ∀ (vs : List AV) (l : List AV) (off j : Nat), off + vs.length ≤ l.length → (setL l off vs)[j]? = if off ≤ j ∧ j < off + vs.length then vs[j - off]? else l[j]?
  | [], l, off, j, _ => by rw [if_neg (by simp)]; rfl
  | v :: vs, l, off, j, hs => by
    simp only [List.length_cons] at hs
    rw [setL, setL_get vs _ _ _ (by simp; omega)]
    by_cases hj : j = off
    · subst hj
      rw [if_neg (by omega), if_pos ⟨Nat.le_refl _, by simp⟩, List.getElem?_set_self (by omega)]
      simp
    · by_cases hin : off + 1 ≤ j ∧ j < off + 1 + vs.length
      · rw [if_pos hin, if_pos ⟨by omega, by simp; omega⟩]
        have : j - off = (j - (off + 1)) + 1 := by omega
        rw [this]; rfl
      · rw [if_neg hin, if_neg (by simp; omega)]
        rw [List.getElem?_set_ne (by omega)]
theorem setAtK_spec {β : Type} : ∀ (vs : List AV) (off : Nat) (l : List AV) (k : List AV → Option β) (r : β), setAtK vs off l k = some r → vs ≠ [] → k (setL l off vs) = some r ∧ off + vs.length ≤ l.length
  | [], off, l, k, r, h, hne => absurd rfl hne
  | v :: vs, off, l, k, r, h, _ => by
    have h : setNthK v off l (fun l' => setAtK vs (off + 1) l' k) = some r := h
    rw [setNthK_eq] at h
    split at h
    · rename_i hlt
      cases vs with
      | nil => exact ⟨h, by simp; omega⟩
      | cons a vs =>
        obtain ⟨h1, h2⟩ := setAtK_spec (a :: vs) (off + 1) _ k r h (by simp)
        exact ⟨h1, by simp at h2 ⊢; omega⟩
    · cases h
def fillV : List (Nat × Nat × AV) → List AV → Option (List AV)
  | [], z => some z
  | (off, size, v) :: ps, z => if v.cells.length = size ∧ off + size ≤ z.length then fillV ps (setL z off v.cells) else none
theorem zip_wr (off : Nat) : ∀ (l : List Value) (k : Nat) (A : Array Value), (l.zipIdx k).foldl (fun cs (x : Value × Nat) => cs.setIfInBounds (off + x.2) x.1) A = wr A (off + k) l
  | [], k, A => rfl
  | v :: l, k, A => by
    rw [List.zipIdx_cons, List.foldl_cons, zip_wr off l (k + 1)]; rfl
/-- the parts' places and values -/
def PartsR (ρ : Rho) (place : Nat → Option (Nat × Nat)) : List (Nat × Operand) → List (Nat × Nat × AV) → Prop
  | [], [] => True
  | (i, x) :: l, (off, size, v) :: m => place i = some (off, size) ∧ ρ x = some v ∧ PartsR ρ place l m
  | _, _ => False
theorem fill_spec {φ : Phi} {ν : Nu} {place place' : Nat → Option (Nat × Nat)} (hpl : ∀ i q, place i = some q → place' i = some q) {ρc : Operand → Value} :
    ∀ (ps : List (Nat × Operand)) (vs : List (Nat × Nat × AV)) (z l : List AV) (Z : Array Value), PartsR ρ place ps vs → (∀ p ∈ ps, ∀ a, ρ p.2 = some a → conc φ ν a = some (ρc p.2)) →
      fillV vs z = some l → concL φ ν z = some Z.toList → ∃ Z', Instr.fill place' Z (ps.map fun p => (p.1, ρc p.2)) = some Z' ∧ concL φ ν l = some Z'.toList
  | [], [], z, l, Z, _, _, h, hz => by
    cases h
    exact ⟨Z, rfl, hz⟩
  | [], _ :: _, _, _, _, h, _, _, _ => h.elim
  | (_, _) :: _, [], _, _, _, h, _, _, _ => h.elim
  | (i, x) :: ps, (off, size, v) :: vs, z, l, Z, ⟨h1, h2, h3⟩, hA, h, hz => by
    simp only [fillV] at h
    split at h
    · rename_i hc
      obtain ⟨c1, c2⟩ := hc
      have hv := conc_cells (hA (i, x) (by simp) v h2)
      have hvl := concL_length hv
      have hzl := concL_length hz
      simp only [Array.length_toList] at hvl hzl
      have hZ' : concL φ ν (setL z off v.cells) = some (wr Z off (ρc x).cells.toList).toList := by
        refine concL_of (by simp [wr_size, setL_length]; omega) ?_
        intro j a hj
        rw [setL_get _ _ _ _ (by omega)] at hj
        rw [Array.getElem?_toList, wr_get _ _ _ _ (by simp; omega)]
        simp only [Array.length_toList, hvl]
        split at hj
        · rename_i hin
          rw [if_pos hin]
          exact concL_get hv _ a hj
        · rename_i hin
          rw [if_neg hin]
          obtain ⟨u, g1, g2⟩ := concL_get hz _ a hj
          exact ⟨u, g1, by simpa using g2⟩
      obtain ⟨Z', e1, e2⟩ := fill_spec hpl ps vs _ l _ h3 (fun p hp => hA p (by simp [hp])) h hZ'
      refine ⟨Z', ?_, e2⟩
      rw [List.map_cons, Instr.fill]
      simp only [hpl _ _ h1]
      rw [if_neg (by simp; omega)]
      have hw : (ρc x).cells.zipIdx.foldl (fun cs (x : Value × Nat) => cs.setIfInBounds (off + x.2) x.1) Z = wr Z off (ρc x).cells.toList := by
        rw [← Array.foldl_toList, Array.toList_zipIdx, zip_wr]; rfl
      rw [hw]
      exact e1
    · cases h
theorem parts_agree {φ : Phi} {ν : Nu} {ρc : Operand → Value} {ps : Array (Nat × Operand)} (h : ∀ y ∈ (ps.map (·.2)), ∀ a, ρ y = some a → conc φ ν a = some (ρc y)) : ∀ p ∈ ps.toList, ∀ a, ρ p.2 = some a → conc φ ν a = some (ρc p.2) :=
  fun p hp a ha => h p.2 (Array.mem_map.2 ⟨p, by simpa using hp, rfl⟩) a ha
theorem pure_build {t : TypeId} {ps : Array (Nat × Operand)} {z : AV} {vs : List (Nat × Nat × AV)} {l : List AV} (he : EnvOK P E) (ho : o.op = .build t ps) (hz : E.zero t = some z) (hl : fillV vs z.cells = some l)
    (hd : (∃ fs : Array Field, E.und t = some (.struct fs) ∧ (∀ f ∈ fs.toList, (E.size f.type).isSome) ∧ PartsR ρ (fieldAt E fs) ps.toList vs) ∨
      ∃ n e s, E.und t = some (.array n e) ∧ E.size e = some s ∧ PartsR ρ (fun i => some (i * s, s)) ps.toList vs) : Pure P o ρ (.agg l) := fun φ ν ρc w hA => by
  have hpa := parts_agree (φ := φ) (ν := ν) (ρc := ρc) (ρ := ρ) (ps := ps) (fun y hy a ha => hA y (by rw [ho]; simp only [Op.operands]; simpa using hy) a ha)
  obtain ⟨zv, hz1, hz2⟩ := run_zero (P := P) he hz φ ν
  have hzt : ∃ it, P.info? t = some it ∧ it.zero = some zv := by
    unfold TyE.zero at hz
    cases hi : E.ty t with
    | none => rw [hi] at hz; cases hz
    | some it =>
      rw [hi] at hz
      simp only at hz
      cases hz' : it.zero with
      | none => rw [hz'] at hz; cases hz
      | some z' =>
        have := hz2 w
        simp [zeroValue, run_info he hi, hz'] at this
        subst this
        exact ⟨it, he.ty t it hi, hz'⟩
  obtain ⟨it, hi1, hi2⟩ := hzt
  have hmapl : (ps.map fun p => (p.1, ρc p.2)).toList = ps.toList.map fun p => (p.1, ρc p.2) := by simp
  have fin : ∀ Z', concL φ ν l = some Z'.toList → P.built t (ps.map fun p => (p.1, ρc p.2)).toList = some Z' → ∃ u, conc φ ν (.agg l) = some u ∧ (execOp ρc o).run P w = .ok (.value u) w := by
    intro Z' h1 h2
    refine ⟨.agg Z', by simp [conc, h1], ?_⟩
    have := run_build w t _ Z' h2
    simp only [execOp, ho, Sem.run_bind]
    rw [this]; rfl
  rcases hd with ⟨fs, h1, h2, h3⟩ | ⟨n, e, s, h1, h2, h3⟩
  · have hplaces : fs.toList.mapM (fun f => (P.info? f.type).map fun i => (f.offset, i.size)) = some (fs.toList.map fun f => (f.offset, (E.size f.type).getD 0)) := by
      generalize fs.toList = l at h2
      induction l with
      | nil => rfl
      | cons f l ih =>
        have hf := h2 f (by simp)
        obtain ⟨s, hs⟩ := Option.isSome_iff_exists.1 hf
        have hs' := hs
        simp only [TyE.size, Option.map_eq_some_iff] at hs'
        obtain ⟨i, hi, rfl⟩ := hs'
        rw [List.mapM_cons, ih fun g hg => h2 g (by simp [hg])]
        simp [he.ty _ _ hi, hs]
    obtain ⟨Z', e1, e2⟩ := fill_spec (place' := ((fs.toList.map fun f => (f.offset, (E.size f.type).getD 0)).toArray[·]?)) (fun i q hq => by
      unfold fieldAt at hq
      simp only [Option.bind_eq_bind, Option.bind_eq_some_iff] at hq
      obtain ⟨f, hf, s, hs, hq⟩ := hq
      cases hq
      have hf' : fs.toList[i]? = some f := by simpa using hf
      simp [hf, hs]) ps.toList vs _ l _ h3 hpa hl (conc_cells hz1)
    refine fin Z' e2 ?_
    unfold Program.built
    rw [hi1, he.und h1]
    simp only [hi2, hplaces]
    rw [hmapl]; exact e1
  · have h2' := h2
    simp only [TyE.size, Option.map_eq_some_iff] at h2'
    obtain ⟨ie, hie, rfl⟩ := h2'
    obtain ⟨Z', e1, e2⟩ := fill_spec (place' := fun i => some (i * ie.size, ie.size)) (fun i q hq => hq) ps.toList vs _ l _ h3 hpa hl (conc_cells hz1)
    refine fin Z' e2 ?_
    unfold Program.built
    rw [hi1, he.und h1]
    simp only [hi2, he.ty _ _ hie]
    rw [hmapl]; exact e1
end Go.Ev
namespace Go.Ev
open Go Go.RowKit
variable {P : Program} {E : TyE} {o : Oper} {ρ : Rho}

/-! ### operations that make a block -/
def NewAt (P : Program) (o : Oper) (ρ : Rho) (b : Pos) (ob : AObj) (v : AV) : Prop :=
  (∀ esz n cs ro cls, ob = .cells esz n cs ro cls → cls = none) ∧
  ∀ (φ : Phi) (ν : Nu) (B : Nat) (T : PT (List Pos)) (w : World) (ρc : Operand → Value), φ b = none → B ≤ w.heap.size → Agree φ ν o ρ ρc →
    ∃ O i u, i.blk = w.heap.size ∧ OK (φ.upd b i) ν B T b i (w.alloc O) ob ∧ conc (φ.upd b i) ν v = some u ∧ (execOp ρc o).run P w = .ok (.value u) (w.alloc O)
theorem ok_cells {φ : Phi} {ν : Nu} {B : Nat} {T : PT (List Pos)} {b : Pos} {w : World} {esz : Nat} {l : List AV} {us : Array Value} {el : TypeId} (hb : φ b = none) (hB : B ≤ w.heap.size) (hl : concL φ ν l = some us.toList) :
    OK (φ.upd b ⟨w.heap.size, 0, 0, esz⟩) ν B T b ⟨w.heap.size, 0, 0, esz⟩ (w.alloc (.cells us el)) (.cells esz l.length (chunk l) false none) := by
  refine ⟨rfl, .inr hB, chunk_reg _, ?_, us, el, (0, 0), ?_, ?_, ?_, ?_, ?_⟩
  · intro j v hj; rw [chunk_get] at hj; exact (List.getElem?_eq_some_iff.1 hj).1
  · show (w.heap.push _)[w.heap.size]? = _; simp
  · intro _ k; simp
  · have := concL_length hl; simp at this; show 0 + l.length ≤ us.size; omega
  · intro h; cases h
  · intro _ j v hj
    rw [chunk_get] at hj
    obtain ⟨u, h1, h2⟩ := concL_get hl j v hj
    exact ⟨u, conc_mono (Phi.le_upd hb) _ _ h1, by show us[0 + j]? = _; rw [Nat.zero_add]; simpa using h2⟩
theorem new_box {t : TypeId} {x : Operand} {a : AV} {esz : Nat} {b : Pos} (ho : o.op = .box t x) (hx : ρ x = some a) : NewAt P o ρ b (.cells esz a.cells.length (chunk a.cells) false none) (.ptr b 0) := by
  refine ⟨fun _ _ _ _ _ e => by cases e; rfl, fun φ ν B T w ρc hb hB hA => ?_⟩
  have hc := conc_cells (hA x (by simp [ho, Op.operands]) _ hx)
  exact ⟨_, _, .pointer (some ⟨w.heap.size, 0, none⟩), rfl, ok_cells (el := t) hb hB hc, by simp [conc, Phi.upd_self], by simp [execOp, ho, Instr.box, newVar, newRow]⟩
theorem new_alloc {t : TypeId} {z : AV} {esz : Nat} {b : Pos} (he : EnvOK P E) (ho : o.op = .alloc t) (hz : E.zero t = some z) : NewAt P o ρ b (.cells esz z.cells.length (chunk z.cells) false none) (.ptr b 0) := by
  refine ⟨fun _ _ _ _ _ e => by cases e; rfl, fun φ ν B T w ρc hb hB hA => ?_⟩
  obtain ⟨zv, hz1, hz2⟩ := run_zero (P := P) he hz φ ν
  exact ⟨_, _, .pointer (some ⟨w.heap.size, 0, none⟩), rfl, ok_cells (el := t) hb hB (conc_cells hz1), by simp [conc, Phi.upd_self], by simp [execOp, ho, Instr.alloc, hz2, newVar, newRow]⟩
theorem new_map {t : TypeId} {b : Pos} (ho : o.op = .makeMap t none) : NewAt P o ρ b (.map [] 0) (.map b) := by
  refine ⟨fun _ _ _ _ _ e => (by cases e), fun φ ν B T w ρc hb hB hA => ?_⟩
  refine ⟨.map #[] 0, ⟨w.heap.size, 0, 0, 0⟩, .map (some w.heap.size), rfl, ⟨hB, #[], ?_, rfl, by simp⟩, by simp [conc, Phi.upd_self], by simp [execOp, ho, Instr.makeMap]⟩
  show (w.heap.push _)[w.heap.size]? = _; simp
theorem rep_repeat (z : List AV) : ∀ n, rep z n = repeatL z n
  | 0 => rfl
  | n + 1 => by show z ++ rep z n = appL z (repeatL z n); rw [appL_eq, rep_repeat z n]
theorem zeroCells_row {z : Array Value} {s len : Nat} (hs : z.size = s) : (Array.range (len * s)).map (fun x => z[x % z.size]!) = Builtin.zeroCells z len := by
  unfold Builtin.zeroCells; rw [hs]
theorem new_mks {t e : TypeId} {ps : Array (Nat × Operand)} {len s : Nat} {z : AV} {vs : List (Nat × Nat × AV)} {l : List AV} {b : Pos} (he : EnvOK P E) (ho : o.op = .buildSlice t len ps) (ht : E.und t = some (.slice e))
    (hs : E.size e = some s) (hz : E.zero e = some z) (hzs : z.cells.length = s) (hsm : len * s ≤ 10000) (hps : PartsR ρ (fun i => some (i * s, s)) ps.toList vs) (hl : fillV vs (rep z.cells len) = some l) (hll : l.length = len * s) :
    NewAt P o ρ b (.cells s l.length (chunk l) false none) (.slice b 0 len (some len)) := by
  refine ⟨fun _ _ _ _ _ e => by cases e; rfl, fun φ ν B T w ρc hb hB hA => ?_⟩
  have hpa := parts_agree (φ := φ) (ν := ν) (ρc := ρc) (ρ := ρ) (ps := ps) (fun y hy a ha => hA y (by rw [ho]; simp only [Op.operands]; simpa using hy) a ha)
  obtain ⟨zv, hz1, hz2⟩ := run_zero (P := P) he hz φ ν
  have hzc := conc_cells hz1
  have hzl : zv.cells.size = s := by have := concL_length hzc; simp at this; omega
  have hrow := conc_repeat hzc len
  rw [← rep_repeat] at hrow
  obtain ⟨Z', e1, e2⟩ := fill_spec (place' := fun i => some (i * s, s)) (fun i q hq => hq) ps.toList vs _ l _ hps hpa hl hrow
  refine ⟨_, _, .slice (some ⟨w.heap.size, 0, none⟩) len len, rfl, ok_cells (el := e) hb hB e2, by simp [conc, Phi.upd_self, capOf], ?_⟩
  have hmapl : (ps.map fun p => (p.1, ρc p.2)).toList = ps.toList.map fun p => (p.1, ρc p.2) := by simp
  have hbig : ¬ (16777216 < len * s) := by omega
  simp only [execOp, ho, Sem.run_bind, Instr.buildSlice]
  simp only [run_und he ht, run_size he hs, Result.andThen_ok, Sem.run_bind]
  by_cases h0 : len * s = 0
  · have hz0 : Builtin.zeroCells zv.cells len = #[] := by
      apply Array.eq_empty_of_size_eq_zero
      simp [Builtin.zeroCells, hzl, h0]
    rw [hz0] at e1
    have hr0 : Array.range 0 = #[] := rfl
    simp [h0, hr0, e1, newRow]
  · have hrow' := zeroCells_row (len := len) hzl
    rw [← hrow'] at e1
    simp [h0, hbig, hz2, e1, newRow]
theorem new_mksl {t e : TypeId} {lo co : Operand} {ti : TypeInfo} {z lv cv : AV} {n m : Nat} {b : Pos} (he : EnvOK P E) (ho : o.op = .makeSlice t lo co) (ht : E.und t = some (.slice e)) (hi : E.ty e = some ti)
    (hz : E.zero e = some z) (hzs : z.cells.length = ti.size) (hby : ti.bytes ≤ 10000) (hl : ρ lo = some lv) (hc : ρ co = some cv) (hn : idx lv = some n) (hm : idx cv = some m) (hnm : n ≤ m) (hm2 : m ≤ 10000) :
    NewAt P o ρ b (.cells ti.size (repeatL z.cells m).length (chunk (repeatL z.cells m)) false none) (.slice b 0 n (some m)) := by
  refine ⟨fun _ _ _ _ _ e => by cases e; rfl, fun φ ν B T w ρc hb hB hA => ?_⟩
  obtain ⟨k1, e1⟩ := conc_idx hn (hA lo (by simp [ho, Op.operands]) _ hl)
  obtain ⟨k2, e2⟩ := conc_idx hm (hA co (by simp [ho, Op.operands]) _ hc)
  obtain ⟨zv, hz1, hz2⟩ := run_zero (P := P) he hz φ ν
  have hzc := conc_cells hz1
  have hzl : zv.cells.size = ti.size := by have := concL_length hzc; simp at this; omega
  refine ⟨_, _, .slice (some ⟨w.heap.size, 0, none⟩) n m, rfl, ok_cells (el := e) hb hB (conc_repeat hzc m), by simp [conc, Phi.upd_self, capOf], ?_⟩
  have w1 : IntKind.i64.wrap (n : Int) = n := wrap_i64_id (by omega) (by omega)
  have w2 : IntKind.i64.wrap (m : Int) = m := wrap_i64_id (by omega) (by omega)
  have hb48 : ¬ (281474976710656 : Int) < (ti.bytes : Int) * (m : Int) := by
    have : ti.bytes * m ≤ 10000 * 10000 := Nat.mul_le_mul hby hm2
    have h2 : ti.bytes * m ≤ 100000000 := Nat.le_trans this (by decide)
    rw [← Int.natCast_mul]; omega
  have hsz : E.size e = some ti.size := by simp [TyE.size, hi]
  have hrow' := zeroCells_row (len := m) hzl
  have hneg : ¬ ((n : Int) < 0) ∧ ¬ ((m : Int) < 0) ∧ ¬ ((m : Int) < (n : Int)) := by omega
  simp only [execOp, ho, Sem.run_bind, Instr.makeSlice, e1, e2]
  by_cases h0 : m * ti.size = 0
  · have hz0 : Builtin.zeroCells zv.cells m = #[] := by
      apply Array.eq_empty_of_size_eq_zero
      simp [Builtin.zeroCells, hzl, h0]
    have hr0 : Array.range 0 = #[] := rfl
    simp [run_und he ht, run_info he hi, asInt, asIntOf, w1, w2, hneg, hb48, run_size he hsz, h0, hr0, hz0, newRow]
  · simp [run_und he ht, run_info he hi, asInt, asIntOf, w1, w2, hneg, hb48, run_size he hsz, h0, hz2, newRow, hrow']
end Go.Ev
namespace Go.Ev
open Go Go.RowKit
variable {P : Program} {E : TyE} {o : Oper}

/-! ### reading operands -/
noncomputable def rdV (o : CO) (L : PT AV) (R : List AV) : Option AV :=
  match o with
  | .l p => L.get p
  | .r d => R[d]?
  | .c v => some v
section
variable {β : Type} {L : PT AV} {R : List AV} {res : β}
theorem rd_some {o : CO} {k : AV → Option β} (hx : rd o L R k = some res) : ∃ v, rdV o L R = some v ∧ k v = some res := by
  cases o with
  | l p =>
    have hx : Option.casesOn (motive := fun _ => Option β) (L.get p) none k = some res := hx
    cases hp : L.get p with
    | none => rw [hp] at hx; cases hx
    | some v => rw [hp] at hx; exact ⟨v, hp, hx⟩
  | r d =>
    have hx : nthK d R k = some res := hx
    rw [nthK_eq] at hx
    exact Option.bind_eq_some_iff.1 hx
  | c v => exact ⟨v, rfl, hx⟩
noncomputable def rdOV (o : Option CO) (L : PT AV) (R : List AV) : Option (Option AV) :=
  match o with
  | none => some none
  | some o => (rdV o L R).map some
theorem rdO_some {o : Option CO} {k : Option AV → Option β} (hx : rdO o L R k = some res) : ∃ v, rdOV o L R = some v ∧ k v = some res := by
  cases o with
  | none => exact ⟨none, rfl, hx⟩
  | some o =>
    obtain ⟨v, h1, h2⟩ := rd_some (o := o) hx
    exact ⟨some v, by simp [rdOV, h1], h2⟩
noncomputable def rdsV : List CO → PT AV → List AV → Option (List AV)
  | [], _, _ => some []
  | o :: l, L, R => match rdV o L R, rdsV l L R with
    | some v, some vs => some (v :: vs)
    | _, _ => none
theorem rds_some : ∀ {l : List CO} {k : List AV → Option β}, rds l L R k = some res → ∃ vs, rdsV l L R = some vs ∧ k vs = some res
  | [], k, hx => ⟨[], rfl, hx⟩
  | o :: l, k, hx => by
    obtain ⟨v, h1, h2⟩ := rd_some (o := o) (k := fun v => rds l L R (fun vs => k (v :: vs))) hx
    obtain ⟨vs, h3, h4⟩ := rds_some h2
    exact ⟨v :: vs, by simp [rdsV, h1, h3], h4⟩
theorem opt_some {α : Type} {x : Option α} {k : α → Option β} (hx : opt x k = some res) : ∃ a, x = some a ∧ k a = some res := by
  cases x with
  | none => cases hx
  | some a => exact ⟨a, rfl, hx⟩
theorem eBool_some {v : AV} {k : Bool → Option β} (hx : eBool v k = some res) : ∃ b, v = .bool b ∧ k b = some res := by cases v <;> first | exact ⟨_, rfl, hx⟩ | cases hx
theorem ePtr_some {v : AV} {k : Pos → Nat → Option β} (hx : ePtr v k = some res) : ∃ b off, v = .ptr b off ∧ k b off = some res := by cases v <;> first | exact ⟨_, _, rfl, hx⟩ | cases hx
theorem eSlice_some {v : AV} {k : Pos → Nat → Nat → Option Nat → Option β} (hx : eSlice v k = some res) : ∃ b e n c, v = .slice b e n c ∧ k b e n c = some res := by cases v <;> first | exact ⟨_, _, _, _, rfl, hx⟩ | cases hx
theorem eTuple_some {v : AV} {k : List AV → Option β} (hx : eTuple v k = some res) : ∃ l, v = .tuple l ∧ k l = some res := by cases v <;> first | exact ⟨_, rfl, hx⟩ | cases hx
theorem eAgg_some {v : AV} {k : List AV → Option β} (hx : eAgg v k = some res) : ∃ l, v = .agg l ∧ k l = some res := by cases v <;> first | exact ⟨_, rfl, hx⟩ | cases hx
theorem eStr_some {v : AV} {k : List UInt8 → Option β} (hx : eStr v k = some res) : ∃ s, v = .str s ∧ k s = some res := by cases v <;> first | exact ⟨_, rfl, hx⟩ | cases hx
theorem bif_some {c : Bool} {x : Option β} (hx : (bif c then x else none) = some res) : c = true ∧ x = some res := by cases c <;> first | exact ⟨rfl, hx⟩ | cases hx
theorem bifn_some {c : Bool} {x : Option β} (hx : (bif c then none else x) = some res) : c = false ∧ x = some res := by cases c <;> first | exact ⟨rfl, hx⟩ | cases hx
end

/-- what the operands are worth -/
noncomputable def Rv (r : Rs) (L : PT AV) (R : List AV) : Rho := fun x => (r x).bind fun c => rdV c L R
section
variable {r : Rs} {L : PT AV} {R : List AV}
theorem Rv_some {x : Operand} {c : CO} {v : AV} (h1 : r x = some c) (h2 : rdV c L R = some v) : Rv r L R x = some v := by simp [Rv, h1, h2]
theorem resL_some : ∀ {l : List Operand} {m : List CO} {vs : List AV}, resL r l = some m → rdsV m L R = some vs → l.mapM (Rv r L R) = some vs
  | [], m, vs, h1, h2 => by simp [resL] at h1; subst h1; simp [rdsV] at h2; subst h2; rfl
  | x :: l, m, vs, h1, h2 => by
    simp only [resL] at h1
    split at h1
    · rename_i c m' e1 e2
      cases h1
      simp only [rdsV] at h2
      split at h2
      · rename_i v vs' e3 e4
        cases h2
        rw [List.mapM_cons, Rv_some e1 e3, resL_some e2 e4]; rfl
      · cases h2
    · cases h1
theorem resO_some {x : Option Operand} {c : Option CO} {v : Option AV} (h1 : resO r x = some c) (h2 : rdOV c L R = some v) : OptR (Rv r L R) x v := by
  cases x with
  | none => simp [resO] at h1; subst h1; simp [rdOV] at h2; subst h2; exact .inl ⟨rfl, rfl⟩
  | some y =>
    simp only [resO, Option.map_eq_some_iff] at h1
    obtain ⟨d, e1, rfl⟩ := h1
    simp only [rdOV, Option.map_eq_some_iff] at h2
    obtain ⟨a, e2, rfl⟩ := h2
    exact .inr ⟨y, a, rfl, rfl, Rv_some e1 e2⟩
theorem resP_some {β : Type} {place : Nat → Option (Nat × Nat)} {res : β} : ∀ {ps : List (Nat × Operand)} {q : List (Nat × Nat × CO)} {z : List AV} {k : List AV → Option β}, resP r place ps = some q → fillK q z L R k = some res →
    ∃ vs l, PartsR (Rv r L R) place ps vs ∧ fillV vs z = some l ∧ k l = some res
  | [], q, z, k, h1, h2 => by
    simp [resP] at h1; subst h1
    exact ⟨[], z, trivial, rfl, h2⟩
  | (i, x) :: ps, q, z, k, h1, h2 => by
    simp only [resP] at h1
    split at h1
    · rename_i off size c m e1 e2 e3
      split at h1
      · cases h1
      · rename_i hsz
        cases h1
        have h2 : rd c L R (fun v => bif Nat.beq (lenL v.cells) size then setAtK v.cells off z (fun z' => fillK m z' L R k) else none) = some res := h2
        obtain ⟨v, hv, h2⟩ := rd_some h2
        obtain ⟨hb, h2⟩ := bif_some h2
        have hb := Nat.eq_of_beq_eq_true hb
        rw [lenL_eq] at hb
        obtain ⟨h3, h4⟩ := setAtK_spec _ _ _ _ _ h2 (by intro e; rw [e] at hb; exact hsz (by simpa using hb.symm))
        obtain ⟨vs, l, g1, g2, g3⟩ := resP_some e3 h3
        refine ⟨(off, size, v) :: vs, l, ⟨e1, Rv_some e2 hv, g1⟩, ?_, g3⟩
        simp only [fillV]
        rw [if_pos ⟨hb, by omega⟩]; exact g2
    · cases h1
end
theorem fillV_length : ∀ {vs : List (Nat × Nat × AV)} {z l : List AV}, fillV vs z = some l → l.length = z.length
  | [], z, l, h => by cases h; rfl
  | (off, size, v) :: vs, z, l, h => by
    simp only [fillV] at h
    split at h
    · rw [fillV_length h, setL_length]
    · cases h
end Go.Ev
namespace Go.Ev
open Go Go.RowKit
variable {P : Program} {E : TyE} {o : Oper} {β : Type} {L : PT AV} {R : List AV} {h : AH} {cl : Callee β} {k kp : AV → AH → Option β} {res : β} {r : Rs} {ci : CI}

/-- a light operation: what it gives -/
def Out (P : Program) (o : Oper) (ρ : Rho) (h : AH) (k : AV → AH → Option β) (res : β) : Prop :=
  (∃ v, (Pure P o ρ v ∨ (isReads o = true ∧ Read P o ρ h v)) ∧ k v h = some res) ∨ ∃ ob v, (isReads o = false ∧ NewAt P o ρ h.next ob v) ∧ k v (h.alloc ob) = some res
theorem Out.pure {ρ : Rho} {v : AV} (hp : Pure P o ρ v) (hk : k v h = some res) : Out P o ρ h k res := .inl ⟨v, .inl hp, hk⟩
theorem Out.read {ρ : Rho} {v : AV} (hr : isReads o = true) (hp : Read P o ρ h v) (hk : k v h = some res) : Out P o ρ h k res := .inl ⟨v, .inr ⟨hr, hp⟩, hk⟩
theorem newCellsK_eq {esz : Nat} {vs : List AV} {k : Pos → AH → Option β} : newCellsK h esz vs k = k h.next (h.alloc (.cells esz vs.length (chunk vs) false none)) := by
  unfold newCellsK; rw [newK_eq, lenL_eq]

theorem light_move {x : Operand} (ho : o.op = .move x) (hc : compOp E r o = some ci) (hx : exec ci L R h cl k kp = some res) : Out P o (Rv r L R) h k res := by
  simp only [compOp, ho] at hc
  split at hc
  · rename_i a ha
    cases hc
    obtain ⟨v, hv, hx⟩ := rd_some (o := a) hx
    exact .pure (pure_move ho (Rv_some ha hv)) hx
  · cases hc
theorem light_pick {c a b : Operand} (ho : o.op = .pick c a b) (hc : compOp E r o = some ci) (hx : exec ci L R h cl k kp = some res) : Out P o (Rv r L R) h k res := by
  simp only [compOp, ho] at hc
  split at hc
  · rename_i c' a' b' h1 h2 h3
    cases hc
    obtain ⟨v, hv, hx⟩ := rd_some (o := c') hx
    obtain ⟨t, rfl, hx⟩ := eBool_some hx
    cases t with
    | true =>
      obtain ⟨u, hu, hx⟩ := rd_some (o := a') hx
      exact .pure (pure_pick (t := true) ho (Rv_some h1 hv) (Rv_some h2 hu)) hx
    | false =>
      obtain ⟨u, hu, hx⟩ := rd_some (o := b') hx
      exact .pure (pure_pick (t := false) ho (Rv_some h1 hv) (Rv_some h3 hu)) hx
  · cases hc
theorem light_alloc {t : TypeId} (he : EnvOK P E) (ho : o.op = .alloc t) (hc : compOp E r o = some ci) (hx : exec ci L R h cl k kp = some res) : Out P o (Rv r L R) h k res := by
  simp only [compOp, ho] at hc
  split at hc
  · rename_i s z h1 h2
    cases hc
    have hx : newCellsK h s z.cells (fun b h' => k (.ptr b 0) h') = some res := hx
    rw [newCellsK_eq] at hx
    exact .inr ⟨_, _, ⟨by simp [isReads, ho], new_alloc he ho h2⟩, hx⟩
  · cases hc
theorem light_box {t : TypeId} {x : Operand} (ho : o.op = .box t x) (hc : compOp E r o = some ci) (hx : exec ci L R h cl k kp = some res) : Out P o (Rv r L R) h k res := by
  simp only [compOp, ho] at hc
  split at hc
  · rename_i s a h1 h2
    cases hc
    obtain ⟨v, hv, hx⟩ := rd_some (o := a) hx
    rw [newCellsK_eq] at hx
    exact .inr ⟨_, _, ⟨by simp [isReads, ho], new_box ho (Rv_some h2 hv)⟩, hx⟩
  · cases hc
theorem light_build {t : TypeId} {ps : Array (Nat × Operand)} (he : EnvOK P E) (ho : o.op = .build t ps) (hc : compOp E r o = some ci) (hx : exec ci L R h cl k kp = some res) : Out P o (Rv r L R) h k res := by
  simp only [compOp, ho] at hc
  split at hc
  · rename_i z fs h1 h2
    split at hc
    · rename_i hall
      split at hc
      · rename_i q hq
        cases hc
        obtain ⟨vs, l, g1, g2, hx⟩ := resP_some (z := z.cells) (k := fun l => k (.agg l) h) hq hx
        exact .pure (pure_build he ho h1 g2 (.inl ⟨fs, h2, fun f hf => (List.all_eq_true.1 hall) f hf, g1⟩)) hx
      · cases hc
    · cases hc
  · rename_i z n e h1 h2
    split at hc
    · rename_i s hs
      split at hc
      · rename_i q hq
        cases hc
        obtain ⟨vs, l, g1, g2, hx⟩ := resP_some (z := z.cells) (k := fun l => k (.agg l) h) hq hx
        exact .pure (pure_build he ho h1 g2 (.inr ⟨n, e, s, h2, hs, g1⟩)) hx
      · cases hc
    · cases hc
  · cases hc
theorem elemD_some {e : TypeId} {s b : Nat} {z : AV} (h : elemD E e = some (s, z, b)) : ∃ ti, E.ty e = some ti ∧ E.zero e = some z ∧ z.cells.length = s ∧ s = ti.size ∧ ti.bytes ≤ 10000 := by
  unfold elemD at h
  split at h
  · rename_i ti z' h1 h2
    split at h
    · rename_i hc
      cases h
      exact ⟨ti, h1, h2, hc.1, rfl, hc.2⟩
    · cases h
  · cases h
theorem light_mks {t : TypeId} {len : Nat} {ps : Array (Nat × Operand)} (he : EnvOK P E) (ho : o.op = .buildSlice t len ps) (hc : compOp E r o = some ci) (hx : exec ci L R h cl k kp = some res) : Out P o (Rv r L R) h k res := by
  simp only [compOp, ho] at hc
  split at hc
  · rename_i e h1
    split at hc
    · rename_i s z b h2
      split at hc
      · cases hc
      · rename_i hsm
        split at hc
        · rename_i q hq
          cases hc
          obtain ⟨vs, l, g1, g2, hx⟩ := resP_some (z := rep z.cells len) (k := fun l => newCellsK h s l (fun b h' => k (.slice b 0 len (some len)) h')) hq hx
          rw [newCellsK_eq] at hx
          obtain ⟨ti, e1, e2, e3, e4, e5⟩ := elemD_some h2
          refine .inr ⟨_, _, ⟨by simp [isReads, ho], new_mks he ho h1 (by simp [TyE.size, e1, e4]) e2 e3 (by omega) g1 g2 ?_⟩, hx⟩
          rw [fillV_length g2, rep_repeat, repeatL_length, e3]
        · cases hc
    · cases hc
  · cases hc
theorem light_load {t : TypeId} {x : Operand} (he : EnvOK P E) (ho : o.op = .load t x) (hc : compOp E r o = some ci) (hx : exec ci L R h cl k kp = some res) : Out P o (Rv r L R) h k res := by
  simp only [compOp, ho] at hc
  split at hc
  · rename_i n a h1 h2 h3
    cases hc
    obtain ⟨v, hv, hx⟩ := rd_some (o := a) hx
    obtain ⟨b, off, rfl, hx⟩ := ePtr_some hx
    obtain ⟨esz, m, cs, ro, cls, hb, _, _⟩ := blockK_spec hx
    obtain ⟨l, g1, g2, hx⟩ := loadCellsK_spec hx
    exact .read (by simp [isReads, ho]) (read_loadn he ho h1 h2 (Rv_some h3 hv) g1 (by rw [hb]; simp) g2) hx
  · rename_i a h1 h3
    cases hc
    obtain ⟨v, hv, hx⟩ := rd_some (o := a) hx
    obtain ⟨b, off, rfl, hx⟩ := ePtr_some hx
    obtain ⟨u, g1, hx⟩ := loadCellK_spec hx
    exact .read (by simp [isReads, ho]) (read_load he ho h1 (Rv_some h3 hv) g1) hx
  · cases hc
theorem light_chk {x : Operand} (ho : o.op = .nilCheck x) (hc : compOp E r o = some ci) (hx : exec ci L R h cl k kp = some res) : Out P o (Rv r L R) h k res := by
  simp only [compOp, ho] at hc
  split at hc
  · rename_i a h1
    cases hc
    obtain ⟨v, hv, hx⟩ := rd_some (o := a) hx
    cases v <;> first | (cases hx; done) | skip
    · exact .pure (pure_chk_ptr ho (Rv_some h1 hv)) hx
    · rename_i fn f c
      cases fn <;> first | (cases hx; done) | skip
      exact .pure (pure_chk_fn ho (Rv_some h1 hv)) hx
  · cases hc
theorem light_bin {op : BinOp} {t t' : TypeId} {x y : Operand} (he : EnvOK P E) (ho : o.op = .binOp op t x y t') (hc : compOp E r o = some ci) (hx : exec ci L R h cl k kp = some res) : Out P o (Rv r L R) h k res := by
  simp only [compOp, ho] at hc
  split at hc
  · rename_i a b h1 h2
    have fin : exec (.bin op a b) L R h cl k kp = some res → Out P o (Rv r L R) h k res := by
      intro hx
      obtain ⟨u, hu, hx⟩ := rd_some (o := a) hx
      obtain ⟨v, hv, hx⟩ := rd_some (o := b) hx
      obtain ⟨z, hz, hx⟩ := opt_some hx
      exact .pure (pure_bin ho (Rv_some h1 hu) (Rv_some h2 hv) hz) hx
    split at hc
    · rename_i hop
      split at hc
      · cases hc; exact fin hx
      · cases hc; exact fin hx
      · rename_i d hd1 hd2 hd
        cases hc
        obtain ⟨u, hu, hx⟩ := rd_some (o := a) hx
        obtain ⟨v, hv, hx⟩ := rd_some (o := b) hx
        obtain ⟨z, hz, hx⟩ := opt_some hx
        rcases hop with rfl | rfl
        · have := pure_eqx (P := P) (neg := false) he (by simpa using ho) hd (fun e => hd1 (by rw [e])) (fun e => hd2 (by rw [e])) (Rv_some h1 hu) (Rv_some h2 hv) hz
          refine .pure this ?_
          exact hx
        · have := pure_eqx (P := P) (neg := true) he (by simpa using ho) hd (fun e => hd1 (by rw [e])) (fun e => hd2 (by rw [e])) (Rv_some h1 hu) (Rv_some h2 hv) hz
          refine .pure this ?_
          exact hx
      · cases hc
    · cases hc; exact fin hx
  · cases hc
theorem light_un {op : UnOp} {t : TypeId} {x : Operand} (ho : o.op = .unOp op t x) (hc : compOp E r o = some ci) (hx : exec ci L R h cl k kp = some res) : Out P o (Rv r L R) h k res := by
  simp only [compOp, ho] at hc
  split at hc
  · rename_i a h1
    cases hc
    obtain ⟨v, hv, hx⟩ := rd_some (o := a) hx
    obtain ⟨z, hz, hx⟩ := opt_some hx
    exact .pure (pure_un ho (Rv_some h1 hv) hz) hx
  · cases hc
theorem light_conv {s d : TypeId} {x : Operand} (he : EnvOK P E) (ho : o.op = .convert s d x) (hc : compOp E r o = some ci) (hx : exec ci L R h cl k kp = some res) : Out P o (Rv r L R) h k res := by
  simp only [compOp, ho] at hc
  split at hc
  · rename_i j q a h1 h2 h3
    cases hc
    obtain ⟨v, hv, hx⟩ := rd_some (o := a) hx
    obtain ⟨z, hz, hx⟩ := opt_some hx
    exact .pure (pure_cvi he ho h1 h2 (Rv_some h3 hv) hz) hx
  · rename_i j a h1 h2 h3
    cases hc
    obtain ⟨v, hv, hx⟩ := rd_some (o := a) hx
    obtain ⟨z, hz, hx⟩ := opt_some hx
    exact .pure (pure_cvs he ho h2 (.inl ⟨_, h1⟩) (Rv_some h3 hv) hz) hx
  · rename_i a h1 h2 h3
    cases hc
    obtain ⟨v, hv, hx⟩ := rd_some (o := a) hx
    obtain ⟨z, hz, hx⟩ := opt_some hx
    exact .pure (pure_cvs he ho h2 (.inr h1) (Rv_some h3 hv) hz) hx
  · cases hc
theorem light_mki {t : TypeId} {x : Operand} (he : EnvOK P E) (ho : o.op = .makeInterface t x) (hc : compOp E r o = some ci) (hx : exec ci L R h cl k kp = some res) : Out P o (Rv r L R) h k res := by
  simp only [compOp, ho] at hc
  split at hc
  · cases hc
  · rename_i d a hd h1 h2
    cases hc
    obtain ⟨v, hv, hx⟩ := rd_some (o := a) hx
    exact .pure (pure_mki he ho h1 (fun ms e => hd ms e) (Rv_some h2 hv)) hx
  · cases hc
theorem light_mkf {fn : Fn} {a c : Array Operand} (ho : o.op = .makeFunc fn a c) (hc : compOp E r o = some ci) (hx : exec ci L R h cl k kp = some res) : Out P o (Rv r L R) h k res := by
  simp only [compOp, ho] at hc
  split at hc
  · rename_i l m h1 h2
    cases hc
    obtain ⟨u, hu, hx⟩ := rds_some (l := l) hx
    obtain ⟨v, hv, hx⟩ := rds_some (l := m) hx
    exact .pure (pure_mkf ho (resL_some h1 hu) (resL_some h2 hv)) hx
  · cases hc
theorem light_mkm {t : TypeId} {x : Option Operand} (ho : o.op = .makeMap t x) (hc : compOp E r o = some ci) (hx : exec ci L R h cl k kp = some res) : Out P o (Rv r L R) h k res := by
  cases x with
  | some x => simp [compOp, ho] at hc
  | none =>
    simp only [compOp, ho] at hc
    cases hc
    have hx : newK h (.map [] 0) (fun b h' => k (.map b) h') = some res := hx
    rw [newK_eq] at hx
    exact .inr ⟨_, _, ⟨by simp [isReads, ho], new_map ho⟩, hx⟩
theorem light_mksl {t : TypeId} {l c : Operand} (he : EnvOK P E) (ho : o.op = .makeSlice t l c) (hc : compOp E r o = some ci) (hx : exec ci L R h cl k kp = some res) : Out P o (Rv r L R) h k res := by
  simp only [compOp, ho] at hc
  split at hc
  · rename_i e a b h1 h2 h3
    split at hc
    · rename_i s z bb h4
      cases hc
      obtain ⟨u, hu, hx⟩ := rd_some (o := a) hx
      obtain ⟨v, hv, hx⟩ := rd_some (o := b) hx
      obtain ⟨n, hn, hx⟩ := opt_some hx
      obtain ⟨m, hm, hx⟩ := opt_some hx
      obtain ⟨hb, hx⟩ := bif_some hx
      rw [newCellsK_eq] at hx
      simp only [Bool.and_eq_true] at hb
      obtain ⟨ti, e1, e2, e3, e4, e5⟩ := elemD_some h4
      subst e4
      exact .inr ⟨_, _, ⟨by simp [isReads, ho], new_mksl he ho h1 e1 e2 e3 e5 (Rv_some h2 hu) (Rv_some h3 hv) hn hm (Nat.le_of_ble_eq_true hb.1) (Nat.le_of_ble_eq_true hb.2)⟩, hx⟩
    · cases hc
  · cases hc
end Go.Ev
namespace Go.Ev
open Go Go.RowKit
variable {P : Program} {E : TyE} {o : Oper} {β : Type} {L : PT AV} {R : List AV} {h : AH} {cl : Callee β} {k kp : AV → AH → Option β} {res : β} {r : Rs} {ci : CI}

theorem light_slc {t : TypeId} {x : Operand} {lo hi mx : Option Operand} (he : EnvOK P E) (ho : o.op = .slice t x lo hi mx) (hc : compOp E r o = some ci) (hx : exec ci L R h cl k kp = some res) : Out P o (Rv r L R) h k res := by
  simp only [compOp, ho] at hc
  split at hc
  · -- a string
    rename_i a l hh m h1 h2 h3 h4 h5
    cases hc
    obtain ⟨v, hv, hx1⟩ := rd_some (o := a) hx
    obtain ⟨vl, hl, hx2⟩ := rdO_some (o := l) hx1
    obtain ⟨vh, hhv, hx3⟩ := rdO_some (o := hh) hx2
    obtain ⟨vm, hm, hx4⟩ := rdO_some (o := m) hx3
    clear hx hx1 hx2 hx3
    have hx := hx4
    clear hx4
    cases v <;> first | (cases hx; done) | skip
    rename_i s
    cases vm with
    | some _ => cases hx
    | none =>
      have hmx : mx = none := by
        rcases resO_some h5 hm with ⟨e, _⟩ | ⟨_, _, _, e, _⟩
        · exact e
        · cases e
      subst hmx
      have hx : opt (sliceS s vl vh) (fun v => k v h) = some res := hx
      obtain ⟨z, hz, hx⟩ := opt_some hx
      exact .pure (pure_slcS he ho h1 (Rv_some h2 hv) (resO_some h3 hl) (resO_some h4 hhv) hz) hx
  · rename_i e a l hh m h1 h2 h3 h4 h5
    split at hc
    · rename_i z hz
      split at hc
      · cases hc
      · rename_i hcond
        cases hc
        have hz0 : z ≠ 0 := fun e => hcond (.inl e)
        have hmx : mx.isSome → hi.isSome := fun e => by
          cases hi with
          | some _ => rfl
          | none => exact absurd (.inr ⟨e, rfl⟩) hcond
        have hzb : Nat.beq z 0 = false := by
          cases hb : Nat.beq z 0 with
          | false => rfl
          | true => exact absurd (Nat.eq_of_beq_eq_true hb) hz0
        obtain ⟨v, hv, hx1⟩ := rd_some (o := a) hx
        obtain ⟨vl, hl, hx2⟩ := rdO_some (o := l) hx1
        obtain ⟨vh, hhv, hx3⟩ := rdO_some (o := hh) hx2
        obtain ⟨vm, hm, hx4⟩ := rdO_some (o := m) hx3
        clear hx hx1 hx2 hx3
        have hx := hx4
        clear hx4
        cases v <;> first | (cases hx; done) | skip
        · simp only [hzb, cond_false] at hx; cases hx
        · simp only [hzb, cond_false] at hx
          split at hx
          · rename_i e1 e2 e3
            exact .pure (pure_slc_nil he ho h1 hz hmx (Rv_some h2 hv) (resO_some h3 hl) (resO_some h4 hhv) (resO_some h5 hm) e1 e2 e3) hx
          · cases hx
        · rename_i b ee len cap
          simp only [hzb, cond_false] at hx
          cases cap with
          | some c =>
            simp only at hx
            obtain ⟨u, hu, hx⟩ := opt_some hx
            exact .pure (pure_slc he ho h1 hz hmx (Rv_some h2 hv) (resO_some h3 hl) (resO_some h4 hhv) (resO_some h5 hm) hu) hx
          | none =>
            simp only at hx
            obtain ⟨esz', n, cs, ro, cls, hb, hmay, hx⟩ := blockK_spec hx
            obtain ⟨hcc, hy⟩ := bif_some hx
            clear hx
            simp only [Bool.and_eq_true] at hcc
            obtain ⟨g1, g2⟩ := hcc
            have g1 := Nat.eq_of_beq_eq_true g1
            subst g1
            obtain ⟨c, rfl⟩ := Option.isSome_iff_exists.1 g2
            obtain ⟨u, hu, hx⟩ := opt_some hy
            exact .read (by simp [isReads, ho]) (read_slc he ho h1 hz hz0 hmx (Rv_some h2 hv) (resO_some h3 hl) (resO_some h4 hhv) (resO_some h5 hm) hb hu) hx
    · cases hc
  · rename_i kk e a l hh m h1 h2 h3 h4 h5
    split at hc
    · rename_i z hz
      split at hc
      · cases hc
      · rename_i hcond
        cases hc
        cases mx with
        | some _ => exact absurd rfl hcond
        | none =>
          obtain ⟨v, hv, hx1⟩ := rd_some (o := a) hx
          obtain ⟨vl, hl, hx2⟩ := rdO_some (o := l) hx1
          obtain ⟨vh, hhv, hx3⟩ := rdO_some (o := hh) hx2
          clear hx hx1 hx2
          have hx := hx3
          clear hx3
          cases v <;> first | (cases hx; done) | skip
          obtain ⟨u, hu, hx⟩ := opt_some hx
          exact .pure (pure_slcA he ho h1 hz (Rv_some h2 hv) (resO_some h3 hl) (resO_some h4 hhv) hu) hx
    · cases hc
  · cases hc
theorem fieldAt_some {fs : Array Field} {i off size : Nat} (hf : fieldAt E fs i = some (off, size)) : ∃ f, fs[i]? = some f ∧ E.size f.type = some size ∧ off = f.offset := by
  unfold fieldAt at hf
  simp only [Option.bind_eq_bind, Option.bind_eq_some_iff] at hf
  obtain ⟨f, h1, s, h2, h3⟩ := hf
  cases h3
  exact ⟨f, h1, h2, rfl⟩
theorem light_fa {s : TypeId} {x : Operand} {f : Nat} (he : EnvOK P E) (ho : o.op = .fieldAddr s x f) (hc : compOp E r o = some ci) (hx : exec ci L R h cl k kp = some res) : Out P o (Rv r L R) h k res := by
  simp only [compOp, ho] at hc
  split at hc
  · rename_i fs a h1 h2
    split at hc
    · rename_i off size hf
      split at hc
      · cases hc
      · rename_i hsz
        cases hc
        obtain ⟨v, hv, hx⟩ := rd_some (o := a) hx
        obtain ⟨b, oo, rfl, hx⟩ := ePtr_some hx
        obtain ⟨fd, g1, g2, rfl⟩ := fieldAt_some hf
        exact .pure (pure_fa he ho h1 g1 g2 hsz (Rv_some h2 hv)) hx
    · cases hc
  · cases hc
theorem light_fld {s : TypeId} {x : Operand} {f : Nat} (he : EnvOK P E) (ho : o.op = .field s x f) (hc : compOp E r o = some ci) (hx : exec ci L R h cl k kp = some res) : Out P o (Rv r L R) h k res := by
  simp only [compOp, ho] at hc
  split at hc
  · rename_i fs a h1 h2
    split at hc
    · rename_i fd hf
      split at hc
      · rename_i g z hg hz
        cases hc
        obtain ⟨v, hv, hx⟩ := rd_some (o := a) hx
        obtain ⟨l, rfl, hx⟩ := eAgg_some hx
        obtain ⟨u, hu, hx⟩ := opt_some hx
        exact .pure (pure_fld he ho h1 hf hg hz (Rv_some h2 hv) hu) hx
      · cases hc
    · cases hc
  · cases hc
theorem light_ia {t : TypeId} {x i : Operand} (he : EnvOK P E) (ho : o.op = .indexAddr t x i) (hc : compOp E r o = some ci) (hx : exec ci L R h cl k kp = some res) : Out P o (Rv r L R) h k res := by
  simp only [compOp, ho] at hc
  split at hc
  · rename_i e a b h1 h2 h3
    split at hc
    · rename_i z hz
      cases hc
      obtain ⟨v, hv, hx⟩ := rd_some (o := a) hx
      obtain ⟨bb, ee, len, cap, rfl, hx⟩ := eSlice_some hx
      obtain ⟨u, hu, hx⟩ := rd_some (o := b) hx
      obtain ⟨n, hn, hx⟩ := opt_some hx
      obtain ⟨hlt, hx⟩ := bif_some hx
      exact .pure (pure_ia he ho h1 hz (Rv_some h2 hv) (Rv_some h3 hu) hn (by rw [Nat.blt_eq] at hlt; exact hlt)) hx
    · cases hc
  · rename_i q e a b h1 h2 h3
    split at hc
    · rename_i z hz
      cases hc
      obtain ⟨v, hv, hx⟩ := rd_some (o := a) hx
      obtain ⟨bb, off, rfl, hx⟩ := ePtr_some hx
      obtain ⟨u, hu, hx⟩ := rd_some (o := b) hx
      obtain ⟨n, hn, hx⟩ := opt_some hx
      obtain ⟨hlt, hx⟩ := bif_some hx
      exact .pure (pure_iaA he ho h1 hz (Rv_some h2 hv) (Rv_some h3 hu) hn (by rw [Nat.blt_eq] at hlt; exact hlt)) hx
    · cases hc
  · cases hc
theorem light_ix {t : TypeId} {x i : Operand} (he : EnvOK P E) (ho : o.op = .index t x i) (hc : compOp E r o = some ci) (hx : exec ci L R h cl k kp = some res) : Out P o (Rv r L R) h k res := by
  simp only [compOp, ho] at hc
  split at hc
  · rename_i a b h1 h2 h3
    cases hc
    obtain ⟨v, hv, hx⟩ := rd_some (o := a) hx
    obtain ⟨s, rfl, hx⟩ := eStr_some hx
    obtain ⟨u, hu, hx⟩ := rd_some (o := b) hx
    obtain ⟨n, hn, hx⟩ := opt_some hx
    rw [nthK_eq] at hx
    obtain ⟨c, hc, hx⟩ := Option.bind_eq_some_iff.1 hx
    exact .pure (pure_ixs he ho h1 (Rv_some h2 hv) (Rv_some h3 hu) hn hc) hx
  · rename_i q e a b h1 h2 h3
    split at hc
    · rename_i g z hg hz
      cases hc
      obtain ⟨v, hv, hx⟩ := rd_some (o := a) hx
      obtain ⟨l, rfl, hx⟩ := eAgg_some hx
      obtain ⟨u, hu, hx⟩ := rd_some (o := b) hx
      obtain ⟨n, hn, hx⟩ := opt_some hx
      obtain ⟨hlt, hx⟩ := bif_some hx
      obtain ⟨y, hy, hx⟩ := opt_some hx
      exact .pure (pure_ixA he ho h1 hg hz (Rv_some h2 hv) (Rv_some h3 hu) hn (by rw [Nat.blt_eq] at hlt; exact hlt) hy) hx
    · cases hc
  · cases hc
theorem light_lkp {t : TypeId} {x i : Operand} {ok : Bool} (he : EnvOK P E) (ho : o.op = .lookup t x i ok) (hc : compOp E r o = some ci) (hx : exec ci L R h cl k kp = some res) : Out P o (Rv r L R) h k res := by
  simp only [compOp, ho] at hc
  split at hc
  · rename_i kt e a b h1 h2 h3
    split at hc
    · rename_i d z hd hz
      cases hc
      obtain ⟨v, hv, hx⟩ := rd_some (o := a) hx
      obtain ⟨u, hu, hx⟩ := rd_some (o := b) hx
      obtain ⟨hok, hx⟩ := bifn_some hx
      obtain ⟨es, hes, hx⟩ := opt_some hx
      obtain ⟨f, hf, hx⟩ := opt_some hx
      refine .read (by simp [isReads, ho]) (read_lkp he ho h1 hd hz (Rv_some h2 hv) (Rv_some h3 hu) (by simpa using hok) hes hf) ?_
      cases f with
      | none => exact hx
      | some y => exact hx
    · cases hc
  · cases hc
theorem light_tas {t xt : TypeId} {x : Operand} {ok : Bool} (he : EnvOK P E) (ho : o.op = .typeAssert x xt t ok) (hc : compOp E r o = some ci) (hx : exec ci L R h cl k kp = some res) : Out P o (Rv r L R) h k res := by
  simp only [compOp, ho] at hc
  split at hc
  · cases hc
  · rename_i d z a hd h1 h2 h3
    cases hc
    obtain ⟨v, hv, hx⟩ := rd_some (o := a) hx
    obtain ⟨u, hu, hx⟩ := opt_some hx
    exact .pure (pure_tas he ho h1 (fun ms e => hd ms e) h2 (Rv_some h3 hv) hu) hx
  · cases hc
theorem light_ext {x : Operand} {i : Nat} (ho : o.op = .extract x i) (hc : compOp E r o = some ci) (hx : exec ci L R h cl k kp = some res) : Out P o (Rv r L R) h k res := by
  simp only [compOp, ho] at hc
  split at hc
  · rename_i a h1
    cases hc
    obtain ⟨v, hv, hx⟩ := rd_some (o := a) hx
    obtain ⟨l, rfl, hy⟩ := eTuple_some hx
    clear hx
    rw [nthK_eq] at hy
    obtain ⟨c, hc, hx⟩ := Option.bind_eq_some_iff.1 hy
    exact .pure (pure_ext ho (Rv_some h1 hv) hc) hx
  · cases hc
theorem call_eta {c : Call} {b : Builtin} {l : List Operand} (hb : c.callee = .builtin b) (hl : c.args.toList = l) : c = { callee := .builtin b, args := l.toArray, argTypes := c.argTypes } := by
  obtain ⟨callee, args, ts⟩ := c
  simp only at hb hl
  subst hb; subst hl; rfl
theorem ts_zero {ts : Array TypeId} {t : TypeId} {l : List TypeId} (h : ts.toList = t :: l) : ts[0]? = some t := by
  rw [← Array.getElem?_toList, h]; rfl
end Go.Ev
namespace Go.Ev
open Go Go.RowKit
variable {P : Program} {E : TyE} {o : Oper} {β : Type} {L : PT AV} {R : List AV} {h : AH} {cl : Callee β} {k kp : AV → AH → Option β} {res : β} {r : Rs} {ci : CI}

theorem light_call {c : Call} (he : EnvOK P E) (ho : o.op = .call c) (hl : isLight o = true) (hc : compOp E r o = some ci) (hx : exec ci L R h cl k kp = some res) : Out P o (Rv r L R) h k res := by
  simp only [compOp, ho] at hc
  have hcal : ∃ b, c.callee = .builtin b ∧ (b = .len ∨ b = .max ∨ b = .min) := by
    obtain ⟨callee, args, ts⟩ := c
    cases callee with
    | builtin b => cases b <;> simp [isLight, ho] at hl ⊢
    | _ => simp [isLight, ho] at hl
  obtain ⟨b, hb, hbs⟩ := hcal
  unfold compCall at hc
  rw [hb] at hc
  simp only at hc
  split at hc <;> first | (simp at hbs; done) | skip
  · rename_i x t ts hargs hts
    have hce := call_eta hb hargs
    have ho' : o.op = .call { callee := .builtin .len, args := #[x], argTypes := c.argTypes } := by rw [ho]; exact congrArg Op.call hce
    split at hc
    · rename_i a h1 h2
      cases hc
      obtain ⟨v, hv, hx1⟩ := rd_some (o := a) hx
      clear hx
      obtain ⟨s, rfl, hx⟩ := eStr_some hx1
      rw [lenL_eq] at hx
      exact .pure (pure_len0 he ho' (ts_zero hts) h1 (Rv_some h2 hv)) hx
    · rename_i e a h1 h2
      cases hc
      obtain ⟨v, hv, hx1⟩ := rd_some (o := a) hx
      clear hx
      obtain ⟨n, hn, hx⟩ := opt_some hx1
      exact .pure (pure_len1 he ho' (ts_zero hts) h1 (Rv_some h2 hv) hn) hx
    · rename_i kt e a h1 h2
      cases hc
      obtain ⟨v, hv, hx1⟩ := rd_some (o := a) hx
      clear hx
      obtain ⟨n, hn, hx⟩ := opt_some hx1
      rw [lenL_eq] at hx
      exact .read (by simp [isReads, ho]) (read_len2 he ho' (ts_zero hts) h1 (Rv_some h2 hv) hn) hx
    · cases hc
  · rename_i x y hargs
    have hce := call_eta hb hargs
    have ho' : o.op = .call { callee := .builtin .max, args := #[x, y], argTypes := c.argTypes } := by rw [ho]; exact congrArg Op.call hce
    split at hc
    · rename_i a b' h1 h2
      cases hc
      obtain ⟨v, hv, hx1⟩ := rd_some (o := a) hx
      obtain ⟨u, hu, hx2⟩ := rd_some (o := b') hx1
      clear hx hx1
      cases v <;> cases u <;> first | (cases hx2; done) | skip
      obtain ⟨hk, hx⟩ := bif_some hx2
      exact .pure (pure_mx (_t := 0) ho' (Rv_some h1 hv) (Rv_some h2 hu) hk) hx
    · cases hc
  · rename_i x y hargs
    have hce := call_eta hb hargs
    have ho' : o.op = .call { callee := .builtin .min, args := #[x, y], argTypes := c.argTypes } := by rw [ho]; exact congrArg Op.call hce
    split at hc
    · rename_i a b' h1 h2
      cases hc
      obtain ⟨v, hv, hx1⟩ := rd_some (o := a) hx
      obtain ⟨u, hu, hx2⟩ := rd_some (o := b') hx1
      clear hx hx1
      cases v <;> cases u <;> first | (cases hx2; done) | skip
      obtain ⟨hk, hx⟩ := bif_some hx2
      exact .pure (pure_mn (_t := 0) ho' (Rv_some h1 hv) (Rv_some h2 hu) hk) hx
    · cases hc
  · cases hc
/-- every light operation -/
theorem light_all (he : EnvOK P E) (hl : isLight o = true) (hc : compOp E r o = some ci) (hx : exec ci L R h cl k kp = some res) : Out P o (Rv r L R) h k res := by
  cases hop : o.op with
  | move x => exact light_move hop hc hx
  | pick a b c => exact light_pick hop hc hx
  | alloc t => exact light_alloc he hop hc hx
  | box t x => exact light_box hop hc hx
  | build t ps => exact light_build he hop hc hx
  | buildSlice t n ps => exact light_mks he hop hc hx
  | load t x => exact light_load he hop hc hx
  | nilCheck x => exact light_chk hop hc hx
  | binOp op t x y t' => exact light_bin he hop hc hx
  | unOp op t x => exact light_un hop hc hx
  | convert s d x => exact light_conv he hop hc hx
  | makeInterface t x => exact light_mki he hop hc hx
  | makeFunc fn a c => exact light_mkf hop hc hx
  | makeMap t x => exact light_mkm hop hc hx
  | makeSlice t l c => exact light_mksl he hop hc hx
  | slice t x lo hi mx => exact light_slc he hop hc hx
  | fieldAddr s x f => exact light_fa he hop hc hx
  | field s x f => exact light_fld he hop hc hx
  | indexAddr t x i => exact light_ia he hop hc hx
  | index t x i => exact light_ix he hop hc hx
  | lookup t x i ok => exact light_lkp he hop hc hx
  | typeAssert x xt t ok => exact light_tas he hop hc hx
  | extract x i => exact light_ext hop hc hx
  | call c => exact light_call he hop hl hc hx
  | _ => first | (simp [isLight, hop] at hl; done) | (simp [compOp, hop] at hc; done)

/-! ### the others -/
/-- what a call comes to -/
def CallsTo (P : Program) (f : FuncId) (us : Array Value) (w : World) (R : Ending → World → Prop) : Prop :=
  ((callFunc f us).run P w = .ok (.enter f us) w ∧ Calls P f us w R) ∨ ∃ u w', (callFunc f us).run P w = .ok (.value u) w' ∧ R (.returned u) w'
/-- an answer of the evaluator's for a call, and what it says -/
def Answers (P : Program) (f : FuncId) (args : List AV) (h : AH) (p : Bool) (v : AV) (h' : AH) : Prop :=
  ∀ φ ν w0 w us, HR ν w0 φ h w → concL φ ν args = some us → CallsTo P f us.toArray w fun e w' =>
    ∃ φ' u, Ev φ h φ' h' ∧ HR ν w0 φ' h' w' ∧ conc φ' ν v = some u ∧ match e with
      | .returned x => p = false ∧ x = u
      | .panicked c => p = true ∧ c = [{ v := u, recovered := false }]
      | .outgrown => False
def ClOK (P : Program) (cl : Callee β) : Prop := ∀ f args h k res, cl (Go.Ev.posOf f) args h k = some res → ∃ p v h', k p v h' = some res ∧ Answers P f args h p v h'
/-- what an operation that is not light gives -/
def OutB (P : Program) (o : Oper) (ρ : Rho) (h : AH) (k kp : AV → AH → Option β) (res : β) : Prop :=
  (∃ v h', Big P o ρ h h' v ∧ k v h' = some res) ∨
  (∃ f args p v h', (∀ φ ν w ρc, Agree φ ν o ρ ρc → ∃ us, concL φ ν args = some us ∧ (execOp ρc o).run P w = (callFunc f us.toArray).run P w) ∧ Answers P f args h p v h' ∧
    (bif p then kp v h' else k v h') = some res) ∨
  (∃ v, (∀ φ ν w ρc, Agree φ ν o ρ ρc → ∃ u, conc φ ν v = some u ∧ (execOp ρc o).run P w = .halt (.panic u) w) ∧ kp v h = some res)
end Go.Ev
namespace Go.Ev
open Go Go.RowKit
variable {P : Program} {E : TyE} {o : Oper} {β : Type} {L : PT AV} {R : List AV} {h : AH} {cl : Callee β} {k kp : AV → AH → Option β} {res : β} {r : Rs} {ci : CI}

theorem big_assign {x : Operand} (ho : o.op = .assign x) (hc : compOp E r o = some ci) (hx : exec ci L R h cl k kp = some res) : OutB P o (Rv r L R) h k kp res := by
  simp only [compOp, ho] at hc
  split at hc
  · rename_i a ha
    cases hc
    obtain ⟨v, hv, hx⟩ := rd_some (o := a) hx
    exact .inl ⟨_, _, (pure_assign (P := P) ho (Rv_some ha hv)).read.now.big, hx⟩
  · cases hc
theorem outb_sto {t : TypeId} {x v : Operand} (he : EnvOK P E) (ho : o.op = .store t x v) (hc : compOp E r o = some ci) (hx : exec ci L R h cl k kp = some res) : OutB P o (Rv r L R) h k kp res := by
  simp only [compOp, ho] at hc
  split at hc
  · rename_i n a b h1 h2 h3
    cases hc
    obtain ⟨u, hu, hx1⟩ := rd_some (o := a) hx
    obtain ⟨bb, off, rfl, hx2⟩ := ePtr_some hx1
    obtain ⟨y, hy, hx3⟩ := rd_some (o := b) hx2
    obtain ⟨hb, hx4⟩ := bif_some hx3
    have hb := Nat.eq_of_beq_eq_true hb
    rw [lenL_eq] at hb
    obtain ⟨h', hx5, hst⟩ := storeCellsK_stores hx4
    exact .inl ⟨_, _, big_sto he ho h1 (Rv_some h2 hu) (Rv_some h3 hy) hb hst, hx5⟩
  · cases hc
theorem outb_upd {t : TypeId} {m q v : Operand} (he : EnvOK P E) (ho : o.op = .mapUpdate t m q v ∨ o.op = .insert t m q v) (hc : compOp E r o = some ci) (hx : exec ci L R h cl k kp = some res) : OutB P o (Rv r L R) h k kp res := by
  rcases ho with ho0 | ho0 <;> simp only [compOp, ho0] at hc
  all_goals
    have ho : o.op = .mapUpdate t m q v ∨ o.op = .insert t m q v := by simp [ho0]
    split at hc
    · rename_i kt e a b c h1 h2 h3 h4
      split at hc
      · rename_i d hd
        cases hc
        obtain ⟨mv, hmv, hx1⟩ := rd_some (o := a) hx
        obtain ⟨kv, hkv, hx2⟩ := rd_some (o := b) hx1
        obtain ⟨vv, hvv, hx3⟩ := rd_some (o := c) hx2
        obtain ⟨hok, hx4⟩ := bifn_some hx3
        clear hx hx1 hx2 hx3
        cases mv <;> first | (cases hx4; done) | skip
        rename_i rb
        simp only at hx4
        split at hx4
        · rename_i es clock hb
          obtain ⟨f, hf, hx5⟩ := opt_some hx4
          clear hx4
          cases f with
          | none =>
            simp only [putK_eq] at hx5
            exact .inl ⟨_, _, big_upd (r := none) he ho h1 hd (Rv_some h2 hmv) (Rv_some h3 hkv) (Rv_some h4 hvv) (by simpa using hok) hb hf (fun j w e => by cases e), hx5⟩
          | some jv =>
            obtain ⟨j, v0⟩ := jv
            simp only [nthK_eq] at hx5
            obtain ⟨e, he1, hx6⟩ := Option.bind_eq_some_iff.1 hx5
            obtain ⟨hk2, hx7⟩ := bif_some hx6
            rw [putK_eq] at hx7
            exact .inl ⟨_, _, big_upd (r := some (j, v0)) he ho h1 hd (Rv_some h2 hmv) (Rv_some h3 hkv) (Rv_some h4 hvv) (by simpa using hok) hb hf
              (fun j' w e' e2 he2 => by cases e'; rw [he1] at he2; cases he2; exact hk2), hx7⟩
        · cases hx4
      · cases hc
    · cases hc
theorem outb_rng {t : TypeId} {x : Operand} (he : EnvOK P E) (ho : o.op = .range t x) (hc : compOp E r o = some ci) (hx : exec ci L R h cl k kp = some res) : OutB P o (Rv r L R) h k kp res := by
  simp only [compOp, ho] at hc
  split at hc
  · rename_i a h1 h2
    cases hc
    obtain ⟨v, hv, hx1⟩ := rd_some (o := a) hx
    obtain ⟨s, rfl, hx2⟩ := eStr_some hx1
    rw [newK_eq] at hx2
    exact .inl ⟨_, _, big_rng he ho h1 (Rv_some h2 hv), hx2⟩
  · cases hc
theorem outb_nxt {x : Operand} {b : Bool} (ho : o.op = .next x b) (hc : compOp E r o = some ci) (hx : exec ci L R h cl k kp = some res) : OutB P o (Rv r L R) h k kp res := by
  cases b with
  | false => simp [compOp, ho] at hc
  | true =>
    simp only [compOp, ho] at hc
    split at hc
    · rename_i a h1
      cases hc
      obtain ⟨v, hv, hx1⟩ := rd_some (o := a) hx
      clear hx
      cases v <;> first | (cases hx1; done) | skip
      rename_i pb off
      cases off with
      | succ n => cases hx1
      | zero =>
        simp only at hx1
        split at hx1
        · rename_i s pos hb
          have hbig := big_nxt (P := P) ho (Rv_some h1 hv) hb
          cases s with
          | nil => exact .inl ⟨_, _, hbig, hx1⟩
          | cons c s' =>
            simp only at hx1 hbig
            obtain ⟨q, hq, hx2⟩ := opt_some hx1
            unfold decodeAt at hq
            obtain ⟨hlt, hq⟩ := bif_some hq
            cases hq
            rw [putK_eq] at hx2
            exact .inl ⟨_, _, hbig (by rw [Nat.blt_eq] at hlt; exact hlt), hx2⟩
        · cases hx1
    · cases hc
theorem outb_pan {x : Operand} (ho : o.op = .panic x) (hc : compOp E r o = some ci) (hx : exec ci L R h cl k kp = some res) : OutB P o (Rv r L R) h k kp res := by
  simp only [compOp, ho] at hc
  split at hc
  · rename_i a h1
    cases hc
    obtain ⟨v, hv, hx1⟩ := rd_some (o := a) hx
    clear hx
    cases v <;> first | (cases hx1; done) | skip
    rename_i t v
    refine .inr (.inr ⟨_, fun φ ν w ρc hA => ?_, hx1⟩)
    have h2 := hA x (by simp [ho, Op.operands]) _ (Rv_some h1 hv)
    refine ⟨_, h2, ?_⟩
    simp only [conc, Option.map_eq_some_iff] at h2
    obtain ⟨u, _, h3⟩ := h2
    simp [execOp, ho, ← h3, Instr.panic, goPanic]
  · cases hc
theorem posN_eq : ∀ n, posN n = Go.Ev.posOf n
  | 0 => rfl
  | n + 1 => by
    show posN.inc (posN n) = (Go.Ev.posOf n).incK (fun p => p)
    rw [posN_eq n, Pos.incK_eq]
    generalize Go.Ev.posOf n = p
    induction p with
    | one => rfl
    | o p ih => rfl
    | i p ih =>
      simp only [posN.inc, ih]
      show _ = p.incK (fun q => q.o)
      rw [Pos.incK_eq]
theorem outb_call {c : Call} (he : EnvOK P E) (hcl : ClOK P cl) (hrf : ∀ f, r (.func f) = some (.c (.func (.func f) [] []))) (ho : o.op = .call c) (hl : isLight o = false)
    (hc : compOp E r o = some ci) (hx : exec ci L R h cl k kp = some res) : OutB P o (Rv r L R) h k kp res := by
  simp only [compOp, ho] at hc
  unfold compCall at hc
  cases hcal : c.callee with
  | invoke x n => rw [hcal] at hc; cases hc
  | builtin b =>
    rw [hcal] at hc
    simp only at hc
    split at hc
    · exfalso; obtain ⟨_, _, _⟩ := c; simp only at hcal; subst hcal; simp [isLight, ho] at hl
    · -- append
      rename_i s x t ts hargs hts
      have ho' : o.op = .call { callee := .builtin .append, args := #[s, x], argTypes := c.argTypes } := by rw [ho]; exact congrArg Op.call (call_eta hcal hargs)
      split at hc
      · rename_i e a b h1 h2 h3
        split at hc
        · rename_i z zv by' h4
          split at hc
          · cases hc
          · rename_i hcond
            cases hc
            obtain ⟨u, hu, hx1⟩ := rd_some (o := a) hx
            obtain ⟨v, hv, hx2⟩ := rd_some (o := b) hx1
            obtain ⟨m, hm, hx3⟩ := opt_some hx2
            obtain ⟨new, hx4, hnew⟩ := sliceCellsK_spec hm (Nat.le_refl _) hx3
            obtain ⟨ti, e1, e2, e3, e4, e5⟩ := elemD_some h4
            subst e4
            have hnz : NoZeros E c.argTypes := by
              intro uu huu
              have huu' : c.argTypes.toList[1]? = some uu := by simpa using huu
              rw [hts] at huu'
              cases ts with
              | nil => cases huu'
              | cons w l =>
                simp at huu'; subst huu'
                have : noZeros E (t :: w :: l) ≠ false := fun e => hcond (.inr e)
                simp only [noZeros] at this
                cases hw : E.und w with
                | none => rw [hw] at this; exact absurd rfl this
                | some d => exact ⟨d, rfl, fun kk e => by rw [hw, e] at this; exact this rfl⟩
            obtain ⟨v', h', hx5, hbig⟩ := big_app he ho' (ts_zero hts) hnz h1 e1 e2 e3 (fun e => hcond (.inl e)) e5 (Rv_some h2 hu) (Rv_some h3 hv) hm hnew hx4
            exact .inl ⟨v', h', hbig, hx5⟩
        · cases hc
      · cases hc
    · -- copy
      rename_i d s t ts hargs hts
      have ho' : o.op = .call { callee := .builtin .copy, args := #[d, s], argTypes := c.argTypes } := by rw [ho]; exact congrArg Op.call (call_eta hcal hargs)
      split at hc
      · rename_i e a b h1 h2 h3
        split at hc
        · rename_i z hz
          cases hc
          obtain ⟨dv, hdv, hx1⟩ := rd_some (o := a) hx
          obtain ⟨sv, hsv, hx2⟩ := rd_some (o := b) hx1
          obtain ⟨n, hn, hx3⟩ := opt_some hx2
          obtain ⟨m, hm, hx4⟩ := opt_some hx3
          obtain ⟨new, hx5, hnew⟩ := sliceCellsK_spec hm (Nat.min_le_left _ _) hx4
          clear hx hx1 hx2 hx3 hx4
          cases dv <;> first | (cases hx5; done) | skip
          · have hn0 : n = 0 := by simp only [lenA, Option.some.injEq] at hn; exact hn.symm
            subst hn0
            have := big_cpy (P := P) (h' := h) he ho' (ts_zero hts) h1 hz (Rv_some h2 hdv) (Rv_some h3 hsv) hn hm hnew (.inl ⟨rfl, rfl⟩)
            rw [Nat.min_zero] at this
            exact .inl ⟨_, _, this, hx5⟩
          · obtain ⟨h', hx6, hst⟩ := storeCellsK_stores hx5
            exact .inl ⟨_, _, big_cpy he ho' (ts_zero hts) h1 hz (Rv_some h2 hdv) (Rv_some h3 hsv) hn hm hnew (.inr ⟨_, _, _, _, rfl, hst⟩), hx6⟩
        · cases hc
      · cases hc
    · -- clear
      rename_i x t ts hargs hts
      have ho' : o.op = .call { callee := .builtin .clear, args := #[x], argTypes := c.argTypes } := by rw [ho]; exact congrArg Op.call (call_eta hcal hargs)
      split at hc
      · rename_i e a h1 h2
        split at hc
        · rename_i s z hs hz
          cases hc
          obtain ⟨v, hv, hx1⟩ := rd_some (o := a) hx
          clear hx
          cases v <;> first | (cases hx1; done) | skip
          · exact .inl ⟨_, _, big_clr he ho' (ts_zero hts) h1 hz (Rv_some h2 hv) (.inl ⟨rfl, .inl rfl⟩), hx1⟩
          · rename_i b ee n cap
            cases hn : Nat.beq n 0 with
            | true =>
              simp only [hn, cond_true] at hx1
              have := Nat.eq_of_beq_eq_true hn
              subst this
              exact .inl ⟨_, _, big_clr he ho' (ts_zero hts) h1 hz (Rv_some h2 hv) (.inl ⟨rfl, .inr (.inr ⟨_, _, _, rfl⟩)⟩), hx1⟩
            | false =>
              simp only [hn, cond_false] at hx1
              obtain ⟨h', hx2, hst⟩ := storeCellsK_stores hx1
              exact .inl ⟨_, _, big_clr he ho' (ts_zero hts) h1 hz (Rv_some h2 hv) (.inr ⟨_, _, _, _, rfl, (fun e => by subst e; cases hn), hst⟩), hx2⟩
          · exact .inl ⟨_, _, big_clr he ho' (ts_zero hts) h1 hz (Rv_some h2 hv) (.inl ⟨rfl, .inr (.inl ⟨_, _, _, rfl⟩)⟩), hx1⟩
        · cases hc
      · cases hc
    · exfalso; obtain ⟨_, _, _⟩ := c; simp only at hcal; subst hcal; simp [isLight, ho] at hl
    · exfalso; obtain ⟨_, _, _⟩ := c; simp only at hcal; subst hcal; simp [isLight, ho] at hl
    · -- delete
      rename_i m q t ts hargs hts
      have ho' : o.op = .call { callee := .builtin .delete, args := #[m, q], argTypes := c.argTypes } := by rw [ho]; exact congrArg Op.call (call_eta hcal hargs)
      split at hc
      · rename_i kt e a b h1 h2 h3
        split at hc
        · rename_i d hd
          cases hc
          obtain ⟨mv, hmv, hx1⟩ := rd_some (o := a) hx
          obtain ⟨kv, hkv, hx2⟩ := rd_some (o := b) hx1
          obtain ⟨hok, hx4⟩ := bifn_some hx2
          clear hx hx1 hx2
          cases mv <;> first | (cases hx4; done) | skip
          rename_i rb
          simp only at hx4
          split at hx4
          · rename_i es clock hb
            obtain ⟨f, hf, hx5⟩ := opt_some hx4
            clear hx4
            have hbig := big_del (P := P) (_ty := 0) he ho' (ts_zero hts) h1 hd (Rv_some h2 hmv) (Rv_some h3 hkv) (by simpa using hok) hb hf
            cases f with
            | none => simp only [putK_eq] at hx5; exact .inl ⟨_, _, hbig, hx5⟩
            | some jv => simp only [putK_eq] at hx5; exact .inl ⟨_, _, hbig, hx5⟩
          · cases hx4
        · cases hc
      · cases hc
    · cases hc
  | value f =>
    rw [hcal] at hc
    have hops : ∀ y ∈ c.args.toList, y ∈ o.op.operands := by
      intro y hy
      simp only [ho, Op.operands, Call.operands]
      simp at hy ⊢
      exact .inr hy
    have hfop : f ∈ o.op.operands := by
      simp only [ho, Op.operands, Call.operands, hcal]
      simp
    -- the call of a function's value
    have fin : ∀ (g : FuncId) (a' c' : List AV) (args : List CO) (vs : List AV), Rv r L R f = some (.func (.func g) a' c') → resL r c.args.toList = some args → rdsV args L R = some vs →
        cl (Go.Ev.posOf g) (a' ++ (vs ++ c')) h (done k kp) = some res → OutB P o (Rv r L R) h k kp res := by
      intro g a' c' args vs hf hargs hvs hx
      obtain ⟨p, v, h', h1, h2⟩ := hcl _ _ _ _ _ hx
      refine .inr (.inl ⟨g, _, p, v, h', ?_, h2, ?_⟩)
      · intro φ ν w ρc hA
        have hfc := hA f hfop _ hf
        simp only [conc, Option.bind_eq_some_iff, Option.map_eq_some_iff] at hfc
        obtain ⟨a'', ha, c'', hcc, hfv⟩ := hfc
        have hvc := agree_list (φ := φ) (ν := ν) (ρc := ρc) (resL_some hargs hvs) (fun y hy => hA y (hops y hy))
        refine ⟨a'' ++ (c.args.toList.map ρc ++ c''), concL_append ha (concL_append hvc hcc), ?_⟩
        simp only [execOp, ho, resolve, hcal, ← hfv, Deferred.ofValue]
        have ee : a''.toArray ++ (Array.map ρc c.args ++ c''.toArray) = (a'' ++ (List.map ρc c.args.toList ++ c'')).toArray := by
          apply Array.ext'; simp
        simp only [Sem.run_pure, Sem.run_bind, Result.andThen_ok, invoke]
        rw [← ee, Array.append_assoc]
      · cases p <;> exact h1
    cases f with
    | func g =>
      simp only at hc
      split at hc
      · rename_i l hl'
        cases hc
        obtain ⟨vs, hvs, hx1⟩ := rds_some (l := l) hx
        rw [posN_eq] at hx1
        exact fin g [] [] l vs (Rv_some (hrf g) rfl) hl' hvs (by simpa using hx1)
      · cases hc
    | _ =>
      simp only at hc
      split at hc
      · rename_i a l h1 h2
        cases hc
        obtain ⟨fv, hfv, hx1⟩ := rd_some (o := a) hx
        clear hx
        cases fv <;> first | (cases hx1; done) | skip
        rename_i fn a' c'
        cases fn <;> first | (cases hx1; done) | skip
        rename_i g
        simp only at hx1
        obtain ⟨vs, hvs, hx2⟩ := rds_some (l := l) hx1
        rw [appL_eq, appL_eq] at hx2
        exact fin g a' c' l vs (Rv_some h1 hfv) h2 hvs hx2
      · cases hc
theorem big_all (he : EnvOK P E) (hcl : ClOK P cl) (hrf : ∀ f, r (.func f) = some (.c (.func (.func f) [] []))) (hl : isLight o = false) (hc : compOp E r o = some ci) (hx : exec ci L R h cl k kp = some res) :
    OutB P o (Rv r L R) h k kp res := by
  cases hop : o.op with
  | assign x => exact big_assign hop hc hx
  | store t x v => exact outb_sto he hop hc hx
  | mapUpdate t m q v => exact outb_upd he (.inl hop) hc hx
  | insert t m q v => exact outb_upd he (.inr hop) hc hx
  | range t x => exact outb_rng he hop hc hx
  | next x b => exact outb_nxt hop hc hx
  | panic x => exact outb_pan hop hc hx
  | call c => exact outb_call he hcl hrf hop hl hc hx
  | _ => first | (simp [isLight, hop] at hl; done) | (simp [compOp, hop] at hc; done)
end Go.Ev
namespace Go.Ev
open Go Go.RowKit
variable {P : Program} {E : TyE} {o : Oper} {β : Type} {L : PT AV} {R : List AV} {h : AH} {cl : Callee β} {k kp : AV → AH → Option β} {res : β} {X : Tmp → Bool} {ops : Array Oper}

/-! ### what the temporaries are worth -/
abbrev Sg := Tmp → Option AV
noncomputable def sg (X : Tmp → Bool) (lay : Lay) (L : PT AV) (R : List AV) : Sg := fun t => Rv (Go.Ev.res X lay R.length) L R (.tmp t)
/-- the temporaries of which 'ok' speaks are what they are said to be -/
def TmpsOK (φ : Phi) (ν : Nu) (σ : Sg) (a : Act) (ok : Tmp → Prop) : Prop := ∀ t v, ok t → σ t = some v → ∃ u, a.tmps[t]? = some u ∧ conc φ ν v = some u
theorem eval_tmp {a : Act} {t : Tmp} {u : Value} (h : a.tmps[t]? = some u) : a.eval (.tmp t) = u := by
  simp [Act.eval, h]
theorem agree_of {φ : Phi} {ν : Nu} {lay : Lay} {a : Act} {ok : Tmp → Prop} (hT : TmpsOK φ ν (sg X lay L R) a ok) (hm : ∀ t, Operand.tmp t ∈ o.op.operands → ok t) :
    Agree φ ν o (Rv (Go.Ev.res X lay R.length) L R) a.eval := by
  intro y hy v hv
  cases y with
  | tmp t =>
    obtain ⟨u, h1, h2⟩ := hT t v (hm t hy) hv
    rw [eval_tmp h1]; exact h2
  | const c =>
    simp only [Rv, Go.Ev.res, Option.bind_eq_some_iff, Option.map_eq_some_iff] at hv
    obtain ⟨_, ⟨b, hb, rfl⟩, hv⟩ := hv
    simp only [rdV, Option.some.injEq] at hv
    subst hv
    exact ofV_conc c b hb
  | global g => simp [Rv, Go.Ev.res] at hv
  | func f =>
    simp only [Rv, Go.Ev.res, Option.bind_some, rdV, Option.some.injEq] at hv
    subst hv
    simp [conc, concL, Act.eval]
/-! guards -/
def GW (ops : Array Oper) (o : Oper) (σ : Sg) (b : Bool) : Prop :=
  match o.guard with
  | none => b = true
  | some (j, want) => ∃ d v, (ops[j]?).bind (·.dst) = some d ∧ σ d = some v ∧ ((v = .bool want ∧ b = true) ∨ (v = .bool (!want) ∧ b = false) ∨ (v = .tuple [] ∧ b = false))
theorem gd_spec {lay : Lay} {g : Option (CO × Bool)} {yes no : Option β} (hg : guardOf X ops lay R.length o = some g) (hx : gd g L R yes no = some res) :
    (yes = some res ∧ GW ops o (sg X lay L R) true) ∨ (no = some res ∧ GW ops o (sg X lay L R) false) := by
  unfold guardOf at hg
  unfold GW
  cases hog : o.guard with
  | none => rw [hog] at hg; cases hg; exact .inl ⟨hx, rfl⟩
  | some jw =>
    obtain ⟨j, want⟩ := jw
    rw [hog] at hg
    simp only at hg ⊢
    cases hd : (ops[j]?).bind (·.dst) with
    | none => rw [hd] at hg; cases hg
    | some d =>
      rw [hd] at hg
      simp only at hg
      cases hr : Go.Ev.res X lay R.length (.tmp d) with
      | none => rw [hr] at hg; cases hg
      | some c =>
        rw [hr] at hg; cases hg
        have hx : rd c L R (fun v => gdV v want yes no) = some res := hx
        obtain ⟨v, hv, hx⟩ := rd_some hx
        have hσ : sg X lay L R d = some v := Rv_some hr hv
        cases v <;> first | (cases hx; done) | skip
        · rename_i b
          cases b <;> cases want
          · exact .inl ⟨hx, d, _, rfl, hσ, .inl ⟨rfl, trivial⟩⟩
          · exact .inr ⟨hx, d, _, rfl, hσ, .inr (.inl ⟨rfl, trivial⟩)⟩
          · exact .inr ⟨hx, d, _, rfl, hσ, .inr (.inl ⟨rfl, trivial⟩)⟩
          · exact .inl ⟨hx, d, _, rfl, hσ, .inl ⟨rfl, trivial⟩⟩
        · rename_i l
          cases l with
          | nil => exact .inr ⟨hx, d, _, rfl, hσ, .inr (.inr ⟨rfl, trivial⟩)⟩
          | cons _ _ => cases hx
theorem GW.wanted {σ : Sg} {b : Bool} {φ : Phi} {ν : Nu} {a : Act} {ok : Tmp → Prop} (hg : GW ops o σ b) (hT : TmpsOK φ ν σ a ok) (hm : ∀ j w d, o.guard = some (j, w) → (ops[j]?).bind (·.dst) = some d → ok d) :
    Region.wanted o (yielded ops a.tmps) = b := by
  unfold GW at hg
  unfold Region.wanted
  cases hog : o.guard with
  | none => rw [hog] at hg; simp only at hg; subst hg; rfl
  | some jw =>
    obtain ⟨j, want⟩ := jw
    rw [hog] at hg
    simp only at hg ⊢
    obtain ⟨d, v, hd, hσ, hv⟩ := hg
    obtain ⟨u, h1, h2⟩ := hT d v (hm j want d hog hd) hσ
    unfold yielded
    rw [hd]
    simp only [Option.bind_some, h1]
    rcases hv with ⟨rfl, rfl⟩ | ⟨rfl, rfl⟩ | ⟨rfl, rfl⟩
    · have := conc_bool h2; subst this; cases want <;> rfl
    · have := conc_bool h2; subst this; cases want <;> rfl
    · simp only [conc, concL, Option.map_some, Option.some.injEq] at h2
      subst h2; cases want <;> rfl
/-! one step of the layout -/
theorem look_unlean {lay : Lay} {d t : Tmp} : look (unlean lay d) t = (look lay t).map fun x => match x with | .l u => if u = d then .gone else .l u | y => y := by
  induction lay with
  | nil => rfl
  | cons p lay ih =>
    obtain ⟨e, x⟩ := p
    cases x <;> simp only [unlean, look] <;> split <;> simp_all
theorem posN_inj {a b : Nat} (h : posN a = posN b) : a = b := by rw [posN_eq, posN_eq] at h; exact posOf_inj h
def LayOK (lay : Lay) (n : Nat) : Prop := ∀ t b, look lay t = some (.r b) → b < n
theorem LayOK.push {lay : Lay} {n : Nat} {d : Tmp} (h : LayOK lay n) : LayOK ((d, .r n) :: unlean lay d) (n + 1) := by
  intro t b ht
  simp only [look] at ht
  split at ht
  · cases ht; omega
  · rw [look_unlean] at ht
    cases hl : look lay t with
    | none => rw [hl] at ht; cases ht
    | some y =>
      rw [hl] at ht
      cases y <;> simp only [Option.map_some, Option.some.injEq, reduceCtorEq] at ht
      · have := h t _ hl; cases ht; omega
      · split at ht <;> cases ht
theorem sg_push {lay : Lay} {d : Tmp} {v : AV} {t : Tmp} {a : AV} (hw : LayOK lay R.length)
    (h : sg X ((d, .r R.length) :: unlean lay d) (if X d then L.set (posN d) v else L) (v :: R) t = some a) : (t = d ∧ a = v) ∨ (t ≠ d ∧ sg X lay L R t = some a) := by
  unfold sg Rv at h ⊢
  simp only [Option.bind_eq_some_iff] at h ⊢
  obtain ⟨c, h1, h2⟩ := h
  simp only [Go.Ev.res, look] at h1
  by_cases htd : t = d
  · subst htd
    simp only [if_true, List.length_cons] at h1
    rw [if_pos (by omega)] at h1
    cases h1
    simp [rdV] at h2
    exact .inl ⟨rfl, h2.symm⟩
  · rw [if_neg (fun e => htd e.symm)] at h1
    refine .inr ⟨htd, ?_⟩
    rw [look_unlean] at h1
    have hL : ∀ u, u ≠ d → (if X d then L.set (posN d) v else L).get (posN u) = L.get (posN u) := by
      intro u hu
      split
      · rw [PT.get_set, if_neg (fun e => hu (posN_inj e).symm)]
      · rfl
    cases hlk : look lay t with
    | none =>
      rw [hlk] at h1
      simp only [Option.map_none] at h1
      split at h1
      · rename_i hX
        cases h1
        refine ⟨.l (posN t), by simp [Go.Ev.res, hlk, hX], ?_⟩
        simp only [rdV] at h2 ⊢
        rw [hL t htd] at h2; exact h2
      · cases h1
    | some x =>
      rw [hlk] at h1
      cases x with
      | r b =>
        simp only [Option.map_some, List.length_cons] at h1
        split at h1
        · rename_i hlt
          cases h1
          simp only [rdV] at h2
          have hb := hw t b hlk
          refine ⟨.r (R.length - 1 - b), by simp [Go.Ev.res, hlk, hb], ?_⟩
          simp only [rdV]
          rw [show R.length + 1 - 1 - b = (R.length - 1 - b) + 1 from by omega, List.getElem?_cons_succ] at h2
          exact h2
        · cases h1
      | l u =>
        simp only [Option.map_some] at h1
        by_cases hu : u = d
        · rw [if_pos hu] at h1; cases h1
        · rw [if_neg hu] at h1
          simp only at h1
          split at h1
          · rename_i hX
            cases h1
            refine ⟨.l (posN u), by simp [Go.Ev.res, hlk, hX], ?_⟩
            simp only [rdV] at h2 ⊢
            rw [hL u hu] at h2; exact h2
          · cases h1
      | c w =>
        simp only [Option.map_some] at h1
        cases h1
        exact ⟨.c w, by simp [Go.Ev.res, hlk], h2⟩
      | gone => simp only [Option.map_some] at h1; cases h1
end Go.Ev
namespace Go.Ev
open Go Go.RowKit
variable {P : Program} {E : TyE} {o : Oper} {β : Type} {L : PT AV} {R : List AV} {h : AH} {cl : Callee β} {k : PT AV → AH → Option β} {kp : AV → AH → Option β} {res : β} {X : Tmp → Bool} {ops : Array Oper}

theorem sg_alias {lay : Lay} {d : Tmp} {x : Operand} {y : Loc} (hy : locOf lay x = some y) (hx : y ≠ .gone) {t : Tmp} {a : AV} (h : sg X ((d, y) :: lay) L R t = some a) :
    (t = d ∧ Rv (Go.Ev.res X lay R.length) L R x = some a) ∨ (t ≠ d ∧ sg X lay L R t = some a) := by
  unfold sg Rv at h ⊢
  simp only [Option.bind_eq_some_iff] at h ⊢
  obtain ⟨c, h1, h2⟩ := h
  simp only [Go.Ev.res, look] at h1
  by_cases htd : t = d
  · subst htd
    simp only [if_true] at h1
    refine .inl ⟨rfl, c, ?_, h2⟩
    cases x with
    | tmp t' =>
      simp only [locOf] at hy
      simp only [Go.Ev.res]
      cases hl : look lay t' with
      | none =>
        rw [hl] at hy; cases hy
        simpa using h1
      | some z =>
        rw [hl] at hy; cases hy
        cases y with
        | gone => exact absurd rfl hx
        | _ => simpa using h1
    | const v =>
      simp only [locOf, Option.map_eq_some_iff] at hy
      obtain ⟨b, hb, rfl⟩ := hy
      simp only [Go.Ev.res, hb]
      simpa using h1
    | global g => simp [locOf] at hy
    | func f =>
      simp only [locOf, Option.some.injEq] at hy
      subst hy
      simpa [Go.Ev.res] using h1
  · rw [if_neg (fun e => htd e.symm)] at h1
    exact .inr ⟨htd, c, by simp only [Go.Ev.res]; exact h1, h2⟩
theorem LayOK.alias {lay : Lay} {n : Nat} {d : Tmp} {x : Operand} {y : Loc} (hw : LayOK lay n) (hy : locOf lay x = some y) : LayOK ((d, y) :: lay) n := by
  intro t b ht
  simp only [look] at ht
  split at ht
  · cases ht
    cases x with
    | tmp t' =>
      simp only [locOf] at hy
      cases hl : look lay t' with
      | none => rw [hl] at hy; cases hy
      | some z => rw [hl] at hy; cases hy; exact hw t' b hl
    | const v => simp only [locOf, Option.map_eq_some_iff] at hy; obtain ⟨_, _, hy⟩ := hy; cases hy
    | global g => cases hy
    | func f => cases hy
  · exact hw t b ht

/-- what came of one operation -/
inductive Did (P : Program) (ops : Array Oper) (o : Oper) (σ : Sg) (ρ : Rho) (h : AH) : Option AV → AH → Prop
  | skip : GW ops o σ false → Did P ops o σ ρ h (some (.tuple [])) h
  | pure {v} : GW ops o σ true → isLight o = true → Pure P o ρ v → Did P ops o σ ρ h (some v) h
  | read {v} : GW ops o σ true → isLight o = true → isReads o = true → Read P o ρ h v → Did P ops o σ ρ h (some v) h
  | new {v ob} : GW ops o σ true → isLight o = true → NewAt P o ρ h.next ob v → Did P ops o σ ρ h (some v) (h.alloc ob)
  | big {v h'} : GW ops o σ true → isLight o = false → Big P o ρ h h' v → Did P ops o σ ρ h (some v) h'
  | call {v h' f args} : GW ops o σ true → isLight o = false →
      (∀ φ ν w ρc, Agree φ ν o ρ ρc → ∃ us, concL φ ν args = some us ∧ (execOp ρc o).run P w = (callFunc f us.toArray).run P w) → Answers P f args h false v h' → Did P ops o σ ρ h (some v) h'
  /-- a move of what is not known -/
  | dark {x} : GW ops o σ true → o.op = .move x → Did P ops o σ ρ h none h
inductive Died (P : Program) (ops : Array Oper) (o : Oper) (σ : Sg) (ρ : Rho) (h : AH) : AV → AH → Prop
  | call {v h' f args} : GW ops o σ true → isLight o = false →
      (∀ φ ν w ρc, Agree φ ν o ρ ρc → ∃ us, concL φ ν args = some us ∧ (execOp ρc o).run P w = (callFunc f us.toArray).run P w) → Answers P f args h true v h' → Died P ops o σ ρ h v h'
  | pan {v} : GW ops o σ true → isLight o = false → (∀ φ ν w ρc, Agree φ ν o ρ ρc → ∃ u, conc φ ν v = some u ∧ (execOp ρc o).run P w = .halt (.panic u) w) → Died P ops o σ ρ h v h
theorem exec_did {lay : Lay} {ci : CI} {kk kp : AV → AH → Option β} (he : EnvOK P E) (hcl : ClOK P cl) (hg : GW ops o (sg X lay L R) true) (hc : compOp E (Go.Ev.res X lay R.length) o = some ci) (hx : exec ci L R h cl kk kp = some res) :
    (∃ v h', Did P ops o (sg X lay L R) (Rv (Go.Ev.res X lay R.length) L R) h (some v) h' ∧ kk v h' = some res) ∨
    ∃ v h', Died P ops o (sg X lay L R) (Rv (Go.Ev.res X lay R.length) L R) h v h' ∧ kp v h' = some res := by
  cases hl : isLight o with
  | true =>
    rcases light_all he hl hc hx with ⟨v, h1 | ⟨hr, h1⟩, h2⟩ | ⟨ob, v, ⟨_, h1⟩, h2⟩
    · exact .inl ⟨v, h, .pure hg hl h1, h2⟩
    · exact .inl ⟨v, h, .read hg hl hr h1, h2⟩
    · exact .inl ⟨v, _, .new hg hl h1, h2⟩
  | false =>
    rcases big_all he hcl (fun f => rfl) hl hc hx with ⟨v, h', h1, h2⟩ | ⟨f, args, p, v, h', h1, h2, h3⟩ | ⟨v, h1, h2⟩
    · exact .inl ⟨v, h', .big hg hl h1, h2⟩
    · cases p with
      | false => exact .inl ⟨v, h', .call hg hl h1 h2, h3⟩
      | true => exact .inr ⟨v, h', .call hg hl h1 h2, h3⟩
    · exact .inr ⟨v, h, .pan hg hl h1, h2⟩
/-- a temporary that other regions see stands in L too -/
def LayX (X : Tmp → Bool) (lay : Lay) : Prop := ∀ t, X t = true → look lay t = none ∨ ∃ b, look lay t = some (.r b)
def LXP (X : Tmp → Bool) (lay : Lay) (L : PT AV) (R : List AV) : Prop := ∀ t a, X t = true → L.get (posN t) = some a → sg X lay L R t = some a
theorem LayX.push {lay : Lay} {d : Tmp} {n : Nat} (h : LayX X lay) : LayX X ((d, .r n) :: unlean lay d) := by
  intro t ht
  simp only [look]
  split
  · exact .inr ⟨_, rfl⟩
  · rw [look_unlean]
    rcases h t ht with h1 | ⟨b, h1⟩ <;> rw [h1]
    · exact .inl rfl
    · exact .inr ⟨b, rfl⟩
theorem LXP.push {lay : Lay} {d : Tmp} {v : AV} (hw : LayOK lay R.length) (hX : LayX X lay) (h : LXP X lay L R) :
    LXP X ((d, .r R.length) :: unlean lay d) (if X d then L.set (posN d) v else L) (v :: R) := by
  intro t a ht hL
  unfold sg Rv
  by_cases htd : t = d
  · subst htd
    rw [ht] at hL
    simp only [if_true] at hL
    rw [PT.get_set, if_pos rfl] at hL
    simp [Go.Ev.res, look, rdV, hL]
  · have hL' : L.get (posN t) = some a := by
      split at hL
      · rw [PT.get_set, if_neg (fun e => htd (posN_inj e).symm)] at hL; exact hL
      · exact hL
    have h0 := h t a ht hL'
    unfold sg Rv at h0
    simp only [Go.Ev.res, look, if_neg (fun e => htd (Eq.symm e) : ¬ d = t), look_unlean]
    simp only [Go.Ev.res] at h0
    rcases hX t ht with h1 | ⟨b, h1⟩
    · rw [h1]
      simp only [Option.map_none, ht, if_true, Option.bind_some, rdV]
      exact hL
    · rw [h1] at h0 ⊢
      have hb := hw t b h1
      simp only [if_pos hb, Option.bind_some, rdV] at h0
      simp only [Option.map_some, List.length_cons]
      rw [if_pos (by omega)]
      simp only [Option.bind_some, rdV]
      rw [show R.length + 1 - 1 - b = (R.length - 1 - b) + 1 from by omega, List.getElem?_cons_succ]
      exact h0
theorem LayX.alias {lay : Lay} {d : Tmp} {y : Loc} (h : LayX X lay) (hd : X d = false) : LayX X ((d, y) :: lay) := by
  intro t ht
  simp only [look]
  rw [if_neg (fun e => by subst e; rw [hd] at ht; cases ht)]
  exact h t ht
theorem LXP.alias {lay : Lay} {d : Tmp} {y : Loc} (h : LXP X lay L R) (hd : X d = false) : LXP X ((d, y) :: lay) L R := by
  intro t a ht hL
  have h0 := h t a ht hL
  unfold sg Rv at h0 ⊢
  simp only [Go.Ev.res, look] at h0 ⊢
  rw [if_neg (fun e => by subst e; rw [hd] at ht; cases ht)]
  exact h0
/-- how the worth of temporaries turns -/
def SgStep (o : Oper) (v : Option AV) (σ σ' : Sg) : Prop := ∀ t a, σ' t = some a → (o.dst = some t ∧ v = some a) ∨ (o.dst ≠ some t ∧ σ t = some a)
theorem push_eq {dst : Option (Option Pos)} {v : AV} {kk : PT AV → List AV → Option β} : push dst v L R kk = match dst with | none => kk L R | some none => kk L (v :: R) | some (some p) => kk (L.set p v) (v :: R) := by
  cases dst with
  | none => rfl
  | some d =>
    cases d with
    | none => rfl
    | some p => show PT.setK p v L (fun L' => kk L' (v :: R)) = _; rw [PT.setK_eq]
theorem runS_cons {s : CS} {l : List CS} : runS (s :: l) L R h cl k kp = doS s (runS l) L R h cl k kp := rfl
/-- one compiled operation, run -/
theorem comp1_spec {lay : Lay} {out : List CS} {st' : St} (he : EnvOK P E) (hcl : ClOK P cl) (hw : LayOK lay R.length) (hX : LayX X lay) (hL : LXP X lay L R) (hc : comp1 E X ops o (out, lay, R.length) = some st') :
    LayOK st'.2.1 st'.2.2 ∧ LayX X st'.2.1 ∧ ∃ s, st'.1 = s ++ out ∧ ∀ rest, runS (s.reverse ++ rest) L R h cl k kp = some res →
      (∃ v h' L' R', Did P ops o (sg X lay L R) (Rv (Go.Ev.res X lay R.length) L R) h v h' ∧ R'.length = st'.2.2 ∧ LXP X st'.2.1 L' R' ∧ SgStep o v (sg X lay L R) (sg X st'.2.1 L' R') ∧ runS rest L' R' h' cl k kp = some res) ∨
      ∃ v h', Died P ops o (sg X lay L R) (Rv (Go.Ev.res X lay R.length) L R) h v h' ∧ kp v h' = some res := by
  -- an instruction that pushes
  have push1 : ∀ (d : Tmp) (g : Option (CO × Bool)) (i : CI), o.dst = some d → guardOf X ops lay R.length o = some g → compOp E (Go.Ev.res X lay R.length) o = some i →
      LayOK ((d, .r R.length) :: unlean lay d) (R.length + 1) ∧ LayX X ((d, .r R.length) :: unlean lay d) ∧ ∀ rest, runS (.s g (some (if X d then some (posN d) else none)) i :: rest) L R h cl k kp = some res →
      (∃ v h' L' R', Did P ops o (sg X lay L R) (Rv (Go.Ev.res X lay R.length) L R) h v h' ∧ R'.length = R.length + 1 ∧ LXP X ((d, .r R.length) :: unlean lay d) L' R' ∧ SgStep o v (sg X lay L R) (sg X ((d, .r R.length) :: unlean lay d) L' R') ∧ runS rest L' R' h' cl k kp = some res) ∨
      ∃ v h', Died P ops o (sg X lay L R) (Rv (Go.Ev.res X lay R.length) L R) h v h' ∧ kp v h' = some res := by
    intro d g i hd hg hi
    refine ⟨hw.push, hX.push, fun rest hx => ?_⟩
    have pk : ∀ (v : AV) (h' : AH), push (some (if X d then some (posN d) else none)) v L R (fun L' R' => runS rest L' R' h' cl k kp) = some res →
        ∃ L' R', R'.length = R.length + 1 ∧ LXP X ((d, .r R.length) :: unlean lay d) L' R' ∧ SgStep o (some v) (sg X lay L R) (sg X ((d, .r R.length) :: unlean lay d) L' R') ∧ runS rest L' R' h' cl k kp = some res := by
      intro v h' hp
      rw [push_eq] at hp
      have hst : SgStep o (some v) (sg X lay L R) (sg X ((d, .r R.length) :: unlean lay d) (if X d then L.set (posN d) v else L) (v :: R)) := by
        intro t a ht
        rcases sg_push hw ht with ⟨rfl, h2⟩ | ⟨h1, h2⟩
        · exact .inl ⟨hd, by rw [h2]⟩
        · exact .inr ⟨fun e => h1 (by rw [hd] at e; cases e; rfl), h2⟩
      have hLp : LXP X ((d, .r R.length) :: unlean lay d) (if X d then L.set (posN d) v else L) (v :: R) := hL.push hw hX
      cases hXd : X d with
      | true =>
        rw [hXd] at hp hst hLp
        exact ⟨_, _, rfl, hLp, hst, hp⟩
      | false =>
        rw [hXd] at hp hst hLp
        exact ⟨_, _, rfl, hLp, hst, hp⟩
    rw [runS_cons] at hx
    rcases gd_spec hg hx with ⟨hy, hgw⟩ | ⟨hy, hgw⟩
    · rcases exec_did he hcl hgw hi hy with ⟨v, h', h1, h2⟩ | hdied
      · obtain ⟨L', R', q1, q0, q2, q3⟩ := pk v h' h2
        exact .inl ⟨some v, h', L', R', h1, q1, q0, q2, q3⟩
      · exact .inr hdied
    · obtain ⟨L', R', q1, q0, q2, q3⟩ := pk _ h hy
      exact .inl ⟨_, h, L', R', .skip hgw, q1, q0, q2, q3⟩
  have push0 : ∀ (g : Option (CO × Bool)) (i : CI), o.dst = none → guardOf X ops lay R.length o = some g → compOp E (Go.Ev.res X lay R.length) o = some i →
      ∀ rest, runS (.s g none i :: rest) L R h cl k kp = some res →
      (∃ v h' L' R', Did P ops o (sg X lay L R) (Rv (Go.Ev.res X lay R.length) L R) h v h' ∧ R'.length = R.length ∧ LXP X lay L' R' ∧ SgStep o v (sg X lay L R) (sg X lay L' R') ∧ runS rest L' R' h' cl k kp = some res) ∨
      ∃ v h', Died P ops o (sg X lay L R) (Rv (Go.Ev.res X lay R.length) L R) h v h' ∧ kp v h' = some res := by
    intro g i hd hg hi rest hx
    have hst : ∀ v, SgStep o v (sg X lay L R) (sg X lay L R) := fun v t a ht => .inr ⟨by rw [hd]; simp, ht⟩
    rw [runS_cons] at hx
    rcases gd_spec hg hx with ⟨hy, hgw⟩ | ⟨hy, hgw⟩
    · rcases exec_did he hcl hgw hi hy with ⟨v, h', h1, h2⟩ | hdied
      · rw [push_eq] at h2
        exact .inl ⟨some v, h', L, R, h1, rfl, hL, hst _, h2⟩
      · exact .inr hdied
    · rw [push_eq] at hy
      exact .inl ⟨_, h, L, R, .skip hgw, rfl, hL, hst _, hy⟩
  have general : ∀ (g : Option (CO × Bool)) (i : CI), guardOf X ops lay R.length o = some g → compOp E (Go.Ev.res X lay R.length) o = some i →
      (match o.dst with
        | none => some (CS.s g none i :: out, lay, R.length)
        | some d => some (CS.s g (some (if X d then some (posN d) else none)) i :: out, (d, Loc.r R.length) :: unlean lay d, R.length + 1)) = some st' →
      LayOK st'.2.1 st'.2.2 ∧ LayX X st'.2.1 ∧ ∃ s, st'.1 = s ++ out ∧ ∀ rest, runS (s.reverse ++ rest) L R h cl k kp = some res →
      (∃ v h' L' R', Did P ops o (sg X lay L R) (Rv (Go.Ev.res X lay R.length) L R) h v h' ∧ R'.length = st'.2.2 ∧ LXP X st'.2.1 L' R' ∧ SgStep o v (sg X lay L R) (sg X st'.2.1 L' R') ∧ runS rest L' R' h' cl k kp = some res) ∨
      ∃ v h', Died P ops o (sg X lay L R) (Rv (Go.Ev.res X lay R.length) L R) h v h' ∧ kp v h' = some res := by
    intro g i hg hi hc
    cases hd : o.dst with
    | none =>
      rw [hd] at hc; cases hc
      exact ⟨hw, hX, [_], rfl, fun rest hx => push0 g i hd hg hi rest hx⟩
    | some d =>
      rw [hd] at hc; cases hc
      obtain ⟨q1, q0, q2⟩ := push1 d g i hd hg hi
      exact ⟨q1, q0, [_], rfl, fun rest hx => q2 rest hx⟩
  unfold comp1 at hc
  split at hc
  · -- a move
    rename_i x d hop hgd hd
    have hgn : guardOf X ops lay R.length o = some none := by unfold guardOf; rw [hgd]
    split at hc
    · rename_i hXd
      split at hc
      · rename_i i hi
        refine general none i hgn hi ?_
        rw [hd]; simp only [hXd]; exact hc
      · cases hc
    · rename_i hXd
      have hXd : X d = false := by simpa using hXd
      split at hc
      · cases hc
      · rename_i y hny hy
        cases hc
        refine ⟨hw.alias hy, hX.alias hXd, [], rfl, fun rest hx => ?_⟩
        have hgw : GW ops o (sg X lay L R) true := by unfold GW; rw [hgd]
        have hl : isLight o = true := by simp [isLight, hop]
        cases hv : Rv (Go.Ev.res X lay R.length) L R x with
        | none =>
          refine .inl ⟨none, h, L, R, .dark hgw hop, rfl, hL.alias hXd, ?_, hx⟩
          intro t a ht
          rcases sg_alias hy (fun e => hny e) ht with ⟨rfl, h2⟩ | ⟨h1, h2⟩
          · rw [hv] at h2; cases h2
          · exact .inr ⟨fun e => h1 (by rw [hd] at e; cases e; rfl), h2⟩
        | some v =>
          refine .inl ⟨some v, h, L, R, .pure hgw hl (pure_move hop hv), rfl, hL.alias hXd, ?_, hx⟩
          intro t a ht
          rcases sg_alias hy (fun e => hny e) ht with ⟨rfl, h2⟩ | ⟨h1, h2⟩
          · rw [hv] at h2; cases h2; exact .inl ⟨hd, rfl⟩
          · exact .inr ⟨fun e => h1 (by rw [hd] at e; cases e; rfl), h2⟩
      · cases hc
  · rename_i hd
    split at hc
    · rename_i g i hg hi
      refine general g i hg hi ?_
      rw [hd]; exact hc
    · cases hc
  · rename_i d hd _
    split at hc
    · rename_i g i hg hi
      refine general g i hg hi ?_
      rw [hd]; exact hc
    · cases hc
end Go.Ev
namespace Go.Ev
open Go Go.RowKit
variable {P : Program} {E : TyE} {o : Oper} {ops : Array Oper} {ν : Nu} {w0 : World}

theorem TmpsOK.mono {φ φ' : Phi} {σ : Sg} {a : Act} {ok ok' : Tmp → Prop} (hT : TmpsOK φ ν σ a ok) (hl : φ.le φ') (hok : ∀ t, ok' t → ok t) : TmpsOK φ' ν σ a ok' := fun t v h1 h2 => by
  obtain ⟨u, g1, g2⟩ := hT t v (hok t h1) h2
  exact ⟨u, g1, conc_mono hl _ _ g2⟩
theorem put_get {a : Act} {d t : Tmp} {u : Value} (hd : d < a.tmps.size) : (a.put (some d) u).tmps[t]? = if t = d then some u else a.tmps[t]? := by
  simp only [Act.put]
  by_cases h : t = d
  · subst h; rw [if_pos rfl, Array.getElem?_setIfInBounds_self, if_pos hd]
  · rw [if_neg h, Array.getElem?_setIfInBounds_ne (fun e => h e.symm)]
/-- what is put turns the temporaries as it should -/
theorem TmpsOK.put {φ φ' : Phi} {σ σ' : Sg} {a : Act} {ok ok' : Tmp → Prop} {v : Option AV} {u : Value} (hT : TmpsOK φ ν σ a ok) (hl : φ.le φ') (hs : SgStep o v σ σ') (hok : ∀ t, ok' t → o.dst ≠ some t → ok t)
    (hu : ∀ x, v = some x → conc φ' ν x = some u) (hd : ∀ d, o.dst = some d → d < a.tmps.size) : TmpsOK φ' ν σ' (a.put o.dst u) ok' := by
  intro t x h1 h2
  rcases hs t x h2 with ⟨g1, g2⟩ | ⟨g1, g2⟩
  · refine ⟨u, ?_, hu x g2⟩
    rw [g1, put_get (hd t g1), if_pos rfl]
  · obtain ⟨u', q1, q2⟩ := hT t x (hok t h1 g1) g2
    refine ⟨u', ?_, conc_mono hl _ _ q2⟩
    cases hdst : o.dst with
    | none => exact q1
    | some d =>
      rw [put_get (hd d hdst), if_neg (fun e => g1 (by rw [hdst, e]))]
      exact q1
theorem put_size {a : Act} {d : Option Tmp} {u : Value} : (a.put d u).tmps.size = a.tmps.size := by cases d <;> simp [Act.put]
theorem put_defers {a : Act} {d : Option Tmp} {u : Value} : (a.put d u).defers = a.defers := by cases d <;> rfl
/-- a new block, made at once -/
theorem NewAt.now {φ : Phi} {h : AH} {w : World} {ρ : Rho} {ρc : Operand → Value} {ob : AObj} {v : AV} (hn : NewAt P o ρ h.next ob v) (H : HR ν w0 φ h w) (hA : Agree φ ν o ρ ρc) :
    ∃ φ' w' u, Ev φ h φ' (h.alloc ob) ∧ HR ν w0 φ' (h.alloc ob) w' ∧ conc φ' ν v = some u ∧ (execOp ρc o).run P w = .ok (.value u) w' := by
  obtain ⟨hcl, hn⟩ := hn
  have hf : φ h.next = none := (H.fr h.next (Nat.le_refl _)).1
  obtain ⟨H1, ev1⟩ := H.alloc ob
  obtain ⟨O, i, u, h1, h2, h3, h4⟩ := hn φ ν w0.heap.size (h.alloc ob).cls w ρc hf H.below.size hA
  have hget : (h.alloc ob).objs.get h.next = some ob := by
    show PT.get h.next (PT.set h.next _ h.objs) = _
    rw [PT.get_set, if_pos rfl]
  have hc : clsOf (h.alloc ob) h.next = none := by
    unfold clsOf; rw [hget]
    cases ob with
    | cells esz n cs ro cls => exact hcl esz n cs ro cls rfl
    | _ => rfl
  refine ⟨_, _, u, ⟨Phi.le_upd hf, ?_, ev1.next⟩, H1.make hf hget h1 hc h2, h3, h4⟩
  intro p hp hlt
  have : p ≠ h.next := fun e => by subst e; omega
  rw [Phi.upd_ne this]; exact ev1.pend p hp hlt
/-- an operation that is not light, or light and done at once: the world's side -/
theorem did_wp {φ : Phi} {h h' : AH} {w : World} {σ : Sg} {ρ : Rho} {a : Act} {v : Option AV} {i : Nat} {ok : Tmp → Prop} {K : Act → World → Prop} {Q : Exit → Act → World → Prop} (hi : ops[i]? = some o)
    (hd : Did P ops o σ ρ h v h') (H : HR ν w0 φ h w) (hA : Agree φ ν o ρ a.eval) (hT : TmpsOK φ ν σ a ok) (hg : ∀ j w d, o.guard = some (j, w) → (ops[j]?).bind (·.dst) = some d → ok d)
    (hK : ∀ φ' w' u, Ev φ h φ' h' → HR ν w0 φ' h' w' → (∀ x, v = some x → conc φ' ν x = some u) → K (a.put o.dst u) w') : wpOp P ops Q i K a w := by
  unfold wpOp
  simp only [hi]
  -- the operation runs to a value
  have val : ∀ {φ' : Phi} {w' : World} {u : Value}, Region.wanted o (yielded ops a.tmps) = true → Ev φ h φ' h' → HR ν w0 φ' h' w' → (∀ x, v = some x → conc φ' ν x = some u) →
      ((execOp a.eval o).run P w = .ok (.value u) w' ∨ ((execOp a.eval o).run P w = .ok .skip w' ∧ u = undef)) →
      (if Region.wanted o (yielded ops a.tmps) then o.wp P a w K Q ∨ (o.asks P a w ∧ LetsOut Q) else K (a.put o.dst undef) w) := by
    intro φ' w' u hw ev H' hu hr
    rw [if_pos hw]
    refine .inl ?_
    unfold Oper.wp
    rcases hr with hr | ⟨hr, rfl⟩
    · rw [hr]; exact hK φ' w' u ev H' hu
    · rw [hr]; exact hK φ' w' _ ev H' hu
  cases hd with
  | skip hgw =>
    rw [if_neg (by rw [hgw.wanted hT hg]; simp)]
    exact hK φ w undef (Ev.refl _ _) H (fun x hx => by cases hx; exact conc_unit)
  | pure hgw hl hp =>
    obtain ⟨u, h1, h2⟩ := hp φ ν a.eval w hA
    exact val (hgw.wanted hT hg) (Ev.refl _ _) H (fun x hx => by cases hx; exact h1) (.inl h2)
  | read hgw hl hrd hr =>
    obtain ⟨u, h1, h2⟩ := hr.now φ ν w0 w a.eval H hA
    exact val (hgw.wanted hT hg) (Ev.refl _ _) H (fun x hx => by cases hx; exact h1) (.inl h2)
  | new hgw hl hn =>
    obtain ⟨φ', w', u, h1, h2, h3, h4⟩ := hn.now H hA
    exact val (hgw.wanted hT hg) h1 h2 (fun x hx => by cases hx; exact h3) (.inl h4)
  | big hgw hl hb =>
    obtain ⟨φ', w', u, h1, h2, h3, h4⟩ := hb φ ν w0 w a.eval H hA
    exact val (hgw.wanted hT hg) h1 h2 (fun x hx => by cases hx; exact h3) h4
  | call hgw hl hc ha =>
    obtain ⟨us, h1, h2⟩ := hc φ ν w a.eval hA
    rw [if_pos (hgw.wanted hT hg)]
    refine .inl ?_
    unfold Oper.wp
    rw [h2]
    rcases ha φ ν w0 w us H h1 with ⟨h3, h4⟩ | ⟨u, w', h3, φ', u', ev, H', hc', hu⟩
    · rw [h3]
      rw [Oper.upon_enter]
      refine Calls.mono h4 ?_
      rintro e w' ⟨φ', u, ev, H', hcu, he⟩
      cases e with
      | returned x => obtain ⟨_, rfl⟩ := he; exact hK φ' w' _ ev H' (fun y hy => by cases hy; exact hcu)
      | panicked c => exact absurd he.1 (by simp)
      | outgrown => exact he.elim
    · rw [h3]
      obtain ⟨_, rfl⟩ := hu
      exact hK φ' w' _ ev H' (fun y hy => by cases hy; exact hc')
  | dark hgw hop =>
    rename_i x
    have hr : (execOp a.eval o).run P w = .ok (.value (a.eval x)) w := by simp [execOp, hop]
    exact val (hgw.wanted hT hg) (Ev.refl _ _) H (fun x hx => by cases hx) (.inl hr)
/-- an operation that panics -/
theorem died_wp {φ : Phi} {h h' : AH} {w : World} {σ : Sg} {ρ : Rho} {a : Act} {v : AV} {i : Nat} {ok : Tmp → Prop} {K : Act → World → Prop} {Q : Exit → Act → World → Prop} (hi : ops[i]? = some o)
    (hd : Died P ops o σ ρ h v h') (H : HR ν w0 φ h w) (hA : Agree φ ν o ρ a.eval) (hT : TmpsOK φ ν σ a ok) (hg : ∀ j w d, o.guard = some (j, w) → (ops[j]?).bind (·.dst) = some d → ok d)
    (hQ : ∀ φ' w' u, Ev φ h φ' h' → HR ν w0 φ' h' w' → conc φ' ν v = some u → Q (.panic [{ v := u, recovered := false }]) a w') : wpOp P ops Q i K a w := by
  unfold wpOp
  simp only [hi]
  cases hd with
  | call hgw hl hc ha =>
    obtain ⟨us, h1, h2⟩ := hc φ ν w a.eval hA
    rw [if_pos (hgw.wanted hT hg)]
    refine .inl ?_
    unfold Oper.wp
    rw [h2]
    rcases ha φ ν w0 w us H h1 with ⟨h3, h4⟩ | ⟨u, w', h3, φ', u', ev, H', hc', hu⟩
    · rw [h3]
      rw [Oper.upon_enter]
      refine Calls.mono h4 ?_
      rintro e w' ⟨φ', u, ev, H', hcu, he⟩
      cases e with
      | returned x => exact absurd he.1 (by simp)
      | panicked c => obtain ⟨_, rfl⟩ := he; exact hQ φ' w' _ ev H' hcu
      | outgrown => exact he.elim
    · exact absurd hu.1 (by simp)
  | pan hgw hl hp =>
    obtain ⟨u, h1, h2⟩ := hp φ ν w a.eval hA
    rw [if_pos (hgw.wanted hT hg)]
    refine .inl ?_
    unfold Oper.wp
    rw [h2]
    exact hQ φ w u (Ev.refl _ _) H h1
end Go.Ev
namespace Go.Ev
open Go Go.RowKit
variable {P : Program} {E : TyE} {ops : Array Oper} {ν : Nu} {w0 : World} {β : Type} {h : AH} {cl : Callee β} {k : PT AV → AH → Option β} {kp : AV → AH → Option β} {res : β} {X : Tmp → Bool}

abbrev All : Tmp → Prop := fun _ => True
/-- a row of operations goes through -/
def Goes (P : Program) (ops : Array Oper) (idx : List Nat) (N : Nat) (σ : Sg) (h : AH) (σ' : Sg) (h' : AH) : Prop :=
  ∀ (Q : Exit → Act → World → Prop) (more : List Nat) (φ : Phi) (ν : Nu) (w0 w : World) (a : Act), HR ν w0 φ h w → TmpsOK φ ν σ a All → a.tmps.size = N →
    (∀ φ' w' a', Ev φ h φ' h' → HR ν w0 φ' h' w' → TmpsOK φ' ν σ' a' All → a'.tmps.size = N → a'.defers = a.defers → wpOps P ops Q more a' w') → wpOps P ops Q (idx ++ more) a w
def Dies (P : Program) (ops : Array Oper) (idx : List Nat) (N : Nat) (σ : Sg) (h : AH) (v : AV) (h' : AH) : Prop :=
  ∀ (Q : Exit → Act → World → Prop) (more : List Nat) (φ : Phi) (ν : Nu) (w0 w : World) (a : Act), HR ν w0 φ h w → TmpsOK φ ν σ a All → a.tmps.size = N →
    (∀ φ' w' a' u, Ev φ h φ' h' → HR ν w0 φ' h' w' → conc φ' ν v = some u → a'.defers = a.defers → Q (.panic [{ v := u, recovered := false }]) a' w') → wpOps P ops Q (idx ++ more) a w
theorem seq_spec {N : Nat} (he : EnvOK P E) (hcl : ClOK P cl) (hN : ∀ o ∈ ops, ∀ d, o.dst = some d → d < N) : ∀ (l : List Oper) (k0 : Nat) (out : List CS) (lay : Lay) (n : Nat) (st' : St),
    (∀ j, j < l.length → ops[k0 + j]? = l[j]?) → LayOK lay n → LayX X lay → compOps E X ops l (out, lay, n) = some st' →
    ∃ s, st'.1 = s ++ out ∧ ∀ (h : AH) (L : PT AV) (R : List AV) (rest : List CS), R.length = n → LXP X lay L R → runS (s.reverse ++ rest) L R h cl k kp = some res →
      (∃ L' R' h', Goes P ops (List.range' k0 l.length) N (sg X lay L R) h (sg X st'.2.1 L' R') h' ∧ LXP X st'.2.1 L' R' ∧ runS rest L' R' h' cl k kp = some res) ∨
      ∃ v h', Dies P ops (List.range' k0 l.length) N (sg X lay L R) h v h' ∧ kp v h' = some res
  | [], k0, out, lay, n, st', _, hw, hX, hc => by
    simp only [compOps, Option.some.injEq] at hc
    subst hc
    refine ⟨[], rfl, fun h L R rest hR hL hx => .inl ⟨L, R, h, ?_, hL, hx⟩⟩
    intro Q more φ ν w0 w a H hT hs hK
    exact hK φ w a (Ev.refl _ _) H hT hs rfl
  | o :: l, k0, out, lay, n, st', hops, hw, hX, hc => by
    simp only [compOps] at hc
    split at hc
    · rename_i st1 h1
      have hi : ops[k0]? = some o := by simpa using hops 0 (by simp)
      have hom : o ∈ ops := by
        obtain ⟨hlt, he⟩ := Array.getElem?_eq_some_iff.1 hi
        rw [← he]; exact Array.getElem_mem hlt
      -- the state behind the first
      have step := fun (h : AH) (L : PT AV) (R : List AV) (hR : R.length = n) (hL : LXP X lay L R) =>
        comp1_spec (P := P) (h := h) (L := L) (R := R) (k := k) (kp := kp) (res := res) (cl := cl) he hcl (by rw [hR]; exact hw) hX hL (by rw [hR]; exact h1)
      -- its shape does not hang on the values
      obtain ⟨hw1, hX1, s1, hs1⟩ : LayOK st1.2.1 st1.2.2 ∧ LayX X st1.2.1 ∧ ∃ s1, st1.1 = s1 ++ out ∧ True := by
        have hR : (List.replicate n (AV.nilp)).length = n := by simp
        obtain ⟨a1, a2, s, a3, _⟩ := comp1_spec (P := P) (h := ⟨.e, .one, .e⟩) (L := (.e : PT AV)) (R := List.replicate n AV.nilp) (k := k) (kp := kp) (res := res) (cl := cl) he hcl (by rw [hR]; exact hw) hX
          (fun t a _ ht => by cases hp : posN t <;> rw [hp] at ht <;> cases ht) (by rw [hR]; exact h1)
        exact ⟨a1, a2, s, a3, trivial⟩
      obtain ⟨hs1, _⟩ := hs1
      obtain ⟨s2, hs2, ih⟩ := seq_spec (N := N) he hcl hN l (k0 + 1) st1.1 st1.2.1 st1.2.2 st' (fun j hj => by
        have := hops (j + 1) (by simp; omega)
        rw [show k0 + 1 + j = k0 + (j + 1) from by omega]; simpa using this) hw1 hX1 hc
      refine ⟨s2 ++ s1, by rw [hs2, hs1, List.append_assoc], fun h L R rest hR hL hx => ?_⟩
      obtain ⟨_, _, s, a3, a4⟩ := step h L R hR hL
      have hss : s = s1 := by rw [hs1] at a3; exact (List.append_cancel_right a3).symm
      subst hss
      rw [List.reverse_append, List.append_assoc] at hx
      have hrange : List.range' k0 (o :: l).length = k0 :: List.range' (k0 + 1) l.length := by simp [List.range'_succ]
      rcases a4 _ hx with ⟨v, h', L', R', hd, hR', hL', hst, hx'⟩ | ⟨v, h', hd, hkp⟩
      · have first : ∀ (Q : Exit → Act → World → Prop) (K : Act → World → Prop) (φ : Phi) (ν : Nu) (w0 w : World) (a : Act), HR ν w0 φ h w → TmpsOK φ ν (sg X lay L R) a All → a.tmps.size = N →
            (∀ φ' w' a', Ev φ h φ' h' → HR ν w0 φ' h' w' → TmpsOK φ' ν (sg X st1.2.1 L' R') a' All → a'.tmps.size = N → a'.defers = a.defers → K a' w') → wpOp P ops Q k0 K a w := by
          intro Q K φ ν w0 w a H hT hsz hK
          have hA := agree_of (o := o) hT (fun _ _ => trivial)
          refine did_wp hi hd H hA hT (fun _ _ _ _ _ => trivial) ?_
          intro φ' w' u ev H' hu
          exact hK φ' w' _ ev H' (hT.put ev.le hst (fun _ _ _ => trivial) hu (fun d hd => by rw [hsz]; exact hN o hom d hd)) (by rw [put_size]; exact hsz) put_defers
        rcases ih h' L' R' rest hR' hL' hx' with ⟨L2, R2, h2, g1, g2, g3⟩ | ⟨v2, h2, g1, g2⟩
        · refine .inl ⟨L2, R2, h2, ?_, g2, g3⟩
          intro Q more φ ν w0 w a H hT hsz hK
          rw [hrange, List.cons_append, wpOps_cons]
          refine first Q _ φ ν w0 w a H hT hsz ?_
          intro φ' w' a' ev H' hT' hsz' hdf
          refine g1 Q more φ' ν w0 w' a' H' hT' hsz' ?_
          intro φ'' w'' a'' ev' H'' hT'' hsz'' hdf'
          exact hK φ'' w'' a'' (ev.trans ev') H'' hT'' hsz'' (hdf'.trans hdf)
        · refine .inr ⟨v2, h2, ?_, g2⟩
          intro Q more φ ν w0 w a H hT hsz hQ
          rw [hrange, List.cons_append, wpOps_cons]
          refine first Q _ φ ν w0 w a H hT hsz ?_
          intro φ' w' a' ev H' hT' hsz' hdf
          refine g1 Q more φ' ν w0 w' a' H' hT' hsz' ?_
          intro φ'' w'' a'' u ev' H'' hu hdf'
          exact hQ φ'' w'' a'' u (ev.trans ev') H'' hu (hdf'.trans hdf)
      · refine .inr ⟨v, h', ?_, hkp⟩
        intro Q more φ ν w0 w a H hT hsz hQ
        rw [hrange, List.cons_append, wpOps_cons]
        have hA := agree_of (o := o) hT (fun _ _ => trivial)
        exact died_wp hi hd H hA hT (fun _ _ _ _ _ => trivial) (fun φ' w' u ev H' hu => hQ φ' w' a u ev H' hu rfl)
    · cases hc
end Go.Ev
