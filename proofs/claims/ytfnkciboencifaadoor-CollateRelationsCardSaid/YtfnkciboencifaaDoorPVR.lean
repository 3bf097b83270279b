/-
  The clean machine: functions whose results stand in variables of their own.
-/
import Derived.Test.YtfnkciboencifaaDoorPV14
set_option linter.all false
namespace Go.Proofs.YtfnkciboencifaaDoor
open Go Go.RowKit
set_option linter.unusedVariables false

/-- What the results' variables hold. -/
def resVs (P : Program) (S : St) : List ResultVar → Option (List PV)
  | [] => some []
  | .tmp t :: l => (resVs P S l).map (S.get t :: ·)
  | .cell a t :: l => match S.get a, tAgg P t, tSize P t with
    | .ptr i sz k c, some ag, some m => match S.obj i with
      | some o => if o.sz = sz ∧ k < o.els.length ∧ (bif ag then decide (c + m ≤ (o.els.getD k .junk).cells.length) else decide (c < (o.els.getD k .junk).cells.length)) = true then (resVs P S l).map ((o.els.getD k .junk).part ag c m :: ·) else none
      | none => none
    | _, _, _ => none
/-- The state with the results in its first slots. -/
def resSt (S : St) (vs : List PV) : St := ⟨argEnv 0 vs, S.hp, S.nx, S.gh⟩
def ResR (P : Program) (S : St) (rv : List ResultVar) (r : PV) (os : List AO) : Prop := ∃ vs, resVs P S rv = some vs ∧ ResOk (resSt S vs) (List.range vs.length) r os
def ResPR (P : Program) (S : St) (rv : List ResultVar) (r : PV) (hp : List AO) (hp' : List (Option AO)) (os : List AO) : Prop := ∃ vs, resVs P S rv = some vs ∧ ResP (resSt S vs) (List.range vs.length) r hp hp' os
def retQR (P : Program) (rv : List ResultVar) (r : PV) (os : List AO) : Exit → St → Prop
  | .normal, S => ResR P S rv r os
  | .ret, S => ResR P S rv r os
  | _, _ => False
def retPR (P : Program) (rv : List ResultVar) (r : PV) (hp : List AO) (hp' : List (Option AO)) (os : List AO) : Exit → St → Prop
  | .normal, S => ResPR P S rv r hp hp' os
  | .ret, S => ResPR P S rv r hp hp' os
  | _, _ => False
theorem argEnv_range (S : St) (vs : List PV) : (List.range vs.length).map (resSt S vs).get = vs := by
  apply List.ext_getElem
  · simp
  · intro i h1 h2
    simp only [List.getElem_map, List.getElem_range]
    show (lk (argEnv 0 vs) i).getD .junk = _
    rw [lk_argEnv]; simp [h2]
theorem retV_resSt (S : St) (vs : List PV) : retV (resSt S vs) (List.range vs.length) = match vs with | [v] => v | vs => .tup vs := by
  have := argEnv_range S vs
  match vs, this with
  | [], _ => rfl
  | [v], _ => rfl
  | a :: b :: l, h =>
    have e : List.range (a :: b :: l).length = 0 :: 1 :: (List.range l.length).map (· + 2) := by
      have h1 := List.range_succ_eq_map (n := (b :: l).length)
      simp only [List.length_cons] at h1 ⊢
      rw [h1, List.range_succ_eq_map]; simp
    rw [e] at h ⊢
    show PV.tup _ = _
    rw [h]
section
variable {P : Program} {n : Nat} {S : St} {Q : Exit → St → Prop}
theorem tup_rep {D : Nat → Prop} {μ : Nat → Option Nat} {F : Nat → Prop} {w : World} {xs : List Value} {vs : List PV} (hl : xs.length = vs.length) (h : ∀ i (h : i < vs.length), Rep D μ F w vs[i] (xs.getD i undef)) :
    Rep D μ F w (match vs with | [v] => v | vs => .tup vs) (if h : xs.toArray.size = 1 then xs.toArray[0] else .tuple xs.toArray) := by
  match vs, xs with
  | [v], [x] => simpa using h 0 (by simp)
  | [], [] => simp; exact .tup _ _ rfl (fun i hi => by simp at hi)
  | a :: b :: r, x :: y :: z =>
    rw [dif_neg (by simp)]
    refine .tup _ _ (by simpa using hl) fun i hi => ?_
    have := h i hi
    simpa [Array.getD_eq_getD_getElem?, List.getD_eq_getElem?_getD] using this
  | [], x :: z => simp at hl
  | [v], [] => simp at hl
  | [v], x :: y :: z => simp at hl
  | a :: b :: r, [] => simp at hl
  | a :: b :: r, [x] => simp at hl
theorem run_resVs {w0 : Home} {F0 D : Nat → Prop} {μ : Nat → Option Nat} {F : Nat → Prop} {w : World} {fn : Func} {rv : List ResultVar} (hr : fn.results = rv.toArray) {tmps : Array Value} (hH : HeapSim w0 F0 D μ F S.obj w) (he : ∀ s, Rep D μ F w (S.get s) (tmps.getD s undef)) {vs : List PV} (hvs : resVs P S rv = some vs) :
    ∃ v, (results fn tmps).run P w = .ok v w ∧ Rep D μ F w (retV (resSt S vs) (List.range vs.length)) v := by
  let f : ResultVar → Sem Value := fun
    | .tmp t => pure (tmps.getD t undef)
    | .cell a t => do loadVar t (← asAddr (tmps.getD a undef))
  have key : ∀ (l : List ResultVar) (vs : List PV), resVs P S l = some vs → ∃ xs : List Value, (l.mapM f).run P w = .ok xs w ∧ xs.length = vs.length ∧ ∀ i (h : i < vs.length), Rep D μ F w vs[i] (xs.getD i undef) := by
    intro l
    induction l with
    | nil => intro vs h; cases h; exact ⟨[], by simp, rfl, fun i h => by simp at h⟩
    | cons x l ih =>
      intro vs h
      cases x with
      | tmp t =>
        simp only [resVs] at h
        cases hl : resVs P S l with
        | none => rw [hl] at h; cases h
        | some vs' =>
          rw [hl] at h; cases h
          obtain ⟨xs, h1, h2, h3⟩ := ih vs' hl
          refine ⟨tmps.getD t undef :: xs, ?_, by simp [h2], fun i hi => ?_⟩
          · rw [List.mapM_cons, Sem.run_bind, show (f (.tmp t)).run P w = .ok (tmps.getD t undef) w from rfl]
            simp only [Result.andThen_ok, Sem.run_bind, h1, Sem.run_pure]
          · cases i with
            | zero => simpa using he t
            | succ i => simpa using h3 i (by simpa using hi)
      | cell a t =>
        simp only [resVs] at h
        split at h <;> try (cases h; done)
        rename_i i sz k c ag m hp ha hm
        split at h <;> try (cases h; done)
        rename_i o ho
        split at h <;> try (cases h; done)
        rename_i hc
        cases hl : resVs P S l with
        | none => rw [hl] at h; cases h
        | some vs' =>
          rw [hl] at h; cases h
          obtain ⟨xs, h1, h2, h3⟩ := ih vs' hl
          have hrep := he a
          rw [hp] at hrep
          generalize hu : tmps.getD a undef = u at hrep
          cases hrep with
          | ptr _ _ _ _ b hD hb =>
            have hok := hH.ok ho hb
            have hk := hc.2.1
            have hin := hc.2.2
            rw [cellget _ _ hk] at hin ⊢
            have hin' : bif ag then c + m ≤ o.els[k].cells.length else c < o.els[k].cells.length := by
              cases ag
              · simp only [cond_false] at hin ⊢; exact of_decide_eq_true hin
              · simp only [cond_true] at hin ⊢; exact of_decide_eq_true hin
            obtain ⟨v, g1, g2⟩ := run_loadVar_part (D := D) (μ := μ) (F := F) (w := w) (ad := ⟨b, k * sz + c, none⟩) ha hm hin' rfl (fun j hj hcj => by
              obtain ⟨v, g1, _, g3⟩ := hok.cell hk hj
              refine ⟨v, ?_, g3⟩
              rw [← hc.1]
              rw [show k * o.sz + c + (j - c) = k * o.sz + j by omega]; exact g1)
            refine ⟨v :: xs, ?_, by simp [h2], fun i hi => ?_⟩
            · rw [List.mapM_cons, Sem.run_bind, show (f (.cell a t)).run P w = .ok v w by
                show (do loadVar t (← asAddr (tmps.getD a undef)) : Sem Value).run P w = _
                rw [hu]; simpa [asAddr] using g1]
              simp only [Result.andThen_ok, Sem.run_bind, h1, Sem.run_pure]
            · cases i with
              | zero => simpa using g2
              | succ i => simpa using h3 i (by simpa using hi)
  obtain ⟨xs, h1, h2, h3⟩ := key rv vs hvs
  refine ⟨if h : xs.toArray.size = 1 then xs.toArray[0] else .tuple xs.toArray, ?_, ?_⟩
  · have e : results fn tmps = (do let vs ← fn.results.mapM f; pure (if h : vs.size = 1 then vs[0] else .tuple vs)) := rfl
    rw [e, hr, Array.mapM_eq_mapM_toList, Sem.run_bind, Sem.run_map, show (rv.toArray.toList.mapM f).run P w = .ok xs w by simpa using h1]
    rfl
  · rw [retV_resSt]; exact tup_rep h2 h3

theorem PureCall.introR {f : FuncId} {fn : Func} {c : Code} {args : List PV} {r : PV} {os : List AO} {rv : List ResultVar} (hf : P.funcs[f]? = some fn) (hb : fn.body = some c) (hr : fn.results = rv.toArray) (hn : fn.ntmps = n) (hla : args.length ≤ n) (hpure : args.all PV.pure = true)
    (h : Tri P n c ⟨argEnv 0 args, [], 0, []⟩ (retQR P rv r os)) : PureCall P f args r os := by
  intro D μ F w vs hvs hargs hFs
  refine calls_of_wp hf hb ?_
  have hS : Sim ⟨w, fun _ => False⟩ F (fun _ => False) μ F [] ⟨argEnv 0 args, [], 0, []⟩ n { tmps := vs ++ Array.replicate (fn.ntmps - vs.size) undef, defers := [] } w := by
    refine ⟨rfl, by simp [hvs, hn]; omega, fun s => ?_, ⟨fun i o hi => (by cases hi), fun i j o o' b hi => (by cases hi), fun i o b hi => (by cases hi), Ext.refl _ _, fun b hb => .inl hb, hFs⟩, fun i hi => hi.elim, rfl, fun i hi => by simp at hi⟩
    show Rep _ μ F w ((lk (argEnv 0 args) s).getD .junk) _
    rw [lk_argEnv]
    simp only [Nat.zero_le, if_true, Nat.sub_zero]
    by_cases hs : s < args.length
    · rw [List.getElem?_eq_getElem hs]
      simp only [Option.getD_some]
      have e : (vs ++ Array.replicate (fn.ntmps - vs.size) undef).getD s undef = vs.getD s undef := by
        simp only [Array.getD_eq_getD_getElem?]
        rw [Array.getElem?_append_left (by omega)]
      rw [e]
      exact (hargs s hs).pureAny (all_get hpure s hs)
    · rw [List.getElem?_eq_none (by omega)]
      exact .junk _
  refine wp_mono (h _ F _ μ F [] _ w hS) fun e a' w' ⟨S', D', μ', F', h1, h2⟩ => ?_
  have fin : ResR P S' rv r os → a'.defers = [] ∧ ∃ v, (results fn a'.tmps).run P w' = .ok v w' ∧ ∃ v', Ending.returned v = .returned v' ∧ Below w.heap.size w w' ∧ ResIs F w w' r os v' := fun ⟨vs, hvs, hres⟩ => by
    obtain ⟨v, hv, hrep⟩ := run_resVs (P := P) (S := S') hr h2.heap h2.env hvs
    exact ⟨h2.defers, v, hv, v, rfl, h2.heap.ext.below (fun _ h => h), hres.is h2.heap h2.ids hrep⟩
  cases e with
  | normal => exact fin h1
  | ret => exact fin h1
  | exit id => exact h1.elim
  | goto l => exact h1.elim
  | panic ch => exact h1.elim
  | outgrown => exact h1.elim

theorem ProcCall.introR {f : FuncId} {fn : Func} {c : Code} {args : List PV} {hp : List AO} {r : PV} {hp' : List (Option AO)} {os : List AO} {rv : List ResultVar} (hf : P.funcs[f]? = some fn) (hb : fn.body = some c) (hr : fn.results = rv.toArray) (hn : fn.ntmps = n) (hla : args.length ≤ n)
    (hlen : hp'.length = hp.length) (h : Tri P n c ⟨argEnv 0 args, objEnv 0 (hp.map some), hp.length, marks 0 hp⟩ (retPR P rv r hp hp' os)) : ProcCall P f args hp r hp' os := by
  refine ⟨hlen, fun μ F w vs hH hvs hargs => calls_of_wp hf hb ?_⟩
  have hobj : (St.mk (argEnv 0 args) (objEnv 0 (hp.map some)) hp.length (marks 0 hp)).obj = fun i => hp[i]? := by
    funext i
    show (lk (objEnv 0 (hp.map some)) i).join = _
    rw [lk_objEnv]
    simp only [Nat.zero_le, if_true, Nat.sub_zero, List.getElem?_map]
    cases hp[i]? <;> rfl
  have hS : Sim ⟨w, fun b => ∃ i, i < hp.length ∧ μ i = some b⟩ F (· < hp.length) μ F ((List.range hp.length).map fun i => placeV (μ i)) ⟨argEnv 0 args, objEnv 0 (hp.map some), hp.length, marks 0 hp⟩ n { tmps := vs ++ Array.replicate (fn.ntmps - vs.size) undef, defers := [] } w := by
    refine ⟨rfl, by simp [hvs, hn]; omega, fun s => ?_, by rw [hobj]; exact hH, fun i hi => hi, by simp [marks_length], fun i hi => ?_⟩
    · show Rep _ μ F w ((lk (argEnv 0 args) s).getD .junk) _
      rw [lk_argEnv]
      simp only [Nat.zero_le, if_true, Nat.sub_zero]
      by_cases hs : s < args.length
      · rw [List.getElem?_eq_getElem hs]
        simp only [Option.getD_some]
        have e : (vs ++ Array.replicate (fn.ntmps - vs.size) undef).getD s undef = vs.getD s undef := by
          simp only [Array.getD_eq_getD_getElem?]
          rw [Array.getElem?_append_left (by omega)]
        rw [e]
        exact hargs s hs
      · rw [List.getElem?_eq_none (by omega)]
        exact .junk _
    · simp only at hi
      have hi' : i < hp.length := by rwa [marks_length] at hi
      have e1 : (marks 0 hp)[i]'hi = .ob i (hp[i]).sz 0 0 := by
        have := marks_get hp 0 i
        rw [List.getElem?_eq_getElem hi, List.getElem?_eq_getElem hi'] at this
        simpa using this
      have e2 : ((List.range hp.length).map fun i => placeV (μ i)).getD i undef = placeV (μ i) := by simp [List.getD_eq_getElem?_getD, hi']
      rw [e1, e2]
      cases hm : μ i with
      | none => exact .obn i _ hi' hm
      | some b =>
        have := Rep.ob (D := (· < hp.length)) (μ := μ) (F := F) (w := w) i (hp[i]).sz 0 0 0 b hi' hm (Nat.le_refl _) (by unfold maxLen; omega) (by simp)
        simpa [placeV] using this
  refine wp_mono (h _ F _ μ F _ _ w hS) fun e a' w' ⟨S', D', μ', F', h1, h2⟩ => ?_
  have fin : ResPR P S' rv r hp hp' os → a'.defers = [] ∧ ∃ v, (results fn a'.tmps).run P w' = .ok v w' ∧ ∃ v', Ending.returned v = .returned v' ∧ ∃ (μ2 : Nat → Option Nat) (F2 : Nat → Prop), Rep (· < hp.length + os.length) μ2 F2 w' r v' ∧
      HeapSim ⟨w, fun b => ∃ i, i < hp.length ∧ μ i = some b⟩ F (· < hp.length + os.length) μ2 F2 (fun i => ((hp' ++ os.map some)[i]?).join) w' ∧ (∀ i, i < hp.length → μ2 i = μ i) := fun ⟨vs, hvs, L, k, hr1, hl0⟩ => by
    have hl : LeqS k L S' ⟨[], objEnv 0 (hp' ++ os.map some), hp'.length + os.length, marks 0 hp⟩ := ⟨fun p hp => (by cases hp), hl0.hp, hl0.nx, hl0.nodup, hl0.ghl, hl0.gh⟩
    have hr1 : sealed S'.obj (fun i => L.contains i) k (retV (resSt S' vs) (List.range vs.length)) = r.ren (rmap L S'.nx) := hr1
    obtain ⟨v, hv, hrep⟩ := run_resVs (P := P) (S := S') hr h2.heap h2.env hvs
    have h3 := h2.leq ⟨k, hl⟩
    have hD : ∀ i, D' (rmap L S'.nx i) → i < hp.length + os.length ∧ μ' (rmap L S'.nx i) = μ' (rmap L S'.nx i) := fun i hi => ⟨by
      have := h3.ids i hi
      have e : (St.mk [] (objEnv 0 (hp' ++ os.map some)) (hp'.length + os.length) (marks 0 hp)).nx = hp'.length + os.length := rfl
      rw [e] at this; omega, rfl⟩
    refine ⟨h2.defers, v, hv, v, rfl, fun i => μ' (rmap L S'.nx i), frz S' L μ' F', ?_, ?_, fun i hi => ?_⟩
    · have := Rep.sealed h2.heap (fun i => L.contains i) (frz S' L μ' F') (fun b h => .inl h) (fun i o b h1 h2 h3 => .inr ⟨i, o, h1, h2, h3⟩) k _ _ hrep
      rw [hr1] at this
      exact this.ren_inv hD _ rfl
    · have := h3.heap.widen (D' := (· < hp.length + os.length)) (fun i hi => (hD i hi).1)
      have e : (St.mk [] (objEnv 0 (hp' ++ os.map some)) (hp'.length + os.length) (marks 0 hp)).obj = fun i => ((hp' ++ os.map some)[i]?).join := by
        funext i
        show (lk (objEnv 0 (hp' ++ os.map some)) i).join = _
        rw [lk_objEnv]; simp
      rw [e] at this
      exact this
    · have hi2 : i < (marks 0 hp).length := by rw [marks_length]; exact hi
      have := h3.gh i hi2
      have e1 : (marks 0 hp)[i]'hi2 = .ob i (hp[i]).sz 0 0 := by
        have := marks_get hp 0 i
        rw [List.getElem?_eq_getElem hi2, List.getElem?_eq_getElem hi] at this
        simpa using this
      have e2 : ((List.range hp.length).map fun i => placeV (μ i)).getD i undef = placeV (μ i) := by simp [List.getD_eq_getElem?_getD, hi]
      simp only [e1, e2] at this
      generalize hpv : placeV (μ i) = pv at this
      cases this with
      | ob _ _ _ _ cap b g1 g2 g3 g4 g5 =>
        show μ' (rmap L S'.nx i) = μ i
        rw [g2]
        cases hm : μ i with
        | none => rw [hm] at hpv; cases hpv
        | some b2 => rw [hm] at hpv; simp only [placeV, Value.slice.injEq, Option.some.injEq, Addr.mk.injEq] at hpv; rw [hpv.1.1]
      | obn _ _ g1 g2 =>
        show μ' (rmap L S'.nx i) = μ i
        rw [g2]
        cases hm : μ i with
        | none => rfl
        | some b2 => rw [hm] at hpv; cases hpv
  cases e with
  | normal => exact fin h1
  | ret => exact fin h1
  | exit id => exact h1.elim
  | goto l => exact h1.elim
  | panic ch => exact h1.elim
  | outgrown => exact h1.elim
theorem Pure.introR {f : FuncId} {fn : Func} {c : Code} {args : List PV} {r : PV} {os : List AO} {rv : List ResultVar} (hf : P.funcs[f]? = some fn) (hname : (fn.name == "runtime.NumGoroutine") = false) (hb : fn.body = some c) (hr : fn.results = rv.toArray) (hn : fn.ntmps = n) (hla : args.length ≤ n) (hpure : args.all PV.pure = true)
    (h : Tri P n c ⟨argEnv 0 args, [], 0, []⟩ (retQR P rv r os)) : Pure P f args r os := ⟨Go.Proofs.enters_of hf hname hb, PureCall.introR hf hb hr hn hla hpure h⟩
theorem Proc.introR {f : FuncId} {fn : Func} {c : Code} {args : List PV} {hp : List AO} {r : PV} {hp' : List (Option AO)} {os : List AO} {rv : List ResultVar} (hf : P.funcs[f]? = some fn) (hname : (fn.name == "runtime.NumGoroutine") = false) (hb : fn.body = some c) (hr : fn.results = rv.toArray) (hn : fn.ntmps = n) (hla : args.length ≤ n)
    (hlen : hp'.length = hp.length) (h : Tri P n c ⟨argEnv 0 args, objEnv 0 (hp.map some), hp.length, marks 0 hp⟩ (retPR P rv r hp hp' os)) : Proc P f args hp r hp' os := ⟨Go.Proofs.enters_of hf hname hb, ProcCall.introR hf hb hr hn hla hlen h⟩
end
end Go.Proofs.YtfnkciboencifaaDoor

