/-
  Walks: the reference model of collations: relations.
-/
import Derived.Test.YtfnkciboencifaaDoorPS0
import Derived.Test.YtfnkciboencifaaDoorPW3
set_option linter.all false
namespace Go.Proofs.YtfnkciboencifaaDoor
open Go Go.RowKit
set_option linter.unusedSimpArgs false
set_option linter.unusedVariables false
set_option maxRecDepth 20000
set_option maxHeartbeats 2000000
def encO (b : Bool) : PV := .atom (.bool b)
def bools (l : List Bool) : PV := .sl 1 (l.map encO)
def rows (l : List (List Bool)) : PV := .sl 1 (l.map bools)
def encP (p : Int × Int) : PV := .agg [encI p.1, encI p.2]
def pairs (l : List (Int × Int)) : PV := .sl 2 (l.map encP)
theorem pureL_encO (l : List Bool) : pureL (l.map encO) = true := pureL_map encO (fun _ => rfl) l
theorem pure_bools (l : List Bool) : (bools l).pure = true := pureL_encO l
theorem pureL_bools (l : List (List Bool)) : pureL (l.map bools) = true := pureL_map bools pure_bools l
theorem pure_rows (l : List (List Bool)) : (rows l).pure = true := pureL_bools l
theorem pureL_encP (l : List (Int × Int)) : pureL (l.map encP) = true := pureL_map encP (fun _ => rfl) l
theorem pure_pairs (l : List (Int × Int)) : (pairs l).pure = true := pureL_encP l
theorem ren_bools (ρ : Nat → Nat) (l : List Bool) : (bools l).ren ρ = bools l := ren_pure ρ _ (pure_bools l)
theorem ren_rows (ρ : Nat → Nat) (l : List (List Bool)) : (rows l).ren ρ = rows l := ren_pure ρ _ (pure_rows l)
theorem ren_pairs (ρ : Nat → Nat) (l : List (Int × Int)) : (pairs l).ren ρ = pairs l := ren_pure ρ _ (pure_pairs l)
def lp (l : List (Int × Int)) (k : Nat) : Int × Int := l.getD k (0, 0)
theorem getD_encP {l : List (Int × Int)} {k : Nat} (h : k < l.length) : (l.map encP).getD k .junk = encP (lp l k) := by
  simp [lp, List.getD_eq_getElem?_getD, h]
theorem lp_get {l : List (Int × Int)} {k : Nat} (h : k < l.length) : lp l k = l[k] := by simp [lp, List.getD_eq_getElem?_getD, h]
theorem lp_mem {l : List (Int × Int)} {k : Nat} (h : k < l.length) : lp l k ∈ l := by rw [lp_get h]; exact List.getElem_mem h
theorem getD_encO {l : List Bool} {k : Nat} (h : k < l.length) : (l.map encO).getD k .junk = encO (l.getD k false) := by
  simp [List.getD_eq_getElem?_getD, h]
/-- A pair that is out of range. -/
def OutP (n : Int) (p : Int × Int) : Prop := p.1 < 0 ∨ n ≤ p.1 ∨ p.2 < 0 ∨ n ≤ p.2
noncomputable def relE (n : Int) (ps : List (Int × Int)) : Int := if 64 < n ∨ 4096 < ps.length then 4 else if n < 0 then 1 else tI (∃ p, p ∈ ps ∧ OutP n p) 1 0
theorem Error_pure (n : Int) (ps : List (Int × Int)) (hp : ps.length ≤ 1000000000) : Pure Tryd.prog 58 [encI n, pairs ps] (encI (relE n ps)) [] := by
  refine Pure.intro (ts := [4]) Tryd.func58 (by kernel_rfl) rfl rfl rfl (Nat.le_of_ble_eq_true rfl) ?_ ?_
  · simp [encI, PV.pure, pure_pairs, pureL]
  refine Tri.seqY [0, 1] (fun S K => K ⟨[(0, S.get 0), (1, S.get 1)], S.hp, S.nx, S.gh⟩) (by kernel_rfl) (fun K => by kernel_rfl) fun K hK => ?_
  repeat' (first | (refine hK _ ?_; clear hK K) | (refine (?_ : trOk _ _ _ = true); kernel_rfl) | ((first | refine xG_intro (fun hg => ?_) (fun hg => ?_) | refine fun (hg : (_ : Bool) = _) => ?_) <;> ((try simp only [Bool.not_true, Bool.not_false, decide_eq_true_eq, decide_eq_false_iff_not, Bool.not_eq_true', Bool.not_eq_false'] at hg); try (exfalso; omega))) | refine And.intro ?_ ?_ | ((first | refine fun (hg : (_ : Int) = _) => ?_ | refine fun (hg : (_ : Int) ≠ _) => ?_ | refine fun (hg : ¬ (_ : Int) = _) => ?_ | refine fun (hg : (_ : Int) < _) => ?_ | refine fun (hg : (_ : Nat) < _) => ?_ | refine fun (hg : (_ : Nat) = _) => ?_ | refine fun (hg : ¬ (_ : Nat) = _) => ?_); try (exfalso; omega)) | omega | rfl | exact one_encI _ | exact one_encS _ | exact one_ints _ | exact one_strs _ | refine one_take ?_ _ | refine one_drop ?_ _ | simp (maxSteps := 2000000) only [↓SD, push_cast, Nat.reduceAdd, Nat.reduceSub, Nat.reduceMul, Nat.reduceLT, Nat.reduceLeDiff, Nat.reduceEqDiff, Int.reduceToNat, reduceIte, reduceCtorEq, Int.reduceLE, Int.reduceLT, Int.reduceNeg, ints, strs, encI, encS, pairs])
  all_goals try simp (disch := omega) only [wrap_id, wrap8_id]
  all_goals
    refine Tri.seq ?_
    refine Tri.seqY [0, 1, 12] (fun S K => XvBinOV Tryd.prog Go.BinOp.gtr 3 (Go.Operand.const (Go.Value.int Go.IntKind.i64 64)) (S.get 0) (PV.atom (Go.Value.int Go.IntKind.i64 64)) (fun r1 _ => Xgq r1 false (fun k => k (S.get 1)) (fun g3 r3 => Xgq g3 false (fun k => XvLen Tryd.prog 57 r3 (fun r4 _ => k r4)) (fun g4 r4 => Xgq g4 false (fun k => XvBinOV Tryd.prog Go.BinOp.gtr 3 (Go.Operand.const (Go.Value.int Go.IntKind.i64 4096)) r4 (PV.atom (Go.Value.int Go.IntKind.i64 4096)) (fun r5 _ => k r5)) (fun g5 r5 => XvPick g5 (PV.atom (Go.Value.bool true)) r5 (fun r6 _ => K ⟨[(0, S.get 0), (1, S.get 1), (12, r6)], S.hp, S.nx, S.gh⟩)))))) (by kernel_rfl) (fun K => by kernel_rfl) fun K hK => ?_
    repeat' (first | (refine hK _ ?_; clear hK K) | (refine (?_ : trOk _ _ _ = true); kernel_rfl) | ((first | refine xG_intro (fun hg => ?_) (fun hg => ?_) | refine fun (hg : (_ : Bool) = _) => ?_) <;> ((try simp only [Bool.not_true, Bool.not_false, decide_eq_true_eq, decide_eq_false_iff_not, Bool.not_eq_true', Bool.not_eq_false'] at hg); try (exfalso; omega))) | refine And.intro ?_ ?_ | ((first | refine fun (hg : (_ : Int) = _) => ?_ | refine fun (hg : (_ : Int) ≠ _) => ?_ | refine fun (hg : ¬ (_ : Int) = _) => ?_ | refine fun (hg : (_ : Int) < _) => ?_ | refine fun (hg : (_ : Nat) < _) => ?_ | refine fun (hg : (_ : Nat) = _) => ?_ | refine fun (hg : ¬ (_ : Nat) = _) => ?_); try (exfalso; omega)) | omega | rfl | exact one_encI _ | exact one_encS _ | exact one_ints _ | exact one_strs _ | refine one_take ?_ _ | refine one_drop ?_ _ | simp (maxSteps := 2000000) only [↓SD, push_cast, Nat.reduceAdd, Nat.reduceSub, Nat.reduceMul, Nat.reduceLT, Nat.reduceLeDiff, Nat.reduceEqDiff, Int.reduceToNat, reduceIte, reduceCtorEq, Int.reduceLE, Int.reduceLT, Int.reduceNeg, ints, strs, encI, encS, pairs])
    all_goals try simp (disch := omega) only [wrap_id, wrap8_id]
    all_goals
      refine Tri.cond rfl (fun h12 => ?_) (fun h12 => ?_)
      · try (cases h12; done)
        all_goals (try simp only [decide_eq_true_eq, decide_eq_false_iff_not, Bool.not_eq_true', Bool.not_eq_false', Bool.and_eq_true, Bool.or_eq_true] at h12)
        all_goals
          refine Tri.seqY [4] (fun S K => K ⟨[(4, (PV.atom (Go.Value.int Go.IntKind.i64 4)))], S.hp, S.nx, S.gh⟩) (by kernel_rfl) (fun K => by kernel_rfl) fun K hK => ?_
          repeat' (first | (refine hK _ ?_; clear hK K) | (refine (?_ : trOk _ _ _ = true); kernel_rfl) | ((first | refine xG_intro (fun hg => ?_) (fun hg => ?_) | refine fun (hg : (_ : Bool) = _) => ?_) <;> ((try simp only [Bool.not_true, Bool.not_false, decide_eq_true_eq, decide_eq_false_iff_not, Bool.not_eq_true', Bool.not_eq_false'] at hg); try (exfalso; omega))) | refine And.intro ?_ ?_ | ((first | refine fun (hg : (_ : Int) = _) => ?_ | refine fun (hg : (_ : Int) ≠ _) => ?_ | refine fun (hg : ¬ (_ : Int) = _) => ?_ | refine fun (hg : (_ : Int) < _) => ?_ | refine fun (hg : (_ : Nat) < _) => ?_ | refine fun (hg : (_ : Nat) = _) => ?_ | refine fun (hg : ¬ (_ : Nat) = _) => ?_); try (exfalso; omega)) | omega | rfl | exact one_encI _ | exact one_encS _ | exact one_ints _ | exact one_strs _ | refine one_take ?_ _ | refine one_drop ?_ _ | simp (maxSteps := 2000000) only [↓SD, push_cast, Nat.reduceAdd, Nat.reduceSub, Nat.reduceMul, Nat.reduceLT, Nat.reduceLeDiff, Nat.reduceEqDiff, Int.reduceToNat, reduceIte, reduceCtorEq, Int.reduceLE, Int.reduceLT, Int.reduceNeg, ints, strs, encI, encS, pairs])
          all_goals try simp (disch := omega) only [wrap_id, wrap8_id]
          all_goals
            refine Tri.ret ?_
            show ResOk _ _ _ _
            exact ResOk.val (aI (by unfold relE; rw [if_pos (by omega)])) rfl
      · try (cases h12; done)
        all_goals (try simp only [decide_eq_true_eq, decide_eq_false_iff_not, Bool.not_eq_true', Bool.not_eq_false', Bool.and_eq_true, Bool.or_eq_true] at h12)
        all_goals
          refine Tri.skip ?_
          refine Tri.seq ?_
          refine Tri.seqY [0, 1, 14] (fun S K => XvBinOV Tryd.prog Go.BinOp.lss 3 (Go.Operand.const (Go.Value.int Go.IntKind.i64 0)) (S.get 0) (PV.atom (Go.Value.int Go.IntKind.i64 0)) (fun r1 _ => K ⟨[(0, S.get 0), (1, S.get 1), (14, r1)], S.hp, S.nx, S.gh⟩)) (by kernel_rfl) (fun K => by kernel_rfl) fun K hK => ?_
          repeat' (first | (refine hK _ ?_; clear hK K) | (refine (?_ : trOk _ _ _ = true); kernel_rfl) | ((first | refine xG_intro (fun hg => ?_) (fun hg => ?_) | refine fun (hg : (_ : Bool) = _) => ?_) <;> ((try simp only [Bool.not_true, Bool.not_false, decide_eq_true_eq, decide_eq_false_iff_not, Bool.not_eq_true', Bool.not_eq_false'] at hg); try (exfalso; omega))) | refine And.intro ?_ ?_ | ((first | refine fun (hg : (_ : Int) = _) => ?_ | refine fun (hg : (_ : Int) ≠ _) => ?_ | refine fun (hg : ¬ (_ : Int) = _) => ?_ | refine fun (hg : (_ : Int) < _) => ?_ | refine fun (hg : (_ : Nat) < _) => ?_ | refine fun (hg : (_ : Nat) = _) => ?_ | refine fun (hg : ¬ (_ : Nat) = _) => ?_); try (exfalso; omega)) | omega | rfl | exact one_encI _ | exact one_encS _ | exact one_ints _ | exact one_strs _ | refine one_take ?_ _ | refine one_drop ?_ _ | simp (maxSteps := 2000000) only [↓SD, push_cast, Nat.reduceAdd, Nat.reduceSub, Nat.reduceMul, Nat.reduceLT, Nat.reduceLeDiff, Nat.reduceEqDiff, Int.reduceToNat, reduceIte, reduceCtorEq, Int.reduceLE, Int.reduceLT, Int.reduceNeg, ints, strs, encI, encS, pairs])
          all_goals try simp (disch := omega) only [wrap_id, wrap8_id]
          all_goals
            refine Tri.cond rfl (fun h14 => ?_) (fun h14 => ?_)
            · try (cases h14; done)
              all_goals (try simp only [decide_eq_true_eq, decide_eq_false_iff_not, Bool.not_eq_true', Bool.not_eq_false', Bool.and_eq_true, Bool.or_eq_true] at h14)
              all_goals
                refine Tri.seqY [4] (fun S K => K ⟨[(4, (PV.atom (Go.Value.int Go.IntKind.i64 1)))], S.hp, S.nx, S.gh⟩) (by kernel_rfl) (fun K => by kernel_rfl) fun K hK => ?_
                repeat' (first | (refine hK _ ?_; clear hK K) | (refine (?_ : trOk _ _ _ = true); kernel_rfl) | ((first | refine xG_intro (fun hg => ?_) (fun hg => ?_) | refine fun (hg : (_ : Bool) = _) => ?_) <;> ((try simp only [Bool.not_true, Bool.not_false, decide_eq_true_eq, decide_eq_false_iff_not, Bool.not_eq_true', Bool.not_eq_false'] at hg); try (exfalso; omega))) | refine And.intro ?_ ?_ | ((first | refine fun (hg : (_ : Int) = _) => ?_ | refine fun (hg : (_ : Int) ≠ _) => ?_ | refine fun (hg : ¬ (_ : Int) = _) => ?_ | refine fun (hg : (_ : Int) < _) => ?_ | refine fun (hg : (_ : Nat) < _) => ?_ | refine fun (hg : (_ : Nat) = _) => ?_ | refine fun (hg : ¬ (_ : Nat) = _) => ?_); try (exfalso; omega)) | omega | rfl | exact one_encI _ | exact one_encS _ | exact one_ints _ | exact one_strs _ | refine one_take ?_ _ | refine one_drop ?_ _ | simp (maxSteps := 2000000) only [↓SD, push_cast, Nat.reduceAdd, Nat.reduceSub, Nat.reduceMul, Nat.reduceLT, Nat.reduceLeDiff, Nat.reduceEqDiff, Int.reduceToNat, reduceIte, reduceCtorEq, Int.reduceLE, Int.reduceLT, Int.reduceNeg, ints, strs, encI, encS, pairs])
                all_goals try simp (disch := omega) only [wrap_id, wrap8_id]
                all_goals
                  refine Tri.ret ?_
                  show ResOk _ _ _ _
                  exact ResOk.val (aI (by unfold relE; rw [if_neg (by omega), if_pos (by omega)])) rfl
            · try (cases h14; done)
              all_goals (try simp only [decide_eq_true_eq, decide_eq_false_iff_not, Bool.not_eq_true', Bool.not_eq_false', Bool.and_eq_true, Bool.or_eq_true] at h14)
              all_goals
                refine Tri.skip ?_
                refine Tri.seq ?_
                refine Tri.seqY [0, 1, 5] (fun S K => K ⟨[(0, S.get 0), (1, S.get 1), (5, (PV.atom (Go.Value.int Go.IntKind.i64 0)))], S.hp, S.nx, S.gh⟩) (by kernel_rfl) (fun K => by kernel_rfl) fun K hK => ?_
                repeat' (first | (refine hK _ ?_; clear hK K) | (refine (?_ : trOk _ _ _ = true); kernel_rfl) | ((first | refine xG_intro (fun hg => ?_) (fun hg => ?_) | refine fun (hg : (_ : Bool) = _) => ?_) <;> ((try simp only [Bool.not_true, Bool.not_false, decide_eq_true_eq, decide_eq_false_iff_not, Bool.not_eq_true', Bool.not_eq_false'] at hg); try (exfalso; omega))) | refine And.intro ?_ ?_ | ((first | refine fun (hg : (_ : Int) = _) => ?_ | refine fun (hg : (_ : Int) ≠ _) => ?_ | refine fun (hg : ¬ (_ : Int) = _) => ?_ | refine fun (hg : (_ : Int) < _) => ?_ | refine fun (hg : (_ : Nat) < _) => ?_ | refine fun (hg : (_ : Nat) = _) => ?_ | refine fun (hg : ¬ (_ : Nat) = _) => ?_); try (exfalso; omega)) | omega | rfl | exact one_encI _ | exact one_encS _ | exact one_ints _ | exact one_strs _ | refine one_take ?_ _ | refine one_drop ?_ _ | simp (maxSteps := 2000000) only [↓SD, push_cast, Nat.reduceAdd, Nat.reduceSub, Nat.reduceMul, Nat.reduceLT, Nat.reduceLeDiff, Nat.reduceEqDiff, Int.reduceToNat, reduceIte, reduceCtorEq, Int.reduceLE, Int.reduceLT, Int.reduceNeg, ints, strs, encI, encS, pairs])
                all_goals try simp (disch := omega) only [wrap_id, wrap8_id]
                all_goals
                  refine Tri.block ?_
                  refine Tri.loop (α := (k : Nat) ×' (k ≤ ps.length ∧ ∀ j, j < k → ¬ OutP n (lp ps j))) (fun z => (fun (k : Nat) => (⟨[(0, encI n), (1, pairs ps), (5, encI k)], [], 0, []⟩ : St)) z.1) (fun z => (fun (k : Nat) => ps.length - k) z.1) ⟨0, ⟨by omega, by omega⟩⟩ [] ?_ ?_
                  · (refine ⟨4, (by simp only [List.forall_mem_cons]; repeat' (first | refine And.intro ?_ ?_ | (intro p hp; exact absurd hp List.not_mem_nil) | (first | rfl | exact sp (pure_pairs _) | exact sp (pure_bools _) | exact sp (pure_rows _) | exact (sealed_pure _ _ _ (pure_ints _)).trans (ren_ints _ _).symm | exact (sealed_pure _ _ _ (pure_strs _)).trans (ren_strs _ _).symm | (simp [St.born, St.known, retV, St.get, St.obj, lk, sealed, PV.ren, renL, rmap, AO.ren, ints, strs, encI, encS, map_sealed_encI, map_sealed_encS, map_sealed_ints, map_sealed_strs, map_ren_encI, map_ren_encS, map_ren_ints, map_ren_strs, renL_encI, renL_encS, renL_ints, renL_strs, ren_pairs, ren_bools, ren_rows, famP, famO, objEnv] <;> omega)))), (by simp only [List.forall_mem_cons]; repeat' (first | refine And.intro ?_ ?_ | (intro p hp; exact absurd hp List.not_mem_nil) | (intro o ho; cases ho; refine ⟨by decide, ?_⟩; first | exact LeqS.row rfl (by (first | rfl | (simp only [List.map_append, List.map_cons, List.map_nil, List.append_nil, List.nil_append, List.append_assoc, List.cons_append, encI, encS, ints, strs]; done) | (simp [encI, encS, ints, strs]; done))) (by (first | rfl | exact pureL_encI _ | exact pureL_encS _ | exact pureL_ints _ | exact pureL_strs _ | (simp [pureL_append, pureL_encI, pureL_encS, pureL_ints, pureL_strs, pureL, PV.pure, pure_ints, pure_strs, pure_pairs, pure_bools, pure_rows, pureL_encP, pureL_bools, pureL_encO]; done))) | (refine ⟨_, rfl, rfl, ?_⟩; simp [St.born, St.known, retV, St.get, St.obj, lk, sealed, PV.ren, renL, rmap, AO.ren, ints, strs, encI, encS, map_sealed_encI, map_sealed_encS, map_sealed_ints, map_sealed_strs, map_ren_encI, map_ren_encS, map_ren_ints, map_ren_strs, renL_encI, renL_encS, renL_ints, renL_strs, ren_pairs, ren_bools, ren_rows, famP, famO, objEnv]; done)))), rfl, by simp, rfl, (fun _ h _ => absurd h (Nat.not_lt_zero _))⟩)
                  · rintro ⟨k, ⟨hk, hj⟩⟩
                    refine Tri.seq ?_
                    refine Tri.seqY [0, 1, 5, 18] (fun S K => XvLen Tryd.prog 57 (S.get 1) (fun r2 _ => XvBinOV Tryd.prog Go.BinOp.lss 3 (Go.Operand.tmp 17) (S.get 5) r2 (fun r3 _ => K ⟨[(0, S.get 0), (1, S.get 1), (5, S.get 5), (18, r3)], S.hp, S.nx, S.gh⟩))) (by kernel_rfl) (fun K => by kernel_rfl) fun K hK => ?_
                    repeat' (first | (refine hK _ ?_; clear hK K) | (refine (?_ : trOk _ _ _ = true); kernel_rfl) | ((first | refine xG_intro (fun hg => ?_) (fun hg => ?_) | refine fun (hg : (_ : Bool) = _) => ?_) <;> ((try simp only [Bool.not_true, Bool.not_false, decide_eq_true_eq, decide_eq_false_iff_not, Bool.not_eq_true', Bool.not_eq_false'] at hg); try (exfalso; omega))) | refine And.intro ?_ ?_ | ((first | refine fun (hg : (_ : Int) = _) => ?_ | refine fun (hg : (_ : Int) ≠ _) => ?_ | refine fun (hg : ¬ (_ : Int) = _) => ?_ | refine fun (hg : (_ : Int) < _) => ?_ | refine fun (hg : (_ : Nat) < _) => ?_ | refine fun (hg : (_ : Nat) = _) => ?_ | refine fun (hg : ¬ (_ : Nat) = _) => ?_); try (exfalso; omega)) | omega | rfl | exact one_encI _ | exact one_encS _ | exact one_ints _ | exact one_strs _ | refine one_take ?_ _ | refine one_drop ?_ _ | simp (maxSteps := 2000000) only [↓SD, push_cast, Nat.reduceAdd, Nat.reduceSub, Nat.reduceMul, Nat.reduceLT, Nat.reduceLeDiff, Nat.reduceEqDiff, Int.reduceToNat, reduceIte, reduceCtorEq, Int.reduceLE, Int.reduceLT, Int.reduceNeg, ints, strs, encI, encS, pairs])
                    all_goals try simp (disch := omega) only [wrap_id, wrap8_id]
                    all_goals
                      refine Tri.cond rfl (fun h18 => ?_) (fun h18 => ?_)
                      · try (cases h18; done)
                        all_goals (try simp only [decide_eq_true_eq, decide_eq_false_iff_not, Bool.not_eq_true', Bool.not_eq_false', Bool.and_eq_true, Bool.or_eq_true] at h18)
                        all_goals
                          refine Tri.skip ?_
                          refine Tri.seq ?_
                          refine Tri.block ?_
                          have hkl : k < ps.length := by omega
                          refine Tri.seqY [0, 1, 5, 52] (fun S K => XvIndexAddr Tryd.prog 57 (S.get 1) (S.get 5) (fun r2 _ => XvIndexAddr Tryd.prog 58 r2 (PV.atom (Go.Value.int Go.IntKind.i64 0)) (fun r3 _ => XvLoad Tryd.prog 3 (M S.hp S.nx) r3 (fun r4 _ => XvBinOV Tryd.prog Go.BinOp.lss 3 (Go.Operand.const (Go.Value.int Go.IntKind.i64 0)) r4 (PV.atom (Go.Value.int Go.IntKind.i64 0)) (fun r5 _ => Xgq r5 false (fun k => k (S.get 1)) (fun g7 r7 => Xgq g7 false (fun k => k (S.get 5)) (fun g8 r8 => Xgq g8 false (fun k => XvIndexAddr Tryd.prog 57 r7 r8 (fun r9 _ => k r9)) (fun g9 r9 => Xgq g9 false (fun k => XvIndexAddr Tryd.prog 58 r9 (PV.atom (Go.Value.int Go.IntKind.i64 0)) (fun r10 _ => k r10)) (fun g10 r10 => Xgq g10 false (fun k => XvLoad Tryd.prog 3 (M S.hp S.nx) r10 (fun r11 _ => k r11)) (fun g11 r11 => Xgq g11 false (fun k => k (S.get 0)) (fun g12 r12 => Xgq g12 false (fun k => XvBinOV Tryd.prog Go.BinOp.geq 3 (Go.Operand.tmp 33) r11 r12 (fun r13 _ => k r13)) (fun g13 r13 => XvPick g13 (PV.atom (Go.Value.bool true)) r13 (fun r14 _ => Xgq r14 false (fun k => k (S.get 1)) (fun g16 r16 => Xgq g16 false (fun k => k (S.get 5)) (fun g17 r17 => Xgq g17 false (fun k => XvIndexAddr Tryd.prog 57 r16 r17 (fun r18 _ => k r18)) (fun g18 r18 => Xgq g18 false (fun k => XvIndexAddr Tryd.prog 58 r18 (PV.atom (Go.Value.int Go.IntKind.i64 1)) (fun r19 _ => k r19)) (fun g19 r19 => Xgq g19 false (fun k => XvLoad Tryd.prog 3 (M S.hp S.nx) r19 (fun r20 _ => k r20)) (fun g20 r20 => Xgq g20 false (fun k => XvBinOV Tryd.prog Go.BinOp.lss 3 (Go.Operand.const (Go.Value.int Go.IntKind.i64 0)) r20 (PV.atom (Go.Value.int Go.IntKind.i64 0)) (fun r21 _ => k r21)) (fun g21 r21 => XvPick g21 (PV.atom (Go.Value.bool true)) r21 (fun r22 _ => Xgq r22 false (fun k => k (S.get 1)) (fun g24 r24 => Xgq g24 false (fun k => k (S.get 5)) (fun g25 r25 => Xgq g25 false (fun k => XvIndexAddr Tryd.prog 57 r24 r25 (fun r26 _ => k r26)) (fun g26 r26 => Xgq g26 false (fun k => XvIndexAddr Tryd.prog 58 r26 (PV.atom (Go.Value.int Go.IntKind.i64 1)) (fun r27 _ => k r27)) (fun g27 r27 => Xgq g27 false (fun k => XvLoad Tryd.prog 3 (M S.hp S.nx) r27 (fun r28 _ => k r28)) (fun g28 r28 => Xgq g28 false (fun k => k (S.get 0)) (fun g29 r29 => Xgq g29 false (fun k => XvBinOV Tryd.prog Go.BinOp.geq 3 (Go.Operand.tmp 50) r28 r29 (fun r30 _ => k r30)) (fun g30 r30 => XvPick g30 (PV.atom (Go.Value.bool true)) r30 (fun r31 _ => K ⟨[(0, S.get 0), (1, S.get 1), (5, S.get 5), (52, r31)], S.hp, S.nx, S.gh⟩)))))))))))))))))))))))))))) (by kernel_rfl) (fun K => by kernel_rfl) fun K hK => ?_
                          repeat' (first | (refine hK _ ?_; clear hK K) | (refine (?_ : trOk _ _ _ = true); kernel_rfl) | ((first | refine xG_intro (fun hg => ?_) (fun hg => ?_) | refine fun (hg : (_ : Bool) = _) => ?_) <;> ((try simp only [Bool.not_true, Bool.not_false, decide_eq_true_eq, decide_eq_false_iff_not, Bool.not_eq_true', Bool.not_eq_false'] at hg); try (exfalso; omega))) | refine And.intro ?_ ?_ | ((first | refine fun (hg : (_ : Int) = _) => ?_ | refine fun (hg : (_ : Int) ≠ _) => ?_ | refine fun (hg : ¬ (_ : Int) = _) => ?_ | refine fun (hg : (_ : Int) < _) => ?_ | refine fun (hg : (_ : Nat) < _) => ?_ | refine fun (hg : (_ : Nat) = _) => ?_ | refine fun (hg : ¬ (_ : Nat) = _) => ?_); try (exfalso; omega)) | omega | rfl | exact one_encI _ | exact one_encS _ | exact one_ints _ | exact one_strs _ | refine one_take ?_ _ | refine one_drop ?_ _ | simp (maxSteps := 2000000) only [↓SD, push_cast, Nat.reduceAdd, Nat.reduceSub, Nat.reduceMul, Nat.reduceLT, Nat.reduceLeDiff, Nat.reduceEqDiff, Int.reduceToNat, reduceIte, reduceCtorEq, Int.reduceLE, Int.reduceLT, Int.reduceNeg, ints, strs, encI, encS, pairs, getD_encP hkl, encP])
                          all_goals try simp (disch := omega) only [wrap_id, wrap8_id]
                          all_goals
                            refine Tri.cond rfl (fun h52 => ?_) (fun h52 => ?_)
                            · try (cases h52; done)
                              all_goals (try simp only [decide_eq_true_eq, decide_eq_false_iff_not, Bool.not_eq_true', Bool.not_eq_false', Bool.and_eq_true, Bool.or_eq_true] at h52)
                              all_goals
                                refine Tri.seqY [4] (fun S K => K ⟨[(4, (PV.atom (Go.Value.int Go.IntKind.i64 1)))], S.hp, S.nx, S.gh⟩) (by kernel_rfl) (fun K => by kernel_rfl) fun K hK => ?_
                                repeat' (first | (refine hK _ ?_; clear hK K) | (refine (?_ : trOk _ _ _ = true); kernel_rfl) | ((first | refine xG_intro (fun hg => ?_) (fun hg => ?_) | refine fun (hg : (_ : Bool) = _) => ?_) <;> ((try simp only [Bool.not_true, Bool.not_false, decide_eq_true_eq, decide_eq_false_iff_not, Bool.not_eq_true', Bool.not_eq_false'] at hg); try (exfalso; omega))) | refine And.intro ?_ ?_ | ((first | refine fun (hg : (_ : Int) = _) => ?_ | refine fun (hg : (_ : Int) ≠ _) => ?_ | refine fun (hg : ¬ (_ : Int) = _) => ?_ | refine fun (hg : (_ : Int) < _) => ?_ | refine fun (hg : (_ : Nat) < _) => ?_ | refine fun (hg : (_ : Nat) = _) => ?_ | refine fun (hg : ¬ (_ : Nat) = _) => ?_); try (exfalso; omega)) | omega | rfl | exact one_encI _ | exact one_encS _ | exact one_ints _ | exact one_strs _ | refine one_take ?_ _ | refine one_drop ?_ _ | simp (maxSteps := 2000000) only [↓SD, push_cast, Nat.reduceAdd, Nat.reduceSub, Nat.reduceMul, Nat.reduceLT, Nat.reduceLeDiff, Nat.reduceEqDiff, Int.reduceToNat, reduceIte, reduceCtorEq, Int.reduceLE, Int.reduceLT, Int.reduceNeg, ints, strs, encI, encS, pairs])
                                all_goals try simp (disch := omega) only [wrap_id, wrap8_id]
                                all_goals
                                  refine Tri.ret ?_
                                  show ResOk _ _ _ _
                                  exact ResOk.val (aI (by unfold relE; rw [if_neg (by omega), if_neg (by omega), tI_yes ⟨_, lp_mem hkl, by unfold OutP; omega⟩])) rfl
                            · try (cases h52; done)
                              all_goals (try simp only [decide_eq_true_eq, decide_eq_false_iff_not, Bool.not_eq_true', Bool.not_eq_false', Bool.and_eq_true, Bool.or_eq_true] at h52)
                              all_goals
                                refine Tri.skip ?_
                                refine Tri.regY [0, 1, 5] (fun S K => XvBinOV Tryd.prog Go.BinOp.add 3 (Go.Operand.const (Go.Value.int Go.IntKind.i64 1)) (S.get 5) (PV.atom (Go.Value.int Go.IntKind.i64 1)) (fun r1 _ => K ⟨[(0, S.get 0), (1, S.get 1), (5, r1)], S.hp, S.nx, S.gh⟩)) (by kernel_rfl) (fun K => by kernel_rfl) fun K hK => ?_
                                repeat' (first | (refine hK _ ?_; clear hK K) | (refine (?_ : trOk _ _ _ = true); kernel_rfl) | ((first | refine xG_intro (fun hg => ?_) (fun hg => ?_) | refine fun (hg : (_ : Bool) = _) => ?_) <;> ((try simp only [Bool.not_true, Bool.not_false, decide_eq_true_eq, decide_eq_false_iff_not, Bool.not_eq_true', Bool.not_eq_false'] at hg); try (exfalso; omega))) | refine And.intro ?_ ?_ | ((first | refine fun (hg : (_ : Int) = _) => ?_ | refine fun (hg : (_ : Int) ≠ _) => ?_ | refine fun (hg : ¬ (_ : Int) = _) => ?_ | refine fun (hg : (_ : Int) < _) => ?_ | refine fun (hg : (_ : Nat) < _) => ?_ | refine fun (hg : (_ : Nat) = _) => ?_ | refine fun (hg : ¬ (_ : Nat) = _) => ?_); try (exfalso; omega)) | omega | rfl | exact one_encI _ | exact one_encS _ | exact one_ints _ | exact one_strs _ | refine one_take ?_ _ | refine one_drop ?_ _ | simp (maxSteps := 2000000) only [↓SD, push_cast, Nat.reduceAdd, Nat.reduceSub, Nat.reduceMul, Nat.reduceLT, Nat.reduceLeDiff, Nat.reduceEqDiff, Int.reduceToNat, reduceIte, reduceCtorEq, Int.reduceLE, Int.reduceLT, Int.reduceNeg, ints, strs, encI, encS, pairs])
                                all_goals try simp (disch := omega) only [wrap_id, wrap8_id]
                                all_goals
                                  refine ⟨⟨k + 1, by omega, fun j hj' => ?_⟩, [], by dsimp only; omega, ?_⟩
                                  · rcases Nat.lt_succ_iff_lt_or_eq.1 hj' with hj' | rfl
                                    · exact hj j hj'
                                    · unfold OutP; omega
                                  · (refine ⟨4, (by simp only [List.forall_mem_cons]; repeat' (first | refine And.intro ?_ ?_ | (intro p hp; exact absurd hp List.not_mem_nil) | (first | rfl | exact sp (pure_pairs _) | exact sp (pure_bools _) | exact sp (pure_rows _) | exact (sealed_pure _ _ _ (pure_ints _)).trans (ren_ints _ _).symm | exact (sealed_pure _ _ _ (pure_strs _)).trans (ren_strs _ _).symm | (simp [St.born, St.known, retV, St.get, St.obj, lk, sealed, PV.ren, renL, rmap, AO.ren, ints, strs, encI, encS, map_sealed_encI, map_sealed_encS, map_sealed_ints, map_sealed_strs, map_ren_encI, map_ren_encS, map_ren_ints, map_ren_strs, renL_encI, renL_encS, renL_ints, renL_strs, ren_pairs, ren_bools, ren_rows, famP, famO, objEnv] <;> omega)))), (by simp only [List.forall_mem_cons]; repeat' (first | refine And.intro ?_ ?_ | (intro p hp; exact absurd hp List.not_mem_nil) | (intro o ho; cases ho; refine ⟨by decide, ?_⟩; first | exact LeqS.row rfl (by (first | rfl | (simp only [List.map_append, List.map_cons, List.map_nil, List.append_nil, List.nil_append, List.append_assoc, List.cons_append, encI, encS, ints, strs]; done) | (simp [encI, encS, ints, strs]; done))) (by (first | rfl | exact pureL_encI _ | exact pureL_encS _ | exact pureL_ints _ | exact pureL_strs _ | (simp [pureL_append, pureL_encI, pureL_encS, pureL_ints, pureL_strs, pureL, PV.pure, pure_ints, pure_strs, pure_pairs, pure_bools, pure_rows, pureL_encP, pureL_bools, pureL_encO]; done))) | (refine ⟨_, rfl, rfl, ?_⟩; simp [St.born, St.known, retV, St.get, St.obj, lk, sealed, PV.ren, renL, rmap, AO.ren, ints, strs, encI, encS, map_sealed_encI, map_sealed_encS, map_sealed_ints, map_sealed_strs, map_ren_encI, map_ren_encS, map_ren_ints, map_ren_strs, renL_encI, renL_encS, renL_ints, renL_strs, ren_pairs, ren_bools, ren_rows, famP, famO, objEnv]; done)))), rfl, by simp, rfl, (fun _ h _ => absurd h (Nat.not_lt_zero _))⟩)
                      · try (cases h18; done)
                        all_goals (try simp only [decide_eq_true_eq, decide_eq_false_iff_not, Bool.not_eq_true', Bool.not_eq_false', Bool.and_eq_true, Bool.or_eq_true] at h18)
                        all_goals
                          refine Tri.exit ?_
                          refine Tri.seqY [4] (fun S K => K ⟨[(4, (PV.atom (Go.Value.int Go.IntKind.i64 0)))], S.hp, S.nx, S.gh⟩) (by kernel_rfl) (fun K => by kernel_rfl) fun K hK => ?_
                          repeat' (first | (refine hK _ ?_; clear hK K) | (refine (?_ : trOk _ _ _ = true); kernel_rfl) | ((first | refine xG_intro (fun hg => ?_) (fun hg => ?_) | refine fun (hg : (_ : Bool) = _) => ?_) <;> ((try simp only [Bool.not_true, Bool.not_false, decide_eq_true_eq, decide_eq_false_iff_not, Bool.not_eq_true', Bool.not_eq_false'] at hg); try (exfalso; omega))) | refine And.intro ?_ ?_ | ((first | refine fun (hg : (_ : Int) = _) => ?_ | refine fun (hg : (_ : Int) ≠ _) => ?_ | refine fun (hg : ¬ (_ : Int) = _) => ?_ | refine fun (hg : (_ : Int) < _) => ?_ | refine fun (hg : (_ : Nat) < _) => ?_ | refine fun (hg : (_ : Nat) = _) => ?_ | refine fun (hg : ¬ (_ : Nat) = _) => ?_); try (exfalso; omega)) | omega | rfl | exact one_encI _ | exact one_encS _ | exact one_ints _ | exact one_strs _ | refine one_take ?_ _ | refine one_drop ?_ _ | simp (maxSteps := 2000000) only [↓SD, push_cast, Nat.reduceAdd, Nat.reduceSub, Nat.reduceMul, Nat.reduceLT, Nat.reduceLeDiff, Nat.reduceEqDiff, Int.reduceToNat, reduceIte, reduceCtorEq, Int.reduceLE, Int.reduceLT, Int.reduceNeg, ints, strs, encI, encS, pairs])
                          all_goals try simp (disch := omega) only [wrap_id, wrap8_id]
                          all_goals
                            refine Tri.ret ?_
                            show ResOk _ _ _ _
                            exact ResOk.val (aI (by unfold relE; rw [if_neg (by omega), if_neg (by omega), tI_no (fun ⟨p, hp, ho⟩ => by obtain ⟨j, hjl, rfl⟩ := List.getElem_of_mem hp; exact hj j (by omega) (by rw [lp_get hjl]; exact ho))])) rfl

/-- A table of truth values. -/
def tab (h w : Nat) (f : Nat → Nat → Bool) : List (List Bool) := (List.range h).map fun a => (List.range w).map fun b => f a b
theorem tab_len (h w : Nat) (f : Nat → Nat → Bool) : (tab h w f).length = h := by simp [tab]
theorem tab_row {h w : Nat} {f : Nat → Nat → Bool} {a : Nat} (ha : a < h) : (tab h w f).getD a [] = (List.range w).map fun b => f a b := by
  simp [tab, List.getD_eq_getElem?_getD, ha]
/-- Own rows behind an own row of rows. -/
def famP (n w : Nat) : List PV := (List.range n).map fun i => .ob (i + 1) 1 0 w
def famO (r : List (List Bool)) : List (Option AO) := r.map fun x => some ⟨1, x.map encO⟩
theorem famP_len (n w : Nat) : (famP n w).length = n := by simp [famP]
theorem getD_famP {n w j : Nat} (h : j < n) : (famP n w).getD j .junk = .ob (j + 1) 1 0 w := by simp [famP, List.getD_eq_getElem?_getD, h]
theorem famP_succ (n w : Nat) : famP (n + 1) w = famP n w ++ [.ob (n + 1) 1 0 w] := by simp [famP, List.range_succ]
theorem lk_fam {r : List (List Bool)} {j : Nat} (h : j < r.length) : lk (objEnv 1 (famO r)) (j + 1) = some (some ⟨1, (r.getD j []).map encO⟩) := by
  rw [lk_objEnv, if_pos (by omega)]
  simp [famO, List.getD_eq_getElem?_getD, h]
theorem objEnv_mem : ∀ {l : List (Option AO)} {k : Nat} {p : Nat × Option AO}, p ∈ objEnv k l → ∃ i, l[i]? = some p.2 ∧ p.1 = k + i
  | [], _, _, h => by cases h
  | o :: l, k, p, h => by
    rw [objEnv, List.mem_cons] at h
    rcases h with rfl | h
    · exact ⟨0, rfl, rfl⟩
    · obtain ⟨i, h1, h2⟩ := objEnv_mem h
      exact ⟨i + 1, by simpa using h1, by omega⟩
/-- The numbers of a family. -/
def famL (j n : Nat) : List Nat := j :: (List.range n).map (· + 1)
theorem famL_zero {j n nx : Nat} : rmap (famL j n) nx 0 = j := rfl
theorem famL_succ {j n nx i : Nat} (h : i < n) : rmap (famL j n) nx (i + 1) = i + 1 := by simp [rmap, famL, h]
theorem famL_has {j n i : Nat} (h : i < n) : (famL j n).contains (i + 1) = true := by
  rw [List.contains_iff_mem]; exact List.mem_cons_of_mem _ (List.mem_map.2 ⟨i, List.mem_range.2 h, rfl⟩)
theorem famP_keep {H : Nat → Option AO} {j n k w nx : Nat} : (famP n w).map (sealed H (fun i => (famL j n).contains i) k) = (famP n w).map (PV.ren (rmap (famL j n) nx)) := by
  refine List.map_congr_left fun q hq => ?_
  obtain ⟨i, hi, rfl⟩ := List.mem_map.1 hq
  have hi' := List.mem_range.1 hi
  have e : PV.ren (rmap (famL j n) nx) (.ob (i + 1) 1 0 w) = .ob (i + 1) 1 0 w := by simp only [PV.ren, famL_succ hi']
  rw [e]
  cases k with
  | zero => rfl
  | succ k => simp only [sealed, famL_has hi', if_true]
theorem leq_fam {S : St} {env : List (Nat × PV)} {j n w m : Nat} {r : List (List Bool)} (hn : r.length = n) (h0 : S.obj j = some ⟨1, famP n w⟩) (hr : ∀ i, i < n → S.obj (i + 1) = some ⟨1, (r.getD i []).map encO⟩) (hj : j = 0 ∨ n < j)
    (he : ∀ p, p ∈ env → (p.2.pure = true ∧ S.get p.1 = p.2) ∨ (p.2 = .ob 0 1 0 m ∧ S.get p.1 = .ob j 1 0 m)) (hg : S.gh = []) : Leq (famL j n) S ⟨env, (0, some ⟨1, famP n w⟩) :: objEnv 1 (famO r), n + 1, []⟩ := by
  subst hn
  refine ⟨4, fun p hp => ?_, fun p hp o ho => ?_, by simp [famL], ?_, by rw [hg], fun i h => absurd h (Nat.not_lt_zero _)⟩
  · rcases he p hp with ⟨h1, h2⟩ | ⟨h1, h2⟩
    · rw [h2]; exact sp h1
    · rw [h2, h1]
      have : (famL j r.length).contains j = true := by rw [List.contains_iff_mem]; exact List.mem_cons_self ..
      simp only [sealed, this, if_true, PV.ren, famL_zero]
  · rcases List.mem_cons.1 hp with rfl | hp
    · cases ho
      refine ⟨by simp [famL], _, by rw [famL_zero]; exact h0, rfl, famP_keep⟩
    · obtain ⟨i, h1, h2⟩ := objEnv_mem hp
      have hi : i < r.length := by
        have := (List.getElem?_eq_some_iff.1 h1).1
        simpa [famO] using this
      rw [ho] at h1
      simp only [famO, List.getElem?_map, List.getElem?_eq_getElem hi, Option.map_some, Option.some.injEq] at h1
      subst h1
      have e : p.1 = i + 1 := by omega
      rw [e]
      have e2 : r.getD i [] = r[i] := by simp [List.getD_eq_getElem?_getD, hi]
      have hri := hr i hi
      rw [e2] at hri
      refine ⟨by simp [famL, hi], _, by rw [famL_succ hi]; exact hri, rfl, ?_⟩
      rw [map_sealed_pure _ _ _ (pureL_encO _), map_ren_pure _ (pureL_encO _)]
  · unfold famL
    rw [List.nodup_cons]
    refine ⟨fun h => ?_, ?_⟩
    · obtain ⟨i, hi, he⟩ := List.mem_map.1 h
      have := List.mem_range.1 hi
      omega
    · exact List.Pairwise.map _ (fun a b h => by simpa using h) List.nodup_range
theorem fam_sealed {H : Nat → Option AO} {n w k : Nat} {r : List (List Bool)} (hn : r.length = n) (hw : ∀ i, i < n → (r.getD i []).length = w) (h0 : H 0 = some ⟨1, famP n w⟩) (hr : ∀ i, i < n → H (i + 1) = some ⟨1, (r.getD i []).map encO⟩) :
    sealed H (fun _ => false) (k + 2) (.ob 0 1 0 n) = rows r := by
  simp only [sealed, h0, famP_len]
  simp only [Bool.false_eq_true, if_false, Nat.zero_add, Nat.le_refl, and_self, if_true, List.drop_zero]
  unfold rows
  congr 1
  rw [List.take_of_length_le (by rw [famP_len]; exact Nat.le_refl _)]
  refine List.ext_getElem (by simp [famP_len, hn]) fun i h1 h2 => ?_
  have hi : i < n := by simpa [famP_len] using h1
  have e2 : r.getD i [] = r[i]'(by omega) := by simp [List.getD_eq_getElem?_getD, hn, hi]
  have hl := hw i hi
  have ho := hr i hi
  rw [e2] at hl ho
  have e3 : (famP n w)[i]'(by rw [famP_len]; exact hi) = .ob (i + 1) 1 0 w := by simp [famP]
  rw [List.getElem_map, List.getElem_map, e3]
  simp only [sealed, ho]
  simp only [Bool.false_eq_true, if_false, Nat.zero_add, List.length_map, hl, Nat.le_refl, and_self, if_true, List.drop_zero]
  rw [List.take_of_length_le (by simp [hl]), map_sealed_pure _ _ _ (pureL_encO _)]
  rfl
/-- The relation of some pairs. -/
def relB (l : List (Int × Int)) (a b : Nat) : Bool := l.any fun p => decide (p.1 = a) && decide (p.2 = b)
theorem relB_snoc {l : List (Int × Int)} {k : Nat} (h : k < l.length) (a b : Nat) : relB (l.take (k + 1)) a b = (relB (l.take k) a b || (decide ((lp l k).1 = a) && decide ((lp l k).2 = b))) := by
  unfold relB
  rw [List.take_succ_eq_append_getElem h, List.any_append, lp_get h]
  simp
theorem tab_set {h w : Nat} {f g : Nat → Nat → Bool} {a b : Nat} (ha : a < h) (hb : b < w) (hg : ∀ x y, g x y = (f x y || (decide (a = x) && decide (b = y)))) : ∀ i, i < h → (tab h w g).getD i [] = if i = a then ((tab h w f).getD i []).set b true else (tab h w f).getD i [] := fun i hi => by
  rw [tab_row hi, tab_row hi]
  by_cases e : i = a
  · subst e
    rw [if_pos rfl]
    refine List.ext_getElem (by simp) fun y h1 h2 => ?_
    simp only [List.getElem_map, List.getElem_range, List.getElem_set, hg]
    by_cases e2 : b = y
    · simp [e2]
    · simp [e2]
  · rw [if_neg e]
    refine List.map_congr_left fun y _ => ?_
    rw [hg]; simp [Ne.symm e]
theorem zeros_eq (w : Nat) : (List.replicate w (.atom (.bool false)) : List PV) = ((List.range w).map fun _ => false).map encO := by
  refine List.ext_getElem (by simp) fun i h1 h2 => by simp [encO]
theorem Table_pure (n : Int) (ps : List (Int × Int)) (hp : ps.length ≤ 1000000000) (h0 : 0 ≤ n) (h1 : n ≤ 64) (hin : ∀ p, p ∈ ps → ¬ OutP n p) : Pure Tryd.prog 59 [encI n, pairs ps] (rows (tab n.toNat n.toNat (relB ps))) [] := by
  refine Pure.intro (ts := [4]) Tryd.func59 (by kernel_rfl) rfl rfl rfl (Nat.le_of_ble_eq_true rfl) ?_ ?_
  · simp [encI, PV.pure, pure_pairs, pureL]
  refine Tri.seqY [0, 1] (fun S K => K ⟨[(0, S.get 0), (1, S.get 1)], S.hp, S.nx, S.gh⟩) (by kernel_rfl) (fun K => by kernel_rfl) fun K hK => ?_
  repeat' (first | (refine hK _ ?_; clear hK K) | (refine (?_ : trOk _ _ _ = true); kernel_rfl) | ((first | refine xG_intro (fun hg => ?_) (fun hg => ?_) | refine fun (hg : (_ : Bool) = _) => ?_) <;> ((try simp only [Bool.not_true, Bool.not_false, decide_eq_true_eq, decide_eq_false_iff_not, Bool.not_eq_true', Bool.not_eq_false'] at hg); try (exfalso; omega))) | refine And.intro ?_ ?_ | ((first | refine fun (hg : (_ : Int) = _) => ?_ | refine fun (hg : (_ : Int) ≠ _) => ?_ | refine fun (hg : ¬ (_ : Int) = _) => ?_ | refine fun (hg : (_ : Int) < _) => ?_ | refine fun (hg : (_ : Nat) < _) => ?_ | refine fun (hg : (_ : Nat) = _) => ?_ | refine fun (hg : ¬ (_ : Nat) = _) => ?_); try (exfalso; omega)) | omega | rfl | exact one_encI _ | exact one_encS _ | exact one_ints _ | exact one_strs _ | refine one_take ?_ _ | refine one_drop ?_ _ | simp (maxSteps := 2000000) only [↓SD, push_cast, Nat.reduceAdd, Nat.reduceSub, Nat.reduceMul, Nat.reduceLT, Nat.reduceLeDiff, Nat.reduceEqDiff, Int.reduceToNat, reduceIte, reduceCtorEq, Int.reduceLE, Int.reduceLT, Int.reduceNeg, ints, strs, encI, encS, pairs])
  all_goals try simp (disch := omega) only [wrap_id, wrap8_id]
  all_goals
    refine Tri.seqY [0, 1, 5] (fun S K => K ⟨[(0, S.get 0), (1, S.get 1), (5, (PV.atom (Go.Value.slice none 0 0)))], S.hp, S.nx, S.gh⟩) (by kernel_rfl) (fun K => by kernel_rfl) fun K hK => ?_
    repeat' (first | (refine hK _ ?_; clear hK K) | (refine (?_ : trOk _ _ _ = true); kernel_rfl) | ((first | refine xG_intro (fun hg => ?_) (fun hg => ?_) | refine fun (hg : (_ : Bool) = _) => ?_) <;> ((try simp only [Bool.not_true, Bool.not_false, decide_eq_true_eq, decide_eq_false_iff_not, Bool.not_eq_true', Bool.not_eq_false'] at hg); try (exfalso; omega))) | refine And.intro ?_ ?_ | ((first | refine fun (hg : (_ : Int) = _) => ?_ | refine fun (hg : (_ : Int) ≠ _) => ?_ | refine fun (hg : ¬ (_ : Int) = _) => ?_ | refine fun (hg : (_ : Int) < _) => ?_ | refine fun (hg : (_ : Nat) < _) => ?_ | refine fun (hg : (_ : Nat) = _) => ?_ | refine fun (hg : ¬ (_ : Nat) = _) => ?_); try (exfalso; omega)) | omega | rfl | exact one_encI _ | exact one_encS _ | exact one_ints _ | exact one_strs _ | refine one_take ?_ _ | refine one_drop ?_ _ | simp (maxSteps := 2000000) only [↓SD, push_cast, Nat.reduceAdd, Nat.reduceSub, Nat.reduceMul, Nat.reduceLT, Nat.reduceLeDiff, Nat.reduceEqDiff, Int.reduceToNat, reduceIte, reduceCtorEq, Int.reduceLE, Int.reduceLT, Int.reduceNeg, ints, strs, encI, encS, pairs])
    all_goals try simp (disch := omega) only [wrap_id, wrap8_id]
    refine Tri.born 5 1 rfl ?_
    all_goals
      refine Tri.seq ?_
      refine Tri.seqY [0, 1, 5, 6] (fun S K => K ⟨[(0, S.get 0), (1, S.get 1), (5, S.get 5), (6, (PV.atom (Go.Value.int Go.IntKind.i64 0)))], S.hp, S.nx, S.gh⟩) (by kernel_rfl) (fun K => by kernel_rfl) fun K hK => ?_
      repeat' (first | (refine hK _ ?_; clear hK K) | (refine (?_ : trOk _ _ _ = true); kernel_rfl) | ((first | refine xG_intro (fun hg => ?_) (fun hg => ?_) | refine fun (hg : (_ : Bool) = _) => ?_) <;> ((try simp only [Bool.not_true, Bool.not_false, decide_eq_true_eq, decide_eq_false_iff_not, Bool.not_eq_true', Bool.not_eq_false'] at hg); try (exfalso; omega))) | refine And.intro ?_ ?_ | ((first | refine fun (hg : (_ : Int) = _) => ?_ | refine fun (hg : (_ : Int) ≠ _) => ?_ | refine fun (hg : ¬ (_ : Int) = _) => ?_ | refine fun (hg : (_ : Int) < _) => ?_ | refine fun (hg : (_ : Nat) < _) => ?_ | refine fun (hg : (_ : Nat) = _) => ?_ | refine fun (hg : ¬ (_ : Nat) = _) => ?_); try (exfalso; omega)) | omega | rfl | exact one_encI _ | exact one_encS _ | exact one_ints _ | exact one_strs _ | refine one_take ?_ _ | refine one_drop ?_ _ | simp (maxSteps := 2000000) only [↓SD, push_cast, Nat.reduceAdd, Nat.reduceSub, Nat.reduceMul, Nat.reduceLT, Nat.reduceLeDiff, Nat.reduceEqDiff, Int.reduceToNat, reduceIte, reduceCtorEq, Int.reduceLE, Int.reduceLT, Int.reduceNeg, ints, strs, encI, encS, pairs])
      all_goals try simp (disch := omega) only [wrap_id, wrap8_id]
      all_goals
        refine Tri.block ?_
        refine Tri.loop (α := (k : Nat) ×' (k ≤ n.toNat)) (fun z => (fun (k : Nat) => (⟨[(0, encI n), (1, pairs ps), (5, .ob 0 1 0 k), (6, encI k)], ((0, some ⟨1, famP k n.toNat⟩) :: objEnv 1 (famO (tab k n.toNat fun _ _ => false))), k + 1, []⟩ : St)) z.1) (fun z => (fun (k : Nat) => n.toNat - k) z.1) ⟨0, Nat.zero_le _⟩ (famL 0 0) ?_ ?_
        · exact leq_fam (r := tab 0 n.toNat fun _ _ => false) rfl rfl (fun i hi => absurd hi (Nat.not_lt_zero _)) (.inl rfl) (by repeat' (first | refine List.forall_mem_cons.2 ⟨?_, ?_⟩ | (intro p hp; exact absurd hp List.not_mem_nil) | exact .inr ⟨rfl, rfl⟩ | exact .inl ⟨by first | rfl | (simp [PV.pure, pureL, pureL_encI, pureL_encS, pureL_ints, pureL_strs, pure_pairs, pure_bools, pure_rows, pureL_encP, pureL_bools, pureL_encO]; done), rfl⟩)) rfl
        · rintro ⟨k, hk⟩
          refine Tri.seq ?_
          refine Tri.seqY [0, 1, 5, 6, 10] (fun S K => XvBinOV Tryd.prog Go.BinOp.lss 3 (Go.Operand.tmp 9) (S.get 6) (S.get 0) (fun r2 _ => K ⟨[(0, S.get 0), (1, S.get 1), (5, S.get 5), (6, S.get 6), (10, r2)], S.hp, S.nx, S.gh⟩)) (by kernel_rfl) (fun K => by kernel_rfl) fun K hK => ?_
          repeat' (first | (refine hK _ ?_; clear hK K) | (refine (?_ : trOk _ _ _ = true); kernel_rfl) | ((first | refine xG_intro (fun hg => ?_) (fun hg => ?_) | refine fun (hg : (_ : Bool) = _) => ?_) <;> ((try simp only [Bool.not_true, Bool.not_false, decide_eq_true_eq, decide_eq_false_iff_not, Bool.not_eq_true', Bool.not_eq_false'] at hg); try (exfalso; omega))) | refine And.intro ?_ ?_ | ((first | refine fun (hg : (_ : Int) = _) => ?_ | refine fun (hg : (_ : Int) ≠ _) => ?_ | refine fun (hg : ¬ (_ : Int) = _) => ?_ | refine fun (hg : (_ : Int) < _) => ?_ | refine fun (hg : (_ : Nat) < _) => ?_ | refine fun (hg : (_ : Nat) = _) => ?_ | refine fun (hg : ¬ (_ : Nat) = _) => ?_); try (exfalso; omega)) | omega | rfl | exact one_encI _ | exact one_encS _ | exact one_ints _ | exact one_strs _ | refine one_take ?_ _ | refine one_drop ?_ _ | simp (maxSteps := 2000000) only [↓SD, push_cast, Nat.reduceAdd, Nat.reduceSub, Nat.reduceMul, Nat.reduceLT, Nat.reduceLeDiff, Nat.reduceEqDiff, Int.reduceToNat, reduceIte, reduceCtorEq, Int.reduceLE, Int.reduceLT, Int.reduceNeg, ints, strs, encI, encS, pairs])
          all_goals try simp (disch := omega) only [wrap_id, wrap8_id]
          all_goals
            refine Tri.cond rfl (fun h10 => ?_) (fun h10 => ?_)
            · try (cases h10; done)
              all_goals (try simp only [decide_eq_true_eq, decide_eq_false_iff_not, Bool.not_eq_true', Bool.not_eq_false', Bool.and_eq_true, Bool.or_eq_true] at h10)
              all_goals
                refine Tri.skip ?_
                refine Tri.seq ?_
                refine Tri.block ?_
                refine Tri.regY [0, 1, 5, 6] (fun S K => XvMake Tryd.prog 65 (M S.hp S.nx) (S.get 0) (S.get 0) (fun r2 e2 => XvBuildS Tryd.prog 91 1 (S.nx + e2.add.length) [(0, r2)] (fun r3 e3 => (91 = 91 ∧ XvAppend Tryd.prog 91 (M (Eff.hp e3 (S.nx + e2.add.length) (Eff.hp e2 S.nx S.hp)) ((S.nx + e2.add.length) + e3.add.length)) (S.get 5) r3 (fun r4 e4 => K ⟨[(0, S.get 0), (1, S.get 1), (5, r4), (6, S.get 6)], (Eff.hp e4 ((S.nx + e2.add.length) + e3.add.length) (Eff.hp e3 (S.nx + e2.add.length) (Eff.hp e2 S.nx S.hp))), (((S.nx + e2.add.length) + e3.add.length) + e4.add.length), S.gh⟩))))) (by kernel_rfl) (fun K => by kernel_rfl) fun K hK => ?_
                repeat' (first | (refine hK _ ?_; clear hK K) | (refine (?_ : trOk _ _ _ = true); kernel_rfl) | ((first | refine xG_intro (fun hg => ?_) (fun hg => ?_) | refine fun (hg : (_ : Bool) = _) => ?_) <;> ((try simp only [Bool.not_true, Bool.not_false, decide_eq_true_eq, decide_eq_false_iff_not, Bool.not_eq_true', Bool.not_eq_false'] at hg); try (exfalso; omega))) | refine And.intro ?_ ?_ | ((first | refine fun (hg : (_ : Int) = _) => ?_ | refine fun (hg : (_ : Int) ≠ _) => ?_ | refine fun (hg : ¬ (_ : Int) = _) => ?_ | refine fun (hg : (_ : Int) < _) => ?_ | refine fun (hg : (_ : Nat) < _) => ?_ | refine fun (hg : (_ : Nat) = _) => ?_ | refine fun (hg : ¬ (_ : Nat) = _) => ?_); try (exfalso; omega)) | omega | rfl | exact one_encI _ | exact one_encS _ | exact one_ints _ | exact one_strs _ | refine one_take ?_ _ | refine one_drop ?_ _ | simp (maxSteps := 2000000) only [↓SD, push_cast, Nat.reduceAdd, Nat.reduceSub, Nat.reduceMul, Nat.reduceLT, Nat.reduceLeDiff, Nat.reduceEqDiff, Int.reduceToNat, reduceIte, reduceCtorEq, Int.reduceLE, Int.reduceLT, Int.reduceNeg, ints, strs, encI, encS, pairs, famP_len])
                all_goals try simp (disch := omega) only [wrap_id, wrap8_id]
                all_goals
                  refine Tri.regY [0, 1, 5, 6] (fun S K => XvBinOV Tryd.prog Go.BinOp.add 3 (Go.Operand.const (Go.Value.int Go.IntKind.i64 1)) (S.get 6) (PV.atom (Go.Value.int Go.IntKind.i64 1)) (fun r1 _ => K ⟨[(0, S.get 0), (1, S.get 1), (5, S.get 5), (6, r1)], S.hp, S.nx, S.gh⟩)) (by kernel_rfl) (fun K => by kernel_rfl) fun K hK => ?_
                  repeat' (first | (refine hK _ ?_; clear hK K) | (refine (?_ : trOk _ _ _ = true); kernel_rfl) | ((first | refine xG_intro (fun hg => ?_) (fun hg => ?_) | refine fun (hg : (_ : Bool) = _) => ?_) <;> ((try simp only [Bool.not_true, Bool.not_false, decide_eq_true_eq, decide_eq_false_iff_not, Bool.not_eq_true', Bool.not_eq_false'] at hg); try (exfalso; omega))) | refine And.intro ?_ ?_ | ((first | refine fun (hg : (_ : Int) = _) => ?_ | refine fun (hg : (_ : Int) ≠ _) => ?_ | refine fun (hg : ¬ (_ : Int) = _) => ?_ | refine fun (hg : (_ : Int) < _) => ?_ | refine fun (hg : (_ : Nat) < _) => ?_ | refine fun (hg : (_ : Nat) = _) => ?_ | refine fun (hg : ¬ (_ : Nat) = _) => ?_); try (exfalso; omega)) | omega | rfl | exact one_encI _ | exact one_encS _ | exact one_ints _ | exact one_strs _ | refine one_take ?_ _ | refine one_drop ?_ _ | simp (maxSteps := 2000000) only [↓SD, push_cast, Nat.reduceAdd, Nat.reduceSub, Nat.reduceMul, Nat.reduceLT, Nat.reduceLeDiff, Nat.reduceEqDiff, Int.reduceToNat, reduceIte, reduceCtorEq, Int.reduceLE, Int.reduceLT, Int.reduceNeg, ints, strs, encI, encS, pairs])
                  all_goals try simp (disch := omega) only [wrap_id, wrap8_id]
                  all_goals
                    refine ⟨⟨k + 1, by omega⟩, famL (k + 3) (k + 1), by dsimp only; omega, ?_⟩
                    refine leq_fam (m := k + 1) (tab_len _ _ _) ?_ (fun i hi => ?_) (.inr (by omega)) (by repeat' (first | refine List.forall_mem_cons.2 ⟨?_, ?_⟩ | (intro p hp; exact absurd hp List.not_mem_nil) | exact .inr ⟨rfl, rfl⟩ | exact .inl ⟨by first | rfl | (simp [PV.pure, pureL, pureL_encI, pureL_encS, pureL_ints, pureL_strs, pure_pairs, pure_bools, pure_rows, pureL_encP, pureL_bools, pureL_encO]; done), rfl⟩)) rfl
                    · simp [St.obj, lk, famP_succ]
                    · rcases Nat.lt_succ_iff_lt_or_eq.1 hi with hi | rfl
                      · have a1 : ¬ k + 1 + 1 + 1 = i + 1 := by omega
                        have a2 : ¬ k + 1 + 1 = i + 1 := by omega
                        have a3 : ¬ k + 1 = i + 1 := by omega
                        have a4 : ¬ 0 = i + 1 := by omega
                        simp only [St.obj, lk, a1, a2, a3, a4, if_false]
                        rw [lk_fam (by rw [tab_len]; exact hi), tab_row hi, tab_row (by omega)]
                        rfl
                      · have a1 : ¬ i + 1 + 1 + 1 = i + 1 := by omega
                        have a2 : ¬ i + 1 + 1 = i + 1 := by omega
                        have a4 : ¬ 0 = i + 1 := by omega
                        simp only [St.obj, lk, a1, a2, a4, if_false, if_true]
                        rw [tab_row (by omega), zeros_eq]
                        rfl
            · try (cases h10; done)
              all_goals (try simp only [decide_eq_true_eq, decide_eq_false_iff_not, Bool.not_eq_true', Bool.not_eq_false', Bool.and_eq_true, Bool.or_eq_true] at h10)
              all_goals
                refine Tri.exit ?_
                refine Tri.seq ?_
                have hkn : k = n.toNat := by omega
                subst hkn
                refine Tri.seqY [1, 5, 7] (fun S K => K ⟨[(1, S.get 1), (5, S.get 5), (7, (PV.atom (Go.Value.int Go.IntKind.i64 0)))], S.hp, S.nx, S.gh⟩) (by kernel_rfl) (fun K => by kernel_rfl) fun K hK => ?_
                repeat' (first | (refine hK _ ?_; clear hK K) | (refine (?_ : trOk _ _ _ = true); kernel_rfl) | ((first | refine xG_intro (fun hg => ?_) (fun hg => ?_) | refine fun (hg : (_ : Bool) = _) => ?_) <;> ((try simp only [Bool.not_true, Bool.not_false, decide_eq_true_eq, decide_eq_false_iff_not, Bool.not_eq_true', Bool.not_eq_false'] at hg); try (exfalso; omega))) | refine And.intro ?_ ?_ | ((first | refine fun (hg : (_ : Int) = _) => ?_ | refine fun (hg : (_ : Int) ≠ _) => ?_ | refine fun (hg : ¬ (_ : Int) = _) => ?_ | refine fun (hg : (_ : Int) < _) => ?_ | refine fun (hg : (_ : Nat) < _) => ?_ | refine fun (hg : (_ : Nat) = _) => ?_ | refine fun (hg : ¬ (_ : Nat) = _) => ?_); try (exfalso; omega)) | omega | rfl | exact one_encI _ | exact one_encS _ | exact one_ints _ | exact one_strs _ | refine one_take ?_ _ | refine one_drop ?_ _ | simp (maxSteps := 2000000) only [↓SD, push_cast, Nat.reduceAdd, Nat.reduceSub, Nat.reduceMul, Nat.reduceLT, Nat.reduceLeDiff, Nat.reduceEqDiff, Int.reduceToNat, reduceIte, reduceCtorEq, Int.reduceLE, Int.reduceLT, Int.reduceNeg, ints, strs, encI, encS, pairs])
                all_goals try simp (disch := omega) only [wrap_id, wrap8_id]
                all_goals
                  refine Tri.block ?_
                  refine Tri.loop (α := (k : Nat) ×' (k ≤ ps.length)) (fun z => (fun (k : Nat) => (⟨[(1, pairs ps), (5, .ob 0 1 0 n.toNat), (7, encI k)], ((0, some ⟨1, famP n.toNat n.toNat⟩) :: objEnv 1 (famO (tab n.toNat n.toNat (relB (ps.take k))))), n.toNat + 1, []⟩ : St)) z.1) (fun z => (fun (k : Nat) => ps.length - k) z.1) ⟨0, Nat.zero_le _⟩ (famL 0 n.toNat) ?_ ?_
                  · refine leq_fam (m := n.toNat) (tab_len _ _ _) rfl (fun i hi => ?_) (.inl rfl) (by repeat' (first | refine List.forall_mem_cons.2 ⟨?_, ?_⟩ | (intro p hp; exact absurd hp List.not_mem_nil) | exact .inr ⟨rfl, rfl⟩ | exact .inl ⟨by first | rfl | (simp [PV.pure, pureL, pureL_encI, pureL_encS, pureL_ints, pureL_strs, pure_pairs, pure_bools, pure_rows, pureL_encP, pureL_bools, pureL_encO]; done), rfl⟩)) rfl
                    have a4 : ¬ 0 = i + 1 := by omega
                    simp only [St.obj, lk, a4, if_false]
                    rw [lk_fam (by rw [tab_len]; exact hi), tab_row hi, tab_row hi]
                    rfl
                  · rintro ⟨k, hk2⟩
                    refine Tri.seq ?_
                    refine Tri.seqY [1, 5, 7, 21] (fun S K => XvLen Tryd.prog 57 (S.get 1) (fun r2 _ => XvBinOV Tryd.prog Go.BinOp.lss 3 (Go.Operand.tmp 20) (S.get 7) r2 (fun r3 _ => K ⟨[(1, S.get 1), (5, S.get 5), (7, S.get 7), (21, r3)], S.hp, S.nx, S.gh⟩))) (by kernel_rfl) (fun K => by kernel_rfl) fun K hK => ?_
                    repeat' (first | (refine hK _ ?_; clear hK K) | (refine (?_ : trOk _ _ _ = true); kernel_rfl) | ((first | refine xG_intro (fun hg => ?_) (fun hg => ?_) | refine fun (hg : (_ : Bool) = _) => ?_) <;> ((try simp only [Bool.not_true, Bool.not_false, decide_eq_true_eq, decide_eq_false_iff_not, Bool.not_eq_true', Bool.not_eq_false'] at hg); try (exfalso; omega))) | refine And.intro ?_ ?_ | ((first | refine fun (hg : (_ : Int) = _) => ?_ | refine fun (hg : (_ : Int) ≠ _) => ?_ | refine fun (hg : ¬ (_ : Int) = _) => ?_ | refine fun (hg : (_ : Int) < _) => ?_ | refine fun (hg : (_ : Nat) < _) => ?_ | refine fun (hg : (_ : Nat) = _) => ?_ | refine fun (hg : ¬ (_ : Nat) = _) => ?_); try (exfalso; omega)) | omega | rfl | exact one_encI _ | exact one_encS _ | exact one_ints _ | exact one_strs _ | refine one_take ?_ _ | refine one_drop ?_ _ | simp (maxSteps := 2000000) only [↓SD, push_cast, Nat.reduceAdd, Nat.reduceSub, Nat.reduceMul, Nat.reduceLT, Nat.reduceLeDiff, Nat.reduceEqDiff, Int.reduceToNat, reduceIte, reduceCtorEq, Int.reduceLE, Int.reduceLT, Int.reduceNeg, ints, strs, encI, encS, pairs])
                    all_goals try simp (disch := omega) only [wrap_id, wrap8_id]
                    all_goals
                      refine Tri.cond rfl (fun h21 => ?_) (fun h21 => ?_)
                      · try (cases h21; done)
                        all_goals (try simp only [decide_eq_true_eq, decide_eq_false_iff_not, Bool.not_eq_true', Bool.not_eq_false', Bool.and_eq_true, Bool.or_eq_true] at h21)
                        all_goals
                          refine Tri.skip ?_
                          refine Tri.seq ?_
                          refine Tri.block ?_
                          have hkl : k < ps.length := by omega
                          have hpo := hin _ (lp_mem hkl)
                          unfold OutP at hpo
                          have ha : (lp ps k).1.toNat < n.toNat := by omega
                          have hb : (lp ps k).2.toNat < n.toNat := by omega
                          have hz : (0 = (lp ps k).1.toNat + 1) = False := by simp
                          refine Tri.regYD 14 [1, 5, 7] (fun GD S K => XvIndexAddr Tryd.prog 57 (S.get 1) (S.get 7) (fun r3 e3 => XvIndexAddr Tryd.prog 58 r3 (PV.atom (Go.Value.int Go.IntKind.i64 0)) (fun r4 e4 => XvLoad Tryd.prog 3 (M S.hp S.nx) r4 (fun r5 e5 => XvIndexAddr Tryd.prog 91 (S.get 5) r5 (fun r6 e6 => XvLoad Tryd.prog 65 (M S.hp S.nx) r6 (fun r7 e7 => XvIndexAddr Tryd.prog 57 (S.get 1) (S.get 7) (fun r10 e10 => XvIndexAddr Tryd.prog 58 r10 (PV.atom (Go.Value.int Go.IntKind.i64 1)) (fun r11 e11 => XvLoad Tryd.prog 3 (M S.hp S.nx) r11 (fun r12 e12 => XvIndexAddr Tryd.prog 65 r7 r12 (fun r13 e13 => (trOk S.nx GD [⟨S.nx, 0, [], [], []⟩, ⟨S.nx, 0, [], [], []⟩, ⟨S.nx, 0, [], [], []⟩, ⟨S.nx, 0, e3.rd, [], []⟩, ⟨S.nx, 0, e4.rd, [], []⟩, ⟨S.nx, 0, e5.rd, [], []⟩, ⟨S.nx, 0, e6.rd, [], []⟩, ⟨S.nx, 0, e7.rd, [], []⟩, ⟨S.nx, 0, [], [], []⟩, ⟨S.nx, 0, [], [], []⟩, ⟨S.nx, 0, e10.rd, [], []⟩, ⟨S.nx, 0, e11.rd, [], []⟩, ⟨S.nx, 0, e12.rd, [], []⟩, ⟨S.nx, 0, e13.rd, [], []⟩] = true ∧ XvStore Tryd.prog 4 (M S.hp S.nx) r13 (PV.atom (Go.Value.bool true)) (fun r14 e14 => K ⟨[(1, S.get 1), (5, S.get 5), (7, S.get 7)], (Eff.hp e14 S.nx S.hp), (S.nx + e14.add.length), S.gh⟩)))))))))))) (by kernel_rfl) (by kernel_rfl) (by kernel_rfl) (fun K => by kernel_rfl) fun K hK => ?_
                          repeat' (first | (refine hK _ ?_; clear hK K) | (refine (?_ : trOk _ _ _ = true); kernel_rfl) | ((first | refine xG_intro (fun hg => ?_) (fun hg => ?_) | refine fun (hg : (_ : Bool) = _) => ?_) <;> ((try simp only [Bool.not_true, Bool.not_false, decide_eq_true_eq, decide_eq_false_iff_not, Bool.not_eq_true', Bool.not_eq_false'] at hg); try (exfalso; omega))) | refine And.intro ?_ ?_ | ((first | refine fun (hg : (_ : Int) = _) => ?_ | refine fun (hg : (_ : Int) ≠ _) => ?_ | refine fun (hg : ¬ (_ : Int) = _) => ?_ | refine fun (hg : (_ : Int) < _) => ?_ | refine fun (hg : (_ : Nat) < _) => ?_ | refine fun (hg : (_ : Nat) = _) => ?_ | refine fun (hg : ¬ (_ : Nat) = _) => ?_); try (exfalso; omega)) | omega | rfl | exact one_encI _ | exact one_encS _ | exact one_ints _ | exact one_strs _ | refine one_take ?_ _ | refine one_drop ?_ _ | simp (maxSteps := 2000000) only [↓SD, push_cast, Nat.reduceAdd, Nat.reduceSub, Nat.reduceMul, Nat.reduceLT, Nat.reduceLeDiff, Nat.reduceEqDiff, Int.reduceToNat, reduceIte, reduceCtorEq, Int.reduceLE, Int.reduceLT, Int.reduceNeg, ints, strs, encI, encS, pairs, getD_encP hkl, encP, famP_len, getD_famP ha, lk_fam (r := tab n.toNat n.toNat (relB (ps.take k))) (by rw [tab_len]; exact ha), hz, tab_row ha, List.length_range, getD_encO (l := (List.range n.toNat).map fun b => relB (ps.take k) (lp ps k).1.toNat b) (k := (lp ps k).2.toNat) (by rw [List.length_map, List.length_range]; exact hb), encO])
                          all_goals try simp (disch := omega) only [wrap_id, wrap8_id]
                          all_goals
                            refine Tri.regY [1, 5, 7] (fun S K => XvBinOV Tryd.prog Go.BinOp.add 3 (Go.Operand.const (Go.Value.int Go.IntKind.i64 1)) (S.get 7) (PV.atom (Go.Value.int Go.IntKind.i64 1)) (fun r1 _ => K ⟨[(1, S.get 1), (5, S.get 5), (7, r1)], S.hp, S.nx, S.gh⟩)) (by kernel_rfl) (fun K => by kernel_rfl) fun K hK => ?_
                            repeat' (first | (refine hK _ ?_; clear hK K) | (refine (?_ : trOk _ _ _ = true); kernel_rfl) | ((first | refine xG_intro (fun hg => ?_) (fun hg => ?_) | refine fun (hg : (_ : Bool) = _) => ?_) <;> ((try simp only [Bool.not_true, Bool.not_false, decide_eq_true_eq, decide_eq_false_iff_not, Bool.not_eq_true', Bool.not_eq_false'] at hg); try (exfalso; omega))) | refine And.intro ?_ ?_ | ((first | refine fun (hg : (_ : Int) = _) => ?_ | refine fun (hg : (_ : Int) ≠ _) => ?_ | refine fun (hg : ¬ (_ : Int) = _) => ?_ | refine fun (hg : (_ : Int) < _) => ?_ | refine fun (hg : (_ : Nat) < _) => ?_ | refine fun (hg : (_ : Nat) = _) => ?_ | refine fun (hg : ¬ (_ : Nat) = _) => ?_); try (exfalso; omega)) | omega | rfl | exact one_encI _ | exact one_encS _ | exact one_ints _ | exact one_strs _ | refine one_take ?_ _ | refine one_drop ?_ _ | simp (maxSteps := 2000000) only [↓SD, push_cast, Nat.reduceAdd, Nat.reduceSub, Nat.reduceMul, Nat.reduceLT, Nat.reduceLeDiff, Nat.reduceEqDiff, Int.reduceToNat, reduceIte, reduceCtorEq, Int.reduceLE, Int.reduceLT, Int.reduceNeg, ints, strs, encI, encS, pairs])
                            all_goals try simp (disch := omega) only [wrap_id, wrap8_id]
                            all_goals
                              refine ⟨⟨k + 1, by omega⟩, famL 0 n.toNat, by dsimp only; omega, ?_⟩
                              have hset := tab_set (h := n.toNat) (w := n.toNat) (f := relB (ps.take k)) (g := relB (ps.take (k + 1))) ha hb (fun x y => by
                                rw [relB_snoc hkl]
                                congr 2
                                · rw [decide_eq_decide]; omega
                                · rw [decide_eq_decide]; omega)
                              refine leq_fam (m := n.toNat) (tab_len _ _ _) ?_ (fun i hi => ?_) (.inl rfl) (by repeat' (first | refine List.forall_mem_cons.2 ⟨?_, ?_⟩ | (intro p hp; exact absurd hp List.not_mem_nil) | exact .inr ⟨rfl, rfl⟩ | exact .inl ⟨by first | rfl | (simp [PV.pure, pureL, pureL_encI, pureL_encS, pureL_ints, pureL_strs, pure_pairs, pure_bools, pure_rows, pureL_encP, pureL_bools, pureL_encO]; done), rfl⟩)) rfl
                              · have a1 : ¬ (lp ps k).1.toNat + 1 = 0 := by omega
                                simp only [St.obj, lk, a1, if_false, if_true]; rfl
                              · have a4 : ¬ 0 = i + 1 := by omega
                                by_cases hia : i = (lp ps k).1.toNat
                                · subst hia
                                  simp only [St.obj, lk, if_true]
                                  rw [hset _ hi, if_pos rfl, tab_row hi, List.map_set]
                                  rfl
                                · have a1 : ¬ (lp ps k).1.toNat + 1 = i + 1 := by omega
                                  simp only [St.obj, lk, a1, a4, if_false]
                                  rw [lk_fam (by rw [tab_len]; exact hi), hset _ hi, if_neg hia]
                                  rfl
                      · try (cases h21; done)
                        all_goals (try simp only [decide_eq_true_eq, decide_eq_false_iff_not, Bool.not_eq_true', Bool.not_eq_false', Bool.and_eq_true, Bool.or_eq_true] at h21)
                        all_goals
                          refine Tri.exit ?_
                          refine Tri.seqY [4] (fun S K => K ⟨[(4, (S.get 5))], S.hp, S.nx, S.gh⟩) (by kernel_rfl) (fun K => by kernel_rfl) fun K hK => ?_
                          repeat' (first | (refine hK _ ?_; clear hK K) | (refine (?_ : trOk _ _ _ = true); kernel_rfl) | ((first | refine xG_intro (fun hg => ?_) (fun hg => ?_) | refine fun (hg : (_ : Bool) = _) => ?_) <;> ((try simp only [Bool.not_true, Bool.not_false, decide_eq_true_eq, decide_eq_false_iff_not, Bool.not_eq_true', Bool.not_eq_false'] at hg); try (exfalso; omega))) | refine And.intro ?_ ?_ | ((first | refine fun (hg : (_ : Int) = _) => ?_ | refine fun (hg : (_ : Int) ≠ _) => ?_ | refine fun (hg : ¬ (_ : Int) = _) => ?_ | refine fun (hg : (_ : Int) < _) => ?_ | refine fun (hg : (_ : Nat) < _) => ?_ | refine fun (hg : (_ : Nat) = _) => ?_ | refine fun (hg : ¬ (_ : Nat) = _) => ?_); try (exfalso; omega)) | omega | rfl | exact one_encI _ | exact one_encS _ | exact one_ints _ | exact one_strs _ | refine one_take ?_ _ | refine one_drop ?_ _ | simp (maxSteps := 2000000) only [↓SD, push_cast, Nat.reduceAdd, Nat.reduceSub, Nat.reduceMul, Nat.reduceLT, Nat.reduceLeDiff, Nat.reduceEqDiff, Int.reduceToNat, reduceIte, reduceCtorEq, Int.reduceLE, Int.reduceLT, Int.reduceNeg, ints, strs, encI, encS, pairs])
                          all_goals try simp (disch := omega) only [wrap_id, wrap8_id]
                          all_goals
                            refine Tri.ret ?_
                            show ResOk _ _ _ _
                            have hkp : k = ps.length := by omega
                            subst hkp
                            rw [List.take_length]
                            exact ResOk.frz 5 (fam_sealed (tab_len _ _ _) (fun i hi => by rw [tab_row hi]; simp) rfl (fun i hi => by
                              have a4 : ¬ 0 = i + 1 := by omega
                              simp only [St.obj, lk, a4, if_false]
                              rw [lk_fam (by rw [tab_len]; exact hi)]
                              rfl)) (pure_rows _)
end Go.Proofs.YtfnkciboencifaaDoor

