/-
  Walks: search of the reference model, whole.
-/
import Derived.Test.YtcdeilgijleoaaaQVR
import Derived.Test.YtcdeilgijleoaaaQB6
set_option linter.all false
namespace Go.Proofs.Ytcdeilgijleoaaa
open Go Go.RowKit
set_option linter.unusedSimpArgs false
set_option linter.unusedVariables false
set_option maxRecDepth 20000
set_option maxHeartbeats 1000000
theorem lelB7 {p : Prop} (h : p := by (first | rfl | (simp only [List.map_append, List.map_cons, List.map_nil, List.append_nil, List.nil_append, List.append_assoc, List.cons_append, encI, encS, ints, strs]; done) | (simp [encI, encS, ints, strs, encP]; done)); first | done | fail) : p := h
theorem lpuB7 {p : Prop} (h : p := by (first | rfl | exact pureL_encI _ | exact pureL_encS _ | exact pureL_ints _ | exact pureL_strs _ | exact pureL_encP _ | (simp [pureL_append, pureL_encI, pureL_encS, pureL_ints, pureL_strs, pureL, PV.pure, pure_ints, pure_strs, pure_case, pureL_encP, pure_pairs]; done)); first | done | fail) : p := h
theorem lsrB7 {p : Prop} (h : p := by (first | rfl | (simp [St.born, St.known, retV, St.get, St.obj, lk, sealed, PV.ren, renL, rmap, AO.ren, ints, strs, encI, encS, map_sealed_encI, map_sealed_encS, map_sealed_ints, map_sealed_strs, map_ren_encI, map_ren_encS, map_ren_ints, map_ren_strs, renL_encI, renL_encS, renL_ints, renL_strs, ren_case, encC, pairs, renL_encP, map_sealed_encP, map_ren_encP, encP, take_map_len]; done)); first | done | fail) : p := h
theorem search_base (c : CaseD) (loads : List Int) (limit : Int) (hl : loads.length ≤ 1000000000) (hs : c.sizes.length ≤ 1000000) : Pure Try.prog 38 [encC c, encI (c.sizes.length : Nat), ints loads, encI limit] (.tup [.ob 0 2 0 0, encI (greatest loads), .atom (.bool (decide (greatest loads < limit)))]) [⟨2, []⟩] := by
  refine Pure.intro (ts := [8, 9, 10]) Try.func38 (by kernel_rfl) rfl rfl rfl (Nat.le_of_ble_eq_true rfl) ?_ ?_
  · simp [pure_case, pure_ints, encI, PV.pure, pureL]
  refine sZ [1, 2, 3, 4] (fun P S K => XvBox S.nx (S.get 0) (fun r0 ef0 => K ⟨[(1, S.get 1), (2, S.get 2), (3, S.get 3), (4, r0)], (Eff.hp ef0 S.nx S.hp), (S.nx + ef0.add.length), S.gh⟩)) fun K hK => ?_
  repeat' (first | (refine hK _ ?_; clear hK K) | ((first | refine xG_intro (fun hg => ?_) (fun hg => ?_) | refine fun (hg : (_ : Prop)) => ?_) <;> ((try simp only [BQ] at hg); try (exfalso; omega))) | refine And.intro ?_ ?_ | exact cl | refine one_take ?_ _ | refine one_drop ?_ _ | (refine st ?_; try simp only [encC, pairs]) | simp only [encC, pairs])
  all_goals
  refine Tri.seq ?_
  refine sZ [1, 2, 3, 4, 23] (fun P S K => XvFieldAddr P 25 0 (S.get 4) (fun r1 _ => XvLoad P 22 (M S.hp S.nx) r1 (fun r2 _ => XvLen P 22 r2 (fun r3 _ => XvBinOV P .geq 3 (.tmp 22) (S.get 1) r3 (fun r4 _ => K ⟨[(1, S.get 1), (2, S.get 2), (3, S.get 3), (4, S.get 4), (23, r4)], S.hp, S.nx, S.gh⟩))))) fun K hK => ?_
  repeat' (first | (refine hK _ ?_; clear hK K) | ((first | refine xG_intro (fun hg => ?_) (fun hg => ?_) | refine fun (hg : (_ : Prop)) => ?_) <;> ((try simp only [BQ] at hg); try (exfalso; omega))) | refine And.intro ?_ ?_ | exact cl | refine one_take ?_ _ | refine one_drop ?_ _ | simp (maxSteps := 2000000) only [↓SD, push_cast, Nat.reduceAdd, Nat.reduceSub, Nat.reduceMul, Nat.reduceLT, Nat.reduceLeDiff, Nat.reduceEqDiff, Int.reduceToNat, reduceIte, reduceCtorEq, Int.reduceLE, Int.reduceLT, Int.reduceNeg, ints, strs, encI, encS, encC, pairs, dec_yes (show (c.sizes.length : Int) ≤ (c.sizes.length : Int) from Int.le_refl _)])
  all_goals
  refine Tri.cond rfl (fun h23 => ?_) (fun h23 => ?_)
  ·try (cases h23; done)
   all_goals (try simp only [CQ] at h23)
   all_goals
   refine sZ [8, 9, 10] (fun P S K => XvFnIV P (M S.hp S.nx) (.fn 34 []) [(S.get 2)] (fun r1 ef1 => XvFnIV P (M (Eff.hp ef1 S.nx S.hp) (S.nx + ef1.add.length)) (.fn 34 []) [(S.get 2)] (fun r3 ef3 => XvBinOV P .lss 3 (.tmp 28) r3 (S.get 3) (fun r5 _ => K ⟨[(8, (.atom (.slice none 0 0))), (9, r1), (10, r5)], (Eff.hp ef3 (S.nx + ef1.add.length) (Eff.hp ef1 S.nx S.hp)), ((S.nx + ef1.add.length) + ef3.add.length), S.gh⟩)))) fun K hK => ?_
   repeat' (first | (refine hK _ ?_; clear hK K) | ((first | refine xG_intro (fun hg => ?_) (fun hg => ?_) | refine fun (hg : (_ : Prop)) => ?_) <;> ((try simp only [BQ] at hg); try (exfalso; omega))) | refine And.intro ?_ ?_ | exact cl | refine one_take ?_ _ | refine one_drop ?_ _ | refine .inl ⟨_, _, Greatest_pure loads hl, ?_⟩ | refine ⟨_, _, Greatest_pure loads hl, ?_⟩ | (refine st ?_; try simp only [encC, pairs]) | simp only [encC, pairs])
   refine Tri.born 8 2 rfl ?_
   all_goals
   refine Tri.ret ?_
   show ResOk _ _ _ _
   exact ResOk.row 1 rfl lelB7 lpuB7 lsrB7
  ·try (cases h23; done)
   all_goals (try simp only [CQ] at h23)
   all_goals
   refine Tri.skip ?_
   refine sY [1, 2, 3, 4, 11] (fun P S K => K ⟨[(1, S.get 1), (2, S.get 2), (3, S.get 3), (4, S.get 4), (11, (.atom (.slice none 0 0)))], S.hp, S.nx, S.gh⟩) ?_
   all_goals
   refine sY [1, 2, 3, 4, 11, 12] (fun P S K => K ⟨[(1, S.get 1), (2, S.get 2), (3, S.get 3), (4, S.get 4), (11, S.get 11), (12, (.atom (.bool false)))], S.hp, S.nx, S.gh⟩) ?_
   all_goals
   refine sZ [1, 2, 3, 4, 11, 12, 13] (fun P S K => XvLoad P 25 (M S.hp S.nx) (S.get 4) (fun r0 _ => XvFnIV P (M S.hp S.nx) (.fn 58 []) [r0, (S.get 1)] (fun r2 ef2 => K ⟨[(1, S.get 1), (2, S.get 2), (3, S.get 3), (4, S.get 4), (11, S.get 11), (12, S.get 12), (13, r2)], (Eff.hp ef2 S.nx S.hp), (S.nx + ef2.add.length), S.gh⟩))) fun K hK => ?_
   repeat' (first | (refine hK _ ?_; clear hK K) | ((first | refine xG_intro (fun hg => ?_) (fun hg => ?_) | refine fun (hg : (_ : Prop)) => ?_) <;> ((try simp only [BQ] at hg); try (exfalso; omega))) | refine And.intro ?_ ?_ | exact cl | refine one_take ?_ _ | refine one_drop ?_ _ | (refine st ?_; try simp only [encC, pairs]) | simp only [encC, pairs])
   all_goals
   refine Tri.seq ?_
   refine sY [1, 2, 3, 4, 11, 12, 13, 14] (fun P S K => K ⟨[(1, S.get 1), (2, S.get 2), (3, S.get 3), (4, S.get 4), (11, S.get 11), (12, S.get 12), (13, S.get 13), (14, (.atom (.int .i64 0)))], S.hp, S.nx, S.gh⟩) ?_
   all_goals
   refine Tri.block ?_
   fail -- LOOP 0
theorem search_freeze {f : FuncId} {args : List PV} {l : List (Int × Int)} {n : Int} {b : Bool} (h : Pure Try.prog f args (.tup [.ob 0 2 0 l.length, encI n, .atom (.bool b)]) [⟨2, l.map encP⟩]) : Pure Try.prog f args (.tup [pairs l, encI n, .atom (.bool b)]) [] :=
  h.freeze 5 (by simp [-List.map_map, -List.map_inj_left, sealed, pairs, encI, map_sealed_encP, take_map_len]) (by simp [PV.pure, pureL, pure_pairs, encI])
theorem search_own (c : CaseD) (hc : Held c) (hG : Good c) : ∀ (k at_ : Nat) (L : List Int) (lim : Int), at_ + k = c.sizes.length → L.length = c.people.toNat → (∀ x, x ∈ L → 0 ≤ x ∧ x ≤ 2048 * (at_ : Int)) →
    Pure Try.prog 38 [encC c, encI at_, ints L, encI lim] (.tup [.ob 0 2 0 (searchF c k L lim).1.length, encI (searchF c k L lim).2.1, .atom (.bool (searchF c k L lim).2.2)]) [⟨2, (searchF c k L lim).1.map encP⟩]
  | 0, at_, L, lim, h, hl, hr => by
    have := search_base c L lim (by have := hG.hi; omega) hc.sizes
    rw [← h] at this
    exact this
  | k + 1, at_, L, lim, h, hl, hr => search_step c hc hG k at_ L lim h hl hr fun L' lim' hl' hr' => by
    have := search_freeze (search_own c hc hG k (at_ + 1) L' lim' (by omega) hl' hr')
    simpa using this
end Go.Proofs.Ytcdeilgijleoaaa
set_option linter.all false
namespace Go.Proofs.Ytcdeilgijleoaaa
open Go Go.RowKit
set_option linter.unusedSimpArgs false
set_option linter.unusedVariables false
set_option maxRecDepth 20000
set_option maxHeartbeats 1000000
theorem leqB8 {p : Prop} (h : p := by (refine ⟨4, ?_, ?_, rfl, by simp, rfl, fun _ h _ => absurd h (Nat.not_lt_zero _)⟩ <;> (simp only [List.forall_mem_cons]; repeat' (first | refine And.intro ?_ ?_ | (intro p hp; exact absurd hp List.not_mem_nil) | rfl | exact sp (pure_case _) | exact sp (pure_pairs _) | exact (sealed_pure _ _ _ (pure_ints _)).trans (ren_ints _ _).symm | exact (sealed_pure _ _ _ (pure_strs _)).trans (ren_strs _ _).symm | exact sp (by assumption) | (intro o ho; cases ho; refine ⟨by decide, ?_⟩; first | (refine LeqS.row rfl ?_ ?_; (next => (first | rfl | (simp only [List.map_append, List.map_cons, List.map_nil, List.append_nil, List.nil_append, List.append_assoc, List.cons_append, encI, encS, ints, strs]; done) | (simp [encI, encS, ints, strs]; done))); (next => (first | rfl | exact pureL_encI _ | exact pureL_encS _ | exact pureL_ints _ | exact pureL_strs _ | exact pureL_encP _ | (simp [pureL_append, pureL_encI, pureL_encS, pureL_ints, pureL_strs, pureL, PV.pure, pure_ints, pure_strs, pure_case, pureL_encP, pure_pairs]; done))); done) | refine ⟨_, rfl, rfl, ?_⟩) | (simp [St.born, St.known, retV, St.get, St.obj, lk, sealed, PV.ren, renL, rmap, AO.ren, ints, strs, encI, encS, map_sealed_encI, map_sealed_encS, map_sealed_ints, map_sealed_strs, map_ren_encI, map_ren_encS, map_ren_ints, map_ren_strs, renL_encI, renL_encS, renL_ints, renL_strs, ren_case, encC, pairs, renL_encP, map_sealed_encP, map_ren_encP, encP, take_map_len] <;> omega)))); first | done | fail) : p := h
theorem lsrB8 {p : Prop} (h : p := by (first | rfl | (simp [St.born, St.known, retV, St.get, St.obj, lk, sealed, PV.ren, renL, rmap, AO.ren, ints, strs, encI, encS, map_sealed_encI, map_sealed_encS, map_sealed_ints, map_sealed_strs, map_ren_encI, map_ren_encS, map_ren_ints, map_ren_strs, renL_encI, renL_encS, renL_ints, renL_strs, ren_case, encC, pairs, renL_encP, map_sealed_encP, map_ren_encP, encP, take_map_len]; done)); first | done | fail) : p := h
theorem lpvB8 {p : Prop} (h : p := by (first | rfl | (simp [pure_ints, pure_strs, PV.pure, pureL, pureL_encI, pureL_encS, pureL_ints, pureL_strs, pure_case, pureL_encP, pure_pairs]; done)); first | done | fail) : p := h
theorem In_pure (l : List Int) (n : Int) (hl : l.length ≤ 1000000000) : Pure Try.prog 79 [ints l, encI n] (.atom (.bool (l.contains n))) [] := by
  refine Pure.intro (ts := [4]) Try.func79 (by kernel_rfl) rfl rfl rfl (Nat.le_of_ble_eq_true rfl) ?_ ?_
  · simp [pure_ints, pure_strs, encI, encS, PV.pure, pureL]
  refine sY [0, 1] (fun P S K => K ⟨[(0, S.get 0), (1, S.get 1)], S.hp, S.nx, S.gh⟩) ?_
  all_goals
  refine Tri.seq ?_
  refine sY [0, 1, 5] (fun P S K => K ⟨[(0, S.get 0), (1, S.get 1), (5, (.atom (.int .i64 0)))], S.hp, S.nx, S.gh⟩) ?_
  all_goals
  refine Tri.block ?_
  refine Tri.loop (α := (k : Nat) ×' (k ≤ l.length ∧ ∀ j, j < k → li l j ≠ n)) (fun z => (fun (k : Nat) => (⟨[(0, ints l), (1, encI n), (5, encI k)], [], 0, []⟩ : St)) z.1) (fun z => (fun (k : Nat) => l.length - k) z.1) ⟨0, ⟨Nat.zero_le _, fun j hj => absurd hj (Nat.not_lt_zero _)⟩⟩ [] ?_ ?_
  ·exact leqB8
  ·rintro ⟨k, ⟨hk, hno⟩⟩
   refine Tri.seq ?_
   refine sY [0, 1, 5, 9] (fun P S K => XvLen P 22 (S.get 0) (fun r2 _ => XvBinOV P .lss 3 (.tmp 8) (S.get 5) r2 (fun r3 _ => K ⟨[(0, S.get 0), (1, S.get 1), (5, S.get 5), (9, r3)], S.hp, S.nx, S.gh⟩))) ?_
   all_goals
   refine Tri.cond rfl (fun h9 => ?_) (fun h9 => ?_)
   ·try (cases h9; done)
    all_goals (try simp only [CQ] at h9)
    all_goals
    refine Tri.skip ?_
    refine Tri.seq ?_
    refine Tri.block ?_
    have hkl : k < l.length := by omega
    refine sZ [0, 1, 5, 17] (fun P S K => XvIndexAddr P 22 (S.get 0) (S.get 5) (fun r2 _ => XvLoad P 3 (M S.hp S.nx) r2 (fun r3 _ => XvBinOV P .eql 3 (.tmp 16) r3 (S.get 1) (fun r5 _ => K ⟨[(0, S.get 0), (1, S.get 1), (5, S.get 5), (17, r5)], S.hp, S.nx, S.gh⟩)))) fun K hK => ?_
    repeat' (first | (refine hK _ ?_; clear hK K) | ((first | refine xG_intro (fun hg => ?_) (fun hg => ?_) | refine fun (hg : (_ : Prop)) => ?_) <;> ((try simp only [BQ] at hg); try (exfalso; omega))) | refine And.intro ?_ ?_ | exact cl | refine one_take ?_ _ | refine one_drop ?_ _ | (refine st ?_; try simp only [getD_encI hkl]) | simp only [getD_encI hkl])
    all_goals
    refine Tri.cond rfl (fun h17 => ?_) (fun h17 => ?_)
    ·try (cases h17; done)
     all_goals (try simp only [CQ] at h17)
     all_goals
     refine sY [4] (fun P S K => K ⟨[(4, (.atom (.bool true)))], S.hp, S.nx, S.gh⟩) ?_
     all_goals
     refine Tri.ret ?_
     show ResOk _ _ _ _
     rw [show l.contains n = true by rw [List.contains_iff_mem, ← h17]; exact li_mem hkl]
     exact ResOk.val lsrB8 lpvB8
    ·try (cases h17; done)
     all_goals (try simp only [CQ] at h17)
     all_goals
     refine Tri.skip ?_
     refine rY [0, 1, 5] (fun P S K => XvBinOV P .add 3 (.const (.int .i64 1)) (S.get 5) (.atom (.int .i64 1)) (fun r1 _ => K ⟨[(0, S.get 0), (1, S.get 1), (5, r1)], S.hp, S.nx, S.gh⟩)) ?_
     all_goals try simp (disch := omega) only [wrap_id, wrap8_id]
     all_goals
     refine ⟨⟨k + 1, by omega, fun j hj => ?_⟩, [], by dsimp only; omega, ?_⟩
     · rcases Nat.lt_succ_iff_lt_or_eq.1 hj with hj | rfl
       · exact hno j hj
       · exact h17
     · exact leqB8
   ·try (cases h9; done)
    all_goals (try simp only [CQ] at h9)
    all_goals
    refine Tri.exit ?_
    have hnc : l.contains n = false := Bool.eq_false_iff.2 fun h => by obtain ⟨j, hj, e⟩ := List.getElem_of_mem (List.contains_iff_mem.1 h); exact hno j (by omega) (by simpa [li, List.getD_eq_getElem?_getD, hj] using e)
    refine sY [4] (fun P S K => K ⟨[(4, (.atom (.bool false)))], S.hp, S.nx, S.gh⟩) ?_
    all_goals
    refine Tri.ret ?_
    show ResOk _ _ _ _
    rw [hnc]
    exact ResOk.val lsrB8 lpvB8
theorem least_pure (c : CaseD) (hc : Held c) (hG : Good c) (i : Int) (loads : List Int) (but : Int) (hl : loads.length = c.people.toNat) : Pure Try.prog 59 [encC c, encI i, ints loads, encI but] (encI (leastC c i loads but)) [] := by
  have hlo := hG.lo
  have hhi := hG.hi
  refine Pure.intro (ts := [8]) Try.func59 (by kernel_rfl) rfl rfl rfl (Nat.le_of_ble_eq_true rfl) ?_ ?_
  · simp [pure_case, pure_ints, encI, PV.pure, pureL]
  refine sZ [1, 2, 3, 4] (fun P S K => XvBox S.nx (S.get 0) (fun r0 ef0 => K ⟨[(1, S.get 1), (2, S.get 2), (3, S.get 3), (4, r0)], (Eff.hp ef0 S.nx S.hp), (S.nx + ef0.add.length), S.gh⟩)) fun K hK => ?_
  repeat' (first | (refine hK _ ?_; clear hK K) | ((first | refine xG_intro (fun hg => ?_) (fun hg => ?_) | refine fun (hg : (_ : Prop)) => ?_) <;> ((try simp only [BQ] at hg); try (exfalso; omega))) | refine And.intro ?_ ?_ | exact cl | refine one_take ?_ _ | refine one_drop ?_ _ | (refine st ?_; try simp only [encC, pairs]) | simp only [encC, pairs])
  all_goals
  refine sY [1, 2, 3, 4, 9] (fun P S K => K ⟨[(1, S.get 1), (2, S.get 2), (3, S.get 3), (4, S.get 4), (9, (.atom (.int .i64 (-1))))], S.hp, S.nx, S.gh⟩) ?_
  all_goals
  refine Tri.seq ?_
  refine sY [1, 2, 3, 4, 9, 10] (fun P S K => K ⟨[(1, S.get 1), (2, S.get 2), (3, S.get 3), (4, S.get 4), (9, S.get 9), (10, (.atom (.int .i64 0)))], S.hp, S.nx, S.gh⟩) ?_
  all_goals
  refine Tri.block ?_
  refine Tri.loop (α := (p : Nat) ×' (p ≤ c.people.toNat)) (fun z => (fun (p : Nat) => (⟨[(1, encI i), (2, ints loads), (3, encI but), (4, .ptr 0 3 0 0), (9, encI (leastS c i loads but p)), (10, encI p)], [(0, some ⟨3, [encC c]⟩)], 1, []⟩ : St)) z.1) (fun z => (fun (p : Nat) => 6 - p) z.1) ⟨0, Nat.zero_le _⟩ [0] ?_ ?_
  ·exact leqB8
  ·rintro ⟨p, hp⟩
   have hrg := leastS_rng c i loads but p
   have hst : leastS c i loads but (p + 1) = if (p : Int) ≠ but ∧ openB c i p = true ∧ (leastS c i loads but p < 0 ∨ li loads p < li loads (leastS c i loads but p).toNat) then (p : Int) else leastS c i loads but p := rfl
   refine Tri.seq ?_
   refine sZ [1, 2, 3, 4, 9, 10, 14] (fun P S K => XvFieldAddr P 25 1 (S.get 4) (fun r1 _ => XvLoad P 3 (M S.hp S.nx) r1 (fun r2 _ => XvBinOV P .lss 3 (.tmp 13) (S.get 10) r2 (fun r3 _ => K ⟨[(1, S.get 1), (2, S.get 2), (3, S.get 3), (4, S.get 4), (9, S.get 9), (10, S.get 10), (14, r3)], S.hp, S.nx, S.gh⟩)))) fun K hK => ?_
   repeat' (first | (refine hK _ ?_; clear hK K) | ((first | refine xG_intro (fun hg => ?_) (fun hg => ?_) | refine fun (hg : (_ : Prop)) => ?_) <;> ((try simp only [BQ] at hg); try (exfalso; omega))) | refine And.intro ?_ ?_ | exact cl | refine one_take ?_ _ | refine one_drop ?_ _ | (refine st ?_; try simp only [encC, pairs]) | simp only [encC, pairs])
   all_goals
   refine Tri.cond rfl (fun h14 => ?_) (fun h14 => ?_)
   ·try (cases h14; done)
    all_goals (try simp only [CQ] at h14)
    all_goals
    refine Tri.skip ?_
    refine Tri.seq ?_
    refine Tri.block ?_
    have hpl : p < loads.length := by omega
    rcases Int.lt_or_le (leastS c i loads but p) 0 with hneg | hpos
    all_goals
    refine sD 25 [1, 2, 3, 4, 9, 10, 41] (fun P GD S K => XvBinOV P .neq 3 (.tmp 18) (S.get 10) (S.get 3) (fun r2 ef2 => Xge r2 true (fun k => XvLoad P 25 (M S.hp S.nx) (S.get 4) k) (fun g4 r4 ef4 => Xge g4 true (fun k => k (S.get 1) e0) (fun g5 r5 ef5 => Xge g5 true (fun k => k (S.get 10) e0) (fun g6 r6 ef6 => Xge g6 true (fun k => XvFnV P (M S.hp S.nx) (.fn 49 []) [r4, r5, r6] k) (fun g7 r7 ef7 => XvPick g7 r7 (.atom (.bool false)) (fun r8 ef8 => Xge r8 true (fun k => k (S.get 9) e0) (fun g10 r10 ef10 => Xge g10 true (fun k => XvBinOV P .lss 3 (.const (.int .i64 0)) r10 (.atom (.int .i64 0)) k) (fun g11 r11 ef11 => Xge g11 true (fun k => k r11 e0) (fun g12 r12 ef12 => Xge r12 false (fun k => k (S.get 2) e0) (fun g13 r13 ef13 => Xge g13 false (fun k => k (S.get 10) e0) (fun g14 r14 ef14 => Xge g14 false (fun k => XvIndexAddr P 22 r13 r14 k) (fun g15 r15 ef15 => Xge g15 false (fun k => XvLoad P 3 (M (Eff.hp ef7 S.nx S.hp) (S.nx + ef7.add.length)) r15 k) (fun g16 r16 ef16 => Xge g16 false (fun k => k (S.get 2) e0) (fun g17 r17 ef17 => Xge g17 false (fun k => k (S.get 9) e0) (fun g18 r18 ef18 => Xge g18 false (fun k => XvMinMax true r18 (.atom (.int .i64 0)) k) (fun g19 r19 ef19 => Xge g19 false (fun k => XvIndexAddr P 22 r17 r19 k) (fun g20 r20 ef20 => Xge g20 false (fun k => XvLoad P 3 (M (Eff.hp ef7 S.nx S.hp) (S.nx + ef7.add.length)) r20 k) (fun g21 r21 ef21 => Xge g21 false (fun k => XvBinOV P .lss 3 (.tmp 38) r16 r21 k) (fun g22 r22 ef22 => Xge g12 true (fun k => XvPick g22 (.atom (.bool true)) r22 k) (fun g23 r23 ef23 => XvPick g23 r23 (.atom (.bool false)) (fun r24 ef24 => (trOk S.nx GD [⟨S.nx, 0, [], [], []⟩, ⟨S.nx, 0, [], [], []⟩, ⟨S.nx, 0, ef2.rd, [], []⟩, ⟨S.nx, 0, [], [], []⟩, ⟨S.nx, 0, ef4.rd, [], []⟩, ⟨S.nx, 0, ef5.rd, [], []⟩, ⟨S.nx, 0, ef6.rd, [], []⟩, (Eff.tr ef7 S.nx), ⟨(S.nx + ef7.add.length), 0, ef8.rd, [], []⟩, ⟨(S.nx + ef7.add.length), 0, [], [], []⟩, ⟨(S.nx + ef7.add.length), 0, ef10.rd, [], []⟩, ⟨(S.nx + ef7.add.length), 0, ef11.rd, [], []⟩, ⟨(S.nx + ef7.add.length), 0, ef12.rd, [], []⟩, ⟨(S.nx + ef7.add.length), 0, ef13.rd, [], []⟩, ⟨(S.nx + ef7.add.length), 0, ef14.rd, [], []⟩, ⟨(S.nx + ef7.add.length), 0, ef15.rd, [], []⟩, ⟨(S.nx + ef7.add.length), 0, ef16.rd, [], []⟩, ⟨(S.nx + ef7.add.length), 0, ef17.rd, [], []⟩, ⟨(S.nx + ef7.add.length), 0, ef18.rd, [], []⟩, ⟨(S.nx + ef7.add.length), 0, ef19.rd, [], []⟩, ⟨(S.nx + ef7.add.length), 0, ef20.rd, [], []⟩, ⟨(S.nx + ef7.add.length), 0, ef21.rd, [], []⟩, ⟨(S.nx + ef7.add.length), 0, ef22.rd, [], []⟩, ⟨(S.nx + ef7.add.length), 0, ef23.rd, [], []⟩, ⟨(S.nx + ef7.add.length), 0, ef24.rd, [], []⟩] = true ∧ K ⟨[(1, S.get 1), (2, S.get 2), (3, S.get 3), (4, S.get 4), (9, S.get 9), (10, S.get 10), (41, r24)], (Eff.hp ef7 S.nx S.hp), (S.nx + ef7.add.length), S.gh⟩))))))))))))))))))))))) fun K hK => ?_
    repeat' (first | (refine hK _ ?_; clear hK K) | (refine (?_ : trOk _ _ _ = true); kernel_rfl) | ((first | refine xG_intro (fun hg => ?_) (fun hg => ?_) | refine fun (hg : (_ : Prop)) => ?_) <;> ((try simp only [BQ] at hg); try (exfalso; omega))) | refine And.intro ?_ ?_ | exact cl | refine one_take ?_ _ | refine one_drop ?_ _ | refine .inl ⟨_, _, Open_pure c i p hc, ?_⟩ | refine ⟨_, _, Open_pure c i p hc, ?_⟩ | simp (maxSteps := 2000000) only [↓SD, push_cast, Nat.reduceAdd, Nat.reduceSub, Nat.reduceMul, Nat.reduceLT, Nat.reduceLeDiff, Nat.reduceEqDiff, Int.reduceToNat, reduceIte, reduceCtorEq, Int.reduceLE, Int.reduceLT, Int.reduceNeg, ints, strs, encI, encS, encC, pairs, dec_yes hneg, getD_encI hpl] | simp (maxSteps := 2000000) only [↓SD, push_cast, Nat.reduceAdd, Nat.reduceSub, Nat.reduceMul, Nat.reduceLT, Nat.reduceLeDiff, Nat.reduceEqDiff, Int.reduceToNat, reduceIte, reduceCtorEq, Int.reduceLE, Int.reduceLT, Int.reduceNeg, ints, strs, encI, encS, encC, pairs, dec_no (Int.not_lt.2 hpos), getD_encI hpl, (show max (leastS c i loads but p) 0 = leastS c i loads but p by omega), getD_encI (show (leastS c i loads but p).toNat < loads.length by omega)])
    all_goals
    refine Tri.cond rfl (fun h41 => ?_) (fun h41 => ?_)
    ·try (cases h41; done)
     all_goals (try simp only [CQ] at h41)
     all_goals
     refine rY [1, 2, 3, 4, 9, 10] (fun P S K => K ⟨[(1, S.get 1), (2, S.get 2), (3, S.get 3), (4, S.get 4), (9, (S.get 10)), (10, S.get 10)], S.hp, S.nx, S.gh⟩) ?_
     all_goals
     refine rY [1, 2, 3, 4, 9, 10] (fun P S K => XvBinOV P .add 3 (.const (.int .i64 1)) (S.get 10) (.atom (.int .i64 1)) (fun r1 _ => K ⟨[(1, S.get 1), (2, S.get 2), (3, S.get 3), (4, S.get 4), (9, S.get 9), (10, r1)], S.hp, S.nx, S.gh⟩)) ?_
     all_goals try simp (disch := omega) only [wrap_id, wrap8_id]
     all_goals
     first
     | (have e : leastS c i loads but (p + 1) = (p : Int) := (by rw [hst, if_pos ⟨by omega, by assumption, by omega⟩]); refine ⟨⟨p + 1, by omega⟩, [0], by dsimp only; omega, ?_⟩; dsimp only; rw [e]; exact leqB8)
     | (have e : leastS c i loads but (p + 1) = leastS c i loads but p := (by rw [hst, if_neg (by rintro ⟨g1, g2, g3⟩; first | omega | simp_all)]); refine ⟨⟨p + 1, by omega⟩, [0], by dsimp only; omega, ?_⟩; dsimp only; rw [e]; exact leqB8)
    ·try (cases h41; done)
     all_goals (try simp only [CQ] at h41)
     all_goals
     refine Tri.skip ?_
     refine rY [1, 2, 3, 4, 9, 10] (fun P S K => XvBinOV P .add 3 (.const (.int .i64 1)) (S.get 10) (.atom (.int .i64 1)) (fun r1 _ => K ⟨[(1, S.get 1), (2, S.get 2), (3, S.get 3), (4, S.get 4), (9, S.get 9), (10, r1)], S.hp, S.nx, S.gh⟩)) ?_
     all_goals try simp (disch := omega) only [wrap_id, wrap8_id]
     all_goals
     first
     | (have e : leastS c i loads but (p + 1) = (p : Int) := (by rw [hst, if_pos ⟨by omega, by assumption, by omega⟩]); refine ⟨⟨p + 1, by omega⟩, [0], by dsimp only; omega, ?_⟩; dsimp only; rw [e]; exact leqB8)
     | (have e : leastS c i loads but (p + 1) = leastS c i loads but p := (by rw [hst, if_neg (by rintro ⟨g1, g2, g3⟩; first | omega | simp_all)]); refine ⟨⟨p + 1, by omega⟩, [0], by dsimp only; omega, ?_⟩; dsimp only; rw [e]; exact leqB8)
   ·try (cases h14; done)
    all_goals (try simp only [CQ] at h14)
    all_goals
    refine Tri.exit ?_
    have hpe : p = c.people.toNat := by omega
    subst hpe
    refine sZ [8] (fun P S K => XvMinMax true (S.get 9) (.atom (.int .i64 0)) (fun r1 _ => K ⟨[(8, r1)], S.hp, S.nx, S.gh⟩)) fun K hK => ?_
    repeat' (first | (refine hK _ ?_; clear hK K) | ((first | refine xG_intro (fun hg => ?_) (fun hg => ?_) | refine fun (hg : (_ : Prop)) => ?_) <;> ((try simp only [BQ] at hg); try (exfalso; omega))) | refine And.intro ?_ ?_ | exact cl | refine one_take ?_ _ | refine one_drop ?_ _ | (refine st ?_; try simp only [encC, pairs]) | simp only [encC, pairs])
    all_goals
    refine Tri.ret ?_
    show ResOk _ _ _ _
    exact ResOk.val lsrB8 lpvB8
end Go.Proofs.Ytcdeilgijleoaaa
set_option linter.all false
namespace Go.Proofs.Ytcdeilgijleoaaa
open Go Go.RowKit
set_option linter.unusedSimpArgs false
set_option linter.unusedVariables false
set_option maxRecDepth 20000
set_option maxHeartbeats 1000000
theorem leqB9 {p : Prop} (h : p := by (refine ⟨4, ?_, ?_, rfl, by simp, rfl, fun _ h _ => absurd h (Nat.not_lt_zero _)⟩ <;> (simp only [List.forall_mem_cons]; repeat' (first | refine And.intro ?_ ?_ | (intro p hp; exact absurd hp List.not_mem_nil) | rfl | exact sp (pure_case _) | exact sp (pure_pairs _) | exact (sealed_pure _ _ _ (pure_ints _)).trans (ren_ints _ _).symm | exact (sealed_pure _ _ _ (pure_strs _)).trans (ren_strs _ _).symm | exact sp (by assumption) | (intro o ho; cases ho; refine ⟨by decide, ?_⟩; first | (refine LeqS.row rfl ?_ ?_; (next => (first | rfl | (simp only [List.map_append, List.map_cons, List.map_nil, List.append_nil, List.nil_append, List.append_assoc, List.cons_append, encI, encS, ints, strs]; done) | (simp [encI, encS, ints, strs]; done))); (next => (first | rfl | exact pureL_encI _ | exact pureL_encS _ | exact pureL_ints _ | exact pureL_strs _ | exact pureL_encP _ | (simp [pureL_append, pureL_encI, pureL_encS, pureL_ints, pureL_strs, pureL, PV.pure, pure_ints, pure_strs, pure_case, pureL_encP, pure_pairs]; done))); done) | refine ⟨_, rfl, rfl, ?_⟩) | (simp [St.born, St.known, retV, St.get, St.obj, lk, sealed, PV.ren, renL, rmap, AO.ren, ints, strs, encI, encS, map_sealed_encI, map_sealed_encS, map_sealed_ints, map_sealed_strs, map_ren_encI, map_ren_encS, map_ren_ints, map_ren_strs, renL_encI, renL_encS, renL_ints, renL_strs, ren_case, encC, pairs, renL_encP, map_sealed_encP, map_ren_encP, encP, take_map_len] <;> omega)))); first | done | fail) : p := h
theorem lsrB9 {p : Prop} (h : p := by (first | rfl | (simp [St.born, St.known, retV, St.get, St.obj, lk, sealed, PV.ren, renL, rmap, AO.ren, ints, strs, encI, encS, map_sealed_encI, map_sealed_encS, map_sealed_ints, map_sealed_strs, map_ren_encI, map_ren_encS, map_ren_ints, map_ren_strs, renL_encI, renL_encS, renL_ints, renL_strs, ren_case, encC, pairs, renL_encP, map_sealed_encP, map_ren_encP, encP, take_map_len]; done)); first | done | fail) : p := h
theorem lpvB9 {p : Prop} (h : p := by (first | rfl | (simp [pure_ints, pure_strs, PV.pure, pureL, pureL_encI, pureL_encS, pureL_ints, pureL_strs, pure_case, pureL_encP, pure_pairs]; done)); first | done | fail) : p := h
def shutN (c : CaseD) (i : Int) (people : List Int) (k : Nat) : Nat := ((List.range k).filter fun (p : Nat) => !people.contains (p : Int) && openB c i p).length
theorem shutN_succ (c : CaseD) (i : Int) (people : List Int) (k : Nat) : shutN c i people (k + 1) = shutN c i people k + if (!people.contains (k : Int) && openB c i k) = true then 1 else 0 := by
  unfold shutN
  rw [List.range_succ, List.filter_append, List.length_append, List.filter_cons, List.filter_nil]
  split <;> rfl
theorem shutN_le (c : CaseD) (i : Int) (people : List Int) (k : Nat) : shutN c i people k ≤ k := by
  unfold shutN; exact Nat.le_trans (List.length_filter_le _ _) (by simp)
theorem needS_open (c : CaseD) (i : Int) (people : List Int) : needS c i people = max (2 - (shutN c i people c.people.toNat : Int)) 0 := rfl
theorem Need_pure (c : CaseD) (hc : Held c) (hG : Good c) (i : Int) (people : List Int) (hl : people.length ≤ 1000000000) : Pure Try.prog 61 [encC c, encI i, ints people] (encI (needS c i people)) [] := by
  have hlo := hG.lo
  have hhi := hG.hi
  refine Pure.intro (ts := [6]) Try.func61 (by kernel_rfl) rfl rfl rfl (Nat.le_of_ble_eq_true rfl) ?_ ?_
  · simp [pure_case, pure_ints, encI, PV.pure, pureL]
  refine sZ [1, 2, 3] (fun P S K => XvBox S.nx (S.get 0) (fun r0 ef0 => K ⟨[(1, S.get 1), (2, S.get 2), (3, r0)], (Eff.hp ef0 S.nx S.hp), (S.nx + ef0.add.length), S.gh⟩)) fun K hK => ?_
  repeat' (first | (refine hK _ ?_; clear hK K) | ((first | refine xG_intro (fun hg => ?_) (fun hg => ?_) | refine fun (hg : (_ : Prop)) => ?_) <;> ((try simp only [BQ] at hg); try (exfalso; omega))) | refine And.intro ?_ ?_ | exact cl | refine one_take ?_ _ | refine one_drop ?_ _ | (refine st ?_; try simp only [encC, pairs]) | simp only [encC, pairs])
  all_goals
  refine sY [1, 2, 3, 7] (fun P S K => K ⟨[(1, S.get 1), (2, S.get 2), (3, S.get 3), (7, (.atom (.int .i64 2)))], S.hp, S.nx, S.gh⟩) ?_
  all_goals
  refine Tri.seq ?_
  refine sY [1, 2, 3, 7, 8] (fun P S K => K ⟨[(1, S.get 1), (2, S.get 2), (3, S.get 3), (7, S.get 7), (8, (.atom (.int .i64 0)))], S.hp, S.nx, S.gh⟩) ?_
  all_goals
  refine Tri.block ?_
  refine Tri.loop (α := (p : Nat) ×' (p ≤ c.people.toNat)) (fun z => (fun (p : Nat) => (⟨[(1, encI i), (2, ints people), (3, .ptr 0 3 0 0), (7, encI (2 - (shutN c i people p : Int))), (8, encI p)], [(0, some ⟨3, [encC c]⟩)], 1, []⟩ : St)) z.1) (fun z => (fun (p : Nat) => 6 - p) z.1) ⟨0, Nat.zero_le _⟩ [0] ?_ ?_
  ·exact leqB9
  ·rintro ⟨p, hp⟩
   have hrg := shutN_le c i people p
   have hst := shutN_succ c i people p
   refine Tri.seq ?_
   refine sZ [1, 2, 3, 7, 8, 12] (fun P S K => XvFieldAddr P 25 1 (S.get 3) (fun r1 _ => XvLoad P 3 (M S.hp S.nx) r1 (fun r2 _ => XvBinOV P .lss 3 (.tmp 11) (S.get 8) r2 (fun r3 _ => K ⟨[(1, S.get 1), (2, S.get 2), (3, S.get 3), (7, S.get 7), (8, S.get 8), (12, r3)], S.hp, S.nx, S.gh⟩)))) fun K hK => ?_
   repeat' (first | (refine hK _ ?_; clear hK K) | ((first | refine xG_intro (fun hg => ?_) (fun hg => ?_) | refine fun (hg : (_ : Prop)) => ?_) <;> ((try simp only [BQ] at hg); try (exfalso; omega))) | refine And.intro ?_ ?_ | exact cl | refine one_take ?_ _ | refine one_drop ?_ _ | (refine st ?_; try simp only [encC, pairs]) | simp only [encC, pairs])
   all_goals
   refine Tri.cond rfl (fun h12 => ?_) (fun h12 => ?_)
   ·try (cases h12; done)
    all_goals (try simp only [CQ] at h12)
    all_goals
    refine Tri.skip ?_
    refine Tri.seq ?_
    refine Tri.block ?_
    refine sZ [1, 2, 3, 7, 8, 24] (fun P S K => XvFnIV P (M S.hp S.nx) (.fn 79 []) [(S.get 2), (S.get 8)] (fun r2 ef2 => XvUn .not r2 (fun r3 _ => Xgq r3 true (fun k => XvLoad P 25 (M (Eff.hp ef2 S.nx S.hp) (S.nx + ef2.add.length)) (S.get 3) (fun r5 _ => k r5)) (fun g5 r5 => Xgq g5 true (fun k => k (S.get 1)) (fun g6 r6 => Xgq g6 true (fun k => k (S.get 8)) (fun g7 r7 => Xge g7 true (fun k => XvFnIV P (M (Eff.hp ef2 S.nx S.hp) (S.nx + ef2.add.length)) (.fn 49 []) [r5, r6, r7] k) (fun g8 r8 ef8 => XvPick g8 r8 (.atom (.bool false)) (fun r9 _ => K ⟨[(1, S.get 1), (2, S.get 2), (3, S.get 3), (7, S.get 7), (8, S.get 8), (24, r9)], (Eff.hp ef8 (S.nx + ef2.add.length) (Eff.hp ef2 S.nx S.hp)), ((S.nx + ef2.add.length) + ef8.add.length), S.gh⟩)))))))) fun K hK => ?_
    repeat' (first | (refine hK _ ?_; clear hK K) | ((first | refine xG_intro (fun hg => ?_) (fun hg => ?_) | refine fun (hg : (_ : Prop)) => ?_) <;> ((try simp only [BQ] at hg); try (exfalso; omega))) | refine And.intro ?_ ?_ | exact cl | refine one_take ?_ _ | refine one_drop ?_ _ | refine .inl ⟨_, _, In_pure people p hl, ?_⟩ | refine ⟨_, _, In_pure people p hl, ?_⟩ | refine .inl ⟨_, _, Open_pure c i p hc, ?_⟩ | refine ⟨_, _, Open_pure c i p hc, ?_⟩ | (refine st ?_; try simp only [encC, pairs]) | simp only [encC, pairs])
    all_goals try simp (disch := omega) only [wrap_id, wrap8_id]
    all_goals
    refine Tri.cond rfl (fun h24 => ?_) (fun h24 => ?_)
    ·try (cases h24; done)
     all_goals (try simp only [CQ] at h24)
     all_goals
     refine rY [1, 2, 3, 7, 8] (fun P S K => XvBinOV P .sub 3 (.const (.int .i64 1)) (S.get 7) (.atom (.int .i64 1)) (fun r1 _ => K ⟨[(1, S.get 1), (2, S.get 2), (3, S.get 3), (7, r1), (8, S.get 8)], S.hp, S.nx, S.gh⟩)) ?_
     all_goals try simp (disch := omega) only [wrap_id, wrap8_id]
     all_goals
     refine rY [1, 2, 3, 7, 8] (fun P S K => XvBinOV P .add 3 (.const (.int .i64 1)) (S.get 8) (.atom (.int .i64 1)) (fun r1 _ => K ⟨[(1, S.get 1), (2, S.get 2), (3, S.get 3), (7, S.get 7), (8, r1)], S.hp, S.nx, S.gh⟩)) ?_
     all_goals try simp (disch := omega) only [wrap_id, wrap8_id]
     all_goals
     first
     | (have e : shutN c i people (p + 1) = shutN c i people p + 1 := (by rw [hst, if_pos (by simp_all)]); refine ⟨⟨p + 1, by omega⟩, [0], by dsimp only; omega, ?_⟩; dsimp only; rw [e]; exact leqB9)
     | (have e : shutN c i people (p + 1) = shutN c i people p := (by rw [hst, if_neg (by simp_all), Nat.add_zero]); refine ⟨⟨p + 1, by omega⟩, [0], by dsimp only; omega, ?_⟩; dsimp only; rw [e]; exact leqB9)
    ·try (cases h24; done)
     all_goals (try simp only [CQ] at h24)
     all_goals
     refine Tri.skip ?_
     refine rY [1, 2, 3, 7, 8] (fun P S K => XvBinOV P .add 3 (.const (.int .i64 1)) (S.get 8) (.atom (.int .i64 1)) (fun r1 _ => K ⟨[(1, S.get 1), (2, S.get 2), (3, S.get 3), (7, S.get 7), (8, r1)], S.hp, S.nx, S.gh⟩)) ?_
     all_goals try simp (disch := omega) only [wrap_id, wrap8_id]
     all_goals
     first
     | (have e : shutN c i people (p + 1) = shutN c i people p + 1 := (by rw [hst, if_pos (by simp_all)]); refine ⟨⟨p + 1, by omega⟩, [0], by dsimp only; omega, ?_⟩; dsimp only; rw [e]; exact leqB9)
     | (have e : shutN c i people (p + 1) = shutN c i people p := (by rw [hst, if_neg (by simp_all), Nat.add_zero]); refine ⟨⟨p + 1, by omega⟩, [0], by dsimp only; omega, ?_⟩; dsimp only; rw [e]; exact leqB9)
   ·try (cases h12; done)
    all_goals (try simp only [CQ] at h12)
    all_goals
    refine Tri.exit ?_
    have hpe : p = c.people.toNat := by omega
    subst hpe
    refine sZ [6] (fun P S K => XvMinMax true (S.get 7) (.atom (.int .i64 0)) (fun r1 _ => K ⟨[(6, r1)], S.hp, S.nx, S.gh⟩)) fun K hK => ?_
    repeat' (first | (refine hK _ ?_; clear hK K) | ((first | refine xG_intro (fun hg => ?_) (fun hg => ?_) | refine fun (hg : (_ : Prop)) => ?_) <;> ((try simp only [BQ] at hg); try (exfalso; omega))) | refine And.intro ?_ ?_ | exact cl | refine one_take ?_ _ | refine one_drop ?_ _ | (refine st ?_; try simp only [encC, pairs]) | simp only [encC, pairs])
    all_goals
    refine Tri.ret ?_
    show ResOk _ _ _ _
    rw [needS_open]
    exact ResOk.val lsrB9 lpvB9
end Go.Proofs.Ytcdeilgijleoaaa
set_option linter.all false
namespace Go.Proofs.Ytcdeilgijleoaaa
open Go Go.RowKit
set_option linter.unusedSimpArgs false
set_option linter.unusedVariables false
set_option maxRecDepth 20000
set_option maxHeartbeats 1000000
theorem leqB10 {p : Prop} (h : p := by (refine ⟨4, ?_, ?_, rfl, by simp, rfl, fun _ h _ => absurd h (Nat.not_lt_zero _)⟩ <;> (simp only [List.forall_mem_cons]; repeat' (first | refine And.intro ?_ ?_ | (intro p hp; exact absurd hp List.not_mem_nil) | rfl | exact sp (pure_case _) | exact sp (pure_pairs _) | exact (sealed_pure _ _ _ (pure_ints _)).trans (ren_ints _ _).symm | exact (sealed_pure _ _ _ (pure_strs _)).trans (ren_strs _ _).symm | exact sp (by assumption) | (intro o ho; cases ho; refine ⟨by decide, ?_⟩; first | (refine LeqS.row rfl ?_ ?_; (next => (first | rfl | (simp only [List.map_append, List.map_cons, List.map_nil, List.append_nil, List.nil_append, List.append_assoc, List.cons_append, encI, encS, ints, strs]; done) | (simp [encI, encS, ints, strs]; done))); (next => (first | rfl | exact pureL_encI _ | exact pureL_encS _ | exact pureL_ints _ | exact pureL_strs _ | exact pureL_encP _ | (simp [pureL_append, pureL_encI, pureL_encS, pureL_ints, pureL_strs, pureL, PV.pure, pure_ints, pure_strs, pure_case, pureL_encP, pure_pairs]; done))); done) | refine ⟨_, rfl, rfl, ?_⟩) | (simp [St.born, St.known, retV, St.get, St.obj, lk, sealed, PV.ren, renL, rmap, AO.ren, ints, strs, encI, encS, map_sealed_encI, map_sealed_encS, map_sealed_ints, map_sealed_strs, map_ren_encI, map_ren_encS, map_ren_ints, map_ren_strs, renL_encI, renL_encS, renL_ints, renL_strs, ren_case, encC, pairs, renL_encP, map_sealed_encP, map_ren_encP, encP, take_map_len] <;> omega)))); first | done | fail) : p := h
theorem lsrB10 {p : Prop} (h : p := by (first | rfl | (simp [St.born, St.known, retV, St.get, St.obj, lk, sealed, PV.ren, renL, rmap, AO.ren, ints, strs, encI, encS, map_sealed_encI, map_sealed_encS, map_sealed_ints, map_sealed_strs, map_ren_encI, map_ren_encS, map_ren_ints, map_ren_strs, renL_encI, renL_encS, renL_ints, renL_strs, ren_case, encC, pairs, renL_encP, map_sealed_encP, map_ren_encP, encP, take_map_len]; done)); first | done | fail) : p := h
theorem lpvB10 {p : Prop} (h : p := by (first | rfl | (simp [pure_ints, pure_strs, PV.pure, pureL, pureL_encI, pureL_encS, pureL_ints, pureL_strs, pure_case, pureL_encP, pure_pairs]; done)); first | done | fail) : p := h
theorem needS_rng (c : CaseD) (i : Int) (people : List Int) : 0 ≤ needS c i people ∧ needS c i people ≤ 2 := by
  rw [needS_open]; omega
def sumK (c : CaseD) (ts people : List Int) (k : Nat) : Int := sumS c (ts.take k) people
theorem sumK_succ (c : CaseD) (ts people : List Int) {k : Nat} (hk : k < ts.length) : sumK c ts people (k + 1) = sumK c ts people k + li c.sizes (li ts k).toNat * needS c (li ts k) people := by
  have e : ts.getD k 0 = ts[k] := by simp [List.getD_eq_getElem?_getD, hk]
  unfold sumK sumS
  rw [List.take_succ_eq_append_getElem hk, List.foldl_append]
  simp [li, hk]
theorem prod_rng {a b : Int} (ha : 0 ≤ a ∧ a ≤ 1024) (hb : 0 ≤ b ∧ b ≤ 2) : 0 ≤ a * b ∧ a * b ≤ 2048 := by
  have h1 := Int.mul_nonneg ha.1 hb.1
  have h2 : a * b ≤ 1024 * 2 := Int.mul_le_mul ha.2 hb.2 hb.1 (by omega)
  omega
theorem sumK_rng {c : CaseD} (hG : Good c) (ts people : List Int) : ∀ k : Nat, k ≤ ts.length → 0 ≤ sumK c ts people k ∧ sumK c ts people k ≤ 2048 * k
  | 0, _ => by simp [sumK, sumS]
  | k + 1, h => by
    have ih := sumK_rng hG ts people k (by omega)
    have hs := li_rng (l := c.sizes) (m := 0) (M := 1024) (fun x hx => by have := hG.size x hx; omega) (by omega) (li ts k).toNat
    have hp := prod_rng hs (needS_rng c (li ts k) people)
    rw [sumK_succ c ts people (by omega)]
    omega
theorem sumK_all (c : CaseD) (ts people : List Int) : sumK c ts people ts.length = sumS c ts people := by unfold sumK; rw [List.take_length]
theorem Counted_pure (c : CaseD) (hc : Held c) (hG : Good c) (ts people : List Int) (hm : ∀ x, x ∈ ts → 0 ≤ x ∧ x < c.sizes.length) (hs : ts.length ≤ 1000000) (hl : people.length ≤ 1000000) (hp : 0 < people.length) : Pure Try.prog 57 [encC c, ints ts, ints people] (encI (countedS c ts people)) [] := by
  refine Pure.intro (ts := [6]) Try.func57 (by kernel_rfl) rfl rfl rfl (Nat.le_of_ble_eq_true rfl) ?_ ?_
  · simp [pure_case, pure_ints, encI, PV.pure, pureL]
  refine sZ [1, 2, 3] (fun P S K => XvBox S.nx (S.get 0) (fun r0 ef0 => K ⟨[(1, S.get 1), (2, S.get 2), (3, r0)], (Eff.hp ef0 S.nx S.hp), (S.nx + ef0.add.length), S.gh⟩)) fun K hK => ?_
  repeat' (first | (refine hK _ ?_; clear hK K) | ((first | refine xG_intro (fun hg => ?_) (fun hg => ?_) | refine fun (hg : (_ : Prop)) => ?_) <;> ((try simp only [BQ] at hg); try (exfalso; omega))) | refine And.intro ?_ ?_ | exact cl | refine one_take ?_ _ | refine one_drop ?_ _ | (refine st ?_; try simp only [encC, pairs]) | simp only [encC, pairs])
  all_goals
  refine sY [1, 2, 3, 7] (fun P S K => K ⟨[(1, S.get 1), (2, S.get 2), (3, S.get 3), (7, (.atom (.int .i64 0)))], S.hp, S.nx, S.gh⟩) ?_
  all_goals
  refine Tri.seq ?_
  refine sY [1, 2, 3, 7, 8] (fun P S K => K ⟨[(1, S.get 1), (2, S.get 2), (3, S.get 3), (7, S.get 7), (8, (.atom (.int .i64 0)))], S.hp, S.nx, S.gh⟩) ?_
  all_goals
  refine Tri.block ?_
  refine Tri.loop (α := (k : Nat) ×' (k ≤ ts.length)) (fun z => (fun (k : Nat) => (⟨[(1, ints ts), (2, ints people), (3, .ptr 0 3 0 0), (7, encI (sumK c ts people k)), (8, encI k)], [(0, some ⟨3, [encC c]⟩)], 1, []⟩ : St)) z.1) (fun z => (fun (k : Nat) => ts.length - k) z.1) ⟨0, Nat.zero_le _⟩ [0] ?_ ?_
  ·exact leqB10
  ·rintro ⟨k, hk⟩
   have hrg := sumK_rng hG ts people k hk
   refine Tri.seq ?_
   refine sZ [1, 2, 3, 7, 8, 12] (fun P S K => XvLen P 22 (S.get 1) (fun r2 _ => XvBinOV P .lss 3 (.tmp 11) (S.get 8) r2 (fun r3 _ => K ⟨[(1, S.get 1), (2, S.get 2), (3, S.get 3), (7, S.get 7), (8, S.get 8), (12, r3)], S.hp, S.nx, S.gh⟩))) fun K hK => ?_
   repeat' (first | (refine hK _ ?_; clear hK K) | ((first | refine xG_intro (fun hg => ?_) (fun hg => ?_) | refine fun (hg : (_ : Prop)) => ?_) <;> ((try simp only [BQ] at hg); try (exfalso; omega))) | refine And.intro ?_ ?_ | exact cl | refine one_take ?_ _ | refine one_drop ?_ _ | (refine st ?_; try simp only [encC, pairs]) | simp only [encC, pairs])
   all_goals
   refine Tri.cond rfl (fun h12 => ?_) (fun h12 => ?_)
   ·try (cases h12; done)
    all_goals (try simp only [CQ] at h12)
    all_goals
    refine Tri.skip ?_
    refine Tri.seq ?_
    refine Tri.block ?_
    have hkl : k < ts.length := by omega
    have hin := hm _ (li_mem hkl)
    have hsz := li_rng (l := c.sizes) (m := 0) (M := 1024) (fun x hx => by have := hG.size x hx; omega) (by omega) (li ts k).toNat
    have hpr := prod_rng hsz (needS_rng c (li ts k) people)
    refine rD 19 [1, 2, 3, 7, 8] (fun P GD S K => XvFieldAddr P 25 0 (S.get 3) (fun r1 ef1 => XvLoad P 22 (M S.hp S.nx) r1 (fun r2 ef2 => XvIndexAddr P 22 (S.get 1) (S.get 8) (fun r5 ef5 => XvLoad P 3 (M S.hp S.nx) r5 (fun r6 ef6 => XvIndexAddr P 22 r2 r6 (fun r7 ef7 => XvLoad P 3 (M S.hp S.nx) r7 (fun r8 ef8 => XvLoad P 25 (M S.hp S.nx) (S.get 3) (fun r9 ef9 => XvIndexAddr P 22 (S.get 1) (S.get 8) (fun r12 ef12 => XvLoad P 3 (M S.hp S.nx) r12 (fun r13 ef13 => XvFnV P (M S.hp S.nx) (.fn 61 []) [r9, r13, (S.get 2)] (fun r15 ef15 => XvBinOV P .mul 3 (.tmp 30) r8 r15 (fun r16 ef16 => XvBinOV P .add 3 (.tmp 31) (S.get 7) r16 (fun r17 ef17 => (trOk S.nx GD [⟨S.nx, 0, [], [], []⟩, ⟨S.nx, 0, ef1.rd, [], []⟩, ⟨S.nx, 0, ef2.rd, [], []⟩, ⟨S.nx, 0, [], [], []⟩, ⟨S.nx, 0, [], [], []⟩, ⟨S.nx, 0, ef5.rd, [], []⟩, ⟨S.nx, 0, ef6.rd, [], []⟩, ⟨S.nx, 0, ef7.rd, [], []⟩, ⟨S.nx, 0, ef8.rd, [], []⟩, ⟨S.nx, 0, ef9.rd, [], []⟩, ⟨S.nx, 0, [], [], []⟩, ⟨S.nx, 0, [], [], []⟩, ⟨S.nx, 0, ef12.rd, [], []⟩, ⟨S.nx, 0, ef13.rd, [], []⟩, ⟨S.nx, 0, [], [], []⟩, (Eff.tr ef15 S.nx), ⟨(S.nx + ef15.add.length), 0, ef16.rd, [], []⟩, ⟨(S.nx + ef15.add.length), 0, ef17.rd, [], []⟩, ⟨(S.nx + ef15.add.length), 0, [], [], []⟩] = true ∧ K ⟨[(1, S.get 1), (2, S.get 2), (3, S.get 3), (7, r17), (8, S.get 8)], (Eff.hp ef15 S.nx S.hp), (S.nx + ef15.add.length), S.gh⟩)))))))))))))) fun K hK => ?_
    repeat' (first | (refine hK _ ?_; clear hK K) | (refine (?_ : trOk _ _ _ = true); kernel_rfl) | ((first | refine xG_intro (fun hg => ?_) (fun hg => ?_) | refine fun (hg : (_ : Prop)) => ?_) <;> ((try simp only [BQ] at hg); try (exfalso; omega))) | refine And.intro ?_ ?_ | exact cl | refine one_take ?_ _ | refine one_drop ?_ _ | refine .inl ⟨_, _, Need_pure c hc hG (li ts k) people (by omega), ?_⟩ | refine ⟨_, _, Need_pure c hc hG (li ts k) people (by omega), ?_⟩ | (refine st ?_; try simp only [encC, pairs, getD_encI hkl, getD_encI (show (li ts k).toNat < c.sizes.length by omega)]) | simp only [encC, pairs, getD_encI hkl, getD_encI (show (li ts k).toNat < c.sizes.length by omega)])
    all_goals try simp (disch := omega) only [wrap_id, wrap8_id]
    all_goals
    refine rY [1, 2, 3, 7, 8] (fun P S K => XvBinOV P .add 3 (.const (.int .i64 1)) (S.get 8) (.atom (.int .i64 1)) (fun r1 _ => K ⟨[(1, S.get 1), (2, S.get 2), (3, S.get 3), (7, S.get 7), (8, r1)], S.hp, S.nx, S.gh⟩)) ?_
    all_goals try simp (disch := omega) only [wrap_id, wrap8_id]
    all_goals
    refine ⟨⟨k + 1, by omega⟩, [0], by dsimp only; omega, ?_⟩
    dsimp only
    rw [sumK_succ c ts people (by omega)]
    exact leqB10
   ·try (cases h12; done)
    all_goals (try simp only [CQ] at h12)
    all_goals
    refine Tri.exit ?_
    have hke : k = ts.length := by omega
    subst hke
    rw [sumK_all] at *
    have hq0 : 0 ≤ countedS c ts people := Int.tdiv_nonneg (by omega) (by omega)
    have hq1 : countedS c ts people ≤ sumS c ts people + people.length - 1 := Int.tdiv_le_self _ (by omega)
    have hq : (sumS c ts people + people.length - 1).tdiv people.length = countedS c ts people := rfl
    refine sZ [6] (fun P S K => XvLen P 22 (S.get 2) (fun r2 _ => XvBinOV P .add 3 (.tmp 35) (S.get 7) r2 (fun r3 _ => XvBinOV P .sub 3 (.const (.int .i64 1)) r3 (.atom (.int .i64 1)) (fun r4 _ => XvLen P 22 (S.get 2) (fun r6 _ => XvBinOV P .quo 3 (.tmp 39) r4 r6 (fun r7 _ => K ⟨[(6, r7)], S.hp, S.nx, S.gh⟩)))))) fun K hK => ?_
    repeat' (first | (refine hK _ ?_; clear hK K) | ((first | refine xG_intro (fun hg => ?_) (fun hg => ?_) | refine fun (hg : (_ : Prop)) => ?_) <;> ((try simp only [BQ] at hg); try (exfalso; omega))) | refine And.intro ?_ ?_ | exact cl | refine one_take ?_ _ | refine one_drop ?_ _ | (refine st ?_; try simp only [encC, pairs, hq]) | simp only [encC, pairs, hq])
    all_goals try simp (disch := omega) only [wrap_id, wrap8_id]
    all_goals
    refine Tri.ret ?_
    show ResOk _ _ _ _
    exact ResOk.val lsrB10 lpvB10
end Go.Proofs.Ytcdeilgijleoaaa
set_option linter.all false
namespace Go.Proofs.Ytcdeilgijleoaaa
open Go Go.RowKit
set_option linter.unusedSimpArgs false
set_option linter.unusedVariables false
set_option maxRecDepth 20000
set_option maxHeartbeats 1000000
structure QuickD where
  out : List (Int × Int)
  done : List Bool
  loads : List Int
theorem leqB13 {p : Prop} (h : p := by (refine ⟨4, ?_, ?_, rfl, by simp, rfl, fun _ h _ => absurd h (Nat.not_lt_zero _)⟩ <;> (simp only [List.forall_mem_cons]; repeat' (first | refine And.intro ?_ ?_ | (intro p hp; exact absurd hp List.not_mem_nil) | rfl | exact sp (pure_case _) | exact sp (pure_pairs _) | exact (sealed_pure _ _ _ (pure_ints _)).trans (ren_ints _ _).symm | exact (sealed_pure _ _ _ (pure_strs _)).trans (ren_strs _ _).symm | exact sp (by assumption) | (intro o ho; cases ho; refine ⟨by decide, ?_⟩; first | (refine LeqS.row rfl ?_ ?_; (next => (first | rfl | (simp only [List.map_append, List.map_cons, List.map_nil, List.append_nil, List.nil_append, List.append_assoc, List.cons_append, encI, encS, ints, strs]; done) | (simp [encI, encS, ints, strs, encP, encO]; done))); (next => (first | rfl | exact pureL_encI _ | exact pureL_encS _ | exact pureL_ints _ | exact pureL_strs _ | exact pureL_encP _ | exact pureL_encO _ | (simp [pureL_append, pureL_encI, pureL_encS, pureL_ints, pureL_strs, pureL, PV.pure, pure_ints, pure_strs, pure_case, pureL_encP, pure_pairs, pureL_encO]; done))); done) | refine ⟨_, rfl, rfl, ?_⟩) | (simp [St.born, St.known, retV, St.get, St.obj, lk, sealed, PV.ren, renL, rmap, AO.ren, ints, strs, encI, encS, map_sealed_encI, map_sealed_encS, map_sealed_ints, map_sealed_strs, map_ren_encI, map_ren_encS, map_ren_ints, map_ren_strs, renL_encI, renL_encS, renL_ints, renL_strs, ren_case, encC, pairs, renL_encP, map_sealed_encP, map_ren_encP, encP, take_map_len, renL_encO] <;> omega)))); first | done | fail) : p := h
theorem lstB13 {p : Prop} (h : p := by (first | rfl | (simp [St.born, St.known, retV, St.get, St.obj, lk, sealed, PV.ren, renL, rmap, AO.ren, ints, strs, encI, encS, map_sealed_encI, map_sealed_encS, map_sealed_ints, map_sealed_strs, map_ren_encI, map_ren_encS, map_ren_ints, map_ren_strs, renL_encI, renL_encS, renL_ints, renL_strs, ren_case, encC, pairs, renL_encP, map_sealed_encP, map_ren_encP, encP, take_map_len, renL_encO, take_map_len, List.take_length]; done)); first | done | fail) : p := h
theorem lpvB13 {p : Prop} (h : p := by (first | rfl | (simp [pure_ints, pure_strs, PV.pure, pureL, pureL_encI, pureL_encS, pureL_ints, pureL_strs, pure_case, pureL_encP, pure_pairs, pureL_encO]; done)); first | done | fail) : p := h
def qAt (c : CaseD) (s : QuickD) : Int := pickS c s.done c.sizes.length
def qA (c : CaseD) (s : QuickD) : Int := leastC c (qAt c s) s.loads (-1)
def qB (c : CaseD) (s : QuickD) : Int := leastC c (qAt c s) s.loads (qA c s)
def qStep (c : CaseD) (s : QuickD) : QuickD :=
  ⟨s.out.set (qAt c s).toNat (min (qA c s) (qB c s), max (qA c s) (qB c s)), s.done.set (qAt c s).toNat true, addAt (addAt s.loads (qA c s) (li c.sizes (qAt c s).toNat)) (qB c s) (li c.sizes (qAt c s).toNat)⟩
def quickQ (c : CaseD) : Nat → QuickD
  | 0 => ⟨List.replicate c.sizes.length (0, 0), List.replicate c.sizes.length false, List.replicate c.people.toNat 0⟩
  | k + 1 => qStep c (quickQ c k)
def quickS (c : CaseD) : List (Int × Int) := (quickQ c c.sizes.length).out
theorem count_set : ∀ (l : List Bool) (i : Nat), i < l.length → l.getD i false = false → (l.set i true).count true = l.count true + 1
  | [], i, h, _ => absurd h (Nat.not_lt_zero _)
  | b :: l, 0, _, h => by
    have : b = false := h
    subst this; simp
  | b :: l, i + 1, h, h2 => by
    have := count_set l i (by simpa using h) (by simpa using h2)
    simp only [List.set_cons_succ, List.count_cons, this]; omega
theorem count_free : ∀ (l : List Bool), l.count true < l.length → ∃ i, i < l.length ∧ l.getD i false = false
  | [], h => absurd h (Nat.lt_irrefl _)
  | false :: l, _ => ⟨0, by simp, rfl⟩
  | true :: l, h => by
    obtain ⟨i, h1, h2⟩ := count_free l (by simpa using h)
    exact ⟨i + 1, by simpa using h1, by simpa using h2⟩
structure QuickI (c : CaseD) (k : Nat) : Prop where
  out : (quickQ c k).out.length = c.sizes.length
  done : (quickQ c k).done.length = c.sizes.length
  loads : (quickQ c k).loads.length = c.people.toNat
  count : (quickQ c k).done.count true = k
  rng : ∀ x, x ∈ (quickQ c k).loads → 0 ≤ x ∧ x ≤ 2048 * (k : Int)
theorem quickI_at {c : CaseD} {k : Nat} (h : QuickI c k) (hk : k < c.sizes.length) : 0 ≤ qAt c (quickQ c k) ∧ qAt c (quickQ c k) < c.sizes.length ∧ (quickQ c k).done.getD (qAt c (quickQ c k)).toNat false = false := by
  obtain ⟨h1, h2⟩ := pickS_free c (quickQ c k).done c.sizes.length
  have h0 := h2 (by rw [← h.done]; exact count_free _ (by rw [h.count, h.done]; exact hk))
  exact ⟨h0, (pickS_rng c _ _).2, h1 h0⟩
theorem quickI {c : CaseD} (hG : Good c) : ∀ k, k ≤ c.sizes.length → QuickI c k
  | 0, _ => ⟨by simp [quickQ], by simp [quickQ], by simp [quickQ], by simp [quickQ, List.count_replicate], fun x hx => by
      have := (List.mem_replicate.1 (show x ∈ List.replicate c.people.toNat 0 from hx)).2; omega⟩
  | k + 1, hk => by
    have ih := quickI hG k (by omega)
    obtain ⟨h1, h2, h3⟩ := quickI_at ih (by omega)
    have hs := li_rng (l := c.sizes) (m := 0) (M := 1024) (fun x hx => by have := hG.size x hx; omega) (by omega) (qAt c (quickQ c k)).toNat
    refine ⟨by simp [quickQ, qStep, ih.out], by simp [quickQ, qStep, ih.done], by simp [quickQ, qStep, addAt_len, ih.loads], ?_, ?_⟩
    · show ((quickQ c k).done.set _ true).count true = _
      rw [count_set _ _ (by rw [ih.done]; omega) h3, ih.count]
    · exact fun x hx => addAt_rng (addAt_rng ih.rng (M := 2048 * k + 1024) (by omega) (by omega)) (by omega) (by omega) x hx
theorem set_encP (l : List (Int × Int)) (i : Nat) (a b : Int) : (l.map encP).set i (PV.agg [PV.atom (.int .i64 a), PV.atom (.int .i64 b)]) = (l.set i (a, b)).map encP := by rw [List.map_set]; rfl
theorem set_encO (l : List Bool) (i : Nat) : (l.map encO).set i (PV.atom (.bool true)) = (l.set i true).map encO := by rw [List.map_set]; rfl
theorem zeros_P (n : Nat) : List.replicate n (PV.agg [PV.atom (.int .i64 0), PV.atom (.int .i64 0)]) = (List.replicate n ((0 : Int), (0 : Int))).map encP := by rw [List.map_replicate]; rfl
theorem zeros_O (n : Nat) : List.replicate n (PV.atom (.bool false)) = (List.replicate n false).map encO := by rw [List.map_replicate]; rfl
theorem zeros_I (n : Nat) : List.replicate n (PV.atom (.int .i64 0)) = (List.replicate n (0 : Int)).map encI := by rw [List.map_replicate]; rfl
theorem quick_pure (c : CaseD) (hc : Held c) (hG : Good c) : Pure Try.prog 37 [encC c] (pairs (quickS c)) [] := by
  have hmany := hG.many
  have hlo := hG.lo
  have hhi := hG.hi
  refine Pure.intro (ts := [2]) Try.func37 (by kernel_rfl) rfl rfl rfl (Nat.le_of_ble_eq_true rfl) ?_ ?_
  · simp [pure_case, encI, PV.pure, pureL]
  refine sZ [1] (fun P S K => XvBox S.nx (S.get 0) (fun r0 ef0 => K ⟨[(1, r0)], (Eff.hp ef0 S.nx S.hp), (S.nx + ef0.add.length), S.gh⟩)) fun K hK => ?_
  repeat' (first | (refine hK _ ?_; clear hK K) | ((first | refine xG_intro (fun hg => ?_) (fun hg => ?_) | refine fun (hg : (_ : Prop)) => ?_) <;> ((try simp only [BQ] at hg); try (exfalso; omega))) | refine And.intro ?_ ?_ | exact cl | exact one_encP _ | exact flat_encI _ | refine one_take ?_ _ | refine one_drop ?_ _ | (refine st ?_; try simp only [encC, pairs]) | simp only [encC, pairs])
  all_goals
  refine sZ [1, 3] (fun P S K => XvFieldAddr P 25 0 (S.get 1) (fun r0 _ => XvLoad P 22 (M S.hp S.nx) r0 (fun r1 _ => XvLen P 22 r1 (fun r2 _ => XvMake P 23 (M S.hp S.nx) r2 r2 (fun r3 ef3 => K ⟨[(1, S.get 1), (3, r3)], (Eff.hp ef3 S.nx S.hp), (S.nx + ef3.add.length), S.gh⟩))))) fun K hK => ?_
  repeat' (first | (refine hK _ ?_; clear hK K) | ((first | refine xG_intro (fun hg => ?_) (fun hg => ?_) | refine fun (hg : (_ : Prop)) => ?_) <;> ((try simp only [BQ] at hg); try (exfalso; omega))) | refine And.intro ?_ ?_ | exact cl | exact one_encP _ | exact flat_encI _ | refine one_take ?_ _ | refine one_drop ?_ _ | (refine st ?_; try simp only [encC, pairs]) | simp only [encC, pairs])
  rw [zeros_P]
  all_goals
  refine sZ [1, 3, 4] (fun P S K => XvFieldAddr P 25 0 (S.get 1) (fun r0 _ => XvLoad P 22 (M S.hp S.nx) r0 (fun r1 _ => XvLen P 22 r1 (fun r2 _ => XvMake P 93 (M S.hp S.nx) r2 r2 (fun r3 ef3 => K ⟨[(1, S.get 1), (3, S.get 3), (4, r3)], (Eff.hp ef3 S.nx S.hp), (S.nx + ef3.add.length), S.gh⟩))))) fun K hK => ?_
  repeat' (first | (refine hK _ ?_; clear hK K) | ((first | refine xG_intro (fun hg => ?_) (fun hg => ?_) | refine fun (hg : (_ : Prop)) => ?_) <;> ((try simp only [BQ] at hg); try (exfalso; omega))) | refine And.intro ?_ ?_ | exact cl | exact one_encP _ | exact flat_encI _ | refine one_take ?_ _ | refine one_drop ?_ _ | (refine st ?_; try simp only [encC, pairs]) | simp only [encC, pairs])
  rw [zeros_O]
  all_goals
  refine sZ [1, 3, 4, 5] (fun P S K => XvFieldAddr P 25 1 (S.get 1) (fun r0 _ => XvLoad P 3 (M S.hp S.nx) r0 (fun r1 _ => XvMake P 22 (M S.hp S.nx) r1 r1 (fun r2 ef2 => K ⟨[(1, S.get 1), (3, S.get 3), (4, S.get 4), (5, r2)], (Eff.hp ef2 S.nx S.hp), (S.nx + ef2.add.length), S.gh⟩)))) fun K hK => ?_
  repeat' (first | (refine hK _ ?_; clear hK K) | ((first | refine xG_intro (fun hg => ?_) (fun hg => ?_) | refine fun (hg : (_ : Prop)) => ?_) <;> ((try simp only [BQ] at hg); try (exfalso; omega))) | refine And.intro ?_ ?_ | exact cl | exact one_encP _ | exact flat_encI _ | refine one_take ?_ _ | refine one_drop ?_ _ | (refine st ?_; try simp only [encC, pairs]) | simp only [encC, pairs])
  rw [zeros_I]
  all_goals
  refine Tri.seq ?_
  refine sZ [1, 3, 4, 5, 6] (fun P S K => K ⟨[(1, S.get 1), (3, S.get 3), (4, S.get 4), (5, S.get 5), (6, (.atom (.int .i64 0)))], S.hp, S.nx, S.gh⟩) fun K hK => ?_
  repeat' (first | (refine hK _ ?_; clear hK K) | ((first | refine xG_intro (fun hg => ?_) (fun hg => ?_) | refine fun (hg : (_ : Prop)) => ?_) <;> ((try simp only [BQ] at hg); try (exfalso; omega))) | refine And.intro ?_ ?_ | exact cl | exact one_encP _ | exact flat_encI _ | refine one_take ?_ _ | refine one_drop ?_ _ | (refine st ?_; try simp only [encC, pairs]) | simp only [encC, pairs])
  all_goals
  refine Tri.block ?_
  refine Tri.loop (α := (k : Nat) ×' (k ≤ c.sizes.length)) (fun z => (fun (k : Nat) => (⟨[(1, .ptr 0 3 0 0), (3, .ob 1 2 0 c.sizes.length), (4, .ob 2 1 0 c.sizes.length), (5, .ob 3 1 0 c.people.toNat), (6, encI k)], [(0, some ⟨3, [encC c]⟩), (1, some ⟨2, (quickQ c k).out.map encP⟩), (2, some ⟨1, (quickQ c k).done.map encO⟩), (3, some ⟨1, (quickQ c k).loads.map encI⟩)], 4, []⟩ : St)) z.1) (fun z => (fun (k : Nat) => c.sizes.length - k) z.1) ⟨0, Nat.zero_le _⟩ [0, 1, 2, 3] ?_ ?_
  ·exact leqB13
  ·rintro ⟨k, hk⟩
   have hI := quickI hG k hk
   have hol := hI.out
   have hdl := hI.done
   have hll := hI.loads
   refine Tri.seq ?_
   refine sZ [1, 3, 4, 5, 6, 26] (fun P S K => XvFieldAddr P 25 0 (S.get 1) (fun r1 _ => XvLoad P 22 (M S.hp S.nx) r1 (fun r2 _ => XvLen P 22 r2 (fun r3 _ => XvBinOV P .lss 3 (.tmp 25) (S.get 6) r3 (fun r4 _ => K ⟨[(1, S.get 1), (3, S.get 3), (4, S.get 4), (5, S.get 5), (6, S.get 6), (26, r4)], S.hp, S.nx, S.gh⟩))))) fun K hK => ?_
   repeat' (first | (refine hK _ ?_; clear hK K) | ((first | refine xG_intro (fun hg => ?_) (fun hg => ?_) | refine fun (hg : (_ : Prop)) => ?_) <;> ((try simp only [BQ] at hg); try (exfalso; omega))) | refine And.intro ?_ ?_ | exact cl | exact one_encP _ | exact flat_encI _ | refine one_take ?_ _ | refine one_drop ?_ _ | (refine st ?_; try simp only [encC, pairs]) | simp only [encC, pairs])
   all_goals
   refine Tri.cond rfl (fun h26 => ?_) (fun h26 => ?_)
   ·try (cases h26; done)
    all_goals (try simp only [CQ] at h26)
    all_goals
    refine Tri.skip ?_
    refine Tri.seq ?_
    refine Tri.block ?_
    refine sZ [1, 3, 4, 5, 6, 7] (fun P S K => K ⟨[(1, S.get 1), (3, S.get 3), (4, S.get 4), (5, S.get 5), (6, S.get 6), (7, (.atom (.int .i64 (-1))))], S.hp, S.nx, S.gh⟩) fun K hK => ?_
    repeat' (first | (refine hK _ ?_; clear hK K) | ((first | refine xG_intro (fun hg => ?_) (fun hg => ?_) | refine fun (hg : (_ : Prop)) => ?_) <;> ((try simp only [BQ] at hg); try (exfalso; omega))) | refine And.intro ?_ ?_ | exact cl | exact one_encP _ | exact flat_encI _ | refine one_take ?_ _ | refine one_drop ?_ _ | (refine st ?_; try simp only [encC, pairs]) | simp only [encC, pairs])
    all_goals
    refine Tri.seq ?_
    refine sZ [1, 3, 4, 5, 6, 7, 8] (fun P S K => K ⟨[(1, S.get 1), (3, S.get 3), (4, S.get 4), (5, S.get 5), (6, S.get 6), (7, S.get 7), (8, (.atom (.int .i64 0)))], S.hp, S.nx, S.gh⟩) fun K hK => ?_
    repeat' (first | (refine hK _ ?_; clear hK K) | ((first | refine xG_intro (fun hg => ?_) (fun hg => ?_) | refine fun (hg : (_ : Prop)) => ?_) <;> ((try simp only [BQ] at hg); try (exfalso; omega))) | refine And.intro ?_ ?_ | exact cl | exact one_encP _ | exact flat_encI _ | refine one_take ?_ _ | refine one_drop ?_ _ | (refine st ?_; try simp only [encC, pairs]) | simp only [encC, pairs])
    all_goals
    refine Tri.block ?_
    refine Tri.loop (α := (i : Nat) ×' (i ≤ c.sizes.length ∧ k < c.sizes.length)) (fun z => (fun (i : Nat) => (⟨[(1, .ptr 0 3 0 0), (3, .ob 1 2 0 c.sizes.length), (4, .ob 2 1 0 c.sizes.length), (5, .ob 3 1 0 c.people.toNat), (6, encI k), (7, encI (pickS c (quickQ c k).done i)), (8, encI i)], [(0, some ⟨3, [encC c]⟩), (1, some ⟨2, (quickQ c k).out.map encP⟩), (2, some ⟨1, (quickQ c k).done.map encO⟩), (3, some ⟨1, (quickQ c k).loads.map encI⟩)], 4, []⟩ : St)) z.1) (fun z => (fun (i : Nat) => c.sizes.length - i) z.1) ⟨0, ⟨Nat.zero_le _, by omega⟩⟩ [0, 1, 2, 3] ?_ ?_
    ·exact leqB13
    ·rintro ⟨i, ⟨hi, hkl⟩⟩
     have hrg := pickS_rng c (quickQ c k).done i
     have hst : pickS c (quickQ c k).done (i + 1) = if (quickQ c k).done.getD i false = false ∧ (pickS c (quickQ c k).done i < 0 ∨ li c.sizes (pickS c (quickQ c k).done i).toNat < li c.sizes i) then (i : Int) else pickS c (quickQ c k).done i := rfl
     refine Tri.seq ?_
     refine sZ [1, 3, 4, 5, 6, 7, 8, 33] (fun P S K => XvFieldAddr P 25 0 (S.get 1) (fun r1 _ => XvLoad P 22 (M S.hp S.nx) r1 (fun r2 _ => XvLen P 22 r2 (fun r3 _ => XvBinOV P .lss 3 (.tmp 32) (S.get 8) r3 (fun r4 _ => K ⟨[(1, S.get 1), (3, S.get 3), (4, S.get 4), (5, S.get 5), (6, S.get 6), (7, S.get 7), (8, S.get 8), (33, r4)], S.hp, S.nx, S.gh⟩))))) fun K hK => ?_
     repeat' (first | (refine hK _ ?_; clear hK K) | ((first | refine xG_intro (fun hg => ?_) (fun hg => ?_) | refine fun (hg : (_ : Prop)) => ?_) <;> ((try simp only [BQ] at hg); try (exfalso; omega))) | refine And.intro ?_ ?_ | exact cl | exact one_encP _ | exact flat_encI _ | refine one_take ?_ _ | refine one_drop ?_ _ | (refine st ?_; try simp only [encC, pairs]) | simp only [encC, pairs])
     all_goals
     refine Tri.cond rfl (fun h33 => ?_) (fun h33 => ?_)
     ·try (cases h33; done)
      all_goals (try simp only [CQ] at h33)
      all_goals
      refine Tri.skip ?_
      refine Tri.seq ?_
      refine Tri.block ?_
      have hil : i < c.sizes.length := by omega
      rcases Int.lt_or_le (pickS c (quickQ c k).done i) 0 with hneg | hpos
      all_goals
      refine sD 23 [1, 3, 4, 5, 6, 7, 8, 58] (fun P GD S K => XvIndexAddr P 93 (S.get 4) (S.get 8) (fun r2 ef2 => XvLoad P 4 (M S.hp S.nx) r2 (fun r3 ef3 => XvUn .not r3 (fun r4 ef4 => Xge r4 true (fun k => k (S.get 7) e0) (fun g6 r6 ef6 => Xge g6 true (fun k => XvBinOV P .lss 3 (.const (.int .i64 0)) r6 (.atom (.int .i64 0)) k) (fun g7 r7 ef7 => Xge g7 true (fun k => k r7 e0) (fun g8 r8 ef8 => Xge r8 false (fun k => XvFieldAddr P 25 0 (S.get 1) k) (fun g9 r9 ef9 => Xge g9 false (fun k => XvLoad P 22 (M S.hp S.nx) r9 k) (fun g10 r10 ef10 => Xge g10 false (fun k => k (S.get 8) e0) (fun g11 r11 ef11 => Xge g11 false (fun k => XvIndexAddr P 22 r10 r11 k) (fun g12 r12 ef12 => Xge g12 false (fun k => XvLoad P 3 (M S.hp S.nx) r12 k) (fun g13 r13 ef13 => Xge g13 false (fun k => XvFieldAddr P 25 0 (S.get 1) k) (fun g14 r14 ef14 => Xge g14 false (fun k => XvLoad P 22 (M S.hp S.nx) r14 k) (fun g15 r15 ef15 => Xge g15 false (fun k => k (S.get 7) e0) (fun g16 r16 ef16 => Xge g16 false (fun k => XvMinMax true r16 (.atom (.int .i64 0)) k) (fun g17 r17 ef17 => Xge g17 false (fun k => XvIndexAddr P 22 r15 r17 k) (fun g18 r18 ef18 => Xge g18 false (fun k => XvLoad P 3 (M S.hp S.nx) r18 k) (fun g19 r19 ef19 => Xge g19 false (fun k => XvBinOV P .gtr 3 (.tmp 55) r13 r19 k) (fun g20 r20 ef20 => Xge g8 true (fun k => XvPick g20 (.atom (.bool true)) r20 k) (fun g21 r21 ef21 => XvPick g21 r21 (.atom (.bool false)) (fun r22 ef22 => (trOk S.nx GD [⟨S.nx, 0, [], [], []⟩, ⟨S.nx, 0, [], [], []⟩, ⟨S.nx, 0, ef2.rd, [], []⟩, ⟨S.nx, 0, ef3.rd, [], []⟩, ⟨S.nx, 0, ef4.rd, [], []⟩, ⟨S.nx, 0, [], [], []⟩, ⟨S.nx, 0, ef6.rd, [], []⟩, ⟨S.nx, 0, ef7.rd, [], []⟩, ⟨S.nx, 0, ef8.rd, [], []⟩, ⟨S.nx, 0, ef9.rd, [], []⟩, ⟨S.nx, 0, ef10.rd, [], []⟩, ⟨S.nx, 0, ef11.rd, [], []⟩, ⟨S.nx, 0, ef12.rd, [], []⟩, ⟨S.nx, 0, ef13.rd, [], []⟩, ⟨S.nx, 0, ef14.rd, [], []⟩, ⟨S.nx, 0, ef15.rd, [], []⟩, ⟨S.nx, 0, ef16.rd, [], []⟩, ⟨S.nx, 0, ef17.rd, [], []⟩, ⟨S.nx, 0, ef18.rd, [], []⟩, ⟨S.nx, 0, ef19.rd, [], []⟩, ⟨S.nx, 0, ef20.rd, [], []⟩, ⟨S.nx, 0, ef21.rd, [], []⟩, ⟨S.nx, 0, ef22.rd, [], []⟩] = true ∧ K ⟨[(1, S.get 1), (3, S.get 3), (4, S.get 4), (5, S.get 5), (6, S.get 6), (7, S.get 7), (8, S.get 8), (58, r22)], S.hp, S.nx, S.gh⟩)))))))))))))))))))))) fun K hK => ?_
      repeat' (first | (refine hK _ ?_; clear hK K) | (refine (?_ : trOk _ _ _ = true); kernel_rfl) | ((first | refine xG_intro (fun hg => ?_) (fun hg => ?_) | refine fun (hg : (_ : Prop)) => ?_) <;> ((try simp only [BQ] at hg); try (exfalso; omega))) | refine And.intro ?_ ?_ | exact cl | exact one_encP _ | exact flat_encI _ | refine one_take ?_ _ | refine one_drop ?_ _ | simp (maxSteps := 2000000) only [↓SD, push_cast, Nat.reduceAdd, Nat.reduceSub, Nat.reduceMul, Nat.reduceLT, Nat.reduceLeDiff, Nat.reduceEqDiff, Int.reduceToNat, reduceIte, reduceCtorEq, Int.reduceLE, Int.reduceLT, Int.reduceNeg, ints, strs, encI, encS, encC, pairs, dec_yes hneg, getD_encO (show i < (quickQ c k).done.length by omega), encO] | simp (maxSteps := 2000000) only [↓SD, push_cast, Nat.reduceAdd, Nat.reduceSub, Nat.reduceMul, Nat.reduceLT, Nat.reduceLeDiff, Nat.reduceEqDiff, Int.reduceToNat, reduceIte, reduceCtorEq, Int.reduceLE, Int.reduceLT, Int.reduceNeg, ints, strs, encI, encS, encC, pairs, dec_no (Int.not_lt.2 hpos), getD_encO (show i < (quickQ c k).done.length by omega), encO, getD_encI hil, (show max (pickS c (quickQ c k).done i) 0 = pickS c (quickQ c k).done i by omega), getD_encI (show (pickS c (quickQ c k).done i).toNat < c.sizes.length by omega)])
      all_goals try simp (disch := omega) only [wrap_id, wrap8_id]
      all_goals
      refine Tri.cond rfl (fun h58 => ?_) (fun h58 => ?_)
      ·try (cases h58; done)
       all_goals (try simp only [CQ] at h58)
       all_goals
       refine rZ [1, 3, 4, 5, 6, 7, 8] (fun P S K => K ⟨[(1, S.get 1), (3, S.get 3), (4, S.get 4), (5, S.get 5), (6, S.get 6), (7, (S.get 8)), (8, S.get 8)], S.hp, S.nx, S.gh⟩) fun K hK => ?_
       repeat' (first | (refine hK _ ?_; clear hK K) | ((first | refine xG_intro (fun hg => ?_) (fun hg => ?_) | refine fun (hg : (_ : Prop)) => ?_) <;> ((try simp only [BQ] at hg); try (exfalso; omega))) | refine And.intro ?_ ?_ | exact cl | exact one_encP _ | exact flat_encI _ | refine one_take ?_ _ | refine one_drop ?_ _ | (refine st ?_; try simp only [encC, pairs]) | simp only [encC, pairs])
       all_goals
       refine rZ [1, 3, 4, 5, 6, 7, 8] (fun P S K => XvBinOV P .add 3 (.const (.int .i64 1)) (S.get 8) (.atom (.int .i64 1)) (fun r1 _ => K ⟨[(1, S.get 1), (3, S.get 3), (4, S.get 4), (5, S.get 5), (6, S.get 6), (7, S.get 7), (8, r1)], S.hp, S.nx, S.gh⟩)) fun K hK => ?_
       repeat' (first | (refine hK _ ?_; clear hK K) | ((first | refine xG_intro (fun hg => ?_) (fun hg => ?_) | refine fun (hg : (_ : Prop)) => ?_) <;> ((try simp only [BQ] at hg); try (exfalso; omega))) | refine And.intro ?_ ?_ | exact cl | exact one_encP _ | exact flat_encI _ | refine one_take ?_ _ | refine one_drop ?_ _ | (refine st ?_; try simp only [encC, pairs]) | simp only [encC, pairs])
       all_goals try simp (disch := omega) only [wrap_id, wrap8_id]
       all_goals
       first
       | (have e : pickS c (quickQ c k).done (i + 1) = (i : Int) := (by rw [hst, if_pos ⟨by simp_all, by omega⟩]); refine ⟨⟨i + 1, by omega, hkl⟩, [0, 1, 2, 3], by dsimp only; omega, ?_⟩; dsimp only; rw [e]; exact leqB13)
       | (have e : pickS c (quickQ c k).done (i + 1) = pickS c (quickQ c k).done i := (by rw [hst, if_neg (by rintro ⟨g1, g2⟩; first | omega | simp_all)]); refine ⟨⟨i + 1, by omega, hkl⟩, [0, 1, 2, 3], by dsimp only; omega, ?_⟩; dsimp only; rw [e]; exact leqB13)
      ·try (cases h58; done)
       all_goals (try simp only [CQ] at h58)
       all_goals
       refine Tri.skip ?_
       refine rZ [1, 3, 4, 5, 6, 7, 8] (fun P S K => XvBinOV P .add 3 (.const (.int .i64 1)) (S.get 8) (.atom (.int .i64 1)) (fun r1 _ => K ⟨[(1, S.get 1), (3, S.get 3), (4, S.get 4), (5, S.get 5), (6, S.get 6), (7, S.get 7), (8, r1)], S.hp, S.nx, S.gh⟩)) fun K hK => ?_
       repeat' (first | (refine hK _ ?_; clear hK K) | ((first | refine xG_intro (fun hg => ?_) (fun hg => ?_) | refine fun (hg : (_ : Prop)) => ?_) <;> ((try simp only [BQ] at hg); try (exfalso; omega))) | refine And.intro ?_ ?_ | exact cl | exact one_encP _ | exact flat_encI _ | refine one_take ?_ _ | refine one_drop ?_ _ | (refine st ?_; try simp only [encC, pairs]) | simp only [encC, pairs])
       all_goals try simp (disch := omega) only [wrap_id, wrap8_id]
       all_goals
       first
       | (have e : pickS c (quickQ c k).done (i + 1) = (i : Int) := (by rw [hst, if_pos ⟨by simp_all, by omega⟩]); refine ⟨⟨i + 1, by omega, hkl⟩, [0, 1, 2, 3], by dsimp only; omega, ?_⟩; dsimp only; rw [e]; exact leqB13)
       | (have e : pickS c (quickQ c k).done (i + 1) = pickS c (quickQ c k).done i := (by rw [hst, if_neg (by rintro ⟨g1, g2⟩; first | omega | simp_all)]); refine ⟨⟨i + 1, by omega, hkl⟩, [0, 1, 2, 3], by dsimp only; omega, ?_⟩; dsimp only; rw [e]; exact leqB13)
     ·try (cases h33; done)
      all_goals (try simp only [CQ] at h33)
      all_goals
      refine Tri.exit ?_
      obtain rfl : i = c.sizes.length := by omega
      obtain ⟨ha1, ha2, ha3⟩ := quickI_at hI hkl
      rw [show pickS c (quickQ c k).done c.sizes.length = qAt c (quickQ c k) from rfl]
      have hsz := li_rng (l := c.sizes) (m := 0) (M := 1024) (fun x hx => by have := hG.size x hx; omega) (by omega) (qAt c (quickQ c k)).toNat
      have hqa : 0 ≤ qA c (quickQ c k) ∧ qA c (quickQ c k) < c.people := leastC_rng (by omega) _ _ _
      have hqb : 0 ≤ qB c (quickQ c k) ∧ qB c (quickQ c k) < c.people := leastC_rng (by omega) _ _ _
      refine sZ [1, 3, 4, 5, 6, 7, 9] (fun P S K => XvLoad P 25 (M S.hp S.nx) (S.get 1) (fun r0 _ => XvFnIV P (M S.hp S.nx) (.fn 59 []) [r0, (S.get 7), (S.get 5), (.atom (.int .i64 (-1)))] (fun r3 ef3 => K ⟨[(1, S.get 1), (3, S.get 3), (4, S.get 4), (5, S.get 5), (6, S.get 6), (7, S.get 7), (9, r3)], (Eff.hp ef3 S.nx S.hp), (S.nx + ef3.add.length), S.gh⟩))) fun K hK => ?_
      repeat' (first | (refine hK _ ?_; clear hK K) | ((first | refine xG_intro (fun hg => ?_) (fun hg => ?_) | refine fun (hg : (_ : Prop)) => ?_) <;> ((try simp only [BQ] at hg); try (exfalso; omega))) | refine And.intro ?_ ?_ | exact cl | exact one_encP _ | exact flat_encI _ | refine one_take ?_ _ | refine one_drop ?_ _ | refine .inl ⟨_, _, least_pure c hc hG (qAt c (quickQ c k)) (quickQ c k).loads (-1) hI.loads, ?_⟩ | refine ⟨_, _, least_pure c hc hG (qAt c (quickQ c k)) (quickQ c k).loads (-1) hI.loads, ?_⟩ | refine .inl ⟨_, _, least_pure c hc hG (qAt c (quickQ c k)) (quickQ c k).loads (qA c (quickQ c k)) hI.loads, ?_⟩ | refine ⟨_, _, least_pure c hc hG (qAt c (quickQ c k)) (quickQ c k).loads (qA c (quickQ c k)) hI.loads, ?_⟩ | (refine st ?_; try simp only [encC, pairs, hll, Nat.le_refl, if_true, (show List.take c.people.toNat ((quickQ c k).loads.map encI) = (quickQ c k).loads.map encI from List.take_of_length_le (by rw [List.length_map, hll]; exact Nat.le_refl _)), map_sealed_encI]) | simp only [encC, pairs, hll, Nat.le_refl, if_true, (show List.take c.people.toNat ((quickQ c k).loads.map encI) = (quickQ c k).loads.map encI from List.take_of_length_le (by rw [List.length_map, hll]; exact Nat.le_refl _)), map_sealed_encI])
      rw [show leastC c (qAt c (quickQ c k)) (quickQ c k).loads (-1) = qA c (quickQ c k) from rfl]
      all_goals
      refine sZ [1, 3, 4, 5, 6, 7, 9, 10] (fun P S K => XvLoad P 25 (M S.hp S.nx) (S.get 1) (fun r0 _ => XvFnIV P (M S.hp S.nx) (.fn 59 []) [r0, (S.get 7), (S.get 5), (S.get 9)] (fun r4 ef4 => K ⟨[(1, S.get 1), (3, S.get 3), (4, S.get 4), (5, S.get 5), (6, S.get 6), (7, S.get 7), (9, S.get 9), (10, r4)], (Eff.hp ef4 S.nx S.hp), (S.nx + ef4.add.length), S.gh⟩))) fun K hK => ?_
      repeat' (first | (refine hK _ ?_; clear hK K) | ((first | refine xG_intro (fun hg => ?_) (fun hg => ?_) | refine fun (hg : (_ : Prop)) => ?_) <;> ((try simp only [BQ] at hg); try (exfalso; omega))) | refine And.intro ?_ ?_ | exact cl | exact one_encP _ | exact flat_encI _ | refine one_take ?_ _ | refine one_drop ?_ _ | refine .inl ⟨_, _, least_pure c hc hG (qAt c (quickQ c k)) (quickQ c k).loads (-1) hI.loads, ?_⟩ | refine ⟨_, _, least_pure c hc hG (qAt c (quickQ c k)) (quickQ c k).loads (-1) hI.loads, ?_⟩ | refine .inl ⟨_, _, least_pure c hc hG (qAt c (quickQ c k)) (quickQ c k).loads (qA c (quickQ c k)) hI.loads, ?_⟩ | refine ⟨_, _, least_pure c hc hG (qAt c (quickQ c k)) (quickQ c k).loads (qA c (quickQ c k)) hI.loads, ?_⟩ | (refine st ?_; try simp only [encC, pairs, hll, Nat.le_refl, if_true, (show List.take c.people.toNat ((quickQ c k).loads.map encI) = (quickQ c k).loads.map encI from List.take_of_length_le (by rw [List.length_map, hll]; exact Nat.le_refl _)), map_sealed_encI]) | simp only [encC, pairs, hll, Nat.le_refl, if_true, (show List.take c.people.toNat ((quickQ c k).loads.map encI) = (quickQ c k).loads.map encI from List.take_of_length_le (by rw [List.length_map, hll]; exact Nat.le_refl _)), map_sealed_encI])
      rw [show leastC c (qAt c (quickQ c k)) (quickQ c k).loads (qA c (quickQ c k)) = qB c (quickQ c k) from rfl]
      all_goals
      refine sZ [1, 3, 4, 5, 6, 7, 9, 10] (fun P S K => XvMinMax false (S.get 9) (S.get 10) (fun r4 _ => XvMinMax true (S.get 9) (S.get 10) (fun r7 _ => XvBuild P 67 [(0, r4), (1, r7)] (fun r8 _ => XvIndexAddr P 23 (S.get 3) (S.get 7) (fun r9 _ => XvStore P 67 (M S.hp S.nx) r9 r8 (fun r10 ef10 => K ⟨[(1, S.get 1), (3, S.get 3), (4, S.get 4), (5, S.get 5), (6, S.get 6), (7, S.get 7), (9, S.get 9), (10, S.get 10)], (Eff.hp ef10 S.nx S.hp), (S.nx + ef10.add.length), S.gh⟩)))))) fun K hK => ?_
      repeat' (first | (refine hK _ ?_; clear hK K) | ((first | refine xG_intro (fun hg => ?_) (fun hg => ?_) | refine fun (hg : (_ : Prop)) => ?_) <;> ((try simp only [BQ] at hg); try (exfalso; omega))) | refine And.intro ?_ ?_ | exact cl | exact one_encP _ | exact flat_encI _ | refine one_take ?_ _ | refine one_drop ?_ _ | (refine st ?_; try simp only [encC, pairs, getD_encP (show (qAt c (quickQ c k)).toNat < (quickQ c k).out.length by omega), encP]) | simp only [encC, pairs, getD_encP (show (qAt c (quickQ c k)).toNat < (quickQ c k).out.length by omega), encP])
      rw [set_encP]
      all_goals
      have hra := li_rng hI.rng (by omega) (qA c (quickQ c k)).toNat
      have hsl : (qAt c (quickQ c k)).toNat < c.sizes.length := by omega
      refine sD 13 [1, 3, 4, 5, 6, 7, 10] (fun P GD S K => XvIndexAddr P 22 (S.get 5) (S.get 9) (fun r4 ef4 => XvLoad P 3 (M S.hp S.nx) r4 (fun r5 ef5 => XvFieldAddr P 25 0 (S.get 1) (fun r6 ef6 => XvLoad P 22 (M S.hp S.nx) r6 (fun r7 ef7 => XvIndexAddr P 22 r7 (S.get 7) (fun r9 ef9 => XvLoad P 3 (M S.hp S.nx) r9 (fun r10 ef10 => XvBinOV P .add 3 (.tmp 89) r5 r10 (fun r11 ef11 => XvIndexAddr P 22 (S.get 5) (S.get 9) (fun r12 ef12 => (trOk S.nx GD [⟨S.nx, 0, [], [], []⟩, ⟨S.nx, 0, [], [], []⟩, ⟨S.nx, 0, [], [], []⟩, ⟨S.nx, 0, [], [], []⟩, ⟨S.nx, 0, ef4.rd, [], []⟩, ⟨S.nx, 0, ef5.rd, [], []⟩, ⟨S.nx, 0, ef6.rd, [], []⟩, ⟨S.nx, 0, ef7.rd, [], []⟩, ⟨S.nx, 0, [], [], []⟩, ⟨S.nx, 0, ef9.rd, [], []⟩, ⟨S.nx, 0, ef10.rd, [], []⟩, ⟨S.nx, 0, ef11.rd, [], []⟩, ⟨S.nx, 0, ef12.rd, [], []⟩] = true ∧ XvStore P 3 (M S.hp S.nx) r12 r11 (fun r13 ef13 => K ⟨[(1, S.get 1), (3, S.get 3), (4, S.get 4), (5, S.get 5), (6, S.get 6), (7, S.get 7), (10, S.get 10)], (Eff.hp ef13 S.nx S.hp), (S.nx + ef13.add.length), S.gh⟩))))))))))) fun K hK => ?_
      repeat' (first | (refine hK _ ?_; clear hK K) | (refine (?_ : trOk _ _ _ = true); kernel_rfl) | ((first | refine xG_intro (fun hg => ?_) (fun hg => ?_) | refine fun (hg : (_ : Prop)) => ?_) <;> ((try simp only [BQ] at hg); try (exfalso; omega))) | refine And.intro ?_ ?_ | exact cl | exact one_encP _ | exact flat_encI _ | refine one_take ?_ _ | refine one_drop ?_ _ | (refine st ?_; try simp only [encC, pairs, getD_encI hsl, getD_encI (show (qA c (quickQ c k)).toNat < (quickQ c k).loads.length by omega), wrap_id (x := li (quickQ c k).loads (qA c (quickQ c k)).toNat + li c.sizes (qAt c (quickQ c k)).toNat) (by omega) (by omega), hll]) | simp only [encC, pairs, getD_encI hsl, getD_encI (show (qA c (quickQ c k)).toNat < (quickQ c k).loads.length by omega), wrap_id (x := li (quickQ c k).loads (qA c (quickQ c k)).toNat + li c.sizes (qAt c (quickQ c k)).toNat) (by omega) (by omega), hll])
      all_goals try simp (disch := omega) only [wrap_id, wrap8_id]
      rw [addAt_enc]
      have hlg2 : (addAt (quickQ c k).loads (qA c (quickQ c k)) (li c.sizes (qAt c (quickQ c k)).toNat)).length = c.people.toNat := by rw [addAt_len, hll]
      have hrb := li_rng (addAt_rng (k := qA c (quickQ c k)) (v := li c.sizes (qAt c (quickQ c k)).toNat) (m := 2048 * (k : Int)) (M := 2048 * (k : Int) + 1024) hI.rng (by omega) (by omega)) (by omega) (qB c (quickQ c k)).toNat
      all_goals
      refine sD 13 [1, 3, 4, 5, 6, 7] (fun P GD S K => XvIndexAddr P 22 (S.get 5) (S.get 10) (fun r4 ef4 => XvLoad P 3 (M S.hp S.nx) r4 (fun r5 ef5 => XvFieldAddr P 25 0 (S.get 1) (fun r6 ef6 => XvLoad P 22 (M S.hp S.nx) r6 (fun r7 ef7 => XvIndexAddr P 22 r7 (S.get 7) (fun r9 ef9 => XvLoad P 3 (M S.hp S.nx) r9 (fun r10 ef10 => XvBinOV P .add 3 (.tmp 102) r5 r10 (fun r11 ef11 => XvIndexAddr P 22 (S.get 5) (S.get 10) (fun r12 ef12 => (trOk S.nx GD [⟨S.nx, 0, [], [], []⟩, ⟨S.nx, 0, [], [], []⟩, ⟨S.nx, 0, [], [], []⟩, ⟨S.nx, 0, [], [], []⟩, ⟨S.nx, 0, ef4.rd, [], []⟩, ⟨S.nx, 0, ef5.rd, [], []⟩, ⟨S.nx, 0, ef6.rd, [], []⟩, ⟨S.nx, 0, ef7.rd, [], []⟩, ⟨S.nx, 0, [], [], []⟩, ⟨S.nx, 0, ef9.rd, [], []⟩, ⟨S.nx, 0, ef10.rd, [], []⟩, ⟨S.nx, 0, ef11.rd, [], []⟩, ⟨S.nx, 0, ef12.rd, [], []⟩] = true ∧ XvStore P 3 (M S.hp S.nx) r12 r11 (fun r13 ef13 => K ⟨[(1, S.get 1), (3, S.get 3), (4, S.get 4), (5, S.get 5), (6, S.get 6), (7, S.get 7)], (Eff.hp ef13 S.nx S.hp), (S.nx + ef13.add.length), S.gh⟩))))))))))) fun K hK => ?_
      repeat' (first | (refine hK _ ?_; clear hK K) | (refine (?_ : trOk _ _ _ = true); kernel_rfl) | ((first | refine xG_intro (fun hg => ?_) (fun hg => ?_) | refine fun (hg : (_ : Prop)) => ?_) <;> ((try simp only [BQ] at hg); try (exfalso; omega))) | refine And.intro ?_ ?_ | exact cl | exact one_encP _ | exact flat_encI _ | refine one_take ?_ _ | refine one_drop ?_ _ | (refine st ?_; try simp only [encC, pairs, getD_encI hsl, getD_encI (show (qB c (quickQ c k)).toNat < (addAt (quickQ c k).loads (qA c (quickQ c k)) (li c.sizes (qAt c (quickQ c k)).toNat)).length by omega), wrap_id (x := li (addAt (quickQ c k).loads (qA c (quickQ c k)) (li c.sizes (qAt c (quickQ c k)).toNat)) (qB c (quickQ c k)).toNat + li c.sizes (qAt c (quickQ c k)).toNat) (by omega) (by omega), hlg2]) | simp only [encC, pairs, getD_encI hsl, getD_encI (show (qB c (quickQ c k)).toNat < (addAt (quickQ c k).loads (qA c (quickQ c k)) (li c.sizes (qAt c (quickQ c k)).toNat)).length by omega), wrap_id (x := li (addAt (quickQ c k).loads (qA c (quickQ c k)) (li c.sizes (qAt c (quickQ c k)).toNat)) (qB c (quickQ c k)).toNat + li c.sizes (qAt c (quickQ c k)).toNat) (by omega) (by omega), hlg2])
      all_goals try simp (disch := omega) only [wrap_id, wrap8_id]
      rw [addAt_enc]
      all_goals
      refine rZ [1, 3, 4, 5, 6] (fun P S K => XvIndexAddr P 93 (S.get 4) (S.get 7) (fun r2 _ => XvStore P 4 (M S.hp S.nx) r2 (.atom (.bool true)) (fun r3 ef3 => K ⟨[(1, S.get 1), (3, S.get 3), (4, S.get 4), (5, S.get 5), (6, S.get 6)], (Eff.hp ef3 S.nx S.hp), (S.nx + ef3.add.length), S.gh⟩))) fun K hK => ?_
      repeat' (first | (refine hK _ ?_; clear hK K) | ((first | refine xG_intro (fun hg => ?_) (fun hg => ?_) | refine fun (hg : (_ : Prop)) => ?_) <;> ((try simp only [BQ] at hg); try (exfalso; omega))) | refine And.intro ?_ ?_ | exact cl | exact one_encP _ | exact flat_encI _ | refine one_take ?_ _ | refine one_drop ?_ _ | (refine st ?_; try simp only [encC, pairs, getD_encO (show (qAt c (quickQ c k)).toNat < (quickQ c k).done.length by omega), encO]) | simp only [encC, pairs, getD_encO (show (qAt c (quickQ c k)).toNat < (quickQ c k).done.length by omega), encO])
      rw [set_encO]
      all_goals
      refine rZ [1, 3, 4, 5, 6] (fun P S K => XvBinOV P .add 3 (.const (.int .i64 1)) (S.get 6) (.atom (.int .i64 1)) (fun r1 _ => K ⟨[(1, S.get 1), (3, S.get 3), (4, S.get 4), (5, S.get 5), (6, r1)], S.hp, S.nx, S.gh⟩)) fun K hK => ?_
      repeat' (first | (refine hK _ ?_; clear hK K) | ((first | refine xG_intro (fun hg => ?_) (fun hg => ?_) | refine fun (hg : (_ : Prop)) => ?_) <;> ((try simp only [BQ] at hg); try (exfalso; omega))) | refine And.intro ?_ ?_ | exact cl | exact one_encP _ | exact flat_encI _ | refine one_take ?_ _ | refine one_drop ?_ _ | (refine st ?_; try simp only [encC, pairs]) | simp only [encC, pairs])
      all_goals try simp (disch := omega) only [wrap_id, wrap8_id]
      all_goals
      refine ⟨⟨k + 1, by omega⟩, [0, 1, 2, 3], by dsimp only; omega, ?_⟩
      dsimp only
      rw [show quickQ c (k + 1) = qStep c (quickQ c k) from rfl]
      unfold qStep
      exact leqB13
   ·try (cases h26; done)
    all_goals (try simp only [CQ] at h26)
    all_goals
    refine Tri.exit ?_
    obtain rfl : k = c.sizes.length := by omega
    refine sZ [2] (fun P S K => K ⟨[(2, (S.get 3))], S.hp, S.nx, S.gh⟩) fun K hK => ?_
    repeat' (first | (refine hK _ ?_; clear hK K) | ((first | refine xG_intro (fun hg => ?_) (fun hg => ?_) | refine fun (hg : (_ : Prop)) => ?_) <;> ((try simp only [BQ] at hg); try (exfalso; omega))) | refine And.intro ?_ ?_ | exact cl | exact one_encP _ | exact flat_encI _ | refine one_take ?_ _ | refine one_drop ?_ _ | (refine st ?_; try simp only [encC, pairs]) | simp only [encC, pairs])
    all_goals
    refine Tri.ret ?_
    show ResOk _ _ _ _
    rw [show PV.ob 1 2 0 c.sizes.length = PV.ob 1 2 0 (quickQ c c.sizes.length).out.length by rw [hol]]
    unfold quickS
    exact ResOk.frz 5 lstB13 lpvB13
end Go.Proofs.Ytcdeilgijleoaaa
