/-
  Walks: least, In, Need of the reference model.
-/
import Derived.Test.YtcdeilgijleoaaaWA1
import Derived.Test.YtcdeilgijleoaaaWB7
set_option linter.all false
namespace Go.Proofs.Ytcdeilgijleoaaa
open Go Go.RowKit
set_option maxRecDepth 20000
set_option maxHeartbeats 1000000
theorem leqB8 {p : Prop} (h : p := by (refine ⟨4, ?_, ?_, rfl, by simp, rfl, fun _ h _ => absurd h (Nat.not_lt_zero _)⟩ <;> (simp only [List.forall_mem_cons]; repeat' (first | refine And.intro ?_ ?_ | (intro p hp; exact absurd hp List.not_mem_nil) | rfl | exact sp (pure_case _) | exact sp (pure_pairs _) | exact (sealed_pure _ _ _ (pure_ints _)).trans (ren_ints _ _).symm | exact (sealed_pure _ _ _ (pure_strs _)).trans (ren_strs _ _).symm | exact sp (by assumption) | (intro o ho; cases ho; refine ⟨by decide, ?_⟩; first | (refine LeqS.row rfl ?_ ?_; (next => (first | rfl | (simp only [List.map_append, List.map_cons, List.map_nil, List.append_nil, List.nil_append, List.append_assoc, List.cons_append, encI, encS, ints, strs]; done) | (simp [encI, encS, ints, strs]; done))); (next => (first | rfl | exact pureL_encI _ | exact pureL_encS _ | exact pureL_ints _ | exact pureL_strs _ | exact pureL_encP _ | (simp [pureL_append, pureL_encI, pureL_encS, pureL_ints, pureL_strs, pureL, PV.pure, pure_ints, pure_strs, pure_case, pureL_encP, pure_pairs]; done))); done) | refine ⟨_, rfl, rfl, ?_⟩) | (simp [St.born, St.known, retV, St.get, St.obj, lk, sealed, PV.ren, renL, rmap, AO.ren, ints, strs, encI, encS, map_sealed_encI, map_sealed_encS, map_sealed_ints, map_sealed_strs, map_ren_encI, map_ren_encS, map_ren_ints, map_ren_strs, renL_encI, renL_encS, renL_ints, renL_strs, ren_case, encC, pairs, renL_encP, map_sealed_encP, map_ren_encP, encP, take_map_len] <;> omega)))); first | done | fail) : p := h
theorem In_pure (l : List Int) (n : Int) (hl : l.length ≤ 1000000000) : Pure Try.prog 79 [ints l, encI n] (.atom (.bool (l.contains n))) [] := by
  refine Pure.intro (ts := [4]) Try.func79 (by kernel_rfl) rfl rfl rfl (Nat.le_of_ble_eq_true rfl) ?_ ?_
  · simp [pure_ints, pure_strs, encI, encS, PV.pure, pureL]
  refine sY [0, 1] (fun P S K => K ⟨[(0, S.get 0), (1, S.get 1)], S.hp, S.nx, S.gh⟩) ?_
  all_goals
  refine Tri.seq ?_
  refine sY [0, 1, 5] (fun P S K => K ⟨[(0, S.get 0), (1, S.get 1), (5, (.atom (.int .i64 0)))], S.hp, S.nx, S.gh⟩) ?_
  all_goals
  refine Tri.block ?_
  refine Tri.loop (α := (k : Nat) ×' (k ≤ l.length ∧ ∀ j, j < k → li l j ≠ n)) (fun z => (fun (k : Nat) => (⟨[(0, ints l), (1, encI n), (5, encI k)], [], 0, []⟩ : St)) z.1) (fun z => (fun (k : Nat) => l.length - k) z.1) ⟨0, ⟨Nat.zero_le _, fun j hj => absurd hj (Nat.not_lt_zero _)⟩⟩ [] ?_ ?_
  ·exact leqB8
  ·rintro ⟨k, ⟨hk, hno⟩⟩
   refine Tri.seq ?_
   refine sY [0, 1, 5, 9] (fun P S K => XvLen P 22 (S.get 0) (fun r2 _ => XvBinOV P .lss 3 (.tmp 8) (S.get 5) r2 (fun r3 _ => K ⟨[(0, S.get 0), (1, S.get 1), (5, S.get 5), (9, r3)], S.hp, S.nx, S.gh⟩))) ?_
   all_goals
   refine Tri.cond rfl (fun h9 => ?_) (fun h9 => ?_)
   ·try (cases h9; done)
    all_goals (try simp only [CQ] at h9)
    all_goals
    refine Tri.skip ?_
    refine Tri.seq ?_
    refine Tri.block ?_
    have hkl : k < l.length := by omega
    refine sZ [0, 1, 5, 17] (fun P S K => XvIndexAddr P 22 (S.get 0) (S.get 5) (fun r2 _ => XvLoad P 3 (M S.hp S.nx) r2 (fun r3 _ => XvBinOV P .eql 3 (.tmp 16) r3 (S.get 1) (fun r5 _ => K ⟨[(0, S.get 0), (1, S.get 1), (5, S.get 5), (17, r5)], S.hp, S.nx, S.gh⟩)))) fun K hK => ?_
    repeat' (first | (refine hK _ ?_; clear hK K) | refine And.intro ?_ ?_ | exact cl | (refine st ?_; try simp only [getD_encI hkl]) | simp only [getD_encI hkl])
    all_goals
    refine Tri.cond rfl (fun h17 => ?_) (fun h17 => ?_)
    ·try (cases h17; done)
     all_goals (try simp only [CQ] at h17)
     all_goals
     refine sY [4] (fun P S K => K ⟨[(4, (.atom (.bool true)))], S.hp, S.nx, S.gh⟩) ?_
     all_goals
     refine Tri.ret ?_
     show ResOk _ _ _ _
     rw [show l.contains n = true by rw [List.contains_iff_mem, ← h17]; exact li_mem hkl]
     exact ResOk.val lsrB3 lpvB5
    ·try (cases h17; done)
     all_goals (try simp only [CQ] at h17)
     all_goals
     refine Tri.skip ?_
     refine rY [0, 1, 5] (fun P S K => XvBinOV P .add 3 (.const (.int .i64 1)) (S.get 5) (.atom (.int .i64 1)) (fun r1 _ => K ⟨[(0, S.get 0), (1, S.get 1), (5, r1)], S.hp, S.nx, S.gh⟩)) ?_
     all_goals try simp (disch := omega) only [wrap_id, wrap8_id]
     all_goals
     refine ⟨⟨k + 1, by omega, fun j hj => ?_⟩, [], by dsimp only; omega, ?_⟩
     · rcases Nat.lt_succ_iff_lt_or_eq.1 hj with hj | rfl
       · exact hno j hj
       · exact h17
     · exact leqB8
   ·try (cases h9; done)
    all_goals (try simp only [CQ] at h9)
    all_goals
    refine Tri.exit ?_
    have hnc : l.contains n = false := Bool.eq_false_iff.2 fun h => by obtain ⟨j, hj, e⟩ := List.getElem_of_mem (List.contains_iff_mem.1 h); exact hno j (by omega) (by simpa [li, List.getD_eq_getElem?_getD, hj] using e)
    refine sY [4] (fun P S K => K ⟨[(4, (.atom (.bool false)))], S.hp, S.nx, S.gh⟩) ?_
    all_goals
    refine Tri.ret ?_
    show ResOk _ _ _ _
    rw [hnc]
    exact ResOk.val lsrB3 lpvB5
theorem least_pure (c : CaseD) (hc : Held c) (hG : Good c) (i : Int) (loads : List Int) (but : Int) (hl : loads.length = c.people.toNat) : Pure Try.prog 59 [encC c, encI i, ints loads, encI but] (encI (leastC c i loads but)) [] := by
  have hlo := hG.lo
  have hhi := hG.hi
  refine Pure.intro (ts := [8]) Try.func59 (by kernel_rfl) rfl rfl rfl (Nat.le_of_ble_eq_true rfl) ?_ ?_
  · simp [pure_case, pure_ints, encI, PV.pure, pureL]
  refine sZ [1, 2, 3, 4] (fun P S K => XvBox S.nx (S.get 0) (fun r0 ef0 => K ⟨[(1, S.get 1), (2, S.get 2), (3, S.get 3), (4, r0)], (Eff.hp ef0 S.nx S.hp), (S.nx + ef0.add.length), S.gh⟩)) fun K hK => ?_
  repeat' (first | (refine hK _ ?_; clear hK K) | refine And.intro ?_ ?_ | exact cl | (refine st ?_; try simp only [encC, pairs]) | simp only [encC, pairs])
  all_goals
  refine sY [1, 2, 3, 4, 9] (fun P S K => K ⟨[(1, S.get 1), (2, S.get 2), (3, S.get 3), (4, S.get 4), (9, (.atom (.int .i64 (-1))))], S.hp, S.nx, S.gh⟩) ?_
  all_goals
  refine Tri.seq ?_
  refine sY [1, 2, 3, 4, 9, 10] (fun P S K => K ⟨[(1, S.get 1), (2, S.get 2), (3, S.get 3), (4, S.get 4), (9, S.get 9), (10, (.atom (.int .i64 0)))], S.hp, S.nx, S.gh⟩) ?_
  all_goals
  refine Tri.block ?_
  refine Tri.loop (α := (p : Nat) ×' (p ≤ c.people.toNat)) (fun z => (fun (p : Nat) => (⟨[(1, encI i), (2, ints loads), (3, encI but), (4, .ptr 0 3 0 0), (9, encI (leastS c i loads but p)), (10, encI p)], [(0, some ⟨3, [encC c]⟩)], 1, []⟩ : St)) z.1) (fun z => (fun (p : Nat) => 6 - p) z.1) ⟨0, Nat.zero_le _⟩ [0] ?_ ?_
  ·exact leqB8
  ·rintro ⟨p, hp⟩
   have hrg := leastS_rng c i loads but p
   have hst : leastS c i loads but (p + 1) = if (p : Int) ≠ but ∧ openB c i p = true ∧ (leastS c i loads but p < 0 ∨ li loads p < li loads (leastS c i loads but p).toNat) then (p : Int) else leastS c i loads but p := rfl
   refine Tri.seq ?_
   refine sZ [1, 2, 3, 4, 9, 10, 14] (fun P S K => XvFieldAddr P 25 1 (S.get 4) (fun r1 _ => XvLoad P 3 (M S.hp S.nx) r1 (fun r2 _ => XvBinOV P .lss 3 (.tmp 13) (S.get 10) r2 (fun r3 _ => K ⟨[(1, S.get 1), (2, S.get 2), (3, S.get 3), (4, S.get 4), (9, S.get 9), (10, S.get 10), (14, r3)], S.hp, S.nx, S.gh⟩)))) fun K hK => ?_
   repeat' (first | (refine hK _ ?_; clear hK K) | refine And.intro ?_ ?_ | exact cl | (refine st ?_; try simp only [encC, pairs]) | simp only [encC, pairs])
   all_goals
   refine Tri.cond rfl (fun h14 => ?_) (fun h14 => ?_)
   ·try (cases h14; done)
    all_goals (try simp only [CQ] at h14)
    all_goals
    refine Tri.skip ?_
    refine Tri.seq ?_
    refine Tri.block ?_
    have hpl : p < loads.length := by omega
    rcases Int.lt_or_le (leastS c i loads but p) 0 with hneg | hpos
    all_goals
    refine sD 25 [1, 2, 3, 4, 9, 10, 41] (fun P GD S K => XvBinOV P .neq 3 (.tmp 18) (S.get 10) (S.get 3) (fun r2 ef2 => Xge r2 true (fun k => XvLoad P 25 (M S.hp S.nx) (S.get 4) k) (fun g4 r4 ef4 => Xge g4 true (fun k => k (S.get 1) e0) (fun g5 r5 ef5 => Xge g5 true (fun k => k (S.get 10) e0) (fun g6 r6 ef6 => Xge g6 true (fun k => XvFnV P (M S.hp S.nx) (.fn 49 []) [r4, r5, r6] k) (fun g7 r7 ef7 => XvPick g7 r7 (.atom (.bool false)) (fun r8 ef8 => Xge r8 true (fun k => k (S.get 9) e0) (fun g10 r10 ef10 => Xge g10 true (fun k => XvBinOV P .lss 3 (.const (.int .i64 0)) r10 (.atom (.int .i64 0)) k) (fun g11 r11 ef11 => Xge g11 true (fun k => k r11 e0) (fun g12 r12 ef12 => Xge r12 false (fun k => k (S.get 2) e0) (fun g13 r13 ef13 => Xge g13 false (fun k => k (S.get 10) e0) (fun g14 r14 ef14 => Xge g14 false (fun k => XvIndexAddr P 22 r13 r14 k) (fun g15 r15 ef15 => Xge g15 false (fun k => XvLoad P 3 (M (Eff.hp ef7 S.nx S.hp) (S.nx + ef7.add.length)) r15 k) (fun g16 r16 ef16 => Xge g16 false (fun k => k (S.get 2) e0) (fun g17 r17 ef17 => Xge g17 false (fun k => k (S.get 9) e0) (fun g18 r18 ef18 => Xge g18 false (fun k => XvMinMax true r18 (.atom (.int .i64 0)) k) (fun g19 r19 ef19 => Xge g19 false (fun k => XvIndexAddr P 22 r17 r19 k) (fun g20 r20 ef20 => Xge g20 false (fun k => XvLoad P 3 (M (Eff.hp ef7 S.nx S.hp) (S.nx + ef7.add.length)) r20 k) (fun g21 r21 ef21 => Xge g21 false (fun k => XvBinOV P .lss 3 (.tmp 38) r16 r21 k) (fun g22 r22 ef22 => Xge g12 true (fun k => XvPick g22 (.atom (.bool true)) r22 k) (fun g23 r23 ef23 => XvPick g23 r23 (.atom (.bool false)) (fun r24 ef24 => (trOk S.nx GD [⟨S.nx, 0, [], [], []⟩, ⟨S.nx, 0, [], [], []⟩, ⟨S.nx, 0, ef2.rd, [], []⟩, ⟨S.nx, 0, [], [], []⟩, ⟨S.nx, 0, ef4.rd, [], []⟩, ⟨S.nx, 0, ef5.rd, [], []⟩, ⟨S.nx, 0, ef6.rd, [], []⟩, (Eff.tr ef7 S.nx), ⟨(S.nx + ef7.add.length), 0, ef8.rd, [], []⟩, ⟨(S.nx + ef7.add.length), 0, [], [], []⟩, ⟨(S.nx + ef7.add.length), 0, ef10.rd, [], []⟩, ⟨(S.nx + ef7.add.length), 0, ef11.rd, [], []⟩, ⟨(S.nx + ef7.add.length), 0, ef12.rd, [], []⟩, ⟨(S.nx + ef7.add.length), 0, ef13.rd, [], []⟩, ⟨(S.nx + ef7.add.length), 0, ef14.rd, [], []⟩, ⟨(S.nx + ef7.add.length), 0, ef15.rd, [], []⟩, ⟨(S.nx + ef7.add.length), 0, ef16.rd, [], []⟩, ⟨(S.nx + ef7.add.length), 0, ef17.rd, [], []⟩, ⟨(S.nx + ef7.add.length), 0, ef18.rd, [], []⟩, ⟨(S.nx + ef7.add.length), 0, ef19.rd, [], []⟩, ⟨(S.nx + ef7.add.length), 0, ef20.rd, [], []⟩, ⟨(S.nx + ef7.add.length), 0, ef21.rd, [], []⟩, ⟨(S.nx + ef7.add.length), 0, ef22.rd, [], []⟩, ⟨(S.nx + ef7.add.length), 0, ef23.rd, [], []⟩, ⟨(S.nx + ef7.add.length), 0, ef24.rd, [], []⟩] = true ∧ K ⟨[(1, S.get 1), (2, S.get 2), (3, S.get 3), (4, S.get 4), (9, S.get 9), (10, S.get 10), (41, r24)], (Eff.hp ef7 S.nx S.hp), (S.nx + ef7.add.length), S.gh⟩))))))))))))))))))))))) fun K hK => ?_
    repeat' (first | (refine hK _ ?_; clear hK K) | (refine (?_ : trOk _ _ _ = true); kernel_rfl) | ((first | refine xG_intro (fun hg => ?_) (fun hg => ?_) | refine fun (hg : (_ : Prop)) => ?_) <;> ((try simp only [BQ] at hg); try (exfalso; omega))) | refine And.intro ?_ ?_ | exact cl | refine one_take ?_ _ | refine one_drop ?_ _ | refine .inl ⟨_, _, Open_pure c i p hc, ?_⟩ | refine ⟨_, _, Open_pure c i p hc, ?_⟩ | simp (maxSteps := 2000000) only [↓SD, push_cast, Nat.reduceAdd, Nat.reduceSub, Nat.reduceMul, Nat.reduceLT, Nat.reduceLeDiff, Nat.reduceEqDiff, Int.reduceToNat, reduceIte, reduceCtorEq, Int.reduceLE, Int.reduceLT, Int.reduceNeg, ints, strs, encI, encS, encC, pairs, dec_yes hneg, getD_encI hpl] | simp (maxSteps := 2000000) only [↓SD, push_cast, Nat.reduceAdd, Nat.reduceSub, Nat.reduceMul, Nat.reduceLT, Nat.reduceLeDiff, Nat.reduceEqDiff, Int.reduceToNat, reduceIte, reduceCtorEq, Int.reduceLE, Int.reduceLT, Int.reduceNeg, ints, strs, encI, encS, encC, pairs, dec_no (Int.not_lt.2 hpos), getD_encI hpl, (show max (leastS c i loads but p) 0 = leastS c i loads but p by omega), getD_encI (show (leastS c i loads but p).toNat < loads.length by omega)])
    all_goals
    refine Tri.cond rfl (fun h41 => ?_) (fun h41 => ?_)
    ·try (cases h41; done)
     all_goals (try simp only [CQ] at h41)
     all_goals
     refine rY [1, 2, 3, 4, 9, 10] (fun P S K => K ⟨[(1, S.get 1), (2, S.get 2), (3, S.get 3), (4, S.get 4), (9, (S.get 10)), (10, S.get 10)], S.hp, S.nx, S.gh⟩) ?_
     all_goals
     refine rY [1, 2, 3, 4, 9, 10] (fun P S K => XvBinOV P .add 3 (.const (.int .i64 1)) (S.get 10) (.atom (.int .i64 1)) (fun r1 _ => K ⟨[(1, S.get 1), (2, S.get 2), (3, S.get 3), (4, S.get 4), (9, S.get 9), (10, r1)], S.hp, S.nx, S.gh⟩)) ?_
     all_goals try simp (disch := omega) only [wrap_id, wrap8_id]
     all_goals
     first
     | (have e : leastS c i loads but (p + 1) = (p : Int) := (by rw [hst, if_pos ⟨by omega, by assumption, by omega⟩]); refine ⟨⟨p + 1, by omega⟩, [0], by dsimp only; omega, ?_⟩; dsimp only; rw [e]; exact leqB8)
     | (have e : leastS c i loads but (p + 1) = leastS c i loads but p := (by rw [hst, if_neg (by rintro ⟨g1, g2, g3⟩; first | omega | simp_all)]); refine ⟨⟨p + 1, by omega⟩, [0], by dsimp only; omega, ?_⟩; dsimp only; rw [e]; exact leqB8)
    ·try (cases h41; done)
     all_goals (try simp only [CQ] at h41)
     all_goals
     refine Tri.skip ?_
     refine rY [1, 2, 3, 4, 9, 10] (fun P S K => XvBinOV P .add 3 (.const (.int .i64 1)) (S.get 10) (.atom (.int .i64 1)) (fun r1 _ => K ⟨[(1, S.get 1), (2, S.get 2), (3, S.get 3), (4, S.get 4), (9, S.get 9), (10, r1)], S.hp, S.nx, S.gh⟩)) ?_
     all_goals try simp (disch := omega) only [wrap_id, wrap8_id]
     all_goals
     first
     | (have e : leastS c i loads but (p + 1) = (p : Int) := (by rw [hst, if_pos ⟨by omega, by assumption, by omega⟩]); refine ⟨⟨p + 1, by omega⟩, [0], by dsimp only; omega, ?_⟩; dsimp only; rw [e]; exact leqB8)
     | (have e : leastS c i loads but (p + 1) = leastS c i loads but p := (by rw [hst, if_neg (by rintro ⟨g1, g2, g3⟩; first | omega | simp_all)]); refine ⟨⟨p + 1, by omega⟩, [0], by dsimp only; omega, ?_⟩; dsimp only; rw [e]; exact leqB8)
   ·try (cases h14; done)
    all_goals (try simp only [CQ] at h14)
    all_goals
    refine Tri.exit ?_
    have hpe : p = c.people.toNat := by omega
    subst hpe
    refine sZ [8] (fun P S K => XvMinMax true (S.get 9) (.atom (.int .i64 0)) (fun r1 _ => K ⟨[(8, r1)], S.hp, S.nx, S.gh⟩)) fun K hK => ?_
    repeat' (first | (refine hK _ ?_; clear hK K) | ((first | refine xG_intro (fun hg => ?_) (fun hg => ?_) | refine fun (hg : (_ : Prop)) => ?_) <;> ((try simp only [BQ] at hg); try (exfalso; omega))) | refine And.intro ?_ ?_ | exact cl | refine one_take ?_ _ | refine one_drop ?_ _ | (refine st ?_; try simp only [encC, pairs]) | simp only [encC, pairs])
    all_goals
    refine Tri.ret ?_
    show ResOk _ _ _ _
    exact ResOk.val lsrB3 lpvB5
def shutN (c : CaseD) (i : Int) (people : List Int) (k : Nat) : Nat := ((List.range k).filter fun (p : Nat) => !people.contains (p : Int) && openB c i p).length
theorem shutN_succ (c : CaseD) (i : Int) (people : List Int) (k : Nat) : shutN c i people (k + 1) = shutN c i people k + if (!people.contains (k : Int) && openB c i k) = true then 1 else 0 := by
  unfold shutN
  rw [List.range_succ, List.filter_append, List.length_append, List.filter_cons, List.filter_nil]
  split <;> rfl
theorem shutN_le (c : CaseD) (i : Int) (people : List Int) (k : Nat) : shutN c i people k ≤ k := by
  unfold shutN; exact Nat.le_trans (List.length_filter_le _ _) (by simp)
theorem needS_open (c : CaseD) (i : Int) (people : List Int) : needS c i people = max (2 - (shutN c i people c.people.toNat : Int)) 0 := rfl
theorem Need_pure (c : CaseD) (hc : Held c) (hG : Good c) (i : Int) (people : List Int) (hl : people.length ≤ 1000000000) : Pure Try.prog 61 [encC c, encI i, ints people] (encI (needS c i people)) [] := by
  have hlo := hG.lo
  have hhi := hG.hi
  refine Pure.intro (ts := [6]) Try.func61 (by kernel_rfl) rfl rfl rfl (Nat.le_of_ble_eq_true rfl) ?_ ?_
  · simp [pure_case, pure_ints, encI, PV.pure, pureL]
  refine sZ [1, 2, 3] (fun P S K => XvBox S.nx (S.get 0) (fun r0 ef0 => K ⟨[(1, S.get 1), (2, S.get 2), (3, r0)], (Eff.hp ef0 S.nx S.hp), (S.nx + ef0.add.length), S.gh⟩)) fun K hK => ?_
  repeat' (first | (refine hK _ ?_; clear hK K) | refine And.intro ?_ ?_ | exact cl | (refine st ?_; try simp only [encC, pairs]) | simp only [encC, pairs])
  all_goals
  refine sY [1, 2, 3, 7] (fun P S K => K ⟨[(1, S.get 1), (2, S.get 2), (3, S.get 3), (7, (.atom (.int .i64 2)))], S.hp, S.nx, S.gh⟩) ?_
  all_goals
  refine Tri.seq ?_
  refine sY [1, 2, 3, 7, 8] (fun P S K => K ⟨[(1, S.get 1), (2, S.get 2), (3, S.get 3), (7, S.get 7), (8, (.atom (.int .i64 0)))], S.hp, S.nx, S.gh⟩) ?_
  all_goals
  refine Tri.block ?_
  refine Tri.loop (α := (p : Nat) ×' (p ≤ c.people.toNat)) (fun z => (fun (p : Nat) => (⟨[(1, encI i), (2, ints people), (3, .ptr 0 3 0 0), (7, encI (2 - (shutN c i people p : Int))), (8, encI p)], [(0, some ⟨3, [encC c]⟩)], 1, []⟩ : St)) z.1) (fun z => (fun (p : Nat) => 6 - p) z.1) ⟨0, Nat.zero_le _⟩ [0] ?_ ?_
  ·exact leqB8
  ·rintro ⟨p, hp⟩
   have hrg := shutN_le c i people p
   have hst := shutN_succ c i people p
   refine Tri.seq ?_
   refine sZ [1, 2, 3, 7, 8, 12] (fun P S K => XvFieldAddr P 25 1 (S.get 3) (fun r1 _ => XvLoad P 3 (M S.hp S.nx) r1 (fun r2 _ => XvBinOV P .lss 3 (.tmp 11) (S.get 8) r2 (fun r3 _ => K ⟨[(1, S.get 1), (2, S.get 2), (3, S.get 3), (7, S.get 7), (8, S.get 8), (12, r3)], S.hp, S.nx, S.gh⟩)))) fun K hK => ?_
   repeat' (first | (refine hK _ ?_; clear hK K) | refine And.intro ?_ ?_ | exact cl | (refine st ?_; try simp only [encC, pairs]) | simp only [encC, pairs])
   all_goals
   refine Tri.cond rfl (fun h12 => ?_) (fun h12 => ?_)
   ·try (cases h12; done)
    all_goals (try simp only [CQ] at h12)
    all_goals
    refine Tri.skip ?_
    refine Tri.seq ?_
    refine Tri.block ?_
    refine sZ [1, 2, 3, 7, 8, 24] (fun P S K => XvFnIV P (M S.hp S.nx) (.fn 79 []) [(S.get 2), (S.get 8)] (fun r2 ef2 => XvUn .not r2 (fun r3 _ => Xgq r3 true (fun k => XvLoad P 25 (M (Eff.hp ef2 S.nx S.hp) (S.nx + ef2.add.length)) (S.get 3) (fun r5 _ => k r5)) (fun g5 r5 => Xgq g5 true (fun k => k (S.get 1)) (fun g6 r6 => Xgq g6 true (fun k => k (S.get 8)) (fun g7 r7 => Xge g7 true (fun k => XvFnIV P (M (Eff.hp ef2 S.nx S.hp) (S.nx + ef2.add.length)) (.fn 49 []) [r5, r6, r7] k) (fun g8 r8 ef8 => XvPick g8 r8 (.atom (.bool false)) (fun r9 _ => K ⟨[(1, S.get 1), (2, S.get 2), (3, S.get 3), (7, S.get 7), (8, S.get 8), (24, r9)], (Eff.hp ef8 (S.nx + ef2.add.length) (Eff.hp ef2 S.nx S.hp)), ((S.nx + ef2.add.length) + ef8.add.length), S.gh⟩)))))))) fun K hK => ?_
    repeat' (first | (refine hK _ ?_; clear hK K) | ((first | refine xG_intro (fun hg => ?_) (fun hg => ?_) | refine fun (hg : (_ : Prop)) => ?_) <;> ((try simp only [BQ] at hg); try (exfalso; omega))) | refine And.intro ?_ ?_ | exact cl | refine one_take ?_ _ | refine one_drop ?_ _ | refine .inl ⟨_, _, In_pure people p hl, ?_⟩ | refine .inl ⟨_, _, Open_pure c i p hc, ?_⟩ | (refine st ?_; try simp only [encC, pairs]) | simp only [encC, pairs])
    all_goals try simp (disch := omega) only [wrap_id, wrap8_id]
    all_goals
    refine Tri.cond rfl (fun h24 => ?_) (fun h24 => ?_)
    ·try (cases h24; done)
     all_goals (try simp only [CQ] at h24)
     all_goals
     refine rY [1, 2, 3, 7, 8] (fun P S K => XvBinOV P .sub 3 (.const (.int .i64 1)) (S.get 7) (.atom (.int .i64 1)) (fun r1 _ => K ⟨[(1, S.get 1), (2, S.get 2), (3, S.get 3), (7, r1), (8, S.get 8)], S.hp, S.nx, S.gh⟩)) ?_
     all_goals try simp (disch := omega) only [wrap_id, wrap8_id]
     all_goals
     refine rY [1, 2, 3, 7, 8] (fun P S K => XvBinOV P .add 3 (.const (.int .i64 1)) (S.get 8) (.atom (.int .i64 1)) (fun r1 _ => K ⟨[(1, S.get 1), (2, S.get 2), (3, S.get 3), (7, S.get 7), (8, r1)], S.hp, S.nx, S.gh⟩)) ?_
     all_goals try simp (disch := omega) only [wrap_id, wrap8_id]
     all_goals
     first
     | (have e : shutN c i people (p + 1) = shutN c i people p + 1 := (by rw [hst, if_pos (by simp_all)]); refine ⟨⟨p + 1, by omega⟩, [0], by dsimp only; omega, ?_⟩; dsimp only; rw [e]; exact leqB8)
     | (have e : shutN c i people (p + 1) = shutN c i people p := (by rw [hst, if_neg (by simp_all), Nat.add_zero]); refine ⟨⟨p + 1, by omega⟩, [0], by dsimp only; omega, ?_⟩; dsimp only; rw [e]; exact leqB8)
    ·try (cases h24; done)
     all_goals (try simp only [CQ] at h24)
     all_goals
     refine Tri.skip ?_
     refine rY [1, 2, 3, 7, 8] (fun P S K => XvBinOV P .add 3 (.const (.int .i64 1)) (S.get 8) (.atom (.int .i64 1)) (fun r1 _ => K ⟨[(1, S.get 1), (2, S.get 2), (3, S.get 3), (7, S.get 7), (8, r1)], S.hp, S.nx, S.gh⟩)) ?_
     all_goals try simp (disch := omega) only [wrap_id, wrap8_id]
     all_goals
     first
     | (have e : shutN c i people (p + 1) = shutN c i people p + 1 := (by rw [hst, if_pos (by simp_all)]); refine ⟨⟨p + 1, by omega⟩, [0], by dsimp only; omega, ?_⟩; dsimp only; rw [e]; exact leqB8)
     | (have e : shutN c i people (p + 1) = shutN c i people p := (by rw [hst, if_neg (by simp_all), Nat.add_zero]); refine ⟨⟨p + 1, by omega⟩, [0], by dsimp only; omega, ?_⟩; dsimp only; rw [e]; exact leqB8)
   ·try (cases h12; done)
    all_goals (try simp only [CQ] at h12)
    all_goals
    refine Tri.exit ?_
    have hpe : p = c.people.toNat := by omega
    subst hpe
    refine sZ [6] (fun P S K => XvMinMax true (S.get 7) (.atom (.int .i64 0)) (fun r1 _ => K ⟨[(6, r1)], S.hp, S.nx, S.gh⟩)) fun K hK => ?_
    repeat' (first | (refine hK _ ?_; clear hK K) | ((first | refine xG_intro (fun hg => ?_) (fun hg => ?_) | refine fun (hg : (_ : Prop)) => ?_) <;> ((try simp only [BQ] at hg); try (exfalso; omega))) | refine And.intro ?_ ?_ | exact cl | refine one_take ?_ _ | refine one_drop ?_ _ | (refine st ?_; try simp only [encC, pairs]) | simp only [encC, pairs])
    all_goals
    refine Tri.ret ?_
    show ResOk _ _ _ _
    rw [needS_open]
    exact ResOk.val lsrB3 lpvB5
theorem needS_rng (c : CaseD) (i : Int) (people : List Int) : 0 ≤ needS c i people ∧ needS c i people ≤ 2 := by
  rw [needS_open]; omega
def sumK (c : CaseD) (ts people : List Int) (k : Nat) : Int := sumS c (ts.take k) people
theorem sumK_succ (c : CaseD) (ts people : List Int) {k : Nat} (hk : k < ts.length) : sumK c ts people (k + 1) = sumK c ts people k + li c.sizes (li ts k).toNat * needS c (li ts k) people := by
  have e : ts.getD k 0 = ts[k] := by simp [List.getD_eq_getElem?_getD, hk]
  unfold sumK sumS
  rw [List.take_succ_eq_append_getElem hk, List.foldl_append]
  simp [li, hk]
theorem prod_rng {a b : Int} (ha : 0 ≤ a ∧ a ≤ 1024) (hb : 0 ≤ b ∧ b ≤ 2) : 0 ≤ a * b ∧ a * b ≤ 2048 := by
  have h1 := Int.mul_nonneg ha.1 hb.1
  have h2 : a * b ≤ 1024 * 2 := Int.mul_le_mul ha.2 hb.2 hb.1 (by omega)
  omega
theorem sumK_rng {c : CaseD} (hG : Good c) (ts people : List Int) : ∀ k : Nat, k ≤ ts.length → 0 ≤ sumK c ts people k ∧ sumK c ts people k ≤ 2048 * k
  | 0, _ => by simp [sumK, sumS]
  | k + 1, h => by
    have ih := sumK_rng hG ts people k (by omega)
    have hs := li_rng (l := c.sizes) (m := 0) (M := 1024) (fun x hx => by have := hG.size x hx; omega) (by omega) (li ts k).toNat
    have hp := prod_rng hs (needS_rng c (li ts k) people)
    rw [sumK_succ c ts people (by omega)]
    omega
theorem sumK_all (c : CaseD) (ts people : List Int) : sumK c ts people ts.length = sumS c ts people := by unfold sumK; rw [List.take_length]
theorem Counted_pure (c : CaseD) (hc : Held c) (hG : Good c) (ts people : List Int) (hm : ∀ x, x ∈ ts → 0 ≤ x ∧ x < c.sizes.length) (hs : ts.length ≤ 1000000) (hl : people.length ≤ 1000000) (hp : 0 < people.length) : Pure Try.prog 57 [encC c, ints ts, ints people] (encI (countedS c ts people)) [] := by
  refine Pure.intro (ts := [6]) Try.func57 (by kernel_rfl) rfl rfl rfl (Nat.le_of_ble_eq_true rfl) ?_ ?_
  · simp [pure_case, pure_ints, encI, PV.pure, pureL]
  refine sZ [1, 2, 3] (fun P S K => XvBox S.nx (S.get 0) (fun r0 ef0 => K ⟨[(1, S.get 1), (2, S.get 2), (3, r0)], (Eff.hp ef0 S.nx S.hp), (S.nx + ef0.add.length), S.gh⟩)) fun K hK => ?_
  repeat' (first | (refine hK _ ?_; clear hK K) | refine And.intro ?_ ?_ | exact cl | (refine st ?_; try simp only [encC, pairs]) | simp only [encC, pairs])
  all_goals
  refine sY [1, 2, 3, 7] (fun P S K => K ⟨[(1, S.get 1), (2, S.get 2), (3, S.get 3), (7, (.atom (.int .i64 0)))], S.hp, S.nx, S.gh⟩) ?_
  all_goals
  refine Tri.seq ?_
  refine sY [1, 2, 3, 7, 8] (fun P S K => K ⟨[(1, S.get 1), (2, S.get 2), (3, S.get 3), (7, S.get 7), (8, (.atom (.int .i64 0)))], S.hp, S.nx, S.gh⟩) ?_
  all_goals
  refine Tri.block ?_
  refine Tri.loop (α := (k : Nat) ×' (k ≤ ts.length)) (fun z => (fun (k : Nat) => (⟨[(1, ints ts), (2, ints people), (3, .ptr 0 3 0 0), (7, encI (sumK c ts people k)), (8, encI k)], [(0, some ⟨3, [encC c]⟩)], 1, []⟩ : St)) z.1) (fun z => (fun (k : Nat) => ts.length - k) z.1) ⟨0, Nat.zero_le _⟩ [0] ?_ ?_
  ·exact leqB8
  ·rintro ⟨k, hk⟩
   have hrg := sumK_rng hG ts people k hk
   refine Tri.seq ?_
   refine sZ [1, 2, 3, 7, 8, 12] (fun P S K => XvLen P 22 (S.get 1) (fun r2 _ => XvBinOV P .lss 3 (.tmp 11) (S.get 8) r2 (fun r3 _ => K ⟨[(1, S.get 1), (2, S.get 2), (3, S.get 3), (7, S.get 7), (8, S.get 8), (12, r3)], S.hp, S.nx, S.gh⟩))) fun K hK => ?_
   repeat' (first | (refine hK _ ?_; clear hK K) | refine And.intro ?_ ?_ | exact cl | (refine st ?_; try simp only [encC, pairs]) | simp only [encC, pairs])
   all_goals
   refine Tri.cond rfl (fun h12 => ?_) (fun h12 => ?_)
   ·try (cases h12; done)
    all_goals (try simp only [CQ] at h12)
    all_goals
    refine Tri.skip ?_
    refine Tri.seq ?_
    refine Tri.block ?_
    have hkl : k < ts.length := by omega
    have hin := hm _ (li_mem hkl)
    have hsz := li_rng (l := c.sizes) (m := 0) (M := 1024) (fun x hx => by have := hG.size x hx; omega) (by omega) (li ts k).toNat
    have hpr := prod_rng hsz (needS_rng c (li ts k) people)
    refine rD 19 [1, 2, 3, 7, 8] (fun P GD S K => XvFieldAddr P 25 0 (S.get 3) (fun r1 ef1 => XvLoad P 22 (M S.hp S.nx) r1 (fun r2 ef2 => XvIndexAddr P 22 (S.get 1) (S.get 8) (fun r5 ef5 => XvLoad P 3 (M S.hp S.nx) r5 (fun r6 ef6 => XvIndexAddr P 22 r2 r6 (fun r7 ef7 => XvLoad P 3 (M S.hp S.nx) r7 (fun r8 ef8 => XvLoad P 25 (M S.hp S.nx) (S.get 3) (fun r9 ef9 => XvIndexAddr P 22 (S.get 1) (S.get 8) (fun r12 ef12 => XvLoad P 3 (M S.hp S.nx) r12 (fun r13 ef13 => XvFnV P (M S.hp S.nx) (.fn 61 []) [r9, r13, (S.get 2)] (fun r15 ef15 => XvBinOV P .mul 3 (.tmp 30) r8 r15 (fun r16 ef16 => XvBinOV P .add 3 (.tmp 31) (S.get 7) r16 (fun r17 ef17 => (trOk S.nx GD [⟨S.nx, 0, [], [], []⟩, ⟨S.nx, 0, ef1.rd, [], []⟩, ⟨S.nx, 0, ef2.rd, [], []⟩, ⟨S.nx, 0, [], [], []⟩, ⟨S.nx, 0, [], [], []⟩, ⟨S.nx, 0, ef5.rd, [], []⟩, ⟨S.nx, 0, ef6.rd, [], []⟩, ⟨S.nx, 0, ef7.rd, [], []⟩, ⟨S.nx, 0, ef8.rd, [], []⟩, ⟨S.nx, 0, ef9.rd, [], []⟩, ⟨S.nx, 0, [], [], []⟩, ⟨S.nx, 0, [], [], []⟩, ⟨S.nx, 0, ef12.rd, [], []⟩, ⟨S.nx, 0, ef13.rd, [], []⟩, ⟨S.nx, 0, [], [], []⟩, (Eff.tr ef15 S.nx), ⟨(S.nx + ef15.add.length), 0, ef16.rd, [], []⟩, ⟨(S.nx + ef15.add.length), 0, ef17.rd, [], []⟩, ⟨(S.nx + ef15.add.length), 0, [], [], []⟩] = true ∧ K ⟨[(1, S.get 1), (2, S.get 2), (3, S.get 3), (7, r17), (8, S.get 8)], (Eff.hp ef15 S.nx S.hp), (S.nx + ef15.add.length), S.gh⟩)))))))))))))) fun K hK => ?_
    repeat' (first | (refine hK _ ?_; clear hK K) | (refine (?_ : trOk _ _ _ = true); kernel_rfl) | refine And.intro ?_ ?_ | exact cl | refine .inl ⟨_, _, Need_pure c hc hG (li ts k) people (by omega), ?_⟩ | refine ⟨_, _, Need_pure c hc hG (li ts k) people (by omega), ?_⟩ | (refine st ?_; try simp only [encC, pairs, getD_encI hkl, getD_encI (show (li ts k).toNat < c.sizes.length by omega)]) | simp only [encC, pairs, getD_encI hkl, getD_encI (show (li ts k).toNat < c.sizes.length by omega)])
    all_goals try simp (disch := omega) only [wrap_id, wrap8_id]
    all_goals
    refine rY [1, 2, 3, 7, 8] (fun P S K => XvBinOV P .add 3 (.const (.int .i64 1)) (S.get 8) (.atom (.int .i64 1)) (fun r1 _ => K ⟨[(1, S.get 1), (2, S.get 2), (3, S.get 3), (7, S.get 7), (8, r1)], S.hp, S.nx, S.gh⟩)) ?_
    all_goals try simp (disch := omega) only [wrap_id, wrap8_id]
    all_goals
    refine ⟨⟨k + 1, by omega⟩, [0], by dsimp only; omega, ?_⟩
    dsimp only
    rw [sumK_succ c ts people (by omega)]
    exact leqB8
   ·try (cases h12; done)
    all_goals (try simp only [CQ] at h12)
    all_goals
    refine Tri.exit ?_
    have hke : k = ts.length := by omega
    subst hke
    rw [sumK_all] at *
    have hq0 : 0 ≤ countedS c ts people := Int.tdiv_nonneg (by omega) (by omega)
    have hq1 : countedS c ts people ≤ sumS c ts people + people.length - 1 := Int.tdiv_le_self _ (by omega)
    have hq : (sumS c ts people + people.length - 1).tdiv people.length = countedS c ts people := rfl
    refine sZ [6] (fun P S K => XvLen P 22 (S.get 2) (fun r2 _ => XvBinOV P .add 3 (.tmp 35) (S.get 7) r2 (fun r3 _ => XvBinOV P .sub 3 (.const (.int .i64 1)) r3 (.atom (.int .i64 1)) (fun r4 _ => XvLen P 22 (S.get 2) (fun r6 _ => XvBinOV P .quo 3 (.tmp 39) r4 r6 (fun r7 _ => K ⟨[(6, r7)], S.hp, S.nx, S.gh⟩)))))) fun K hK => ?_
    repeat' (first | (refine hK _ ?_; clear hK K) | ((first | refine xG_intro (fun hg => ?_) (fun hg => ?_) | refine fun (hg : (_ : Prop)) => ?_) <;> ((try simp only [BQ] at hg); try (exfalso; omega))) | refine And.intro ?_ ?_ | exact cl | refine one_take ?_ _ | refine one_drop ?_ _ | (refine st ?_; try simp only [encC, pairs, hq]) | simp only [encC, pairs, hq])
    all_goals try simp (disch := omega) only [wrap_id, wrap8_id]
    all_goals
    refine Tri.ret ?_
    show ResOk _ _ _ _
    exact ResOk.val lsrB3 lpvB5
abbrev ExS := List (Int × Int) × Int
def exStep (f : List (Int × Int) → List Int → ExS → ExS) (c : CaseD) (i : Nat) (pre : List (Int × Int)) (loads : List Int) (st : ExS) (p : Int × Int) : ExS :=
  if st.2 ≤ li loads p.1.toNat + li c.sizes i ∨ st.2 ≤ li loads p.2.toNat + li c.sizes i then st else f (pre ++ [p]) (loadStep c loads i p) st
def exF (c : CaseD) : Nat → List (Int × Int) → List Int → ExS → ExS
  | 0, pre, loads, st => if greatest loads < st.2 then (pre, greatest loads) else st
  | k + 1, pre, loads, st => (pairsOf c (c.sizes.length - (k + 1) : Nat)).foldl (exStep (exF c k) c (c.sizes.length - (k + 1)) pre loads) st
theorem foldl_max_le : ∀ (l : List Int) (a m : Int), a ≤ m → (∀ x, x ∈ l → x ≤ m) → l.foldl max a ≤ m
  | [], a, m, h, _ => h
  | y :: l, a, m, h, hl => foldl_max_le l (max a y) m (by have := hl y (List.mem_cons_self ..); omega) fun x hx => hl x (List.mem_cons_of_mem _ hx)
theorem le_foldl_max : ∀ (l : List Int) (a : Int), a ≤ l.foldl max a ∧ ∀ x, x ∈ l → x ≤ l.foldl max a
  | [], a => ⟨Int.le_refl _, fun x hx => by cases hx⟩
  | y :: l, a => by
    obtain ⟨h1, h2⟩ := le_foldl_max l (max a y)
    have h1' : max a y ≤ List.foldl max a (y :: l) := h1
    refine ⟨by omega, fun x hx => ?_⟩
    rcases List.mem_cons.1 hx with rfl | hx
    · omega
    · exact h2 x hx
theorem greatest_le {l : List Int} {m : Int} (h0 : 0 ≤ m) (h : ∀ x, x ∈ l → x ≤ m) : greatest l ≤ m := foldl_max_le l 0 m h0 h
theorem le_greatest {l : List Int} {x : Int} (h : x ∈ l) : x ≤ greatest l := (le_foldl_max l 0).2 x h
theorem greatest_nonneg (l : List Int) : 0 ≤ greatest l := (le_foldl_max l 0).1
structure LoadOk (c : CaseD) (loads : List Int) : Prop where
  len : loads.length = c.people.toNat
  pos : ∀ x, x ∈ loads → 0 ≤ x
theorem li_addAt (l : List Int) (k v : Int) {j : Nat} (h : j < l.length) : li (addAt l k v) j = li l j + if j = k.toNat then v else 0 := by
  unfold addAt li
  rw [List.getD_eq_getElem?_getD, List.getElem?_set]
  by_cases hj : k.toNat = j
  · subst hj; simp [h, List.getD_eq_getElem?_getD]
  · rw [if_neg hj, if_neg (fun e => hj e.symm), Int.add_zero, List.getD_eq_getElem?_getD]
theorem mem_li {l : List Int} {x : Int} (h : x ∈ l) : ∃ j, j < l.length ∧ x = li l j := by
  obtain ⟨j, hj, rfl⟩ := List.getElem_of_mem h
  exact ⟨j, hj, by simp [li, List.getD_eq_getElem?_getD, hj]⟩
theorem loadStep_len (c : CaseD) (l : List Int) (i : Nat) (p : Int × Int) : (loadStep c l i p).length = l.length := by unfold loadStep; rw [addAt_len, addAt_len]
theorem li_loadStep (c : CaseD) (l : List Int) (i : Nat) (p : Int × Int) {j : Nat} (h : j < l.length) : li (loadStep c l i p) j = li l j + (if j = p.1.toNat then li c.sizes i else 0) + if j = p.2.toNat then li c.sizes i else 0 := by
  unfold loadStep
  rw [li_addAt _ _ _ (by rw [addAt_len]; exact h), li_addAt _ _ _ h]
theorem size_pos {c : CaseD} (hs : ∀ x, x ∈ c.sizes → 0 ≤ x) (i : Nat) : 0 ≤ li c.sizes i := by
  by_cases h : i < c.sizes.length
  · exact hs _ (li_mem h)
  · have : li c.sizes i = 0 := by unfold li; simp [List.getD_eq_getElem?_getD, h]
    omega
theorem LoadOk.step {c : CaseD} {loads : List Int} (h : LoadOk c loads) (hs : ∀ x, x ∈ c.sizes → 0 ≤ x) (i : Nat) (p : Int × Int) : LoadOk c (loadStep c loads i p) := by
  refine ⟨by rw [loadStep_len, h.len], fun x hx => ?_⟩
  obtain ⟨j, hj, rfl⟩ := mem_li hx
  rw [loadStep_len] at hj
  rw [li_loadStep c loads i p hj]
  have := h.pos _ (li_mem hj)
  have := size_pos hs i
  split <;> split <;> omega
theorem greatest_step {c : CaseD} {loads : List Int} (hs : ∀ x, x ∈ c.sizes → 0 ≤ x) (i : Nat) (p : Int × Int) : greatest loads ≤ greatest (loadStep c loads i p) := by
  refine greatest_le (greatest_nonneg _) fun x hx => ?_
  obtain ⟨j, hj, rfl⟩ := mem_li hx
  have h1 : li (loadStep c loads i p) j ≤ greatest (loadStep c loads i p) := le_greatest (li_mem (by rw [loadStep_len]; exact hj))
  rw [li_loadStep c loads i p hj] at h1
  have := size_pos hs i
  split at h1 <;> split at h1 <;> omega
theorem step_at {c : CaseD} {loads : List Int} (h : LoadOk c loads) (hs : ∀ x, x ∈ c.sizes → 0 ≤ x) (i : Nat) {p : Int × Int} (hp : 0 ≤ p.1 ∧ p.1 < p.2 ∧ p.2 < c.people) : li loads p.1.toNat + li c.sizes i ≤ greatest (loadStep c loads i p) ∧ li loads p.2.toNat + li c.sizes i ≤ greatest (loadStep c loads i p) := by
  have hl := h.len
  have h1 : li (loadStep c loads i p) p.1.toNat ≤ greatest (loadStep c loads i p) := le_greatest (li_mem (by rw [loadStep_len]; omega))
  have h2 : li (loadStep c loads i p) p.2.toNat ≤ greatest (loadStep c loads i p) := le_greatest (li_mem (by rw [loadStep_len]; omega))
  rw [li_loadStep c loads i p (by omega)] at h1 h2
  rw [if_pos rfl, if_neg (by omega)] at h1
  rw [if_neg (by omega), if_pos rfl] at h2
  omega
theorem pairsOf_mem {c : CaseD} (h2 : 0 ≤ c.people) {i : Int} {p : Int × Int} (h : p ∈ pairsOf c i) : 0 ≤ p.1 ∧ p.1 < p.2 ∧ p.2 < c.people ∧ openB c i p.1 = true ∧ openB c i p.2 = true := by
  have := allPr_mem h
  exact ⟨this.1, this.2.1, by omega, this.2.2.2⟩
theorem foldl_fix {α β : Type} {f : β → α → β} {b : β} : ∀ (l : List α), (∀ x, x ∈ l → f b x = b) → l.foldl f b = b
  | [], _ => rfl
  | x :: l, h => by rw [List.foldl_cons, h x (List.mem_cons_self ..)]; exact foldl_fix l fun y hy => h y (List.mem_cons_of_mem _ hy)
theorem searchF_cut {c : CaseD} (hs : ∀ x, x ∈ c.sizes → 0 ≤ x) : ∀ (k : Nat) (loads : List Int) (lim : Int), lim ≤ greatest loads → (searchF c k loads lim).2.2 = false
  | 0, loads, lim, h => decide_eq_false (by omega)
  | k + 1, loads, lim, h => by
    unfold searchF
    rw [foldl_fix _ fun p _ => ?_]
    unfold srchStep
    rw [if_pos]
    have := greatest_step (loads := loads) hs (c.sizes.length - (k + 1)) p
    show lim ≤ _
    omega
theorem exF_search {c : CaseD} (h2 : 0 ≤ c.people) (hs : ∀ x, x ∈ c.sizes → 0 ≤ x) : ∀ (k : Nat) (pre : List (Int × Int)) (loads : List Int) (best : List (Int × Int)) (least : Int), LoadOk c loads →
    exF c k pre loads (best, least) = if (searchF c k loads least).2.2 = true then (pre ++ (searchF c k loads least).1, (searchF c k loads least).2.1) else (best, least)
  | 0, pre, loads, best, least, hl => by
    unfold exF searchF
    by_cases h : greatest loads < least <;> simp [h]
  | k + 1, pre, loads, best, least, hl => by
    unfold exF searchF
    have hall : ∀ (l : List (Int × Int)) (st : ExS) (s : Srch), (∀ p, p ∈ l → 0 ≤ p.1 ∧ p.1 < p.2 ∧ p.2 < c.people) → (s.2.2 = false → s = ([], least, false)) → st = (if s.2.2 = true then (pre ++ s.1, s.2.1) else (best, least)) →
        l.foldl (exStep (exF c k) c (c.sizes.length - (k + 1)) pre loads) st = if (l.foldl (srchStep (searchF c k) c (c.sizes.length - (k + 1)) loads) s).2.2 = true then (pre ++ (l.foldl (srchStep (searchF c k) c (c.sizes.length - (k + 1)) loads) s).1, (l.foldl (srchStep (searchF c k) c (c.sizes.length - (k + 1)) loads) s).2.1) else (best, least) := by
      intro l
      induction l with
      | nil => intro st s _ _ hst; exact hst
      | cons p l ih =>
        intro st s hp hf hst
        have hlim : st.2 = s.2.1 := by
          cases hb : s.2.2 with
          | true => rw [hst, hb]; rfl
          | false => rw [hst, hb, hf hb]; rfl
        obtain ⟨g1, g2⟩ := step_at hl hs (c.sizes.length - (k + 1)) (hp p (List.mem_cons_self ..))
        have hx := hl.step hs (c.sizes.length - (k + 1)) p
        rw [List.foldl_cons, List.foldl_cons]
        have hstep : s.2.1 ≤ greatest (loadStep c loads (c.sizes.length - (k + 1)) p) → exStep (exF c k) c (c.sizes.length - (k + 1)) pre loads st p = st := fun hle => by
          unfold exStep
          split
          · rfl
          · have e := exF_search h2 hs k (pre ++ [p]) (loadStep c loads (c.sizes.length - (k + 1)) p) st.1 st.2 hx
            rw [show ((st.1, st.2) : ExS) = st from rfl] at e
            rw [e, searchF_cut hs k _ _ (by rw [hlim]; exact hle)]
            rfl
        by_cases hle : s.2.1 ≤ greatest (loadStep c loads (c.sizes.length - (k + 1)) p)
        · rw [hstep hle, show srchStep (searchF c k) c (c.sizes.length - (k + 1)) loads s p = s from if_pos hle]
          exact ih st s (fun q hq => hp q (List.mem_cons_of_mem _ hq)) hf hst
        · have e1 : exStep (exF c k) c (c.sizes.length - (k + 1)) pre loads st p = exF c k (pre ++ [p]) (loadStep c loads (c.sizes.length - (k + 1)) p) st := if_neg (by omega)
          have e := exF_search h2 hs k (pre ++ [p]) (loadStep c loads (c.sizes.length - (k + 1)) p) st.1 st.2 hx
          rw [show ((st.1, st.2) : ExS) = st from rfl] at e
          rw [e1, e, hlim]
          have e2 : srchStep (searchF c k) c (c.sizes.length - (k + 1)) loads s p = if (searchF c k (loadStep c loads (c.sizes.length - (k + 1)) p) s.2.1).2.2 = true then (p :: (searchF c k (loadStep c loads (c.sizes.length - (k + 1)) p) s.2.1).1, (searchF c k (loadStep c loads (c.sizes.length - (k + 1)) p) s.2.1).2.1, true) else s := if_neg hle
          rw [e2]
          by_cases hfd : (searchF c k (loadStep c loads (c.sizes.length - (k + 1)) p) s.2.1).2.2 = true
          · rw [if_pos hfd, if_pos hfd]
            exact ih _ _ (fun q hq => hp q (List.mem_cons_of_mem _ hq)) (fun h => by cases h) (by simp)
          · rw [if_neg hfd, if_neg hfd]
            exact ih _ _ (fun q hq => hp q (List.mem_cons_of_mem _ hq)) hf hst
    exact hall _ _ _ (fun p hp => by have := pairsOf_mem h2 hp; exact ⟨this.1, this.2.1, this.2.2.1⟩) (fun _ => rfl) rfl
def runL (c : CaseD) : Nat → List Int → List (Int × Int) → List Int
  | _, loads, [] => loads
  | i, loads, p :: r => runL c (i + 1) (loadStep c loads i p) r
def fitsL (c : CaseD) : Nat → List (Int × Int) → Prop
  | _, [] => True
  | i, p :: r => p ∈ pairsOf c (i : Nat) ∧ fitsL c (i + 1) r
theorem runL_ok {c : CaseD} (hs : ∀ x, x ∈ c.sizes → 0 ≤ x) : ∀ (l : List (Int × Int)) (i : Nat) (loads : List Int), LoadOk c loads → LoadOk c (runL c i loads l) ∧ greatest loads ≤ greatest (runL c i loads l)
  | [], _, _, h => ⟨h, Int.le_refl _⟩
  | p :: r, i, loads, h => by
    obtain ⟨h1, h2⟩ := runL_ok hs r (i + 1) (loadStep c loads i p) (h.step hs i p)
    have := greatest_step (loads := loads) hs i p
    exact ⟨h1, by show greatest loads ≤ greatest (runL c (i + 1) (loadStep c loads i p) r); omega⟩
theorem foldl_inv {α β : Type} {f : β → α → β} {I : β → Prop} : ∀ (l : List α) (b : β), I b → (∀ b x, x ∈ l → I b → I (f b x)) → I (l.foldl f b)
  | [], b, h, _ => h
  | x :: l, b, h, hf => foldl_inv l _ (hf b x (List.mem_cons_self ..) h) fun b y hy => hf b y (List.mem_cons_of_mem _ hy)
theorem searchF_le {c : CaseD} : ∀ (k : Nat) (loads : List Int) (lim : Int), (searchF c k loads lim).2.2 = true → (searchF c k loads lim).2.1 ≤ lim
  | 0, loads, lim, h => Int.le_of_lt (of_decide_eq_true h)
  | k + 1, loads, lim, _ => by
    unfold searchF
    refine foldl_inv (I := fun t : Srch => t.2.1 ≤ lim) _ _ (Int.le_refl _) fun t q _ hI => ?_
    unfold srchStep
    split
    · exact hI
    · split
      · rename_i h7 h8
        have := searchF_le k _ _ h8
        simp only; omega
      · exact hI
theorem searchF_found {c : CaseD} : ∀ (k : Nat) (loads : List Int) (lim : Int), k ≤ c.sizes.length → (searchF c k loads lim).2.2 = true →
    (searchF c k loads lim).1.length = k ∧ fitsL c (c.sizes.length - k) (searchF c k loads lim).1 ∧ (searchF c k loads lim).2.1 = greatest (runL c (c.sizes.length - k) loads (searchF c k loads lim).1) ∧ (searchF c k loads lim).2.1 < lim
  | 0, loads, lim, _, h => ⟨rfl, trivial, rfl, of_decide_eq_true h⟩
  | k + 1, loads, lim, hk, h => by
    have hinv : ∀ s, s = searchF c (k + 1) loads lim → (s.2.2 = false → s.2.1 = lim) ∧ s.2.1 ≤ lim ∧ (s.2.2 = true → s.1.length = k + 1 ∧ fitsL c (c.sizes.length - (k + 1)) s.1 ∧ s.2.1 = greatest (runL c (c.sizes.length - (k + 1)) loads s.1) ∧ s.2.1 < lim) := by
      rintro s rfl
      unfold searchF
      refine foldl_inv (I := fun s : Srch => (s.2.2 = false → s.2.1 = lim) ∧ s.2.1 ≤ lim ∧ (s.2.2 = true → s.1.length = k + 1 ∧ fitsL c (c.sizes.length - (k + 1)) s.1 ∧ s.2.1 = greatest (runL c (c.sizes.length - (k + 1)) loads s.1) ∧ s.2.1 < lim)) _ _ ⟨fun _ => rfl, Int.le_refl _, fun h => (by cases h)⟩ fun s p hp hI => ?_
      unfold srchStep
      split
      · exact hI
      · split
        · rename_i hlt hfd
          obtain ⟨g1, g2, g3, g4⟩ := searchF_found k _ _ (by omega) hfd
          have e : c.sizes.length - (k + 1) + 1 = c.sizes.length - k := by omega
          have := hI.2.1
          refine ⟨fun h => (by cases h), by simp only; omega, fun _ => ⟨by simp [g1], ⟨hp, by rw [e]; exact g2⟩, ?_, by simp only; omega⟩⟩
          show _ = greatest (runL c (c.sizes.length - (k + 1) + 1) (loadStep c loads (c.sizes.length - (k + 1)) p) _)
          rw [e]; exact g3
        · exact hI
    exact (hinv _ rfl).2.2 h
theorem searchF_min {c : CaseD} (h2 : 0 ≤ c.people) (hs : ∀ x, x ∈ c.sizes → 0 ≤ x) : ∀ (k : Nat) (loads : List Int) (lim : Int) (l : List (Int × Int)), LoadOk c loads → k ≤ c.sizes.length → l.length = k → fitsL c (c.sizes.length - k) l → greatest (runL c (c.sizes.length - k) loads l) < lim →
    (searchF c k loads lim).2.2 = true ∧ (searchF c k loads lim).2.1 ≤ greatest (runL c (c.sizes.length - k) loads l)
  | 0, loads, lim, l, hl, hk, hlen, hf, hg => by
    obtain rfl : l = [] := List.eq_nil_of_length_eq_zero hlen
    exact ⟨decide_eq_true hg, Int.le_refl _⟩
  | k + 1, loads, lim, [], hl, hk, hlen, hf, hg => by cases hlen
  | k + 1, loads, lim, p :: r, hl, hk, hlen, hf, hg => by
    have e : c.sizes.length - (k + 1) + 1 = c.sizes.length - k := by omega
    obtain ⟨hp, hf⟩ := hf
    rw [e] at hf
    have hg' : greatest (runL c (c.sizes.length - k) (loadStep c loads (c.sizes.length - (k + 1)) p) r) < lim := by rw [← e]; exact hg
    have hge : greatest (runL c (c.sizes.length - (k + 1)) loads (p :: r)) = greatest (runL c (c.sizes.length - k) (loadStep c loads (c.sizes.length - (k + 1)) p) r) := by rw [← e]; rfl
    rw [hge]
    generalize hG : greatest (runL c (c.sizes.length - k) (loadStep c loads (c.sizes.length - (k + 1)) p) r) = G at hg'
    have hx := hl.step hs (c.sizes.length - (k + 1)) p
    have hxg := (runL_ok hs r (c.sizes.length - k) _ hx).2
    rw [hG] at hxg
    have hall : ∀ (l : List (Int × Int)) (s : Srch), (p ∈ l ∧ (s.2.2 = false → s.2.1 = lim) ∧ s.2.1 ≤ lim) ∨ (s.2.2 = true ∧ s.2.1 ≤ G) → (l.foldl (srchStep (searchF c k) c (c.sizes.length - (k + 1)) loads) s).2.2 = true ∧ (l.foldl (srchStep (searchF c k) c (c.sizes.length - (k + 1)) loads) s).2.1 ≤ G := by
      intro l
      induction l with
      | nil => intro s h; exact h.elim (fun h => by cases h.1) id
      | cons q l ih =>
        intro s h
        rw [List.foldl_cons]
        refine ih _ ?_
        have hdown : (srchStep (searchF c k) c (c.sizes.length - (k + 1)) loads s q).2.1 ≤ s.2.1 ∧ (s.2.2 = true → (srchStep (searchF c k) c (c.sizes.length - (k + 1)) loads s q).2.2 = true) ∧ ((srchStep (searchF c k) c (c.sizes.length - (k + 1)) loads s q).2.2 = false → srchStep (searchF c k) c (c.sizes.length - (k + 1)) loads s q = s) := by
          unfold srchStep
          split
          · exact ⟨Int.le_refl _, id, fun _ => rfl⟩
          · split
            · rename_i h5 h6
              exact ⟨searchF_le k _ _ h6, fun _ => rfl, fun h => (by cases h)⟩
            · exact ⟨Int.le_refl _, id, fun _ => rfl⟩
        rcases h with ⟨hm, h1, h3⟩ | ⟨h1, h3⟩
        · rcases List.mem_cons.1 hm with rfl | hm
          · -- here the pair is met
            by_cases hlt : s.2.1 ≤ G
            · right
              cases hb : s.2.2 with
              | true => exact ⟨hdown.2.1 hb, by have := hdown.1; omega⟩
              | false => have := h1 hb; omega
            · obtain ⟨m1, m2⟩ := searchF_min h2 hs k (loadStep c loads (c.sizes.length - (k + 1)) p) s.2.1 r hx (by omega) (by simpa using hlen) hf (by rw [hG]; omega)
              rw [hG] at m2
              right
              have e2 : srchStep (searchF c k) c (c.sizes.length - (k + 1)) loads s p = (p :: (searchF c k (loadStep c loads (c.sizes.length - (k + 1)) p) s.2.1).1, (searchF c k (loadStep c loads (c.sizes.length - (k + 1)) p) s.2.1).2.1, true) := by
                unfold srchStep
                rw [if_neg (by omega), if_pos m1]
              rw [e2]
              exact ⟨rfl, m2⟩
          · left
            refine ⟨hm, fun hb => ?_, by have := hdown.1; omega⟩
            have e3 := hdown.2.2 hb
            rw [e3] at hb ⊢
            exact h1 hb
        · right
          exact ⟨hdown.2.1 h1, by have := hdown.1; omega⟩
    unfold searchF
    exact hall _ _ (.inl ⟨hp, fun _ => rfl, Int.le_refl _⟩)
theorem searchF_lim {c : CaseD} (hs : ∀ x, x ∈ c.sizes → 0 ≤ x ∧ x ≤ 1024) : ∀ (k : Nat) (loads : List Int) (L1 L2 M : Int), (∀ x, x ∈ loads → 0 ≤ x ∧ x ≤ M) → 0 ≤ M → M + 2048 * k < L1 → M + 2048 * k < L2 →
    (searchF c k loads L1).2.2 = (searchF c k loads L2).2.2 ∧ ((searchF c k loads L1).2.2 = true → searchF c k loads L1 = searchF c k loads L2)
  | 0, loads, L1, L2, M, hr, h0, h1, h2 => by
    have := greatest_le h0 fun x hx => (hr x hx).2
    unfold searchF
    rw [dec_yes (show greatest loads < L1 by omega), dec_yes (show greatest loads < L2 by omega)]
    exact ⟨rfl, fun _ => rfl⟩
  | k + 1, loads, L1, L2, M, hr, h0, h1, h2 => by
    have hz : 0 ≤ li c.sizes (c.sizes.length - (k + 1)) ∧ li c.sizes (c.sizes.length - (k + 1)) ≤ 1024 := li_rng (m := 0) (M := 1024) hs (by omega) _
    have hx : ∀ p, ∀ x, x ∈ loadStep c loads (c.sizes.length - (k + 1)) p → 0 ≤ x ∧ x ≤ M + 2048 := fun p => addAt_rng (addAt_rng hr (M := M + 1024) (by omega) (by omega)) (by omega) (by omega)
    have hall : ∀ (l : List (Int × Int)) (s t : Srch), (s.2.2 = t.2.2 ∧ (s.2.2 = true → s = t) ∧ (s.2.2 = false → s = ([], L1, false) ∧ t = ([], L2, false))) →
        (l.foldl (srchStep (searchF c k) c (c.sizes.length - (k + 1)) loads) s).2.2 = (l.foldl (srchStep (searchF c k) c (c.sizes.length - (k + 1)) loads) t).2.2 ∧ ((l.foldl (srchStep (searchF c k) c (c.sizes.length - (k + 1)) loads) s).2.2 = true → l.foldl (srchStep (searchF c k) c (c.sizes.length - (k + 1)) loads) s = l.foldl (srchStep (searchF c k) c (c.sizes.length - (k + 1)) loads) t) := by
      intro l
      induction l with
      | nil => intro s t h; exact ⟨h.1, h.2.1⟩
      | cons p l ih =>
        intro s t h
        rw [List.foldl_cons, List.foldl_cons]
        refine ih _ _ ?_
        cases hb : s.2.2 with
        | true =>
          rw [h.2.1 hb]
          exact ⟨rfl, fun _ => rfl, fun hf => by
            have ht : t.2.2 = true := by rw [← h.1]; exact hb
            exfalso
            have : (srchStep (searchF c k) c (c.sizes.length - (k + 1)) loads t p).2.2 = true := by
              unfold srchStep
              split
              · exact ht
              · split
                · rfl
                · exact ht
            rw [this] at hf; cases hf⟩
        | false =>
          obtain ⟨e1, e2⟩ := h.2.2 hb
          subst e1; subst e2
          have hg := greatest_le (l := loadStep c loads (c.sizes.length - (k + 1)) p) (m := M + 2048) (by omega) fun x hx' => (hx p x hx').2
          obtain ⟨i1, i2⟩ := searchF_lim hs k (loadStep c loads (c.sizes.length - (k + 1)) p) L1 L2 (M + 2048) (hx p) (by omega) (by omega) (by omega)
          have s1 : srchStep (searchF c k) c (c.sizes.length - (k + 1)) loads ([], L1, false) p = if (searchF c k (loadStep c loads (c.sizes.length - (k + 1)) p) L1).2.2 = true then (p :: (searchF c k (loadStep c loads (c.sizes.length - (k + 1)) p) L1).1, (searchF c k (loadStep c loads (c.sizes.length - (k + 1)) p) L1).2.1, true) else ([], L1, false) := if_neg (by show ¬ L1 ≤ _; omega)
          have s2 : srchStep (searchF c k) c (c.sizes.length - (k + 1)) loads ([], L2, false) p = if (searchF c k (loadStep c loads (c.sizes.length - (k + 1)) p) L2).2.2 = true then (p :: (searchF c k (loadStep c loads (c.sizes.length - (k + 1)) p) L2).1, (searchF c k (loadStep c loads (c.sizes.length - (k + 1)) p) L2).2.1, true) else ([], L2, false) := if_neg (by show ¬ L2 ≤ _; omega)
          rw [s1, s2, ← i1]
          by_cases hfd : (searchF c k (loadStep c loads (c.sizes.length - (k + 1)) p) L1).2.2 = true
          · rw [if_pos hfd, if_pos hfd, i2 hfd]
            exact ⟨rfl, fun _ => rfl, fun h => (by cases h)⟩
          · rw [if_neg hfd, if_neg hfd]
            exact ⟨rfl, fun h => (by cases h), fun _ => ⟨rfl, rfl⟩⟩
    unfold searchF
    exact hall _ _ _ ⟨rfl, fun h => (by cases h), fun _ => ⟨rfl, rfl⟩⟩
end Go.Proofs.Ytcdeilgijleoaaa
