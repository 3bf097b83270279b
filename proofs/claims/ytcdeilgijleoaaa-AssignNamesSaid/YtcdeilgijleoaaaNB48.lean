/-
  Walks: cmp.Compare, slices.Compare, slices.Max, slices.Clone; the orders of quick.
-/
import Derived.Test.YtcdeilgijleoaaaNA1
import Derived.Test.YtcdeilgijleoaaaNA5
import Derived.Test.YtcdeilgijleoaaaNB53
set_option linter.all false
namespace Go.Proofs.Ytcdeilgijleoaaa
open Go Go.RowKit
set_option maxRecDepth 20000
set_option maxHeartbeats 1000000
theorem leqB30 {p : Prop} (h : p := by (refine ⟨4, ?_, ?_, rfl, by simp, rfl, fun _ h _ => absurd h (Nat.not_lt_zero _)⟩ <;> (simp only [List.forall_mem_cons]; repeat' (first | refine And.intro ?_ ?_ | (intro p hp; exact absurd hp List.not_mem_nil) | rfl | exact sp (pure_case _) | exact sp (pure_pairs _) | exact sp (pure_nats _) | exact (sealed_pure _ _ _ (pure_ints _)).trans (ren_ints _ _).symm | exact (sealed_pure _ _ _ (pure_strs _)).trans (ren_strs _ _).symm | exact sp (by assumption) | (intro o ho; cases ho; refine ⟨by decide, ?_⟩; first | (refine LeqS.row rfl ?_ ?_; (next => (first | rfl | (simp only [List.map_append, List.map_cons, List.map_nil, List.append_nil, List.nil_append, List.append_assoc, List.cons_append, encI, encS, ints, strs]; done) | (simp [encI, encS, ints, strs, encP, encN, List.map_set]; done))); (next => (first | rfl | exact pureL_encI _ | exact pureL_encS _ | exact pureL_ints _ | exact pureL_strs _ | exact pureL_encP _ | exact pureL_encN _ | (simp [pureL_append, pureL_encI, pureL_encS, pureL_ints, pureL_strs, pureL, PV.pure, pure_ints, pure_strs, pure_case, pureL_encP, pure_pairs, pureL_encN, pure_nats]; done))); done) | refine ⟨_, rfl, rfl, ?_⟩) | (simp [St.born, St.known, retV, St.get, St.obj, lk, sealed, PV.ren, renL, rmap, AO.ren, ints, strs, encI, encS, map_sealed_encI, map_sealed_encS, map_sealed_ints, map_sealed_strs, map_ren_encI, map_ren_encS, map_ren_ints, map_ren_strs, renL_encI, renL_encS, renL_ints, renL_strs, ren_case, encC, pairs, renL_encP, map_sealed_encP, map_ren_encP, encP, take_map_len] <;> omega)))); first | done | fail) : p := h
def lexi : List Int → List Int → Int
  | [], [] => 0
  | [], _ :: _ => -1
  | _ :: _, [] => 1
  | a :: x, b :: y => if a < b then -1 else if b < a then 1 else lexi x y
theorem lexi_len {a b : List Int} (h : a = [] ∨ b = []) : lexi a b = if a.length < b.length then -1 else if b.length < a.length then 1 else 0 := by
  cases a <;> cases b <;> simp_all [lexi]
theorem lexi_end {a b : List Int} {k : Nat} (hk : a.length ≤ k ∨ b.length ≤ k) (ha : k ≤ a.length) (hb : k ≤ b.length) : lexi (a.drop k) (b.drop k) = if a.length < b.length then -1 else if b.length < a.length then 1 else 0 := by
  rw [lexi_len (by rcases hk with h | h; exact .inl (List.drop_eq_nil_of_le h); exact .inr (List.drop_eq_nil_of_le h))]
  simp only [List.length_drop]
  split <;> split <;> first | rfl | omega | (split <;> first | rfl | omega)
theorem isNaN_pure (a : Int) : Pure Try.prog 81 [encI a] (.atom (.bool false)) [] := by
  refine Pure.intro (ts := [2]) Try.func81 (by kernel_rfl) rfl rfl rfl (Nat.le_of_ble_eq_true rfl) ?_ ?_
  · simp [pure_ints, pure_strs, encI, encS, PV.pure, pureL]
  refine sY [0] (fun P S K => K ⟨[(0, S.get 0)], S.hp, S.nx, S.gh⟩) ?_
  all_goals
  refine sY [2] (fun P S K => XvBinOV P .neq 3 (.tmp 4) (S.get 0) (S.get 0) (fun r2 _ => K ⟨[(2, r2)], S.hp, S.nx, S.gh⟩)) ?_
  all_goals
  refine Tri.ret ?_
  show ResOk _ _ _ _
  exact ResOk.val (aB (by simp)) rfl
theorem cmpCompare_pure (a b : Int) : Pure Try.prog 69 [encI a, encI b] (encI (cmpI a b)) [] := by
  refine Pure.intro (ts := [4]) Try.func69 (by kernel_rfl) rfl rfl rfl (Nat.le_of_ble_eq_true rfl) ?_ ?_
  · simp [pure_ints, pure_strs, encI, encS, PV.pure, pureL]
  refine sY [0, 1] (fun P S K => K ⟨[(0, S.get 0), (1, S.get 1)], S.hp, S.nx, S.gh⟩) ?_
  all_goals
  refine sZ [0, 1, 5] (fun P S K => XvFnIV P (M S.hp S.nx) (.fn 81 []) [(S.get 0)] (fun r1 ef1 => K ⟨[(0, S.get 0), (1, S.get 1), (5, r1)], (Eff.hp ef1 S.nx S.hp), (S.nx + ef1.add.length), S.gh⟩)) fun K hK => ?_
  repeat' (first | (refine hK _ ?_; clear hK K) | refine And.intro ?_ ?_ | exact cl | refine .inl ⟨_, _, isNaN_pure _, ?_⟩ | refine st ?_)
  all_goals
  refine sZ [0, 1, 5, 6] (fun P S K => XvFnIV P (M S.hp S.nx) (.fn 81 []) [(S.get 1)] (fun r1 ef1 => K ⟨[(0, S.get 0), (1, S.get 1), (5, S.get 5), (6, r1)], (Eff.hp ef1 S.nx S.hp), (S.nx + ef1.add.length), S.gh⟩)) fun K hK => ?_
  repeat' (first | (refine hK _ ?_; clear hK K) | refine And.intro ?_ ?_ | exact cl | refine .inl ⟨_, _, isNaN_pure _, ?_⟩ | refine st ?_)
  all_goals
  refine Tri.seq ?_
  refine sY [0, 1, 6, 11] (fun P S K => K ⟨[(0, S.get 0), (1, S.get 1), (6, S.get 6), (11, (S.get 5))], S.hp, S.nx, S.gh⟩) ?_
  all_goals
  refine Tri.cond rfl (fun h11 => ?_) (fun h11 => ?_)
  ·try (cases h11; done)
   all_goals (try simp only [CQ] at h11)
   all_goals
   refine Tri.seq ?_
   refine sY [12] (fun P S K => K ⟨[(12, (S.get 6))], S.hp, S.nx, S.gh⟩) ?_
   all_goals
   refine Tri.cond rfl (fun h12 => ?_) (fun h12 => ?_)
   ·try (cases h12; done)
    all_goals (try simp only [CQ] at h12)
    all_goals
    refine sY [4] (fun P S K => K ⟨[(4, (.atom (.int .i64 0)))], S.hp, S.nx, S.gh⟩) ?_
    all_goals
    refine Tri.ret ?_
    show ResOk _ _ _ _
    done
   ·try (cases h12; done)
    all_goals (try simp only [CQ] at h12)
    all_goals
    refine Tri.skip ?_
    refine sY [4] (fun P S K => K ⟨[(4, (.atom (.int .i64 (-1))))], S.hp, S.nx, S.gh⟩) ?_
    all_goals
    refine Tri.ret ?_
    show ResOk _ _ _ _
    done
  ·try (cases h11; done)
   all_goals (try simp only [CQ] at h11)
   all_goals
   refine Tri.skip ?_
   refine Tri.seq ?_
   refine sY [0, 1, 13] (fun P S K => K ⟨[(0, S.get 0), (1, S.get 1), (13, (S.get 6))], S.hp, S.nx, S.gh⟩) ?_
   all_goals
   refine Tri.cond rfl (fun h13 => ?_) (fun h13 => ?_)
   ·try (cases h13; done)
    all_goals (try simp only [CQ] at h13)
    all_goals
    refine sY [4] (fun P S K => K ⟨[(4, (.atom (.int .i64 1)))], S.hp, S.nx, S.gh⟩) ?_
    all_goals
    refine Tri.ret ?_
    show ResOk _ _ _ _
    done
   ·try (cases h13; done)
    all_goals (try simp only [CQ] at h13)
    all_goals
    refine Tri.skip ?_
    refine Tri.seq ?_
    refine sY [0, 1, 16] (fun P S K => XvBinOV P .lss 3 (.tmp 15) (S.get 0) (S.get 1) (fun r2 _ => K ⟨[(0, S.get 0), (1, S.get 1), (16, r2)], S.hp, S.nx, S.gh⟩)) ?_
    all_goals
    refine Tri.cond rfl (fun h16 => ?_) (fun h16 => ?_)
    ·try (cases h16; done)
     all_goals (try simp only [CQ] at h16)
     all_goals
     refine sY [4] (fun P S K => K ⟨[(4, (.atom (.int .i64 (-1))))], S.hp, S.nx, S.gh⟩) ?_
     all_goals
     refine Tri.ret ?_
     show ResOk _ _ _ _
     exact ResOk.val (aI (by unfold cmpI; rw [if_pos h16])) rfl
    ·try (cases h16; done)
     all_goals (try simp only [CQ] at h16)
     all_goals
     refine Tri.skip ?_
     refine Tri.seq ?_
     refine sY [19] (fun P S K => XvBinOV P .gtr 3 (.tmp 18) (S.get 0) (S.get 1) (fun r2 _ => K ⟨[(19, r2)], S.hp, S.nx, S.gh⟩)) ?_
     all_goals
     refine Tri.cond rfl (fun h19 => ?_) (fun h19 => ?_)
     ·try (cases h19; done)
      all_goals (try simp only [CQ] at h19)
      all_goals
      refine sY [4] (fun P S K => K ⟨[(4, (.atom (.int .i64 1)))], S.hp, S.nx, S.gh⟩) ?_
      all_goals
      refine Tri.ret ?_
      show ResOk _ _ _ _
      exact ResOk.val (aI (by unfold cmpI; rw [if_neg h16, if_pos h19])) rfl
     ·try (cases h19; done)
      all_goals (try simp only [CQ] at h19)
      all_goals
      refine Tri.skip ?_
      refine sY [4] (fun P S K => K ⟨[(4, (.atom (.int .i64 0)))], S.hp, S.nx, S.gh⟩) ?_
      all_goals
      refine Tri.ret ?_
      show ResOk _ _ _ _
      exact ResOk.val (aI (by unfold cmpI; rw [if_neg h16, if_neg h19])) rfl
theorem slicesCompare_pure (a b : List Int) (ha : a.length ≤ 9223372036854775807) (hb : b.length ≤ 9223372036854775807) : Pure Try.prog 76 [ints a, ints b] (encI (lexi a b)) [] := by
  refine Pure.intro (ts := [4]) Try.func76 (by kernel_rfl) rfl rfl rfl (Nat.le_of_ble_eq_true rfl) ?_ ?_
  · simp [pure_ints, pure_strs, encI, encS, PV.pure, pureL]
  refine sY [0, 1] (fun P S K => K ⟨[(0, S.get 0), (1, S.get 1)], S.hp, S.nx, S.gh⟩) ?_
  all_goals
  refine Tri.seq ?_
  refine sY [0, 1, 9, 10, 11] (fun P S K => XvLen P 22 (S.get 0) (fun r1 _ => K ⟨[(0, S.get 0), (1, S.get 1), (9, (S.get 0)), (10, r1), (11, (.atom (.int .i64 0)))], S.hp, S.nx, S.gh⟩)) ?_
  all_goals
  refine Tri.block ?_
  refine Tri.loop (α := (k : Nat) ×' ((k ≤ a.length ∧ k ≤ b.length) ∧ lexi a b = lexi (a.drop k) (b.drop k))) (fun z => (fun (k : Nat) => (⟨[(0, ints a), (1, ints b), (9, ints a), (10, encI a.length), (11, encI k)], [], 0, []⟩ : St)) z.1) (fun z => (fun (k : Nat) => a.length - k) z.1) ⟨0, ⟨by omega, rfl⟩⟩ [] ?_ ?_
  ·exact leqB30
  ·rintro ⟨k, ⟨⟨hk, hk2⟩, hkj⟩⟩
   refine sY [0, 1, 9, 10, 11, 12] (fun P S K => XvBinOV P .lss 3 (.tmp 10) (S.get 11) (S.get 10) (fun r0 _ => K ⟨[(0, S.get 0), (1, S.get 1), (9, S.get 9), (10, S.get 10), (11, S.get 11), (12, r0)], S.hp, S.nx, S.gh⟩)) ?_
   all_goals
   refine Tri.seq ?_
   refine Tri.cond rfl (fun h12 => ?_) (fun h12 => ?_)
   ·try (cases h12; done)
    all_goals (try simp only [CQ] at h12)
    all_goals
    refine Tri.skip ?_
    refine Tri.seq ?_
    refine Tri.block ?_
    have hka : k < a.length := by omega
    refine sZ [0, 1, 5, 6, 9, 10, 11] (fun P S K => XvIndexAddr P 22 (S.get 9) (S.get 11) (fun r1 _ => XvLoad P 3 (M S.hp S.nx) r1 (fun r2 _ => K ⟨[(0, S.get 0), (1, S.get 1), (5, (S.get 11)), (6, r2), (9, S.get 9), (10, S.get 10), (11, S.get 11)], S.hp, S.nx, S.gh⟩))) fun K hK => ?_
    repeat' (first | (refine hK _ ?_; clear hK K) | refine And.intro ?_ ?_ | exact cl | (refine st ?_; try simp only [getD_encI hka]) | simp only [getD_encI hka])
    all_goals
    refine Tri.seq ?_
    refine sY [0, 1, 5, 6, 9, 10, 11, 19] (fun P S K => XvLen P 22 (S.get 1) (fun r2 _ => XvBinOV P .geq 3 (.tmp 18) (S.get 5) r2 (fun r3 _ => K ⟨[(0, S.get 0), (1, S.get 1), (5, S.get 5), (6, S.get 6), (9, S.get 9), (10, S.get 10), (11, S.get 11), (19, r3)], S.hp, S.nx, S.gh⟩))) ?_
    all_goals
    refine Tri.cond rfl (fun h19 => ?_) (fun h19 => ?_)
    ·try (cases h19; done)
     all_goals (try simp only [CQ] at h19)
     all_goals
     refine sY [4] (fun P S K => K ⟨[(4, (.atom (.int .i64 1)))], S.hp, S.nx, S.gh⟩) ?_
     all_goals
     refine Tri.ret ?_
     show ResOk _ _ _ _
     exact ResOk.val (aI (by rw [hkj, lexi_end (by omega) hk hk2, if_neg (by omega), if_pos (by omega)])) rfl
    ·try (cases h19; done)
     all_goals (try simp only [CQ] at h19)
     all_goals
     refine Tri.skip ?_
     have hkb : k < b.length := by omega
     have hl : lexi a b = if li a k < li b k then -1 else if li b k < li a k then 1 else lexi (a.drop (k + 1)) (b.drop (k + 1)) := by rw [hkj, drop_li hka, drop_li hkb]; rfl
     refine sZ [0, 1, 6, 7, 9, 10, 11] (fun P S K => XvIndexAddr P 22 (S.get 1) (S.get 5) (fun r2 _ => XvLoad P 3 (M S.hp S.nx) r2 (fun r3 _ => K ⟨[(0, S.get 0), (1, S.get 1), (6, S.get 6), (7, r3), (9, S.get 9), (10, S.get 10), (11, S.get 11)], S.hp, S.nx, S.gh⟩))) fun K hK => ?_
     repeat' (first | (refine hK _ ?_; clear hK K) | refine And.intro ?_ ?_ | exact cl | (refine st ?_; try simp only [getD_encI hkb]) | simp only [getD_encI hkb])
     all_goals
     refine sZ [0, 1, 8, 9, 10, 11] (fun P S K => XvFnIV P (M S.hp S.nx) (.fn 69 []) [(S.get 6), (S.get 7)] (fun r2 ef2 => K ⟨[(0, S.get 0), (1, S.get 1), (8, r2), (9, S.get 9), (10, S.get 10), (11, S.get 11)], (Eff.hp ef2 S.nx S.hp), (S.nx + ef2.add.length), S.gh⟩)) fun K hK => ?_
     repeat' (first | (refine hK _ ?_; clear hK K) | refine And.intro ?_ ?_ | exact cl | refine .inl ⟨_, _, cmpCompare_pure _ _, ?_⟩ | refine st ?_)
     all_goals
     refine sY [0, 1, 8, 9, 10, 11, 28] (fun P S K => XvBinOV P .neq 3 (.const (.int .i64 0)) (S.get 8) (.atom (.int .i64 0)) (fun r1 _ => K ⟨[(0, S.get 0), (1, S.get 1), (8, S.get 8), (9, S.get 9), (10, S.get 10), (11, S.get 11), (28, r1)], S.hp, S.nx, S.gh⟩)) ?_
     all_goals
     refine Tri.cond rfl (fun h28 => ?_) (fun h28 => ?_)
     ·try (cases h28; done)
      all_goals (try simp only [CQ] at h28)
      all_goals
      refine sY [4] (fun P S K => K ⟨[(4, (S.get 8))], S.hp, S.nx, S.gh⟩) ?_
      all_goals
      refine Tri.ret ?_
      show ResOk _ _ _ _
      exact ResOk.val (aI (by rw [hl]; unfold cmpI at h28 ⊢; split <;> first | rfl | (split <;> first | rfl | (exfalso; simp_all)))) rfl
     ·try (cases h28; done)
      all_goals (try simp only [CQ] at h28)
      all_goals
      refine Tri.skip ?_
      refine rY [0, 1, 9, 10, 11] (fun P S K => XvBinOV P .add 3 (.const (.int .i64 1)) (S.get 11) (.atom (.int .i64 1)) (fun r0 _ => K ⟨[(0, S.get 0), (1, S.get 1), (9, S.get 9), (10, S.get 10), (11, r0)], S.hp, S.nx, S.gh⟩)) ?_
      all_goals try simp (disch := omega) only [wrap_id, wrap8_id]
      all_goals
      refine ⟨⟨k + 1, by omega, by rw [hl]; unfold cmpI at h28; split at h28 <;> first | omega | (split at h28 <;> first | omega | (rw [if_neg (by assumption), if_neg (by assumption)]))⟩, [], by dsimp only; omega, ?_⟩
      exact leqB30
   ·try (cases h12; done)
    all_goals (try simp only [CQ] at h12)
    all_goals
    refine Tri.exit ?_
    refine Tri.seq ?_
    refine sY [35] (fun P S K => XvLen P 22 (S.get 0) (fun r1 _ => XvLen P 22 (S.get 1) (fun r3 _ => XvBinOV P .lss 3 (.tmp 34) r1 r3 (fun r4 _ => K ⟨[(35, r4)], S.hp, S.nx, S.gh⟩)))) ?_
    all_goals
    refine Tri.cond rfl (fun h35 => ?_) (fun h35 => ?_)
    ·try (cases h35; done)
     all_goals (try simp only [CQ] at h35)
     all_goals
     refine sY [4] (fun P S K => K ⟨[(4, (.atom (.int .i64 (-1))))], S.hp, S.nx, S.gh⟩) ?_
     all_goals
     refine Tri.ret ?_
     show ResOk _ _ _ _
     exact ResOk.val (aI (by rw [hkj, lexi_end (by omega) hk hk2, if_pos (by omega)])) rfl
    ·try (cases h35; done)
     all_goals (try simp only [CQ] at h35)
     all_goals
     refine Tri.skip ?_
     refine sY [4] (fun P S K => K ⟨[(4, (.atom (.int .i64 0)))], S.hp, S.nx, S.gh⟩) ?_
     all_goals
     refine Tri.ret ?_
     show ResOk _ _ _ _
     exact ResOk.val (aI (by rw [hkj, lexi_end (by omega) hk hk2, if_neg (by omega), if_neg (by omega)])) rfl
def maxFrom (l : List Int) (k : Nat) : Int := (l.take k).foldl max (li l 0)
theorem maxFrom_succ {l : List Int} {k : Nat} (h : k < l.length) : maxFrom l (k + 1) = max (maxFrom l k) (li l k) := by
  unfold maxFrom
  rw [List.take_succ_eq_append_getElem h, List.foldl_append]
  simp [li, List.getD_eq_getElem?_getD, h]
theorem maxFrom_one (l : List Int) : maxFrom l 1 = li l 0 := by
  unfold maxFrom
  cases l with
  | nil => rfl
  | cons x l => simp [li]
theorem maxFrom_all {l : List Int} (h0 : 0 < l.length) (h : ∀ x, x ∈ l → 0 ≤ x) : maxFrom l l.length = greatest l := by
  unfold maxFrom greatest
  rw [List.take_length]
  cases l with
  | nil => simp at h0
  | cons x l =>
    have hx := h x (List.mem_cons_self ..)
    show l.foldl max (max (li (x :: l) 0) x) = l.foldl max (max 0 x)
    congr 1
    show max x x = max 0 x
    omega
theorem Max_pure (l : List Int) (h0 : 0 < l.length) (hl : l.length ≤ 1000000000) : Pure Try.prog 52 [ints l] (encI (maxFrom l l.length)) [] := by
  refine Pure.intro (ts := [2]) Try.func52 (by kernel_rfl) rfl rfl rfl (Nat.le_of_ble_eq_true rfl) ?_ ?_
  · simp [pure_ints, pure_strs, encI, encS, PV.pure, pureL]
  refine sY [0] (fun P S K => K ⟨[(0, S.get 0)], S.hp, S.nx, S.gh⟩) ?_
  all_goals
  refine Tri.seq ?_
  refine sZ [0, 7] (fun P S K => XvLen P 22 (S.get 0) (fun r1 _ => XvBinOV P .lss 3 (.const (.int .i64 1)) r1 (.atom (.int .i64 1)) (fun r2 _ => K ⟨[(0, S.get 0), (7, r2)], S.hp, S.nx, S.gh⟩))) fun K hK => ?_
  repeat' (first | (refine hK _ ?_; clear hK K) | refine And.intro ?_ ?_ | exact cl | simp (maxSteps := 2000000) only [↓SD, push_cast, Nat.reduceAdd, Nat.reduceSub, Nat.reduceMul, Nat.reduceLT, Nat.reduceLeDiff, Nat.reduceEqDiff, Int.reduceToNat, reduceIte, reduceCtorEq, Int.reduceLE, Int.reduceLT, Int.reduceNeg, ints, strs, encI, encS, dec_no (show ¬ (l.length : Int) < 1 by omega)])
  all_goals
  refine Tri.cond rfl (fun h7 => ?_) (fun h7 => ?_)
  ·try (cases h7; done)
   all_goals (try simp only [CQ] at h7)
   all_goals
   refine rY [0] (fun P S K => False) ?_
   all_goals
   have hk0 : 0 < l.length := h0
   refine sZ [0, 3] (fun P S K => XvIndexAddr P 22 (S.get 0) (.atom (.int .i64 0)) (fun r1 _ => XvLoad P 3 (M S.hp S.nx) r1 (fun r2 _ => K ⟨[(0, S.get 0), (3, r2)], S.hp, S.nx, S.gh⟩))) fun K hK => ?_
   repeat' (first | (refine hK _ ?_; clear hK K) | refine And.intro ?_ ?_ | exact cl | (refine st ?_; try simp only [getD_encI hk0]) | simp only [getD_encI hk0])
   all_goals
   refine Tri.seq ?_
   refine sY [0, 3, 4] (fun P S K => K ⟨[(0, S.get 0), (3, S.get 3), (4, (.atom (.int .i64 1)))], S.hp, S.nx, S.gh⟩) ?_
   all_goals
   refine Tri.block ?_
   refine Tri.loop (α := (k : Nat) ×' (1 ≤ k ∧ k ≤ l.length)) (fun z => (fun (k : Nat) => (⟨[(0, ints l), (3, encI (maxFrom l k)), (4, encI k)], [], 0, []⟩ : St)) z.1) (fun z => (fun (k : Nat) => l.length - k) z.1) ⟨1, ⟨Nat.le_refl _, h0⟩⟩ [] ?_ ?_
   ·dsimp only
    rw [show encI (maxFrom l 1) = encI (li l 0) by rw [maxFrom_one]]
    exact leqB30
   ·rintro ⟨k, ⟨hk1, hk⟩⟩
    refine Tri.seq ?_
    refine sY [0, 3, 4, 15] (fun P S K => XvLen P 22 (S.get 0) (fun r2 _ => XvBinOV P .lss 3 (.tmp 14) (S.get 4) r2 (fun r3 _ => K ⟨[(0, S.get 0), (3, S.get 3), (4, S.get 4), (15, r3)], S.hp, S.nx, S.gh⟩))) ?_
    all_goals
    refine Tri.cond rfl (fun h15 => ?_) (fun h15 => ?_)
    ·try (cases h15; done)
     all_goals (try simp only [CQ] at h15)
     all_goals
     refine Tri.skip ?_
     refine Tri.seq ?_
     refine Tri.block ?_
     have hkl : k < l.length := by omega
     refine rZ [0, 3, 4] (fun P S K => XvIndexAddr P 22 (S.get 0) (S.get 4) (fun r3 _ => XvLoad P 3 (M S.hp S.nx) r3 (fun r4 _ => XvMinMax true (S.get 3) r4 (fun r5 _ => K ⟨[(0, S.get 0), (3, r5), (4, S.get 4)], S.hp, S.nx, S.gh⟩)))) fun K hK => ?_
     repeat' (first | (refine hK _ ?_; clear hK K) | ((first | refine xG_intro (fun hg => ?_) (fun hg => ?_) | refine fun (hg : (_ : Prop)) => ?_) <;> ((try simp only [BQ] at hg); try (exfalso; omega))) | refine And.intro ?_ ?_ | exact cl | refine one_take ?_ _ | refine one_drop ?_ _ | (refine st ?_; try simp only [getD_encI hkl]) | simp only [getD_encI hkl])
     all_goals
     refine rY [0, 3, 4] (fun P S K => XvBinOV P .add 3 (.const (.int .i64 1)) (S.get 4) (.atom (.int .i64 1)) (fun r1 _ => K ⟨[(0, S.get 0), (3, S.get 3), (4, r1)], S.hp, S.nx, S.gh⟩)) ?_
     all_goals try simp (disch := omega) only [wrap_id, wrap8_id]
     all_goals
     rw [← maxFrom_succ hkl]
     refine ⟨⟨k + 1, by omega, by omega⟩, [], by dsimp only; omega, ?_⟩
     exact leqB30
    ·try (cases h15; done)
     all_goals (try simp only [CQ] at h15)
     all_goals
     refine Tri.exit ?_
     refine sY [2] (fun P S K => K ⟨[(2, (S.get 3))], S.hp, S.nx, S.gh⟩) ?_
     all_goals
     refine Tri.ret ?_
     show ResOk _ _ _ _
     rw [show l.length = k by omega]
     exact ResOk.val lsrB3 lpvB20
  ·try (cases h7; done)
   all_goals (try simp only [CQ] at h7)
   all_goals
   refine Tri.skip ?_
   have hk0 : 0 < l.length := h0
   refine sZ [0, 3] (fun P S K => XvIndexAddr P 22 (S.get 0) (.atom (.int .i64 0)) (fun r1 _ => XvLoad P 3 (M S.hp S.nx) r1 (fun r2 _ => K ⟨[(0, S.get 0), (3, r2)], S.hp, S.nx, S.gh⟩))) fun K hK => ?_
   repeat' (first | (refine hK _ ?_; clear hK K) | refine And.intro ?_ ?_ | exact cl | (refine st ?_; try simp only [getD_encI hk0]) | simp only [getD_encI hk0])
   all_goals
   refine Tri.seq ?_
   refine sY [0, 3, 4] (fun P S K => K ⟨[(0, S.get 0), (3, S.get 3), (4, (.atom (.int .i64 1)))], S.hp, S.nx, S.gh⟩) ?_
   all_goals
   refine Tri.block ?_
   refine Tri.loop (α := (k : Nat) ×' (1 ≤ k ∧ k ≤ l.length)) (fun z => (fun (k : Nat) => (⟨[(0, ints l), (3, encI (maxFrom l k)), (4, encI k)], [], 0, []⟩ : St)) z.1) (fun z => (fun (k : Nat) => l.length - k) z.1) ⟨1, ⟨Nat.le_refl _, h0⟩⟩ [] ?_ ?_
   ·dsimp only
    rw [show encI (maxFrom l 1) = encI (li l 0) by rw [maxFrom_one]]
    exact leqB30
   ·rintro ⟨k, ⟨hk1, hk⟩⟩
    refine Tri.seq ?_
    refine sY [0, 3, 4, 15] (fun P S K => XvLen P 22 (S.get 0) (fun r2 _ => XvBinOV P .lss 3 (.tmp 14) (S.get 4) r2 (fun r3 _ => K ⟨[(0, S.get 0), (3, S.get 3), (4, S.get 4), (15, r3)], S.hp, S.nx, S.gh⟩))) ?_
    all_goals
    refine Tri.cond rfl (fun h15 => ?_) (fun h15 => ?_)
    ·try (cases h15; done)
     all_goals (try simp only [CQ] at h15)
     all_goals
     refine Tri.skip ?_
     refine Tri.seq ?_
     refine Tri.block ?_
     have hkl : k < l.length := by omega
     refine rZ [0, 3, 4] (fun P S K => XvIndexAddr P 22 (S.get 0) (S.get 4) (fun r3 _ => XvLoad P 3 (M S.hp S.nx) r3 (fun r4 _ => XvMinMax true (S.get 3) r4 (fun r5 _ => K ⟨[(0, S.get 0), (3, r5), (4, S.get 4)], S.hp, S.nx, S.gh⟩)))) fun K hK => ?_
     repeat' (first | (refine hK _ ?_; clear hK K) | ((first | refine xG_intro (fun hg => ?_) (fun hg => ?_) | refine fun (hg : (_ : Prop)) => ?_) <;> ((try simp only [BQ] at hg); try (exfalso; omega))) | refine And.intro ?_ ?_ | exact cl | refine one_take ?_ _ | refine one_drop ?_ _ | (refine st ?_; try simp only [getD_encI hkl]) | simp only [getD_encI hkl])
     all_goals
     refine rY [0, 3, 4] (fun P S K => XvBinOV P .add 3 (.const (.int .i64 1)) (S.get 4) (.atom (.int .i64 1)) (fun r1 _ => K ⟨[(0, S.get 0), (3, S.get 3), (4, r1)], S.hp, S.nx, S.gh⟩)) ?_
     all_goals try simp (disch := omega) only [wrap_id, wrap8_id]
     all_goals
     rw [← maxFrom_succ hkl]
     refine ⟨⟨k + 1, by omega, by omega⟩, [], by dsimp only; omega, ?_⟩
     exact leqB30
    ·try (cases h15; done)
     all_goals (try simp only [CQ] at h15)
     all_goals
     refine Tri.exit ?_
     refine sY [2] (fun P S K => K ⟨[(2, (S.get 3))], S.hp, S.nx, S.gh⟩) ?_
     all_goals
     refine Tri.ret ?_
     show ResOk _ _ _ _
     rw [show l.length = k by omega]
     exact ResOk.val lsrB3 lpvB20
theorem Clone_own (l : List (Int × Int)) (hne : l ≠ []) (hl : l.length ≤ 1000000) : Pure Try.prog 72 [pairs l] (.ob 0 2 0 l.length) [⟨2, l.map encP⟩] := by
  obtain ⟨p, r, rfl⟩ := List.exists_cons_of_ne_nil hne
  have hl2 : r.length + 1 ≤ 1000000 := hl
  refine Pure.intro (ts := [2]) Try.func72 (by kernel_rfl) rfl rfl rfl (Nat.le_of_ble_eq_true rfl) ?_ ?_
  · simp [pure_pairs, PV.pure, pureL]
  refine sZ [0] (fun P S K => K ⟨[(0, S.get 0)], S.hp, S.nx, S.gh⟩) fun K hK => ?_
  repeat' (first | (refine hK _ ?_; clear hK K) | refine And.intro ?_ ?_ | exact cl | exact one_encP _ | (refine st ?_; try simp only [pairs, nilSl]) | simp only [pairs, nilSl])
  all_goals
  refine Tri.seq ?_
  refine sZ [0, 4] (fun P S K => XvBinOV P .eql 23 (.const (.slice none 0 0)) (S.get 0) (.atom (.slice none 0 0)) (fun r1 _ => K ⟨[(0, S.get 0), (4, r1)], S.hp, S.nx, S.gh⟩)) fun K hK => ?_
  repeat' (first | (refine hK _ ?_; clear hK K) | refine And.intro ?_ ?_ | exact cl | exact one_encP _ | (refine st ?_; try simp only [pairs, nilSl]) | simp only [pairs, nilSl])
  all_goals
  refine Tri.cond rfl (fun h4 => ?_) (fun h4 => ?_)
  ·try (cases h4; done)
   all_goals (try simp only [CQ] at h4)
   all_goals
   refine sZ [2] (fun P S K => K ⟨[(2, (.atom (.slice none 0 0)))], S.hp, S.nx, S.gh⟩) fun K hK => ?_
   repeat' (first | (refine hK _ ?_; clear hK K) | refine And.intro ?_ ?_ | exact cl | exact one_encP _ | (refine st ?_; try simp only [pairs, nilSl]) | simp only [pairs, nilSl])
   all_goals
   refine Tri.ret ?_
   show ResOk _ _ _ _
   exact ResOk.row 1 rfl rfl (pureL_encP (p :: r)) rfl
  ·try (cases h4; done)
   all_goals (try simp only [CQ] at h4)
   all_goals
   refine Tri.skip ?_
   refine sZ [2] (fun P S K => XvBuildS P 23 0 S.nx [] (fun r0 ef0 => (23 = 23 ∧ XvAppend P 23 (M (Eff.hp ef0 S.nx S.hp) (S.nx + ef0.add.length)) r0 (S.get 0) (fun r2 ef2 => K ⟨[(2, r2)], (Eff.hp ef2 (S.nx + ef0.add.length) (Eff.hp ef0 S.nx S.hp)), ((S.nx + ef0.add.length) + ef2.add.length), S.gh⟩)))) fun K hK => ?_
   repeat' (first | (refine hK _ ?_; clear hK K) | ((first | refine xG_intro (fun hg => ?_) (fun hg => ?_) | refine fun (hg : (_ : Prop)) => ?_) <;> ((try simp only [BQ] at hg); try (exfalso; omega))) | refine And.intro ?_ ?_ | exact cl | exact one_encP _ | refine one_take ?_ _ | refine one_drop ?_ _ | (refine st ?_; try simp only [pairs, nilSl]) | simp only [pairs, nilSl])
   all_goals
   refine Tri.ret ?_
   show ResOk _ _ _ _
   exact ResOk.row 1 rfl rfl (pureL_encP (p :: r)) rfl
theorem quick1_pure (c : CaseD) (x y : Int) (hx : 0 ≤ x ∧ x < c.sizes.length) (hy : 0 ≤ y ∧ y < c.sizes.length) : Pure Try.prog 68 [encI x, encI y, .fptr 3 [encC c] 0 0] (encI (szC c x y)) [] := by
  refine Pure.intro (ts := [5]) Try.func68 (by kernel_rfl) rfl rfl rfl (Nat.le_of_ble_eq_true rfl) ?_ ?_
  · simp [encI, PV.pure, pureL, pure_case]
  refine sY [0, 1, 2] (fun P S K => K ⟨[(0, S.get 0), (1, S.get 1), (2, S.get 2)], S.hp, S.nx, S.gh⟩) ?_
  all_goals
  refine sD 12 [5] (fun P GD S K => XvFieldAddr P 38 0 (S.get 2) (fun r0 ef0 => XvLoad P 22 (M S.hp S.nx) r0 (fun r1 ef1 => XvIndexAddr P 22 r1 (S.get 1) (fun r3 ef3 => XvLoad P 3 (M S.hp S.nx) r3 (fun r4 ef4 => XvFieldAddr P 38 0 (S.get 2) (fun r5 ef5 => XvLoad P 22 (M S.hp S.nx) r5 (fun r6 ef6 => XvIndexAddr P 22 r6 (S.get 0) (fun r8 ef8 => XvLoad P 3 (M S.hp S.nx) r8 (fun r9 ef9 => XvFnV P (M S.hp S.nx) (.fn 69 []) [r4, r9] (fun r10 ef10 => (trOk S.nx GD [⟨S.nx, 0, ef0.rd, [], []⟩, ⟨S.nx, 0, ef1.rd, [], []⟩, ⟨S.nx, 0, [], [], []⟩, ⟨S.nx, 0, ef3.rd, [], []⟩, ⟨S.nx, 0, ef4.rd, [], []⟩, ⟨S.nx, 0, ef5.rd, [], []⟩, ⟨S.nx, 0, ef6.rd, [], []⟩, ⟨S.nx, 0, [], [], []⟩, ⟨S.nx, 0, ef8.rd, [], []⟩, ⟨S.nx, 0, ef9.rd, [], []⟩, (Eff.tr ef10 S.nx), ⟨(S.nx + ef10.add.length), 0, [], [], []⟩] = true ∧ K ⟨[(5, r10)], (Eff.hp ef10 S.nx S.hp), (S.nx + ef10.add.length), S.gh⟩))))))))))) fun K hK => ?_
  repeat' (first | (refine hK _ ?_; clear hK K) | (refine (?_ : trOk _ _ _ = true); kernel_rfl) | refine And.intro ?_ ?_ | exact cl | refine .inl ⟨_, _, cmpCompare_pure (li c.sizes y.toNat) (li c.sizes x.toNat), ?_⟩ | refine ⟨_, _, cmpCompare_pure (li c.sizes y.toNat) (li c.sizes x.toNat), ?_⟩ | (refine st ?_; try simp only [encC, getD_encI (show y.toNat < c.sizes.length by omega), getD_encI (show x.toNat < c.sizes.length by omega)]) | simp only [encC, getD_encI (show y.toNat < c.sizes.length by omega), getD_encI (show x.toNat < c.sizes.length by omega)])
  all_goals
  refine Tri.ret ?_
  show ResOk _ _ _ _
  unfold szC; exact ResOk.val lsrB3 lpvB20
theorem quick2_pure (loads : List Int) (x y : Int) (hx : 0 ≤ x ∧ x < loads.length) (hy : 0 ≤ y ∧ y < loads.length) : Pure Try.prog 70 [encI x, encI y, .fptr 1 [ints loads] 0 0] (encI (ldC loads x y)) [] := by
  refine Pure.intro (ts := [5]) Try.func70 (by kernel_rfl) rfl rfl rfl (Nat.le_of_ble_eq_true rfl) ?_ ?_
  · simp [encI, PV.pure, pureL, pureL_encI, pure_ints]
  refine sY [0, 1, 2] (fun P S K => K ⟨[(0, S.get 0), (1, S.get 1), (2, S.get 2)], S.hp, S.nx, S.gh⟩) ?_
  all_goals
  refine sD 10 [5] (fun P GD S K => XvLoad P 22 (M S.hp S.nx) (S.get 2) (fun r0 ef0 => XvIndexAddr P 22 r0 (S.get 0) (fun r2 ef2 => XvLoad P 3 (M S.hp S.nx) r2 (fun r3 ef3 => XvLoad P 22 (M S.hp S.nx) (S.get 2) (fun r4 ef4 => XvIndexAddr P 22 r4 (S.get 1) (fun r6 ef6 => XvLoad P 3 (M S.hp S.nx) r6 (fun r7 ef7 => XvFnV P (M S.hp S.nx) (.fn 69 []) [r3, r7] (fun r8 ef8 => (trOk S.nx GD [⟨S.nx, 0, ef0.rd, [], []⟩, ⟨S.nx, 0, [], [], []⟩, ⟨S.nx, 0, ef2.rd, [], []⟩, ⟨S.nx, 0, ef3.rd, [], []⟩, ⟨S.nx, 0, ef4.rd, [], []⟩, ⟨S.nx, 0, [], [], []⟩, ⟨S.nx, 0, ef6.rd, [], []⟩, ⟨S.nx, 0, ef7.rd, [], []⟩, (Eff.tr ef8 S.nx), ⟨(S.nx + ef8.add.length), 0, [], [], []⟩] = true ∧ K ⟨[(5, r8)], (Eff.hp ef8 S.nx S.hp), (S.nx + ef8.add.length), S.gh⟩))))))))) fun K hK => ?_
  repeat' (first | (refine hK _ ?_; clear hK K) | (refine (?_ : trOk _ _ _ = true); kernel_rfl) | refine And.intro ?_ ?_ | exact cl | refine .inl ⟨_, _, cmpCompare_pure (li loads x.toNat) (li loads y.toNat), ?_⟩ | refine ⟨_, _, cmpCompare_pure (li loads x.toNat) (li loads y.toNat), ?_⟩ | (refine st ?_; try simp only [getD_encI (show y.toNat < loads.length by omega), getD_encI (show x.toNat < loads.length by omega)]) | simp only [getD_encI (show y.toNat < loads.length by omega), getD_encI (show x.toNat < loads.length by omega)])
  all_goals
  refine Tri.ret ?_
  show ResOk _ _ _ _
  unfold ldC; exact ResOk.val lsrB3 lpvB20
set_option maxHeartbeats 2000000
structure Tame (b : Nat) (x : CertD) : Prop where
  some : x.some.length ≤ 64 + b
  people : x.people.length ≤ 64 + b
  lo : -(100 * (b : Int)) ≤ x.least
  hi : x.least ≤ 4000000 + 100 * (b : Int)
theorem sets_pos : ∀ n : Fin 7, 2 ≤ n.1 → 0 < (setsN n.1).length := by decide +kernel
def one1 (c : CaseD) (j : Nat) : CertD := ⟨[(j : Int)], [], li c.sizes j⟩
theorem bestI_case {c : CaseD} : ∀ {i : Nat} {y : CertD}, bestI c i = some y → (∃ j, j < i ∧ y = one1 c j) ∧ ∀ j, j < i → li c.sizes j ≤ y.least
  | 0, y, h => by cases h
  | i + 1, y, h => by
    have hlt : ∀ j, j < i + 1 → j < i ∨ j = i := fun j hj => by omega
    rcases hb : bestI c i with _ | z
    · rw [bestI_none hb] at h; cases h
      have h0 : i = 0 := by
        cases i with
        | zero => rfl
        | succ k =>
          exfalso
          rcases hk : bestI c k with _ | w
          · rw [bestI_none hk] at hb; cases hb
          · by_cases hl : w.least < li c.sizes k
            · rw [bestI_up hk hl] at hb; cases hb
            · rw [bestI_stay hk hl] at hb; cases hb
      subst h0
      exact ⟨⟨0, by omega, rfl⟩, fun j hj => by rw [show j = 0 by omega]; exact Int.le_refl _⟩
    · obtain ⟨⟨j, hj, hz⟩, hm⟩ := bestI_case hb
      by_cases hl : z.least < li c.sizes i
      · rw [bestI_up hb hl] at h; cases h
        exact ⟨⟨i, by omega, rfl⟩, fun m h1 => by
          rcases hlt m h1 with g | rfl
          · have := hm m g; simp only; omega
          · exact Int.le_refl _⟩
      · rw [bestI_stay hb hl] at h; cases h
        exact ⟨⟨j, by omega, hz⟩, fun m h1 => by
          rcases hlt m h1 with g | rfl
          · exact hm m g
          · omega⟩
theorem bestI_zero {c : CaseD} {i : Nat} (h : bestI c i = none) : i = 0 := by
  cases i with
  | zero => rfl
  | succ k =>
    exfalso
    rcases hk : bestI c k with _ | w
    · rw [bestI_none hk] at h; cases h
    · by_cases hl : w.least < li c.sizes k
      · rw [bestI_up hk hl] at h; cases h
      · rw [bestI_stay hk hl] at h; cases h
theorem bestK_case {c : CaseD} {K : List (List Int)} : ∀ {k : Nat} {y : CertD}, k ≤ K.length → bestK c K k = some y →
    ((∃ j, j < c.sizes.length ∧ y = one1 c j) ∨ ∃ l, l ∈ K ∧ y = setX c l) ∧ (∀ j, j < c.sizes.length → li c.sizes j ≤ y.least) ∧ ∀ m, m < k → (setX c (K.getD m [])).least ≤ y.least
  | 0, y, _, h => by
    obtain ⟨h1, h2⟩ := bestI_case h
    exact ⟨.inl h1, h2, fun m hm => absurd hm (Nat.not_lt_zero _)⟩
  | k + 1, y, hk, h => by
    have hlt : ∀ j, j < k + 1 → j < k ∨ j = k := fun j hj => by omega
    have hin : K.getD k [] ∈ K := getD_in (by omega)
    rcases hb : bestK c K k with _ | z
    · rw [bestK_none hb] at h; cases h
      have hz : k = 0 ∧ bestI c c.sizes.length = none := by
        cases k with
        | zero => exact ⟨rfl, hb⟩
        | succ k =>
          exfalso
          rcases hk2 : bestK c K k with _ | w
          · rw [bestK_none hk2] at hb; cases hb
          · by_cases hl : w.least < (setX c (K.getD k [])).least
            · rw [bestK_up hk2 hl] at hb; cases hb
            · rw [bestK_stay hk2 hl] at hb; cases hb
      have hn := bestI_zero hz.2
      obtain ⟨rfl, -⟩ := hz
      exact ⟨.inr ⟨_, hin, rfl⟩, fun j hj => by omega, fun m hm => by rw [show m = 0 by omega]; exact Int.le_refl _⟩
    · obtain ⟨h1, h2, h3⟩ := bestK_case (by omega) hb
      by_cases hl : z.least < (setX c (K.getD k [])).least
      · rw [bestK_up hb hl] at h; cases h
        exact ⟨.inr ⟨_, hin, rfl⟩, fun j hj => by have := h2 j hj; omega, fun m h4 => by
          rcases hlt m h4 with g | rfl
          · have := h3 m g; omega
          · exact Int.le_refl _⟩
      · rw [bestK_stay hb hl] at h; cases h
        exact ⟨h1, h2, fun m h4 => by
          rcases hlt m h4 with g | rfl
          · exact h3 m g
          · omega⟩
theorem bestS_spec {c : CaseD} (hG : Good c) : ((∃ j, j < c.sizes.length ∧ bestS c = one1 c j) ∨ ∃ l, l ∈ setsN c.people.toNat ∧ bestS c = setX c l) ∧ (∀ j, j < c.sizes.length → li c.sizes j ≤ (bestS c).least) ∧ ∀ l, l ∈ setsN c.people.toNat → (setX c l).least ≤ (bestS c).least := by
  have hlo := hG.lo
  have hhi := hG.hi
  have hpos := sets_pos ⟨c.people.toNat, by omega⟩ (show 2 ≤ c.people.toNat by omega)
  simp only at hpos
  unfold bestS
  generalize setsN c.people.toNat = K at hpos
  rcases hb : bestK c K K.length with _ | y
  · exfalso
    obtain ⟨k, hk⟩ : ∃ k, K.length = k + 1 := ⟨K.length - 1, by omega⟩
    rw [hk] at hb
    rcases hk2 : bestK c K k with _ | w
    · rw [bestK_none hk2] at hb; cases hb
    · by_cases hl : w.least < (setX c (K.getD k [])).least
      · rw [bestK_up hk2 hl] at hb; cases hb
      · rw [bestK_stay hk2 hl] at hb; cases hb
  · obtain ⟨h1, h2, h3⟩ := bestK_case (Nat.le_refl _) hb
    refine ⟨h1, h2, fun l hl => ?_⟩
    obtain ⟨m, hm, rfl⟩ := List.getElem_of_mem hl
    have := h3 m hm
    rwa [List.getD_eq_getElem?_getD, List.getElem?_eq_getElem hm] at this
theorem leqB48 {p : Prop} (h : p := by (refine ⟨4, ?_, ?_, rfl, by simp, rfl, fun _ h _ => absurd h (Nat.not_lt_zero _)⟩ <;> (simp only [List.forall_mem_cons]; repeat' (first | refine And.intro ?_ ?_ | (intro p hp; exact absurd hp List.not_mem_nil) | rfl | exact sp (pure_nats _) | exact (sealed_pure _ _ _ (pure_ints _)).trans (ren_ints _ _).symm | exact (sealed_pure _ _ _ (pure_strs _)).trans (ren_strs _ _).symm | exact sp (by assumption) | (intro o ho; cases ho; refine ⟨by decide, ?_⟩; first | (refine LeqS.row rfl ?_ ?_; (next => (first | rfl | (simp only [List.map_append, List.map_cons, List.map_nil, List.append_nil, List.nil_append, List.append_assoc, List.cons_append, encI, encS, ints, strs]; done) | (simp [encI, encS, ints, strs, encN]; done))); (next => (first | rfl | exact pureL_encI _ | exact pureL_encS _ | exact pureL_ints _ | exact pureL_strs _ | exact pureL_encN _ | (simp [pureL_append, pureL_encI, pureL_encS, pureL_ints, pureL_strs, pureL, PV.pure, pure_ints, pure_strs, pureL_encN, pure_nats]; done))); done) | refine ⟨_, rfl, rfl, ?_⟩) | (simp [St.born, St.known, retV, St.get, St.obj, lk, sealed, PV.ren, renL, rmap, AO.ren, ints, strs, encI, encS, map_sealed_encI, map_sealed_encS, map_sealed_ints, map_sealed_strs, map_ren_encI, map_ren_encS, map_ren_ints, map_ren_strs, renL_encI, renL_encS, renL_ints, renL_strs, renL_encN, map_sealed_encN, map_ren_encN, nats] <;> omega)))); first | done | fail) : p := h
theorem lsrB48 {p : Prop} (h : p := by (first | rfl | (simp [St.born, St.known, retV, St.get, St.obj, lk, sealed, PV.ren, renL, rmap, AO.ren, ints, strs, encI, encS, map_sealed_encI, map_sealed_encS, map_sealed_ints, map_sealed_strs, map_ren_encI, map_ren_encS, map_ren_ints, map_ren_strs, renL_encI, renL_encS, renL_ints, renL_strs, renL_encN, map_sealed_encN, map_ren_encN, nats]; done)); first | done | fail) : p := h
theorem lpvB48 {p : Prop} (h : p := by (first | rfl | (simp [pure_ints, pure_strs, PV.pure, pureL, pureL_encI, pureL_encS, pureL_ints, pureL_strs, pureL_encN, pure_nats]; done)); first | done | fail) : p := h
def orS : List Int → Int
  | [] => 0
  | x :: l => if x ≠ 0 then x else orS l
theorem orS_zero : ∀ {l : List Int}, (∀ j, j < l.length → li l j = 0) → orS l = 0
  | [], _ => rfl
  | x :: l, h => by
    have h0 : x = 0 := h 0 (by simp)
    rw [orS, if_neg (by omega)]
    exact orS_zero fun j hj => h (j + 1) (by simpa using hj)
theorem orS_at : ∀ {l : List Int} {k : Nat}, k < l.length → (∀ j, j < k → li l j = 0) → li l k ≠ 0 → orS l = li l k
  | [], k, hk, _, _ => by simp at hk
  | x :: l, 0, _, _, hx => by rw [orS]; exact if_pos hx
  | x :: l, k + 1, hk, h, hx => by
    have h0 : x = 0 := h 0 (by omega)
    rw [orS, if_neg (by omega)]
    exact orS_at (l := l) (k := k) (by simpa using hk) (fun j hj => h (j + 1) (by omega)) hx
theorem Or_pure (l : List Int) (hl : l.length ≤ 1000000) : Pure Try.prog 75 [ints l] (encI (orS l)) [] := by
  refine Pure.intro (ts := [2]) Try.func75 (by kernel_rfl) rfl rfl rfl (Nat.le_of_ble_eq_true rfl) ?_ ?_
  · simp [pure_ints, pure_strs, encI, encS, PV.pure, pureL]
  refine sY [0] (fun P S K => K ⟨[(0, S.get 0)], S.hp, S.nx, S.gh⟩) ?_
  all_goals
  refine sY [0, 3] (fun P S K => K ⟨[(0, S.get 0), (3, (.atom (.int .i64 0)))], S.hp, S.nx, S.gh⟩) ?_
  all_goals
  refine Tri.seq ?_
  refine sY [3, 6, 7, 8] (fun P S K => XvLen P 22 (S.get 0) (fun r1 _ => K ⟨[(3, S.get 3), (6, (S.get 0)), (7, r1), (8, (.atom (.int .i64 0)))], S.hp, S.nx, S.gh⟩)) ?_
  all_goals
  refine Tri.block ?_
  refine Tri.loop (α := (k : Nat) ×' (k ≤ l.length ∧ ∀ j, j < k → li l j = 0)) (fun z => (fun (k : Nat) => (⟨[(3, encI 0), (6, ints l), (7, encI l.length), (8, encI k)], [], 0, []⟩ : St)) z.1) (fun z => (fun (k : Nat) => l.length - k) z.1) ⟨0, ⟨Nat.zero_le _, fun j hj => absurd hj (Nat.not_lt_zero _)⟩⟩ [] ?_ ?_
  ·exact leqB48
  ·rintro ⟨k, ⟨hk, hno⟩⟩
   refine sY [3, 6, 7, 8, 9] (fun P S K => XvBinOV P .lss 3 (.tmp 7) (S.get 8) (S.get 7) (fun r0 _ => K ⟨[(3, S.get 3), (6, S.get 6), (7, S.get 7), (8, S.get 8), (9, r0)], S.hp, S.nx, S.gh⟩)) ?_
   all_goals
   refine Tri.seq ?_
   refine Tri.cond rfl (fun h9 => ?_) (fun h9 => ?_)
   ·try (cases h9; done)
    all_goals (try simp only [CQ] at h9)
    all_goals
    refine Tri.skip ?_
    refine Tri.seq ?_
    refine Tri.block ?_
    have hkl : k < l.length := by omega
    refine sZ [3, 5, 6, 7, 8] (fun P S K => XvIndexAddr P 22 (S.get 6) (S.get 8) (fun r0 _ => XvLoad P 3 (M S.hp S.nx) r0 (fun r1 _ => K ⟨[(3, S.get 3), (5, r1), (6, S.get 6), (7, S.get 7), (8, S.get 8)], S.hp, S.nx, S.gh⟩))) fun K hK => ?_
    repeat' (first | (refine hK _ ?_; clear hK K) | refine And.intro ?_ ?_ | exact cl | (refine st ?_; try simp only [getD_encI hkl]) | simp only [getD_encI hkl])
    all_goals
    refine sY [3, 5, 6, 7, 8, 14] (fun P S K => XvBinOV P .neq 3 (.tmp 13) (S.get 5) (S.get 3) (fun r2 _ => K ⟨[(3, S.get 3), (5, S.get 5), (6, S.get 6), (7, S.get 7), (8, S.get 8), (14, r2)], S.hp, S.nx, S.gh⟩)) ?_
    all_goals
    refine Tri.cond rfl (fun h14 => ?_) (fun h14 => ?_)
    ·try (cases h14; done)
     all_goals (try simp only [CQ] at h14)
     all_goals
     refine sY [2] (fun P S K => K ⟨[(2, (S.get 5))], S.hp, S.nx, S.gh⟩) ?_
     all_goals
     refine Tri.ret ?_
     show ResOk _ _ _ _
     rw [orS_at hkl hno (by omega)]
     exact ResOk.val lsrB48 lpvB48
    ·try (cases h14; done)
     all_goals (try simp only [CQ] at h14)
     all_goals
     refine Tri.skip ?_
     refine rY [3, 6, 7, 8] (fun P S K => XvBinOV P .add 3 (.const (.int .i64 1)) (S.get 8) (.atom (.int .i64 1)) (fun r0 _ => K ⟨[(3, S.get 3), (6, S.get 6), (7, S.get 7), (8, r0)], S.hp, S.nx, S.gh⟩)) ?_
     all_goals try simp (disch := omega) only [wrap_id, wrap8_id]
     all_goals
     refine ⟨⟨k + 1, by omega, fun j hj => ?_⟩, [], by dsimp only; omega, ?_⟩
     · rcases Nat.lt_succ_iff_lt_or_eq.1 hj with hj | rfl
       · exact hno j hj
       · omega
     · exact leqB48
   ·try (cases h9; done)
    all_goals (try simp only [CQ] at h9)
    all_goals
    refine Tri.exit ?_
    have hke : k = l.length := by omega
    refine sY [2] (fun P S K => K ⟨[(2, (S.get 3))], S.hp, S.nx, S.gh⟩) ?_
    all_goals
    refine Tri.ret ?_
    show ResOk _ _ _ _
    rw [orS_zero (fun j hj => hno j (by omega))]
    exact ResOk.val lsrB48 lpvB48
def cmpSet (a b : Nat) : Int := orS [cmpI (popc a) (popc b), lexi (membL a 6) (membL b 6)]
theorem membL_len (a : Nat) : ∀ n, (membL a n).length ≤ n
  | 0 => Nat.le_refl _
  | n + 1 => by have := membL_len a n; rw [membL, List.length_append]; split <;> simp <;> omega
theorem callV {P : Program} {S : St} {f : FuncId} {vals : List PV} {r : PV} {K : PV → Eff → Prop} (h : Pure P f vals r []) (hv : pureL vals = true) (hr : r.pure = true) (hk : K r ⟨[], [], [], []⟩) : XvFnIV P S (.fn f []) vals K := by
  refine ⟨.inl ⟨r, [], ?_, ?_, ?_⟩⟩
  · rw [List.append_nil, map_sealed_pure _ _ _ hv]; exact h
  · rw [List.append_nil, pureL_noObL _ hv]; rfl
  · rw [List.append_nil, reach_pureL hv, ren_pure _ r hr]; exact hk
theorem order_pure (a b : Nat) (ha0 : 0 < a) (ha : a < 64) (hb0 : 0 < b) (hb : b < 64) : Pure Try.prog 74 [encN a, encN b] (encI (cmpSet a b)) [] := by
  have hma := membL_len a 6
  have hmb := membL_len b 6
  have c1 := ones_pure ha
  have c2 := ones_pure hb
  have c3 := list_pure ha0 ha
  have c4 := list_pure hb0 hb
  have hfin : cmpSet a b = orS [cmpI (popc a) (popc b), lexi (membL a 6) (membL b 6)] := rfl
  rw [hfin]
  generalize membL a 6 = A at *
  generalize membL b 6 = B at *
  generalize ((popc a : Nat) : Int) = pa at *
  generalize ((popc b : Nat) : Int) = pb at *
  have c5 := cmpCompare_pure pa pb
  have c6 := slicesCompare_pure A B (by omega) (by omega)
  have c7 := Or_pure [cmpI pa pb, lexi A B] (by simp)
  generalize cmpI pa pb = u at *
  generalize lexi A B = v at *
  refine Pure.intro (ts := [4]) Try.func74 (by kernel_rfl) rfl rfl rfl (Nat.le_of_ble_eq_true rfl) ?_ ?_
  · simp [encN, PV.pure, pureL]
  refine sY [0, 1] (fun P S K => K ⟨[(0, S.get 0), (1, S.get 1)], S.hp, S.nx, S.gh⟩) ?_
  all_goals
  refine sZ [4] (fun P S K => XvFnIV P (M S.hp S.nx) (.fn 48 []) [(S.get 0)] (fun r1 ef1 => XvFnIV P (M (Eff.hp ef1 S.nx S.hp) (S.nx + ef1.add.length)) (.fn 48 []) [(S.get 1)] (fun r3 ef3 => XvFnIV P (M (Eff.hp ef3 (S.nx + ef1.add.length) (Eff.hp ef1 S.nx S.hp)) ((S.nx + ef1.add.length) + ef3.add.length)) (.fn 69 []) [r1, r3] (fun r4 ef4 => XvFnIV P (M (Eff.hp ef4 ((S.nx + ef1.add.length) + ef3.add.length) (Eff.hp ef3 (S.nx + ef1.add.length) (Eff.hp ef1 S.nx S.hp))) (((S.nx + ef1.add.length) + ef3.add.length) + ef4.add.length)) (.fn 77 []) [(S.get 0)] (fun r6 ef6 => XvFnIV P (M (Eff.hp ef6 (((S.nx + ef1.add.length) + ef3.add.length) + ef4.add.length) (Eff.hp ef4 ((S.nx + ef1.add.length) + ef3.add.length) (Eff.hp ef3 (S.nx + ef1.add.length) (Eff.hp ef1 S.nx S.hp)))) ((((S.nx + ef1.add.length) + ef3.add.length) + ef4.add.length) + ef6.add.length)) (.fn 77 []) [(S.get 1)] (fun r8 ef8 => XvFnIV P (M (Eff.hp ef8 ((((S.nx + ef1.add.length) + ef3.add.length) + ef4.add.length) + ef6.add.length) (Eff.hp ef6 (((S.nx + ef1.add.length) + ef3.add.length) + ef4.add.length) (Eff.hp ef4 ((S.nx + ef1.add.length) + ef3.add.length) (Eff.hp ef3 (S.nx + ef1.add.length) (Eff.hp ef1 S.nx S.hp))))) (((((S.nx + ef1.add.length) + ef3.add.length) + ef4.add.length) + ef6.add.length) + ef8.add.length)) (.fn 76 []) [r6, r8] (fun r9 ef9 => XvBuildS P 22 2 ((((((S.nx + ef1.add.length) + ef3.add.length) + ef4.add.length) + ef6.add.length) + ef8.add.length) + ef9.add.length) [(0, r4), (1, r9)] (fun r10 ef10 => XvFnIV P (M (Eff.hp ef10 ((((((S.nx + ef1.add.length) + ef3.add.length) + ef4.add.length) + ef6.add.length) + ef8.add.length) + ef9.add.length) (Eff.hp ef9 (((((S.nx + ef1.add.length) + ef3.add.length) + ef4.add.length) + ef6.add.length) + ef8.add.length) (Eff.hp ef8 ((((S.nx + ef1.add.length) + ef3.add.length) + ef4.add.length) + ef6.add.length) (Eff.hp ef6 (((S.nx + ef1.add.length) + ef3.add.length) + ef4.add.length) (Eff.hp ef4 ((S.nx + ef1.add.length) + ef3.add.length) (Eff.hp ef3 (S.nx + ef1.add.length) (Eff.hp ef1 S.nx S.hp))))))) (((((((S.nx + ef1.add.length) + ef3.add.length) + ef4.add.length) + ef6.add.length) + ef8.add.length) + ef9.add.length) + ef10.add.length)) (.fn 75 []) [r10] (fun r11 ef11 => K ⟨[(4, r11)], (Eff.hp ef11 (((((((S.nx + ef1.add.length) + ef3.add.length) + ef4.add.length) + ef6.add.length) + ef8.add.length) + ef9.add.length) + ef10.add.length) (Eff.hp ef10 ((((((S.nx + ef1.add.length) + ef3.add.length) + ef4.add.length) + ef6.add.length) + ef8.add.length) + ef9.add.length) (Eff.hp ef9 (((((S.nx + ef1.add.length) + ef3.add.length) + ef4.add.length) + ef6.add.length) + ef8.add.length) (Eff.hp ef8 ((((S.nx + ef1.add.length) + ef3.add.length) + ef4.add.length) + ef6.add.length) (Eff.hp ef6 (((S.nx + ef1.add.length) + ef3.add.length) + ef4.add.length) (Eff.hp ef4 ((S.nx + ef1.add.length) + ef3.add.length) (Eff.hp ef3 (S.nx + ef1.add.length) (Eff.hp ef1 S.nx S.hp)))))))), ((((((((S.nx + ef1.add.length) + ef3.add.length) + ef4.add.length) + ef6.add.length) + ef8.add.length) + ef9.add.length) + ef10.add.length) + ef11.add.length), S.gh⟩))))))))) fun K hK => ?_
  refine callV c1 rfl rfl ?_
  refine callV c2 rfl rfl ?_
  refine callV c5 rfl rfl ?_
  refine callV c3 rfl (pure_ints _) ?_
  refine callV c4 rfl (pure_ints _) ?_
  refine callV c6 (by simp [pure_ints, pureL]) rfl ?_
  repeat' (first | (refine hK _ ?_; clear hK K) | refine And.intro ?_ ?_ | exact cl | refine .inl ⟨_, _, c7, ?_⟩ | refine st ?_)
  all_goals
  refine Tri.ret ?_
  show ResOk _ _ _ _
  exact ResOk.val lsrB48 lpvB48
end Go.Proofs.Ytcdeilgijleoaaa
