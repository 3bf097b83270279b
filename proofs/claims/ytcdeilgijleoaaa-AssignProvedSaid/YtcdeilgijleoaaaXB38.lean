/-
  Walks: cmp.Compare, slices.Compare, slices.Max, slices.Clone; the orders of quick.
-/
import Derived.Test.YtcdeilgijleoaaaXA1
import Derived.Test.YtcdeilgijleoaaaXA5
import Derived.Test.YtcdeilgijleoaaaXB53
set_option linter.all false
namespace Go.Proofs.Ytcdeilgijleoaaa
open Go Go.RowKit
set_option maxRecDepth 20000
set_option maxHeartbeats 1000000
theorem leqB30 {p : Prop} (h : p := by (refine ⟨4, ?_, ?_, rfl, by simp, rfl, fun _ h _ => absurd h (Nat.not_lt_zero _)⟩ <;> (simp only [List.forall_mem_cons]; repeat' (first | refine And.intro ?_ ?_ | (intro p hp; exact absurd hp List.not_mem_nil) | rfl | exact sp (pure_case _) | exact sp (pure_pairs _) | exact sp (pure_nats _) | exact (sealed_pure _ _ _ (pure_ints _)).trans (ren_ints _ _).symm | exact (sealed_pure _ _ _ (pure_strs _)).trans (ren_strs _ _).symm | exact sp (by assumption) | (intro o ho; cases ho; refine ⟨by decide, ?_⟩; first | (refine LeqS.row rfl ?_ ?_; (next => (first | rfl | (simp only [List.map_append, List.map_cons, List.map_nil, List.append_nil, List.nil_append, List.append_assoc, List.cons_append, encI, encS, ints, strs]; done) | (simp [encI, encS, ints, strs, encP, encN, List.map_set]; done))); (next => (first | rfl | exact pureL_encI _ | exact pureL_encS _ | exact pureL_ints _ | exact pureL_strs _ | exact pureL_encP _ | exact pureL_encN _ | (simp [pureL_append, pureL_encI, pureL_encS, pureL_ints, pureL_strs, pureL, PV.pure, pure_ints, pure_strs, pure_case, pureL_encP, pure_pairs, pureL_encN, pure_nats]; done))); done) | refine ⟨_, rfl, rfl, ?_⟩) | (simp [St.born, St.known, retV, St.get, St.obj, lk, sealed, PV.ren, renL, rmap, AO.ren, ints, strs, encI, encS, map_sealed_encI, map_sealed_encS, map_sealed_ints, map_sealed_strs, map_ren_encI, map_ren_encS, map_ren_ints, map_ren_strs, renL_encI, renL_encS, renL_ints, renL_strs, ren_case, encC, pairs, renL_encP, map_sealed_encP, map_ren_encP, encP, take_map_len] <;> omega)))); first | done | fail) : p := h
def lexi : List Int → List Int → Int
  | [], [] => 0
  | [], _ :: _ => -1
  | _ :: _, [] => 1
  | a :: x, b :: y => if a < b then -1 else if b < a then 1 else lexi x y
theorem lexi_len {a b : List Int} (h : a = [] ∨ b = []) : lexi a b = if a.length < b.length then -1 else if b.length < a.length then 1 else 0 := by
  cases a <;> cases b <;> simp_all [lexi]
theorem lexi_end {a b : List Int} {k : Nat} (hk : a.length ≤ k ∨ b.length ≤ k) (ha : k ≤ a.length) (hb : k ≤ b.length) : lexi (a.drop k) (b.drop k) = if a.length < b.length then -1 else if b.length < a.length then 1 else 0 := by
  rw [lexi_len (by rcases hk with h | h; exact .inl (List.drop_eq_nil_of_le h); exact .inr (List.drop_eq_nil_of_le h))]
  simp only [List.length_drop]
  split <;> split <;> first | rfl | omega | (split <;> first | rfl | omega)
theorem isNaN_pure (a : Int) : Pure Try.prog 81 [encI a] (.atom (.bool false)) [] := by
  refine Pure.intro (ts := [2]) Try.func81 (by kernel_rfl) rfl rfl rfl (Nat.le_of_ble_eq_true rfl) ?_ ?_
  · simp [pure_ints, pure_strs, encI, encS, PV.pure, pureL]
  refine sY [0] (fun P S K => K ⟨[(0, S.get 0)], S.hp, S.nx, S.gh⟩) ?_
  all_goals
  refine sY [2] (fun P S K => XvBinOV P .neq 3 (.tmp 4) (S.get 0) (S.get 0) (fun r2 _ => K ⟨[(2, r2)], S.hp, S.nx, S.gh⟩)) ?_
  all_goals
  refine Tri.ret ?_
  show ResOk _ _ _ _
  exact ResOk.val (aB (by simp)) rfl
theorem cmpCompare_pure (a b : Int) : Pure Try.prog 69 [encI a, encI b] (encI (cmpI a b)) [] := by
  refine Pure.intro (ts := [4]) Try.func69 (by kernel_rfl) rfl rfl rfl (Nat.le_of_ble_eq_true rfl) ?_ ?_
  · simp [pure_ints, pure_strs, encI, encS, PV.pure, pureL]
  refine sY [0, 1] (fun P S K => K ⟨[(0, S.get 0), (1, S.get 1)], S.hp, S.nx, S.gh⟩) ?_
  all_goals
  refine sZ [0, 1, 5] (fun P S K => XvFnIV P (M S.hp S.nx) (.fn 81 []) [(S.get 0)] (fun r1 ef1 => K ⟨[(0, S.get 0), (1, S.get 1), (5, r1)], (Eff.hp ef1 S.nx S.hp), (S.nx + ef1.add.length), S.gh⟩)) fun K hK => ?_
  repeat' (first | (refine hK _ ?_; clear hK K) | refine And.intro ?_ ?_ | exact cl | refine .inl ⟨_, _, isNaN_pure _, ?_⟩ | refine st ?_)
  all_goals
  refine sZ [0, 1, 5, 6] (fun P S K => XvFnIV P (M S.hp S.nx) (.fn 81 []) [(S.get 1)] (fun r1 ef1 => K ⟨[(0, S.get 0), (1, S.get 1), (5, S.get 5), (6, r1)], (Eff.hp ef1 S.nx S.hp), (S.nx + ef1.add.length), S.gh⟩)) fun K hK => ?_
  repeat' (first | (refine hK _ ?_; clear hK K) | refine And.intro ?_ ?_ | exact cl | refine .inl ⟨_, _, isNaN_pure _, ?_⟩ | refine st ?_)
  all_goals
  refine Tri.seq ?_
  refine sY [0, 1, 6, 11] (fun P S K => K ⟨[(0, S.get 0), (1, S.get 1), (6, S.get 6), (11, (S.get 5))], S.hp, S.nx, S.gh⟩) ?_
  all_goals
  refine Tri.cond rfl (fun h11 => ?_) (fun h11 => ?_)
  ·try (cases h11; done)
   all_goals (try simp only [CQ] at h11)
   all_goals
   refine Tri.seq ?_
   refine sY [12] (fun P S K => K ⟨[(12, (S.get 6))], S.hp, S.nx, S.gh⟩) ?_
   all_goals
   refine Tri.cond rfl (fun h12 => ?_) (fun h12 => ?_)
   ·try (cases h12; done)
    all_goals (try simp only [CQ] at h12)
    all_goals
    refine sY [4] (fun P S K => K ⟨[(4, (.atom (.int .i64 0)))], S.hp, S.nx, S.gh⟩) ?_
    all_goals
    refine Tri.ret ?_
    show ResOk _ _ _ _
    done
   ·try (cases h12; done)
    all_goals (try simp only [CQ] at h12)
    all_goals
    refine Tri.skip ?_
    refine sY [4] (fun P S K => K ⟨[(4, (.atom (.int .i64 (-1))))], S.hp, S.nx, S.gh⟩) ?_
    all_goals
    refine Tri.ret ?_
    show ResOk _ _ _ _
    done
  ·try (cases h11; done)
   all_goals (try simp only [CQ] at h11)
   all_goals
   refine Tri.skip ?_
   refine Tri.seq ?_
   refine sY [0, 1, 13] (fun P S K => K ⟨[(0, S.get 0), (1, S.get 1), (13, (S.get 6))], S.hp, S.nx, S.gh⟩) ?_
   all_goals
   refine Tri.cond rfl (fun h13 => ?_) (fun h13 => ?_)
   ·try (cases h13; done)
    all_goals (try simp only [CQ] at h13)
    all_goals
    refine sY [4] (fun P S K => K ⟨[(4, (.atom (.int .i64 1)))], S.hp, S.nx, S.gh⟩) ?_
    all_goals
    refine Tri.ret ?_
    show ResOk _ _ _ _
    done
   ·try (cases h13; done)
    all_goals (try simp only [CQ] at h13)
    all_goals
    refine Tri.skip ?_
    refine Tri.seq ?_
    refine sY [0, 1, 16] (fun P S K => XvBinOV P .lss 3 (.tmp 15) (S.get 0) (S.get 1) (fun r2 _ => K ⟨[(0, S.get 0), (1, S.get 1), (16, r2)], S.hp, S.nx, S.gh⟩)) ?_
    all_goals
    refine Tri.cond rfl (fun h16 => ?_) (fun h16 => ?_)
    ·try (cases h16; done)
     all_goals (try simp only [CQ] at h16)
     all_goals
     refine sY [4] (fun P S K => K ⟨[(4, (.atom (.int .i64 (-1))))], S.hp, S.nx, S.gh⟩) ?_
     all_goals
     refine Tri.ret ?_
     show ResOk _ _ _ _
     exact ResOk.val (aI (by unfold cmpI; rw [if_pos h16])) rfl
    ·try (cases h16; done)
     all_goals (try simp only [CQ] at h16)
     all_goals
     refine Tri.skip ?_
     refine Tri.seq ?_
     refine sY [19] (fun P S K => XvBinOV P .gtr 3 (.tmp 18) (S.get 0) (S.get 1) (fun r2 _ => K ⟨[(19, r2)], S.hp, S.nx, S.gh⟩)) ?_
     all_goals
     refine Tri.cond rfl (fun h19 => ?_) (fun h19 => ?_)
     ·try (cases h19; done)
      all_goals (try simp only [CQ] at h19)
      all_goals
      refine sY [4] (fun P S K => K ⟨[(4, (.atom (.int .i64 1)))], S.hp, S.nx, S.gh⟩) ?_
      all_goals
      refine Tri.ret ?_
      show ResOk _ _ _ _
      exact ResOk.val (aI (by unfold cmpI; rw [if_neg h16, if_pos h19])) rfl
     ·try (cases h19; done)
      all_goals (try simp only [CQ] at h19)
      all_goals
      refine Tri.skip ?_
      refine sY [4] (fun P S K => K ⟨[(4, (.atom (.int .i64 0)))], S.hp, S.nx, S.gh⟩) ?_
      all_goals
      refine Tri.ret ?_
      show ResOk _ _ _ _
      exact ResOk.val (aI (by unfold cmpI; rw [if_neg h16, if_neg h19])) rfl
theorem slicesCompare_pure (a b : List Int) (ha : a.length ≤ 9223372036854775807) (hb : b.length ≤ 9223372036854775807) : Pure Try.prog 76 [ints a, ints b] (encI (lexi a b)) [] := by
  refine Pure.intro (ts := [4]) Try.func76 (by kernel_rfl) rfl rfl rfl (Nat.le_of_ble_eq_true rfl) ?_ ?_
  · simp [pure_ints, pure_strs, encI, encS, PV.pure, pureL]
  refine sY [0, 1] (fun P S K => K ⟨[(0, S.get 0), (1, S.get 1)], S.hp, S.nx, S.gh⟩) ?_
  all_goals
  refine Tri.seq ?_
  refine sY [0, 1, 9, 10, 11] (fun P S K => XvLen P 22 (S.get 0) (fun r1 _ => K ⟨[(0, S.get 0), (1, S.get 1), (9, (S.get 0)), (10, r1), (11, (.atom (.int .i64 0)))], S.hp, S.nx, S.gh⟩)) ?_
  all_goals
  refine Tri.block ?_
  refine Tri.loop (α := (k : Nat) ×' ((k ≤ a.length ∧ k ≤ b.length) ∧ lexi a b = lexi (a.drop k) (b.drop k))) (fun z => (fun (k : Nat) => (⟨[(0, ints a), (1, ints b), (9, ints a), (10, encI a.length), (11, encI k)], [], 0, []⟩ : St)) z.1) (fun z => (fun (k : Nat) => a.length - k) z.1) ⟨0, ⟨by omega, rfl⟩⟩ [] ?_ ?_
  ·exact leqB30
  ·rintro ⟨k, ⟨⟨hk, hk2⟩, hkj⟩⟩
   refine sY [0, 1, 9, 10, 11, 12] (fun P S K => XvBinOV P .lss 3 (.tmp 10) (S.get 11) (S.get 10) (fun r0 _ => K ⟨[(0, S.get 0), (1, S.get 1), (9, S.get 9), (10, S.get 10), (11, S.get 11), (12, r0)], S.hp, S.nx, S.gh⟩)) ?_
   all_goals
   refine Tri.seq ?_
   refine Tri.cond rfl (fun h12 => ?_) (fun h12 => ?_)
   ·try (cases h12; done)
    all_goals (try simp only [CQ] at h12)
    all_goals
    refine Tri.skip ?_
    refine Tri.seq ?_
    refine Tri.block ?_
    have hka : k < a.length := by omega
    refine sZ [0, 1, 5, 6, 9, 10, 11] (fun P S K => XvIndexAddr P 22 (S.get 9) (S.get 11) (fun r1 _ => XvLoad P 3 (M S.hp S.nx) r1 (fun r2 _ => K ⟨[(0, S.get 0), (1, S.get 1), (5, (S.get 11)), (6, r2), (9, S.get 9), (10, S.get 10), (11, S.get 11)], S.hp, S.nx, S.gh⟩))) fun K hK => ?_
    repeat' (first | (refine hK _ ?_; clear hK K) | refine And.intro ?_ ?_ | exact cl | (refine st ?_; try simp only [getD_encI hka]) | simp only [getD_encI hka])
    all_goals
    refine Tri.seq ?_
    refine sY [0, 1, 5, 6, 9, 10, 11, 19] (fun P S K => XvLen P 22 (S.get 1) (fun r2 _ => XvBinOV P .geq 3 (.tmp 18) (S.get 5) r2 (fun r3 _ => K ⟨[(0, S.get 0), (1, S.get 1), (5, S.get 5), (6, S.get 6), (9, S.get 9), (10, S.get 10), (11, S.get 11), (19, r3)], S.hp, S.nx, S.gh⟩))) ?_
    all_goals
    refine Tri.cond rfl (fun h19 => ?_) (fun h19 => ?_)
    ·try (cases h19; done)
     all_goals (try simp only [CQ] at h19)
     all_goals
     refine sY [4] (fun P S K => K ⟨[(4, (.atom (.int .i64 1)))], S.hp, S.nx, S.gh⟩) ?_
     all_goals
     refine Tri.ret ?_
     show ResOk _ _ _ _
     exact ResOk.val (aI (by rw [hkj, lexi_end (by omega) hk hk2, if_neg (by omega), if_pos (by omega)])) rfl
    ·try (cases h19; done)
     all_goals (try simp only [CQ] at h19)
     all_goals
     refine Tri.skip ?_
     have hkb : k < b.length := by omega
     have hl : lexi a b = if li a k < li b k then -1 else if li b k < li a k then 1 else lexi (a.drop (k + 1)) (b.drop (k + 1)) := by rw [hkj, drop_li hka, drop_li hkb]; rfl
     refine sZ [0, 1, 6, 7, 9, 10, 11] (fun P S K => XvIndexAddr P 22 (S.get 1) (S.get 5) (fun r2 _ => XvLoad P 3 (M S.hp S.nx) r2 (fun r3 _ => K ⟨[(0, S.get 0), (1, S.get 1), (6, S.get 6), (7, r3), (9, S.get 9), (10, S.get 10), (11, S.get 11)], S.hp, S.nx, S.gh⟩))) fun K hK => ?_
     repeat' (first | (refine hK _ ?_; clear hK K) | refine And.intro ?_ ?_ | exact cl | (refine st ?_; try simp only [getD_encI hkb]) | simp only [getD_encI hkb])
     all_goals
     refine sZ [0, 1, 8, 9, 10, 11] (fun P S K => XvFnIV P (M S.hp S.nx) (.fn 69 []) [(S.get 6), (S.get 7)] (fun r2 ef2 => K ⟨[(0, S.get 0), (1, S.get 1), (8, r2), (9, S.get 9), (10, S.get 10), (11, S.get 11)], (Eff.hp ef2 S.nx S.hp), (S.nx + ef2.add.length), S.gh⟩)) fun K hK => ?_
     repeat' (first | (refine hK _ ?_; clear hK K) | refine And.intro ?_ ?_ | exact cl | refine .inl ⟨_, _, cmpCompare_pure _ _, ?_⟩ | refine st ?_)
     all_goals
     refine sY [0, 1, 8, 9, 10, 11, 28] (fun P S K => XvBinOV P .neq 3 (.const (.int .i64 0)) (S.get 8) (.atom (.int .i64 0)) (fun r1 _ => K ⟨[(0, S.get 0), (1, S.get 1), (8, S.get 8), (9, S.get 9), (10, S.get 10), (11, S.get 11), (28, r1)], S.hp, S.nx, S.gh⟩)) ?_
     all_goals
     refine Tri.cond rfl (fun h28 => ?_) (fun h28 => ?_)
     ·try (cases h28; done)
      all_goals (try simp only [CQ] at h28)
      all_goals
      refine sY [4] (fun P S K => K ⟨[(4, (S.get 8))], S.hp, S.nx, S.gh⟩) ?_
      all_goals
      refine Tri.ret ?_
      show ResOk _ _ _ _
      exact ResOk.val (aI (by rw [hl]; unfold cmpI at h28 ⊢; split <;> first | rfl | (split <;> first | rfl | (exfalso; simp_all)))) rfl
     ·try (cases h28; done)
      all_goals (try simp only [CQ] at h28)
      all_goals
      refine Tri.skip ?_
      refine rY [0, 1, 9, 10, 11] (fun P S K => XvBinOV P .add 3 (.const (.int .i64 1)) (S.get 11) (.atom (.int .i64 1)) (fun r0 _ => K ⟨[(0, S.get 0), (1, S.get 1), (9, S.get 9), (10, S.get 10), (11, r0)], S.hp, S.nx, S.gh⟩)) ?_
      all_goals try simp (disch := omega) only [wrap_id, wrap8_id]
      all_goals
      refine ⟨⟨k + 1, by omega, by rw [hl]; unfold cmpI at h28; split at h28 <;> first | omega | (split at h28 <;> first | omega | (rw [if_neg (by assumption), if_neg (by assumption)]))⟩, [], by dsimp only; omega, ?_⟩
      exact leqB30
   ·try (cases h12; done)
    all_goals (try simp only [CQ] at h12)
    all_goals
    refine Tri.exit ?_
    refine Tri.seq ?_
    refine sY [35] (fun P S K => XvLen P 22 (S.get 0) (fun r1 _ => XvLen P 22 (S.get 1) (fun r3 _ => XvBinOV P .lss 3 (.tmp 34) r1 r3 (fun r4 _ => K ⟨[(35, r4)], S.hp, S.nx, S.gh⟩)))) ?_
    all_goals
    refine Tri.cond rfl (fun h35 => ?_) (fun h35 => ?_)
    ·try (cases h35; done)
     all_goals (try simp only [CQ] at h35)
     all_goals
     refine sY [4] (fun P S K => K ⟨[(4, (.atom (.int .i64 (-1))))], S.hp, S.nx, S.gh⟩) ?_
     all_goals
     refine Tri.ret ?_
     show ResOk _ _ _ _
     exact ResOk.val (aI (by rw [hkj, lexi_end (by omega) hk hk2, if_pos (by omega)])) rfl
    ·try (cases h35; done)
     all_goals (try simp only [CQ] at h35)
     all_goals
     refine Tri.skip ?_
     refine sY [4] (fun P S K => K ⟨[(4, (.atom (.int .i64 0)))], S.hp, S.nx, S.gh⟩) ?_
     all_goals
     refine Tri.ret ?_
     show ResOk _ _ _ _
     exact ResOk.val (aI (by rw [hkj, lexi_end (by omega) hk hk2, if_neg (by omega), if_neg (by omega)])) rfl
def maxFrom (l : List Int) (k : Nat) : Int := (l.take k).foldl max (li l 0)
theorem maxFrom_succ {l : List Int} {k : Nat} (h : k < l.length) : maxFrom l (k + 1) = max (maxFrom l k) (li l k) := by
  unfold maxFrom
  rw [List.take_succ_eq_append_getElem h, List.foldl_append]
  simp [li, List.getD_eq_getElem?_getD, h]
theorem maxFrom_one (l : List Int) : maxFrom l 1 = li l 0 := by
  unfold maxFrom
  cases l with
  | nil => rfl
  | cons x l => simp [li]
theorem maxFrom_all {l : List Int} (h0 : 0 < l.length) (h : ∀ x, x ∈ l → 0 ≤ x) : maxFrom l l.length = greatest l := by
  unfold maxFrom greatest
  rw [List.take_length]
  cases l with
  | nil => simp at h0
  | cons x l =>
    have hx := h x (List.mem_cons_self ..)
    show l.foldl max (max (li (x :: l) 0) x) = l.foldl max (max 0 x)
    congr 1
    show max x x = max 0 x
    omega
theorem Max_pure (l : List Int) (h0 : 0 < l.length) (hl : l.length ≤ 1000000000) : Pure Try.prog 52 [ints l] (encI (maxFrom l l.length)) [] := by
  refine Pure.intro (ts := [2]) Try.func52 (by kernel_rfl) rfl rfl rfl (Nat.le_of_ble_eq_true rfl) ?_ ?_
  · simp [pure_ints, pure_strs, encI, encS, PV.pure, pureL]
  refine sY [0] (fun P S K => K ⟨[(0, S.get 0)], S.hp, S.nx, S.gh⟩) ?_
  all_goals
  refine Tri.seq ?_
  refine sZ [0, 7] (fun P S K => XvLen P 22 (S.get 0) (fun r1 _ => XvBinOV P .lss 3 (.const (.int .i64 1)) r1 (.atom (.int .i64 1)) (fun r2 _ => K ⟨[(0, S.get 0), (7, r2)], S.hp, S.nx, S.gh⟩))) fun K hK => ?_
  repeat' (first | (refine hK _ ?_; clear hK K) | refine And.intro ?_ ?_ | exact cl | simp (maxSteps := 2000000) only [↓SD, push_cast, Nat.reduceAdd, Nat.reduceSub, Nat.reduceMul, Nat.reduceLT, Nat.reduceLeDiff, Nat.reduceEqDiff, Int.reduceToNat, reduceIte, reduceCtorEq, Int.reduceLE, Int.reduceLT, Int.reduceNeg, ints, strs, encI, encS, dec_no (show ¬ (l.length : Int) < 1 by omega)])
  all_goals
  refine Tri.cond rfl (fun h7 => ?_) (fun h7 => ?_)
  ·try (cases h7; done)
   all_goals (try simp only [CQ] at h7)
   all_goals
   refine rY [0] (fun P S K => False) ?_
   all_goals
   have hk0 : 0 < l.length := h0
   refine sZ [0, 3] (fun P S K => XvIndexAddr P 22 (S.get 0) (.atom (.int .i64 0)) (fun r1 _ => XvLoad P 3 (M S.hp S.nx) r1 (fun r2 _ => K ⟨[(0, S.get 0), (3, r2)], S.hp, S.nx, S.gh⟩))) fun K hK => ?_
   repeat' (first | (refine hK _ ?_; clear hK K) | refine And.intro ?_ ?_ | exact cl | (refine st ?_; try simp only [getD_encI hk0]) | simp only [getD_encI hk0])
   all_goals
   refine Tri.seq ?_
   refine sY [0, 3, 4] (fun P S K => K ⟨[(0, S.get 0), (3, S.get 3), (4, (.atom (.int .i64 1)))], S.hp, S.nx, S.gh⟩) ?_
   all_goals
   refine Tri.block ?_
   refine Tri.loop (α := (k : Nat) ×' (1 ≤ k ∧ k ≤ l.length)) (fun z => (fun (k : Nat) => (⟨[(0, ints l), (3, encI (maxFrom l k)), (4, encI k)], [], 0, []⟩ : St)) z.1) (fun z => (fun (k : Nat) => l.length - k) z.1) ⟨1, ⟨Nat.le_refl _, h0⟩⟩ [] ?_ ?_
   ·dsimp only
    rw [show encI (maxFrom l 1) = encI (li l 0) by rw [maxFrom_one]]
    exact leqB30
   ·rintro ⟨k, ⟨hk1, hk⟩⟩
    refine Tri.seq ?_
    refine sY [0, 3, 4, 15] (fun P S K => XvLen P 22 (S.get 0) (fun r2 _ => XvBinOV P .lss 3 (.tmp 14) (S.get 4) r2 (fun r3 _ => K ⟨[(0, S.get 0), (3, S.get 3), (4, S.get 4), (15, r3)], S.hp, S.nx, S.gh⟩))) ?_
    all_goals
    refine Tri.cond rfl (fun h15 => ?_) (fun h15 => ?_)
    ·try (cases h15; done)
     all_goals (try simp only [CQ] at h15)
     all_goals
     refine Tri.skip ?_
     refine Tri.seq ?_
     refine Tri.block ?_
     have hkl : k < l.length := by omega
     refine rZ [0, 3, 4] (fun P S K => XvIndexAddr P 22 (S.get 0) (S.get 4) (fun r3 _ => XvLoad P 3 (M S.hp S.nx) r3 (fun r4 _ => XvMinMax true (S.get 3) r4 (fun r5 _ => K ⟨[(0, S.get 0), (3, r5), (4, S.get 4)], S.hp, S.nx, S.gh⟩)))) fun K hK => ?_
     repeat' (first | (refine hK _ ?_; clear hK K) | ((first | refine xG_intro (fun hg => ?_) (fun hg => ?_) | refine fun (hg : (_ : Prop)) => ?_) <;> ((try simp only [BQ] at hg); try (exfalso; omega))) | refine And.intro ?_ ?_ | exact cl | refine one_take ?_ _ | refine one_drop ?_ _ | (refine st ?_; try simp only [getD_encI hkl]) | simp only [getD_encI hkl])
     all_goals
     refine rY [0, 3, 4] (fun P S K => XvBinOV P .add 3 (.const (.int .i64 1)) (S.get 4) (.atom (.int .i64 1)) (fun r1 _ => K ⟨[(0, S.get 0), (3, S.get 3), (4, r1)], S.hp, S.nx, S.gh⟩)) ?_
     all_goals try simp (disch := omega) only [wrap_id, wrap8_id]
     all_goals
     rw [← maxFrom_succ hkl]
     refine ⟨⟨k + 1, by omega, by omega⟩, [], by dsimp only; omega, ?_⟩
     exact leqB30
    ·try (cases h15; done)
     all_goals (try simp only [CQ] at h15)
     all_goals
     refine Tri.exit ?_
     refine sY [2] (fun P S K => K ⟨[(2, (S.get 3))], S.hp, S.nx, S.gh⟩) ?_
     all_goals
     refine Tri.ret ?_
     show ResOk _ _ _ _
     rw [show l.length = k by omega]
     exact ResOk.val lsrB3 lpvB20
  ·try (cases h7; done)
   all_goals (try simp only [CQ] at h7)
   all_goals
   refine Tri.skip ?_
   have hk0 : 0 < l.length := h0
   refine sZ [0, 3] (fun P S K => XvIndexAddr P 22 (S.get 0) (.atom (.int .i64 0)) (fun r1 _ => XvLoad P 3 (M S.hp S.nx) r1 (fun r2 _ => K ⟨[(0, S.get 0), (3, r2)], S.hp, S.nx, S.gh⟩))) fun K hK => ?_
   repeat' (first | (refine hK _ ?_; clear hK K) | refine And.intro ?_ ?_ | exact cl | (refine st ?_; try simp only [getD_encI hk0]) | simp only [getD_encI hk0])
   all_goals
   refine Tri.seq ?_
   refine sY [0, 3, 4] (fun P S K => K ⟨[(0, S.get 0), (3, S.get 3), (4, (.atom (.int .i64 1)))], S.hp, S.nx, S.gh⟩) ?_
   all_goals
   refine Tri.block ?_
   refine Tri.loop (α := (k : Nat) ×' (1 ≤ k ∧ k ≤ l.length)) (fun z => (fun (k : Nat) => (⟨[(0, ints l), (3, encI (maxFrom l k)), (4, encI k)], [], 0, []⟩ : St)) z.1) (fun z => (fun (k : Nat) => l.length - k) z.1) ⟨1, ⟨Nat.le_refl _, h0⟩⟩ [] ?_ ?_
   ·dsimp only
    rw [show encI (maxFrom l 1) = encI (li l 0) by rw [maxFrom_one]]
    exact leqB30
   ·rintro ⟨k, ⟨hk1, hk⟩⟩
    refine Tri.seq ?_
    refine sY [0, 3, 4, 15] (fun P S K => XvLen P 22 (S.get 0) (fun r2 _ => XvBinOV P .lss 3 (.tmp 14) (S.get 4) r2 (fun r3 _ => K ⟨[(0, S.get 0), (3, S.get 3), (4, S.get 4), (15, r3)], S.hp, S.nx, S.gh⟩))) ?_
    all_goals
    refine Tri.cond rfl (fun h15 => ?_) (fun h15 => ?_)
    ·try (cases h15; done)
     all_goals (try simp only [CQ] at h15)
     all_goals
     refine Tri.skip ?_
     refine Tri.seq ?_
     refine Tri.block ?_
     have hkl : k < l.length := by omega
     refine rZ [0, 3, 4] (fun P S K => XvIndexAddr P 22 (S.get 0) (S.get 4) (fun r3 _ => XvLoad P 3 (M S.hp S.nx) r3 (fun r4 _ => XvMinMax true (S.get 3) r4 (fun r5 _ => K ⟨[(0, S.get 0), (3, r5), (4, S.get 4)], S.hp, S.nx, S.gh⟩)))) fun K hK => ?_
     repeat' (first | (refine hK _ ?_; clear hK K) | ((first | refine xG_intro (fun hg => ?_) (fun hg => ?_) | refine fun (hg : (_ : Prop)) => ?_) <;> ((try simp only [BQ] at hg); try (exfalso; omega))) | refine And.intro ?_ ?_ | exact cl | refine one_take ?_ _ | refine one_drop ?_ _ | (refine st ?_; try simp only [getD_encI hkl]) | simp only [getD_encI hkl])
     all_goals
     refine rY [0, 3, 4] (fun P S K => XvBinOV P .add 3 (.const (.int .i64 1)) (S.get 4) (.atom (.int .i64 1)) (fun r1 _ => K ⟨[(0, S.get 0), (3, S.get 3), (4, r1)], S.hp, S.nx, S.gh⟩)) ?_
     all_goals try simp (disch := omega) only [wrap_id, wrap8_id]
     all_goals
     rw [← maxFrom_succ hkl]
     refine ⟨⟨k + 1, by omega, by omega⟩, [], by dsimp only; omega, ?_⟩
     exact leqB30
    ·try (cases h15; done)
     all_goals (try simp only [CQ] at h15)
     all_goals
     refine Tri.exit ?_
     refine sY [2] (fun P S K => K ⟨[(2, (S.get 3))], S.hp, S.nx, S.gh⟩) ?_
     all_goals
     refine Tri.ret ?_
     show ResOk _ _ _ _
     rw [show l.length = k by omega]
     exact ResOk.val lsrB3 lpvB20
theorem Clone_own (l : List (Int × Int)) (hne : l ≠ []) (hl : l.length ≤ 1000000) : Pure Try.prog 72 [pairs l] (.ob 0 2 0 l.length) [⟨2, l.map encP⟩] := by
  obtain ⟨p, r, rfl⟩ := List.exists_cons_of_ne_nil hne
  have hl2 : r.length + 1 ≤ 1000000 := hl
  refine Pure.intro (ts := [2]) Try.func72 (by kernel_rfl) rfl rfl rfl (Nat.le_of_ble_eq_true rfl) ?_ ?_
  · simp [pure_pairs, PV.pure, pureL]
  refine sZ [0] (fun P S K => K ⟨[(0, S.get 0)], S.hp, S.nx, S.gh⟩) fun K hK => ?_
  repeat' (first | (refine hK _ ?_; clear hK K) | refine And.intro ?_ ?_ | exact cl | exact one_encP _ | (refine st ?_; try simp only [pairs, nilSl]) | simp only [pairs, nilSl])
  all_goals
  refine Tri.seq ?_
  refine sZ [0, 4] (fun P S K => XvBinOV P .eql 23 (.const (.slice none 0 0)) (S.get 0) (.atom (.slice none 0 0)) (fun r1 _ => K ⟨[(0, S.get 0), (4, r1)], S.hp, S.nx, S.gh⟩)) fun K hK => ?_
  repeat' (first | (refine hK _ ?_; clear hK K) | refine And.intro ?_ ?_ | exact cl | exact one_encP _ | (refine st ?_; try simp only [pairs, nilSl]) | simp only [pairs, nilSl])
  all_goals
  refine Tri.cond rfl (fun h4 => ?_) (fun h4 => ?_)
  ·try (cases h4; done)
   all_goals (try simp only [CQ] at h4)
   all_goals
   refine sZ [2] (fun P S K => K ⟨[(2, (.atom (.slice none 0 0)))], S.hp, S.nx, S.gh⟩) fun K hK => ?_
   repeat' (first | (refine hK _ ?_; clear hK K) | refine And.intro ?_ ?_ | exact cl | exact one_encP _ | (refine st ?_; try simp only [pairs, nilSl]) | simp only [pairs, nilSl])
   all_goals
   refine Tri.ret ?_
   show ResOk _ _ _ _
   exact ResOk.row 1 rfl rfl (pureL_encP (p :: r)) rfl
  ·try (cases h4; done)
   all_goals (try simp only [CQ] at h4)
   all_goals
   refine Tri.skip ?_
   refine sZ [2] (fun P S K => XvBuildS P 23 0 S.nx [] (fun r0 ef0 => (23 = 23 ∧ XvAppend P 23 (M (Eff.hp ef0 S.nx S.hp) (S.nx + ef0.add.length)) r0 (S.get 0) (fun r2 ef2 => K ⟨[(2, r2)], (Eff.hp ef2 (S.nx + ef0.add.length) (Eff.hp ef0 S.nx S.hp)), ((S.nx + ef0.add.length) + ef2.add.length), S.gh⟩)))) fun K hK => ?_
   repeat' (first | (refine hK _ ?_; clear hK K) | ((first | refine xG_intro (fun hg => ?_) (fun hg => ?_) | refine fun (hg : (_ : Prop)) => ?_) <;> ((try simp only [BQ] at hg); try (exfalso; omega))) | refine And.intro ?_ ?_ | exact cl | exact one_encP _ | refine one_take ?_ _ | refine one_drop ?_ _ | (refine st ?_; try simp only [pairs, nilSl]) | simp only [pairs, nilSl])
   all_goals
   refine Tri.ret ?_
   show ResOk _ _ _ _
   exact ResOk.row 1 rfl rfl (pureL_encP (p :: r)) rfl
theorem quick1_pure (c : CaseD) (x y : Int) (hx : 0 ≤ x ∧ x < c.sizes.length) (hy : 0 ≤ y ∧ y < c.sizes.length) : Pure Try.prog 68 [encI x, encI y, .fptr 3 [encC c] 0 0] (encI (szC c x y)) [] := by
  refine Pure.intro (ts := [5]) Try.func68 (by kernel_rfl) rfl rfl rfl (Nat.le_of_ble_eq_true rfl) ?_ ?_
  · simp [encI, PV.pure, pureL, pure_case]
  refine sY [0, 1, 2] (fun P S K => K ⟨[(0, S.get 0), (1, S.get 1), (2, S.get 2)], S.hp, S.nx, S.gh⟩) ?_
  all_goals
  refine sD 12 [5] (fun P GD S K => XvFieldAddr P 38 0 (S.get 2) (fun r0 ef0 => XvLoad P 22 (M S.hp S.nx) r0 (fun r1 ef1 => XvIndexAddr P 22 r1 (S.get 1) (fun r3 ef3 => XvLoad P 3 (M S.hp S.nx) r3 (fun r4 ef4 => XvFieldAddr P 38 0 (S.get 2) (fun r5 ef5 => XvLoad P 22 (M S.hp S.nx) r5 (fun r6 ef6 => XvIndexAddr P 22 r6 (S.get 0) (fun r8 ef8 => XvLoad P 3 (M S.hp S.nx) r8 (fun r9 ef9 => XvFnV P (M S.hp S.nx) (.fn 69 []) [r4, r9] (fun r10 ef10 => (trOk S.nx GD [⟨S.nx, 0, ef0.rd, [], []⟩, ⟨S.nx, 0, ef1.rd, [], []⟩, ⟨S.nx, 0, [], [], []⟩, ⟨S.nx, 0, ef3.rd, [], []⟩, ⟨S.nx, 0, ef4.rd, [], []⟩, ⟨S.nx, 0, ef5.rd, [], []⟩, ⟨S.nx, 0, ef6.rd, [], []⟩, ⟨S.nx, 0, [], [], []⟩, ⟨S.nx, 0, ef8.rd, [], []⟩, ⟨S.nx, 0, ef9.rd, [], []⟩, (Eff.tr ef10 S.nx), ⟨(S.nx + ef10.add.length), 0, [], [], []⟩] = true ∧ K ⟨[(5, r10)], (Eff.hp ef10 S.nx S.hp), (S.nx + ef10.add.length), S.gh⟩))))))))))) fun K hK => ?_
  repeat' (first | (refine hK _ ?_; clear hK K) | (refine (?_ : trOk _ _ _ = true); kernel_rfl) | refine And.intro ?_ ?_ | exact cl | refine .inl ⟨_, _, cmpCompare_pure (li c.sizes y.toNat) (li c.sizes x.toNat), ?_⟩ | refine ⟨_, _, cmpCompare_pure (li c.sizes y.toNat) (li c.sizes x.toNat), ?_⟩ | (refine st ?_; try simp only [encC, getD_encI (show y.toNat < c.sizes.length by omega), getD_encI (show x.toNat < c.sizes.length by omega)]) | simp only [encC, getD_encI (show y.toNat < c.sizes.length by omega), getD_encI (show x.toNat < c.sizes.length by omega)])
  all_goals
  refine Tri.ret ?_
  show ResOk _ _ _ _
  unfold szC; exact ResOk.val lsrB3 lpvB20
theorem quick2_pure (loads : List Int) (x y : Int) (hx : 0 ≤ x ∧ x < loads.length) (hy : 0 ≤ y ∧ y < loads.length) : Pure Try.prog 70 [encI x, encI y, .fptr 1 [ints loads] 0 0] (encI (ldC loads x y)) [] := by
  refine Pure.intro (ts := [5]) Try.func70 (by kernel_rfl) rfl rfl rfl (Nat.le_of_ble_eq_true rfl) ?_ ?_
  · simp [encI, PV.pure, pureL, pureL_encI, pure_ints]
  refine sY [0, 1, 2] (fun P S K => K ⟨[(0, S.get 0), (1, S.get 1), (2, S.get 2)], S.hp, S.nx, S.gh⟩) ?_
  all_goals
  refine sD 10 [5] (fun P GD S K => XvLoad P 22 (M S.hp S.nx) (S.get 2) (fun r0 ef0 => XvIndexAddr P 22 r0 (S.get 0) (fun r2 ef2 => XvLoad P 3 (M S.hp S.nx) r2 (fun r3 ef3 => XvLoad P 22 (M S.hp S.nx) (S.get 2) (fun r4 ef4 => XvIndexAddr P 22 r4 (S.get 1) (fun r6 ef6 => XvLoad P 3 (M S.hp S.nx) r6 (fun r7 ef7 => XvFnV P (M S.hp S.nx) (.fn 69 []) [r3, r7] (fun r8 ef8 => (trOk S.nx GD [⟨S.nx, 0, ef0.rd, [], []⟩, ⟨S.nx, 0, [], [], []⟩, ⟨S.nx, 0, ef2.rd, [], []⟩, ⟨S.nx, 0, ef3.rd, [], []⟩, ⟨S.nx, 0, ef4.rd, [], []⟩, ⟨S.nx, 0, [], [], []⟩, ⟨S.nx, 0, ef6.rd, [], []⟩, ⟨S.nx, 0, ef7.rd, [], []⟩, (Eff.tr ef8 S.nx), ⟨(S.nx + ef8.add.length), 0, [], [], []⟩] = true ∧ K ⟨[(5, r8)], (Eff.hp ef8 S.nx S.hp), (S.nx + ef8.add.length), S.gh⟩))))))))) fun K hK => ?_
  repeat' (first | (refine hK _ ?_; clear hK K) | (refine (?_ : trOk _ _ _ = true); kernel_rfl) | refine And.intro ?_ ?_ | exact cl | refine .inl ⟨_, _, cmpCompare_pure (li loads x.toNat) (li loads y.toNat), ?_⟩ | refine ⟨_, _, cmpCompare_pure (li loads x.toNat) (li loads y.toNat), ?_⟩ | (refine st ?_; try simp only [getD_encI (show y.toNat < loads.length by omega), getD_encI (show x.toNat < loads.length by omega)]) | simp only [getD_encI (show y.toNat < loads.length by omega), getD_encI (show x.toNat < loads.length by omega)])
  all_goals
  refine Tri.ret ?_
  show ResOk _ _ _ _
  unfold ldC; exact ResOk.val lsrB3 lpvB20
theorem leqB38 {p : Prop} (h : p := by (refine ⟨4, ?_, ?_, rfl, by simp, rfl, fun _ h _ => absurd h (Nat.not_lt_zero _)⟩ <;> (simp only [List.forall_mem_cons]; repeat' (first | refine And.intro ?_ ?_ | (intro p hp; exact absurd hp List.not_mem_nil) | rfl | exact sp (pure_case _) | exact sp (pure_pairs _) | exact sp (pure_cert _) | exact sp (pure_nats _) | exact (sealed_pure _ _ _ (pure_ints _)).trans (ren_ints _ _).symm | exact (sealed_pure _ _ _ (pure_strs _)).trans (ren_strs _ _).symm | exact sp (by assumption) | (intro o ho; cases ho; refine ⟨by decide, ?_⟩; first | (refine LeqS.row rfl ?_ ?_; (next => (first | rfl | (simp only [List.map_append, List.map_cons, List.map_nil, List.append_nil, List.nil_append, List.append_assoc, List.cons_append, encI, encS, ints, strs]; done) | (simp [encI, encS, ints, strs, encP, encN, List.map_set]; done))); (next => (first | rfl | exact pureL_encI _ | exact pureL_encS _ | exact pureL_ints _ | exact pureL_strs _ | exact pureL_encP _ | exact pureL_encN _ | (simp [pureL_append, pureL_encI, pureL_encS, pureL_ints, pureL_strs, pureL, PV.pure, pure_ints, pure_strs, pure_case, pureL_encP, pure_pairs, pure_cert, pureL_encN, pure_nats]; done))); done) | refine ⟨_, rfl, rfl, ?_⟩) | (simp [St.born, St.known, retV, St.get, St.obj, lk, sealed, PV.ren, renL, rmap, AO.ren, ints, strs, encI, encS, map_sealed_encI, map_sealed_encS, map_sealed_ints, map_sealed_strs, map_ren_encI, map_ren_encS, map_ren_ints, map_ren_strs, renL_encI, renL_encS, renL_ints, renL_strs, ren_case, encC, pairs, renL_encP, map_sealed_encP, map_ren_encP, encP, take_map_len, encCert, renL_encN, map_sealed_encN, map_ren_encN, nats] <;> omega)))); first | done | fail) : p := h
theorem lsrB38 {p : Prop} (h : p := by (first | rfl | (simp [St.born, St.known, retV, St.get, St.obj, lk, sealed, PV.ren, renL, rmap, AO.ren, ints, strs, encI, encS, map_sealed_encI, map_sealed_encS, map_sealed_ints, map_sealed_strs, map_ren_encI, map_ren_encS, map_ren_ints, map_ren_strs, renL_encI, renL_encS, renL_ints, renL_strs, ren_case, encC, pairs, renL_encP, map_sealed_encP, map_ren_encP, encP, take_map_len, encCert, renL_encN, map_sealed_encN, map_ren_encN, nats]; done)); first | done | fail) : p := h
theorem lpvB38 {p : Prop} (h : p := by (first | rfl | (simp [pure_ints, pure_strs, PV.pure, pureL, pureL_encI, pureL_encS, pureL_ints, pureL_strs, pure_case, pureL_encP, pure_pairs, pure_cert, pureL_encN, pure_nats]; done)); first | done | fail) : p := h
def inTo (people : List Int) (k : Nat) (n : Nat) : Nat := maskN (inN (people.take k)) n
theorem inTo_0 (people : List Int) : ∀ n, inTo people 0 n = 0
  | 0 => rfl
  | n + 1 => by
    have := inTo_0 people n
    unfold inTo at *
    rw [maskN, this]; rfl
theorem inTo_all (people : List Int) (n : Nat) : inTo people people.length n = maskN (inN people) n := by unfold inTo; rw [List.take_length]
theorem inTo_step (people : List Int) {k n : Nat} (hk : k < people.length) (h : n ≤ 6) (h0 : 0 ≤ li people k) (h1 : li people k < n) : bits .or .u64 (inTo people k n : Int) ((2 ^ (li people k).toNat : Nat) : Int) = (inTo people (k + 1) n : Int) := by
  unfold inTo
  rw [mask_put _ h (by omega)]
  congr 1
  refine maskN_congr n fun q hq => ?_
  unfold inN
  rw [List.take_succ_eq_append_getElem hk, show people[k] = li people k by simp [li, List.getD_eq_getElem?_getD, hk], List.contains_eq_any_beq, List.contains_eq_any_beq, List.any_append]
  congr 1
  rw [List.any_cons, List.any_nil, Bool.or_false]
  by_cases e : q = (li people k).toNat
  · rw [dec_yes e]; symm; rw [beq_iff_eq]; omega
  · rw [dec_no e]; symm; rw [beq_eq_false_iff_ne]; omega
theorem aInc_pure (l : List Int) (n : Int) (hl : l.length ≤ 1000000) : Pure Try.prog 54 [ints l, encI n] (.atom (.bool (incB l n))) [] := by
  refine Pure.intro (ts := [4]) Try.func54 (by kernel_rfl) rfl rfl rfl (Nat.le_of_ble_eq_true rfl) ?_ ?_
  · simp [pure_ints, pure_strs, encI, encS, PV.pure, pureL]
  refine sY [0, 1] (fun P S K => K ⟨[(0, S.get 0), (1, S.get 1)], S.hp, S.nx, S.gh⟩) ?_
  all_goals
  refine Tri.seq ?_
  refine sY [0, 1, 7, 8, 9] (fun P S K => XvLen P 22 (S.get 0) (fun r1 _ => K ⟨[(0, S.get 0), (1, S.get 1), (7, (S.get 0)), (8, r1), (9, (.atom (.int .i64 0)))], S.hp, S.nx, S.gh⟩)) ?_
  all_goals
  refine Tri.block ?_
  refine Tri.loop (α := (k : Nat) ×' (k ≤ l.length ∧ ∀ j, j < k → stepOk l n j)) (fun z => (fun (k : Nat) => (⟨[(0, ints l), (1, encI n), (7, ints l), (8, encI l.length), (9, encI k)], [], 0, []⟩ : St)) z.1) (fun z => (fun (k : Nat) => l.length - k) z.1) ⟨0, ⟨Nat.zero_le _, fun j hj => absurd hj (Nat.not_lt_zero _)⟩⟩ [] ?_ ?_
  ·exact leqB38
  ·rintro ⟨k, ⟨hk, hno⟩⟩
   refine sY [0, 1, 7, 8, 9, 10] (fun P S K => XvBinOV P .lss 3 (.tmp 8) (S.get 9) (S.get 8) (fun r0 _ => K ⟨[(0, S.get 0), (1, S.get 1), (7, S.get 7), (8, S.get 8), (9, S.get 9), (10, r0)], S.hp, S.nx, S.gh⟩)) ?_
   all_goals
   refine Tri.seq ?_
   refine Tri.cond rfl (fun h10 => ?_) (fun h10 => ?_)
   ·try (cases h10; done)
    all_goals (try simp only [CQ] at h10)
    all_goals
    refine Tri.skip ?_
    refine Tri.seq ?_
    refine Tri.block ?_
    have hkl : k < l.length := by omega
    refine sZ [0, 1, 5, 6, 7, 8, 9] (fun P S K => XvIndexAddr P 22 (S.get 7) (S.get 9) (fun r1 _ => XvLoad P 3 (M S.hp S.nx) r1 (fun r2 _ => K ⟨[(0, S.get 0), (1, S.get 1), (5, (S.get 9)), (6, r2), (7, S.get 7), (8, S.get 8), (9, S.get 9)], S.hp, S.nx, S.gh⟩))) fun K hK => ?_
    repeat' (first | (refine hK _ ?_; clear hK K) | refine And.intro ?_ ?_ | exact cl | (refine st ?_; try simp only [getD_encI hkl]) | simp only [getD_encI hkl])
    all_goals
    have hcs : li l k < 0 ∨ (0 ≤ li l k ∧ n ≤ li l k) ∨ ((0 ≤ li l k ∧ li l k < n ∧ k = 0) ∧ decide ((0 : Int) < (k : Int)) = false) ∨ ((0 ≤ li l k ∧ li l k < n ∧ 0 < k) ∧ decide ((0 : Int) < (k : Int)) = true) := by
      simp only [decide_eq_false_iff_not, decide_eq_true_eq]; omega
    obtain hx | hx | ⟨hx, hz⟩ | ⟨hx, hz⟩ := hcs
    all_goals
    refine sZ [0, 1, 7, 8, 9, 33] (fun P S K => XvBinOV P .lss 3 (.const (.int .i64 0)) (S.get 6) (.atom (.int .i64 0)) (fun r1 _ => Xgq r1 false (fun k => k (S.get 6)) (fun g3 r3 => Xgq g3 false (fun k => k (S.get 1)) (fun g4 r4 => Xgq g4 false (fun k => XvBinOV P .geq 3 (.tmp 18) r3 r4 (fun r5 _ => k r5)) (fun g5 r5 => XvPick g5 (.atom (.bool true)) r5 (fun r6 _ => Xgq r6 false (fun k => k (S.get 5)) (fun g8 r8 => Xgq g8 false (fun k => XvBinOV P .gtr 3 (.const (.int .i64 0)) r8 (.atom (.int .i64 0)) (fun r9 _ => k r9)) (fun g9 r9 => Xgq g9 false (fun k => k r9) (fun g10 r10 => Xgq r10 true (fun k => k (S.get 6)) (fun g11 r11 => Xgq g11 true (fun k => k (S.get 0)) (fun g12 r12 => Xgq g12 true (fun k => k (S.get 5)) (fun g13 r13 => Xgq g13 true (fun k => XvBinOV P .sub 3 (.const (.int .i64 1)) r13 (.atom (.int .i64 1)) (fun r14 _ => k r14)) (fun g14 r14 => Xgq g14 true (fun k => XvIndexAddr P 22 r12 r14 (fun r15 _ => k r15)) (fun g15 r15 => Xgq g15 true (fun k => XvLoad P 3 (M S.hp S.nx) r15 (fun r16 _ => k r16)) (fun g16 r16 => Xgq g16 true (fun k => XvBinOV P .leq 3 (.tmp 30) r11 r16 (fun r17 _ => k r17)) (fun g17 r17 => Xgq g10 false (fun k => XvPick g17 r17 (.atom (.bool false)) (fun r18 _ => k r18)) (fun g18 r18 => XvPick g18 (.atom (.bool true)) r18 (fun r19 _ => K ⟨[(0, S.get 0), (1, S.get 1), (7, S.get 7), (8, S.get 8), (9, S.get 9), (33, r19)], S.hp, S.nx, S.gh⟩)))))))))))))))))) fun K hK => ?_
    repeat' (first | (refine hK _ ?_; clear hK K) | ((first | refine xG_intro (fun hg => ?_) (fun hg => ?_) | refine fun (hg : (_ : Prop)) => ?_) <;> ((try simp only [BQ] at hg); try (exfalso; omega))) | refine And.intro ?_ ?_ | exact cl | refine one_take ?_ _ | refine one_drop ?_ _ | (refine st ?_; try simp only [↓SE, getD_encI hkl, dec_no (show ¬ li l k < 0 by omega), dec_no (show ¬ n ≤ li l k by omega), hz, wrap_id (x := (k : Int) - 1) (by omega) (by omega), getD_encI (show ((k : Int) - 1).toNat < l.length by omega)]; try simp only [↓SE, getD_encI hkl, dec_yes hx]; try simp only [↓SE, getD_encI hkl, dec_no (show ¬ li l k < 0 by omega), dec_yes hx.2]) | simp only [↓SE, getD_encI hkl, dec_no (show ¬ li l k < 0 by omega), dec_no (show ¬ n ≤ li l k by omega), hz, wrap_id (x := (k : Int) - 1) (by omega) (by omega), getD_encI (show ((k : Int) - 1).toNat < l.length by omega)] | simp only [↓SE, getD_encI hkl, dec_yes hx] | simp only [↓SE, getD_encI hkl, dec_no (show ¬ li l k < 0 by omega), dec_yes hx.2])
    all_goals try simp (disch := omega) only [wrap_id, wrap8_id]
    all_goals
    refine Tri.cond rfl (fun h33 => ?_) (fun h33 => ?_)
    ·try (cases h33; done)
     all_goals (try simp only [CQ] at h33)
     all_goals
     refine sY [4] (fun P S K => K ⟨[(4, (.atom (.bool false)))], S.hp, S.nx, S.gh⟩) ?_
     all_goals
     refine Tri.ret ?_
     show ResOk _ _ _ _
     rw [incB_at hkl (fun hs => by obtain ⟨s1, s2, s3⟩ := hs; have := s3 (by omega); omega)]
     exact ResOk.val lsrB38 lpvB38
    ·try (cases h33; done)
     all_goals (try simp only [CQ] at h33)
     all_goals
     refine Tri.skip ?_
     refine rY [0, 1, 7, 8, 9] (fun P S K => XvBinOV P .add 3 (.const (.int .i64 1)) (S.get 9) (.atom (.int .i64 1)) (fun r0 _ => K ⟨[(0, S.get 0), (1, S.get 1), (7, S.get 7), (8, S.get 8), (9, r0)], S.hp, S.nx, S.gh⟩)) ?_
     all_goals try simp (disch := omega) only [wrap_id, wrap8_id]
     all_goals
     refine ⟨⟨k + 1, by omega, fun j hj => ?_⟩, [], by dsimp only; omega, ?_⟩
     · rcases Nat.lt_succ_iff_lt_or_eq.1 hj with hj | rfl
       · exact hno j hj
       · exact ⟨by omega, by omega, fun _ => by omega⟩
     · exact leqB38
   ·try (cases h10; done)
    all_goals (try simp only [CQ] at h10)
    all_goals
    refine Tri.exit ?_
    have hke : k = l.length := by omega
    refine sY [4] (fun P S K => K ⟨[(4, (.atom (.bool true)))], S.hp, S.nx, S.gh⟩) ?_
    all_goals
    refine Tri.ret ?_
    show ResOk _ _ _ _
    rw [incB_yes (fun j hj => hno j (by omega))]
    exact ResOk.val lsrB38 lpvB38
theorem aBound_pure (c : CaseD) (x : CertD) (hc : Held c) (hx : Sane x) : Pure Try.prog 28 [encC c, encCert x] (.tup [encI (boundN c x), encI (boundE c x)]) [] := by
  have hsl := hc.sizes
  have hbl := hc.bars
  have hxs := hx.some
  have hxp := hx.people
  refine Pure.intro (ts := [4, 5]) Try.func28 (by kernel_rfl) rfl rfl rfl (Nat.le_of_ble_eq_true rfl) ?_ ?_
  · simp [pure_case, pure_cert, encI, PV.pure, pureL]
  refine sZ [2, 3] (fun P S K => XvBox S.nx (S.get 0) (fun r0 ef0 => XvBox (S.nx + ef0.add.length) (S.get 1) (fun r1 ef1 => K ⟨[(2, r0), (3, r1)], (Eff.hp ef1 (S.nx + ef0.add.length) (Eff.hp ef0 S.nx S.hp)), ((S.nx + ef0.add.length) + ef1.add.length), S.gh⟩))) fun K hK => ?_
  repeat' (first | (refine hK _ ?_; clear hK K) | refine And.intro ?_ ?_ | exact cl | (refine st ?_; try simp only [encC, encCert, pairs]) | simp only [encC, encCert, pairs])
  all_goals
  refine Tri.seq ?_
  refine sZ [2, 3, 6] (fun P S K => XvLoad P 38 (M S.hp S.nx) (S.get 2) (fun r0 _ => XvFnIV P (M S.hp S.nx) (.fn 15 []) [r0] (fun r1 ef1 => K ⟨[(2, S.get 2), (3, S.get 3), (6, r1)], (Eff.hp ef1 S.nx S.hp), (S.nx + ef1.add.length), S.gh⟩))) fun K hK => ?_
  repeat' (first | (refine hK _ ?_; clear hK K) | refine And.intro ?_ ?_ | exact cl | refine .inl ⟨_, _, aValid_pure c hc, ?_⟩ | refine .inl ⟨_, _, hI1, ?_⟩ | refine .inl ⟨_, _, hI2, ?_⟩ | (refine st ?_; try simp only [encC, encCert, pairs]) | simp only [encC, encCert, pairs])
  all_goals
  refine sY [2, 3, 6, 15] (fun P S K => XvBinOV P .neq 32 (.const (.int .i64 0)) (S.get 6) (.atom (.int .i64 0)) (fun r1 _ => K ⟨[(2, S.get 2), (3, S.get 3), (6, S.get 6), (15, r1)], S.hp, S.nx, S.gh⟩)) ?_
  all_goals
  refine Tri.cond rfl (fun h15 => ?_) (fun h15 => ?_)
  ·try (cases h15; done)
   all_goals (try simp only [CQ] at h15)
   all_goals
   refine sY [4, 5] (fun P S K => K ⟨[(4, (.atom (.int .i64 0))), (5, (S.get 6))], S.hp, S.nx, S.gh⟩) ?_
   all_goals
   refine Tri.ret ?_
   show ResOk _ _ _ _
   rw [boundN_no (by rw [boundE_case h15]; exact h15), boundE_case h15]
   exact ResOk.val lsrB38 lpvB38
  ·try (cases h15; done)
   all_goals (try simp only [CQ] at h15)
   all_goals
   refine Tri.skip ?_
   have hv : validC c = 0 := by omega
   have hG := valid_good hv
   have hmany := hG.many
   have hlo := hG.lo
   have hhi := hG.hi
   have hvr := val_rng hG x hx
   have hI1 := aInc_pure x.some c.sizes.length (by omega)
   have hI2 := aInc_pure x.people c.people (by omega)
   generalize hA : incB x.some c.sizes.length = a at hI1
   generalize hB : incB x.people c.people = b at hI2
   refine sY [2, 3, 7] (fun P S K => K ⟨[(2, S.get 2), (3, S.get 3), (7, (.fn 54 []))], S.hp, S.nx, S.gh⟩) ?_
   all_goals
   refine Tri.seq ?_
   rcases a with _ | _ <;> rcases b with _ | _
   all_goals
   refine sZ [2, 3, 33] (fun P S K => XvFieldAddr P 47 0 (S.get 3) (fun r1 _ => XvLoad P 22 (M S.hp S.nx) r1 (fun r2 _ => XvFieldAddr P 38 0 (S.get 2) (fun r3 _ => XvLoad P 22 (M S.hp S.nx) r3 (fun r4 _ => XvLen P 22 r4 (fun r5 _ => XvFnIV P (M S.hp S.nx) (S.get 7) [r2, r5] (fun r6 ef6 => XvUn .not r6 (fun r7 _ => Xgq r7 false (fun k => k (S.get 7)) (fun g9 r9 => Xgq g9 false (fun k => XvFieldAddr P 47 1 (S.get 3) (fun r10 _ => k r10)) (fun g10 r10 => Xgq g10 false (fun k => XvLoad P 22 (M (Eff.hp ef6 S.nx S.hp) (S.nx + ef6.add.length)) r10 (fun r11 _ => k r11)) (fun g11 r11 => Xgq g11 false (fun k => XvFieldAddr P 38 1 (S.get 2) (fun r12 _ => k r12)) (fun g12 r12 => Xgq g12 false (fun k => XvLoad P 3 (M (Eff.hp ef6 S.nx S.hp) (S.nx + ef6.add.length)) r12 (fun r13 _ => k r13)) (fun g13 r13 => Xge g13 false (fun k => XvFnIV P (M (Eff.hp ef6 S.nx S.hp) (S.nx + ef6.add.length)) r9 [r11, r13] k) (fun g14 r14 ef14 => Xgq g14 false (fun k => XvUn .not r14 (fun r15 _ => k r15)) (fun g15 r15 => XvPick g15 (.atom (.bool true)) r15 (fun r16 _ => K ⟨[(2, S.get 2), (3, S.get 3), (33, r16)], (Eff.hp ef14 (S.nx + ef6.add.length) (Eff.hp ef6 S.nx S.hp)), ((S.nx + ef6.add.length) + ef14.add.length), S.gh⟩)))))))))))))))) fun K hK => ?_
   repeat' (first | (refine hK _ ?_; clear hK K) | ((first | refine xG_intro (fun hg => ?_) (fun hg => ?_) | refine fun (hg : (_ : Prop)) => ?_) <;> ((try simp only [BQ, List.length_map] at hg); try (cases hg; done); try (exfalso; omega))) | refine And.intro ?_ ?_ | exact cl | refine one_take ?_ _ | refine one_drop ?_ _ | refine .inl ⟨_, _, aValid_pure c hc, ?_⟩ | refine .inl ⟨_, _, hI1, ?_⟩ | refine .inl ⟨_, _, hI2, ?_⟩ | refine .inl ⟨_, _, aCounted_pure c hG (by omega) x.some x.people (incB_mem hA) (by omega) hB (by omega), ?_⟩ | (refine st ?_; try simp only [encC, encCert, pairs, ↓SE]) | simp only [encC, encCert, pairs, ↓SE])
   all_goals try simp (disch := omega) only [wrap_id, wrap8_id]
   all_goals
   refine Tri.cond rfl (fun h33 => ?_) (fun h33 => ?_)
   ·try (cases h33; done)
    all_goals (try simp only [CQ] at h33)
    all_goals
    refine sY [4, 5] (fun P S K => K ⟨[(4, (.atom (.int .i64 0))), (5, (.atom (.int .i64 17)))], S.hp, S.nx, S.gh⟩) ?_
    all_goals
    refine Tri.ret ?_
    show ResOk _ _ _ _
    first
      | rw [(bound_wrong hv (wrong_a hA)).1, (bound_wrong hv (wrong_a hA)).2]
      | rw [(bound_wrong hv (wrong_b hB)).1, (bound_wrong hv (wrong_b hB)).2]
    exact ResOk.val lsrB38 lpvB38
   ·try (cases h33; done)
    all_goals (try simp only [CQ] at h33)
    all_goals
    refine Tri.skip ?_
    refine sY [2, 3, 8] (fun P S K => K ⟨[(2, S.get 2), (3, S.get 3), (8, (.atom (.int .i64 (-1))))], S.hp, S.nx, S.gh⟩) ?_
    all_goals
    refine Tri.seq ?_
    refine sZ [2, 3, 8, 37] (fun P S K => XvFieldAddr P 47 1 (S.get 3) (fun r0 _ => XvLoad P 22 (M S.hp S.nx) r0 (fun r1 _ => XvLen P 22 r1 (fun r2 _ => XvBinOV P .gtr 3 (.const (.int .i64 0)) r2 (.atom (.int .i64 0)) (fun r3 _ => K ⟨[(2, S.get 2), (3, S.get 3), (8, S.get 8), (37, r3)], S.hp, S.nx, S.gh⟩))))) fun K hK => ?_
    repeat' (first | (refine hK _ ?_; clear hK K) | refine And.intro ?_ ?_ | exact cl | (refine st ?_; try simp only [encC, encCert, pairs]) | simp only [encC, encCert, pairs])
    all_goals
    refine Tri.cond rfl (fun h37 => ?_) (fun h37 => ?_)
    ·try (cases h37; done)
     all_goals (try simp only [CQ] at h37)
     all_goals
     refine sY [2, 3, 9] (fun P S K => K ⟨[(2, S.get 2), (3, S.get 3), (9, (.atom (.int .u64 0)))], S.hp, S.nx, S.gh⟩) ?_
     rw [show (PV.atom (.int .u64 0)) = encN (inTo x.people 0 c.people.toNat) by rw [inTo_0]; rfl]
     all_goals
     refine Tri.seq ?_
     refine sZ [2, 3, 9, 39, 40, 41] (fun P S K => XvFieldAddr P 47 1 (S.get 3) (fun r0 _ => XvLoad P 22 (M S.hp S.nx) r0 (fun r1 _ => XvLen P 22 r1 (fun r2 _ => K ⟨[(2, S.get 2), (3, S.get 3), (9, S.get 9), (39, r1), (40, r2), (41, (.atom (.int .i64 0)))], S.hp, S.nx, S.gh⟩)))) fun K hK => ?_
     repeat' (first | (refine hK _ ?_; clear hK K) | refine And.intro ?_ ?_ | exact cl | (refine st ?_; try simp only [encC, encCert, pairs]) | simp only [encC, encCert, pairs])
     all_goals
     refine Tri.block ?_
     refine Tri.loop (α := (k : Nat) ×' (k ≤ x.people.length)) (fun z => (fun (k : Nat) => (⟨[(2, .ptr 0 3 0 0), (3, .ptr 1 3 0 0), (9, encN (inTo x.people k c.people.toNat)), (39, ints x.people), (40, encI x.people.length), (41, encI k)], [(0, some ⟨3, [encC c]⟩), (1, some ⟨3, [encCert x]⟩)], 2, []⟩ : St)) z.1) (fun z => (fun (k : Nat) => x.people.length - k) z.1) ⟨0, Nat.zero_le _⟩ [0, 1] ?_ ?_
     ·exact leqB38
     ·rintro ⟨k, hk⟩
      refine sY [2, 3, 9, 39, 40, 41, 42] (fun P S K => XvBinOV P .lss 3 (.tmp 40) (S.get 41) (S.get 40) (fun r0 _ => K ⟨[(2, S.get 2), (3, S.get 3), (9, S.get 9), (39, S.get 39), (40, S.get 40), (41, S.get 41), (42, r0)], S.hp, S.nx, S.gh⟩)) ?_
      all_goals
      refine Tri.seq ?_
      refine Tri.cond rfl (fun h42 => ?_) (fun h42 => ?_)
      ·try (cases h42; done)
       all_goals (try simp only [CQ] at h42)
       all_goals
       refine Tri.skip ?_
       refine Tri.seq ?_
       refine Tri.block ?_
       have hkl : k < x.people.length := by omega
       have hin := incB_mem hB _ (li_mem hkl)
       have hst := inTo_step x.people hkl (show c.people.toNat ≤ 6 by omega) hin.1 (by omega)
       have hsh := shl_one hin.1 (show li x.people k < 6 by omega)
       generalize 2 ^ (li x.people k).toNat = w at hst hsh
       refine sZ [2, 3, 9, 11, 39, 40, 41] (fun P S K => XvIndexAddr P 22 (S.get 39) (S.get 41) (fun r0 _ => XvLoad P 3 (M S.hp S.nx) r0 (fun r1 _ => K ⟨[(2, S.get 2), (3, S.get 3), (9, S.get 9), (11, r1), (39, S.get 39), (40, S.get 40), (41, S.get 41)], S.hp, S.nx, S.gh⟩))) fun K hK => ?_
       repeat' (first | (refine hK _ ?_; clear hK K) | refine And.intro ?_ ?_ | exact cl | (refine st ?_; try simp only [encC, encCert, pairs, getD_encI hkl]) | simp only [encC, encCert, pairs, getD_encI hkl])
       all_goals
       refine rZ [2, 3, 9, 39, 40, 41] (fun P S K => XvBinOV P .shl 83 (.tmp 46) (.atom (.int .u64 1)) (S.get 11) (fun r2 _ => XvBinOV P .or 83 (.tmp 47) (S.get 9) r2 (fun r3 _ => K ⟨[(2, S.get 2), (3, S.get 3), (9, r3), (39, S.get 39), (40, S.get 40), (41, S.get 41)], S.hp, S.nx, S.gh⟩))) fun K hK => ?_
       repeat' (first | (refine hK _ ?_; clear hK K) | ((first | refine xG_intro (fun hg => ?_) (fun hg => ?_) | refine fun (hg : (_ : Prop)) => ?_) <;> ((try simp only [BQ, List.length_map] at hg); try (cases hg; done); try (exfalso; omega))) | refine And.intro ?_ ?_ | exact cl | refine one_take ?_ _ | refine one_drop ?_ _ | (refine st ?_; try simp only [encC, encCert, pairs, getD_encI hkl, encN, hsh, hst]) | simp only [encC, encCert, pairs, getD_encI hkl, encN, hsh, hst])
       all_goals try simp (disch := omega) only [wrap_id, wrap8_id]
       all_goals
       refine rY [2, 3, 9, 39, 40, 41] (fun P S K => XvBinOV P .add 3 (.const (.int .i64 1)) (S.get 41) (.atom (.int .i64 1)) (fun r0 _ => K ⟨[(2, S.get 2), (3, S.get 3), (9, S.get 9), (39, S.get 39), (40, S.get 40), (41, r0)], S.hp, S.nx, S.gh⟩)) ?_
       all_goals try simp (disch := omega) only [wrap_id, wrap8_id]
       all_goals
       refine ⟨⟨k + 1, by omega⟩, [0, 1], by dsimp only; omega, ?_⟩
       exact leqB38
      ·try (cases h42; done)
       all_goals (try simp only [CQ] at h42)
       all_goals
       refine Tri.exit ?_
       have hke : k = x.people.length := by omega
       subst hke
       rw [inTo_all]
       have hve := val_some (c := c) (x := x) (by omega)
       refine rZ [3, 8] (fun P S K => XvLoad P 38 (M S.hp S.nx) (S.get 2) (fun r0 _ => XvFieldAddr P 47 0 (S.get 3) (fun r1 _ => XvLoad P 22 (M S.hp S.nx) r1 (fun r2 _ => XvFnIV P (M S.hp S.nx) (.fn 55 []) [r0, r2, (S.get 9)] (fun r4 ef4 => K ⟨[(3, S.get 3), (8, r4)], (Eff.hp ef4 S.nx S.hp), (S.nx + ef4.add.length), S.gh⟩))))) fun K hK => ?_
       repeat' (first | (refine hK _ ?_; clear hK K) | refine And.intro ?_ ?_ | exact cl | refine .inl ⟨_, _, hI1, ?_⟩ | refine .inl ⟨_, _, hI2, ?_⟩ | refine .inl ⟨_, _, aCounted_pure c hG (by omega) x.some x.people (incB_mem hA) (by omega) hB (by omega), ?_⟩ | (refine st ?_; try simp only [encC, encCert, pairs]) | simp only [encC, encCert, pairs])
       all_goals
       refine Tri.seq ?_
       refine sZ [8, 74] (fun P S K => XvBinOV P .lss 3 (.const (.int .i64 0)) (S.get 8) (.atom (.int .i64 0)) (fun r1 _ => Xgq r1 false (fun k => k (S.get 8)) (fun g3 r3 => Xgq g3 false (fun k => XvFieldAddr P 47 2 (S.get 3) (fun r4 _ => k r4)) (fun g4 r4 => Xgq g4 false (fun k => XvLoad P 3 (M S.hp S.nx) r4 (fun r5 _ => k r5)) (fun g5 r5 => Xgq g5 false (fun k => XvBinOV P .neq 3 (.tmp 72) r3 r5 (fun r6 _ => k r6)) (fun g6 r6 => XvPick g6 (.atom (.bool true)) r6 (fun r7 _ => K ⟨[(8, S.get 8), (74, r7)], S.hp, S.nx, S.gh⟩))))))) fun K hK => ?_
       repeat' (first | (refine hK _ ?_; clear hK K) | ((first | refine xG_intro (fun hg => ?_) (fun hg => ?_) | refine fun (hg : (_ : Prop)) => ?_) <;> ((try simp only [BQ, List.length_map] at hg); try (cases hg; done); try (exfalso; omega))) | refine And.intro ?_ ?_ | exact cl | refine one_take ?_ _ | refine one_drop ?_ _ | (refine st ?_; try simp only [encC, encCert, pairs, ↓SE]) | simp only [encC, encCert, pairs, ↓SE])
       all_goals
       refine Tri.cond rfl (fun h74 => ?_) (fun h74 => ?_)
       ·try (cases h74; done)
        all_goals (try simp only [CQ] at h74)
        all_goals
        refine sY [4, 5] (fun P S K => K ⟨[(4, (.atom (.int .i64 0))), (5, (.atom (.int .i64 17)))], S.hp, S.nx, S.gh⟩) ?_
        all_goals
        refine Tri.ret ?_
        show ResOk _ _ _ _
        first
        | (have hne : valS c x ≠ x.least := by omega
           rw [(bound_least hv hne).1, (bound_least hv hne).2]
           exact ResOk.val lsrB38 lpvB38)
        | (have hw : wrongX c x = true := wrong_c (by omega) (by omega)
           rw [(bound_wrong hv hw).1, (bound_wrong hv hw).2]
           exact ResOk.val lsrB38 lpvB38)
       ·try (cases h74; done)
        all_goals (try simp only [CQ] at h74)
        all_goals
        refine Tri.skip ?_
        refine sY [4, 5] (fun P S K => K ⟨[(4, (S.get 8)), (5, (.atom (.int .i64 0)))], S.hp, S.nx, S.gh⟩) ?_
        all_goals
        refine Tri.ret ?_
        show ResOk _ _ _ _
        have heq : valS c x = x.least := by omega
        have hok : ¬ wrongX c x = true := wrong_no hA hB (by omega)
        rw [(bound_ok hv hok heq).1, (bound_ok hv hok heq).2, hve]
        exact ResOk.val lsrB38 lpvB38
    ·try (cases h37; done)
     all_goals (try simp only [CQ] at h37)
     all_goals
     refine sZ [2, 3, 8, 58] (fun P S K => XvFieldAddr P 47 0 (S.get 3) (fun r0 _ => XvLoad P 22 (M S.hp S.nx) r0 (fun r1 _ => XvLen P 22 r1 (fun r2 _ => XvBinOV P .eql 3 (.const (.int .i64 1)) r2 (.atom (.int .i64 1)) (fun r3 _ => K ⟨[(2, S.get 2), (3, S.get 3), (8, S.get 8), (58, r3)], S.hp, S.nx, S.gh⟩))))) fun K hK => ?_
     repeat' (first | (refine hK _ ?_; clear hK K) | refine And.intro ?_ ?_ | exact cl | (refine st ?_; try simp only [encC, encCert, pairs]) | simp only [encC, encCert, pairs])
     all_goals
     refine Tri.cond rfl (fun h58 => ?_) (fun h58 => ?_)
     ·try (cases h58; done)
      all_goals (try simp only [CQ] at h58)
      all_goals
      have hs1 : x.some.length = 1 := by omega
      have hm := incB_mem hA (li x.some 0) (li_mem (by omega))
      have hve := val_none (c := c) (x := x) (by omega)
      have hsz := hG.size _ (li_mem (show (li x.some 0).toNat < c.sizes.length by omega))
      refine rD 9 [3, 8] (fun P GD S K => XvFieldAddr P 38 0 (S.get 2) (fun r0 ef0 => XvLoad P 22 (M S.hp S.nx) r0 (fun r1 ef1 => XvFieldAddr P 47 0 (S.get 3) (fun r2 ef2 => XvLoad P 22 (M S.hp S.nx) r2 (fun r3 ef3 => XvIndexAddr P 22 r3 (.atom (.int .i64 0)) (fun r4 ef4 => XvLoad P 3 (M S.hp S.nx) r4 (fun r5 ef5 => XvIndexAddr P 22 r1 r5 (fun r6 ef6 => XvLoad P 3 (M S.hp S.nx) r6 (fun r7 ef7 => (trOk S.nx GD [⟨S.nx, 0, ef0.rd, [], []⟩, ⟨S.nx, 0, ef1.rd, [], []⟩, ⟨S.nx, 0, ef2.rd, [], []⟩, ⟨S.nx, 0, ef3.rd, [], []⟩, ⟨S.nx, 0, ef4.rd, [], []⟩, ⟨S.nx, 0, ef5.rd, [], []⟩, ⟨S.nx, 0, ef6.rd, [], []⟩, ⟨S.nx, 0, ef7.rd, [], []⟩, ⟨S.nx, 0, [], [], []⟩] = true ∧ K ⟨[(3, S.get 3), (8, r7)], S.hp, S.nx, S.gh⟩)))))))))) fun K hK => ?_
      repeat' (first | (refine hK _ ?_; clear hK K) | (refine (?_ : trOk _ _ _ = true); kernel_rfl) | refine And.intro ?_ ?_ | exact cl | (refine st ?_; try simp only [encC, encCert, pairs, getD_encI (show 0 < x.some.length by omega), getD_encI (show (li x.some 0).toNat < c.sizes.length by omega)]) | simp only [encC, encCert, pairs, getD_encI (show 0 < x.some.length by omega), getD_encI (show (li x.some 0).toNat < c.sizes.length by omega)])
      all_goals
      refine Tri.seq ?_
      refine sZ [8, 74] (fun P S K => XvBinOV P .lss 3 (.const (.int .i64 0)) (S.get 8) (.atom (.int .i64 0)) (fun r1 _ => Xgq r1 false (fun k => k (S.get 8)) (fun g3 r3 => Xgq g3 false (fun k => XvFieldAddr P 47 2 (S.get 3) (fun r4 _ => k r4)) (fun g4 r4 => Xgq g4 false (fun k => XvLoad P 3 (M S.hp S.nx) r4 (fun r5 _ => k r5)) (fun g5 r5 => Xgq g5 false (fun k => XvBinOV P .neq 3 (.tmp 72) r3 r5 (fun r6 _ => k r6)) (fun g6 r6 => XvPick g6 (.atom (.bool true)) r6 (fun r7 _ => K ⟨[(8, S.get 8), (74, r7)], S.hp, S.nx, S.gh⟩))))))) fun K hK => ?_
      repeat' (first | (refine hK _ ?_; clear hK K) | ((first | refine xG_intro (fun hg => ?_) (fun hg => ?_) | refine fun (hg : (_ : Prop)) => ?_) <;> ((try simp only [BQ, List.length_map] at hg); try (cases hg; done); try (exfalso; omega))) | refine And.intro ?_ ?_ | exact cl | refine one_take ?_ _ | refine one_drop ?_ _ | (refine st ?_; try simp only [encC, encCert, pairs, ↓SE]) | simp only [encC, encCert, pairs, ↓SE])
      all_goals
      refine Tri.cond rfl (fun h74 => ?_) (fun h74 => ?_)
      ·try (cases h74; done)
       all_goals (try simp only [CQ] at h74)
       all_goals
       refine sY [4, 5] (fun P S K => K ⟨[(4, (.atom (.int .i64 0))), (5, (.atom (.int .i64 17)))], S.hp, S.nx, S.gh⟩) ?_
       all_goals
       refine Tri.ret ?_
       show ResOk _ _ _ _
       first
       | (have hne : valS c x ≠ x.least := by omega
          rw [(bound_least hv hne).1, (bound_least hv hne).2]
          exact ResOk.val lsrB38 lpvB38)
       | (have hw : wrongX c x = true := wrong_c (by omega) (by omega)
          rw [(bound_wrong hv hw).1, (bound_wrong hv hw).2]
          exact ResOk.val lsrB38 lpvB38)
      ·try (cases h74; done)
       all_goals (try simp only [CQ] at h74)
       all_goals
       refine Tri.skip ?_
       refine sY [4, 5] (fun P S K => K ⟨[(4, (S.get 8)), (5, (.atom (.int .i64 0)))], S.hp, S.nx, S.gh⟩) ?_
       all_goals
       refine Tri.ret ?_
       show ResOk _ _ _ _
       have heq : valS c x = x.least := by omega
       have hok : ¬ wrongX c x = true := wrong_no hA hB (by omega)
       rw [(bound_ok hv hok heq).1, (bound_ok hv hok heq).2, hve]
       exact ResOk.val lsrB38 lpvB38
     ·try (cases h58; done)
      all_goals (try simp only [CQ] at h58)
      all_goals
      refine Tri.skip ?_
      refine Tri.seq ?_
      refine sZ [8, 74] (fun P S K => XvBinOV P .lss 3 (.const (.int .i64 0)) (S.get 8) (.atom (.int .i64 0)) (fun r1 _ => Xgq r1 false (fun k => k (S.get 8)) (fun g3 r3 => Xgq g3 false (fun k => XvFieldAddr P 47 2 (S.get 3) (fun r4 _ => k r4)) (fun g4 r4 => Xgq g4 false (fun k => XvLoad P 3 (M S.hp S.nx) r4 (fun r5 _ => k r5)) (fun g5 r5 => Xgq g5 false (fun k => XvBinOV P .neq 3 (.tmp 72) r3 r5 (fun r6 _ => k r6)) (fun g6 r6 => XvPick g6 (.atom (.bool true)) r6 (fun r7 _ => K ⟨[(8, S.get 8), (74, r7)], S.hp, S.nx, S.gh⟩))))))) fun K hK => ?_
      repeat' (first | (refine hK _ ?_; clear hK K) | ((first | refine xG_intro (fun hg => ?_) (fun hg => ?_) | refine fun (hg : (_ : Prop)) => ?_) <;> ((try simp only [BQ, List.length_map] at hg); try (cases hg; done); try (exfalso; omega))) | refine And.intro ?_ ?_ | exact cl | refine one_take ?_ _ | refine one_drop ?_ _ | (refine st ?_; try simp only [encC, encCert, pairs, ↓SE]) | simp only [encC, encCert, pairs, ↓SE])
      all_goals
      refine Tri.cond rfl (fun h74 => ?_) (fun h74 => ?_)
      ·try (cases h74; done)
       all_goals (try simp only [CQ] at h74)
       all_goals
       refine sY [4, 5] (fun P S K => K ⟨[(4, (.atom (.int .i64 0))), (5, (.atom (.int .i64 17)))], S.hp, S.nx, S.gh⟩) ?_
       all_goals
       refine Tri.ret ?_
       show ResOk _ _ _ _
       first
       | (have hne : valS c x ≠ x.least := by omega
          rw [(bound_least hv hne).1, (bound_least hv hne).2]
          exact ResOk.val lsrB38 lpvB38)
       | (have hw : wrongX c x = true := wrong_c (by omega) (by omega)
          rw [(bound_wrong hv hw).1, (bound_wrong hv hw).2]
          exact ResOk.val lsrB38 lpvB38)
      ·try (cases h74; done)
       all_goals (try simp only [CQ] at h74)
       all_goals
       refine Tri.skip ?_
       refine sY [4, 5] (fun P S K => K ⟨[(4, (S.get 8)), (5, (.atom (.int .i64 0)))], S.hp, S.nx, S.gh⟩) ?_
       all_goals
       refine Tri.ret ?_
       show ResOk _ _ _ _
       have heq : valS c x = x.least := by omega
       have hok : ¬ wrongX c x = true := wrong_no hA hB (by omega)
       rw [(bound_ok hv hok heq).1, (bound_ok hv hok heq).2, hve]
       exact ResOk.val lsrB38 lpvB38
theorem aCheck_pure (c : CaseD) (ps : List (Int × Int)) (x : CertD) (hc : Held c) (hps : ps.length ≤ 1000000) (hx : Sane x) : Pure Try.prog 31 [encC c, pairs ps, encCert x] (.tup [encI (checkN c ps x), encI (checkE c ps x)]) [] := by
  refine Pure.intro (ts := [6, 7]) Try.func31 (by kernel_rfl) rfl rfl rfl (Nat.le_of_ble_eq_true rfl) ?_ ?_
  · simp [pure_case, pure_cert, pure_pairs, encI, PV.pure, pureL]
  refine sZ [1, 3, 5] (fun P S K => XvBox S.nx (S.get 0) (fun r0 ef0 => XvBox (S.nx + ef0.add.length) (S.get 2) (fun r1 ef1 => K ⟨[(1, S.get 1), (3, r0), (5, r1)], (Eff.hp ef1 (S.nx + ef0.add.length) (Eff.hp ef0 S.nx S.hp)), ((S.nx + ef0.add.length) + ef1.add.length), S.gh⟩))) fun K hK => ?_
  repeat' (first | (refine hK _ ?_; clear hK K) | refine And.intro ?_ ?_ | exact cl | (refine st ?_; try simp only [encC, encCert, pairs]) | simp only [encC, encCert, pairs])
  all_goals
  refine sZ [3, 5, 8, 9] (fun P S K => XvLoad P 38 (M S.hp S.nx) (S.get 3) (fun r0 _ => XvFnIV P (M S.hp S.nx) (.fn 18 []) [r0, (S.get 1)] (fun r2 ef2 => XvExtract r2 0 (fun r4 _ => XvExtract r2 1 (fun r5 _ => K ⟨[(3, S.get 3), (5, S.get 5), (8, r4), (9, r5)], (Eff.hp ef2 S.nx S.hp), (S.nx + ef2.add.length), S.gh⟩))))) fun K hK => ?_
  repeat' (first | (refine hK _ ?_; clear hK K) | refine And.intro ?_ ?_ | exact cl | refine .inl ⟨_, _, aLoads_pure c ps hc hps, ?_⟩ | refine .inl ⟨_, _, hMax, ?_⟩ | (refine st ?_; try simp only [encC, encCert, pairs]) | simp only [encC, encCert, pairs])
  all_goals
  refine Tri.seq ?_
  refine sY [3, 5, 8, 9, 18] (fun P S K => XvBinOV P .neq 32 (.const (.int .i64 0)) (S.get 9) (.atom (.int .i64 0)) (fun r1 _ => K ⟨[(3, S.get 3), (5, S.get 5), (8, S.get 8), (9, S.get 9), (18, r1)], S.hp, S.nx, S.gh⟩)) ?_
  all_goals
  refine Tri.cond rfl (fun h18 => ?_) (fun h18 => ?_)
  ·try (cases h18; done)
   all_goals (try simp only [CQ] at h18)
   all_goals
   refine sY [6, 7] (fun P S K => K ⟨[(6, (.atom (.int .i64 0))), (7, (S.get 9))], S.hp, S.nx, S.gh⟩) ?_
   all_goals
   refine Tri.ret ?_
   show ResOk _ _ _ _
   have hb : loadsE c ps ≠ 0 := by omega
   rw [(check_bad (x := x) hb).1, (check_bad (x := x) hb).2]
   exact ResOk.val lsrB38 lpvB38
  ·try (cases h18; done)
   all_goals (try simp only [CQ] at h18)
   all_goals
   refine Tri.skip ?_
   have hl : loadsE c ps = 0 := by omega
   have hG := valid_good (loads_valid hl)
   have hlo := hG.lo
   have hhi := hG.hi
   have hgr := greatest_rng hG hps
   have hbr := boundN_rng c x hx
   have hrl : (loadsR c ps).length = c.people.toNat := by unfold loadsR; rw [if_pos hl, loadsG_len]
   have hMax := Max_pure (loadsR c ps) (by omega) (by omega)
   rw [maxFrom_all (by omega) (fun x hx => (loadsR_mem hG hps x hx).1)] at hMax
   refine sZ [8, 9, 10] (fun P S K => XvLoad P 38 (M S.hp S.nx) (S.get 3) (fun r0 _ => XvLoad P 47 (M S.hp S.nx) (S.get 5) (fun r1 _ => XvFnIV P (M S.hp S.nx) (.fn 28 []) [r0, r1] (fun r2 ef2 => XvExtract r2 0 (fun r4 _ => XvExtract r2 1 (fun r5 _ => K ⟨[(8, S.get 8), (9, r5), (10, r4)], (Eff.hp ef2 S.nx S.hp), (S.nx + ef2.add.length), S.gh⟩)))))) fun K hK => ?_
   repeat' (first | (refine hK _ ?_; clear hK K) | refine And.intro ?_ ?_ | exact cl | refine .inl ⟨_, _, aBound_pure c x hc hx, ?_⟩ | refine .inl ⟨_, _, hMax, ?_⟩ | (refine st ?_; try simp only [encC, encCert, pairs]) | simp only [encC, encCert, pairs])
   all_goals
   refine Tri.seq ?_
   refine sY [8, 9, 10, 27] (fun P S K => XvBinOV P .neq 32 (.const (.int .i64 0)) (S.get 9) (.atom (.int .i64 0)) (fun r1 _ => K ⟨[(8, S.get 8), (9, S.get 9), (10, S.get 10), (27, r1)], S.hp, S.nx, S.gh⟩)) ?_
   all_goals
   refine Tri.cond rfl (fun h27 => ?_) (fun h27 => ?_)
   ·try (cases h27; done)
    all_goals (try simp only [CQ] at h27)
    all_goals
    refine sY [6, 7] (fun P S K => K ⟨[(6, (.atom (.int .i64 0))), (7, (S.get 9))], S.hp, S.nx, S.gh⟩) ?_
    all_goals
    refine Tri.ret ?_
    show ResOk _ _ _ _
    have hb : boundE c x ≠ 0 := by omega
    rw [(check_bound (x := x) hl hb).1, (check_bound (x := x) hl hb).2]
    exact ResOk.val lsrB38 lpvB38
   ·try (cases h27; done)
    all_goals (try simp only [CQ] at h27)
    all_goals
    refine Tri.skip ?_
    refine sZ [6, 7] (fun P S K => XvFnIV P (M S.hp S.nx) (.fn 52 []) [(S.get 8)] (fun r1 ef1 => XvBinOV P .sub 3 (.tmp 31) r1 (S.get 10) (fun r3 _ => K ⟨[(6, r3), (7, (.atom (.int .i64 0)))], (Eff.hp ef1 S.nx S.hp), (S.nx + ef1.add.length), S.gh⟩))) fun K hK => ?_
    repeat' (first | (refine hK _ ?_; clear hK K) | refine And.intro ?_ ?_ | exact cl | refine .inl ⟨_, _, hMax, ?_⟩ | (refine st ?_; try simp only [encC, encCert, pairs]) | simp only [encC, encCert, pairs])
    all_goals try simp (disch := omega) only [wrap_id, wrap8_id]
    all_goals
    refine Tri.ret ?_
    show ResOk _ _ _ _
    have hb : boundE c x = 0 := by omega
    rw [(check_ok (x := x) hl hb).1, (check_ok (x := x) hl hb).2]
    exact ResOk.val lsrB38 lpvB38
end Go.Proofs.Ytcdeilgijleoaaa
