/-
  Walks: Bent of the reference model.
-/
import Derived.Test.YtcdeilgijleoaaaQVR
import Derived.Test.YtcdeilgijleoaaaQB17
set_option linter.all false
namespace Go.Proofs.Ytcdeilgijleoaaa
open Go Go.RowKit
set_option linter.unusedSimpArgs false
set_option linter.unusedVariables false
set_option maxRecDepth 20000
set_option maxHeartbeats 1000000
theorem lstB18 {p : Prop} (h : p := by (first | rfl | (simp [St.born, St.known, retV, St.get, St.obj, lk, sealed, PV.ren, renL, rmap, AO.ren, ints, strs, encI, encS, map_sealed_encI, map_sealed_encS, map_sealed_ints, map_sealed_strs, map_ren_encI, map_ren_encS, map_ren_ints, map_ren_strs, renL_encI, renL_encS, renL_ints, renL_strs, pairs, renL_encP, map_sealed_encP, map_ren_encP, encP, take_map_len, take_map_len, List.take_length]; done)); first | done | fail) : p := h
theorem lpvB18 {p : Prop} (h : p := by (first | rfl | (simp [pure_ints, pure_strs, PV.pure, pureL, pureL_encI, pureL_encS, pureL_ints, pureL_strs, pureL_encP, pure_pairs]; done)); first | done | fail) : p := h
def beK (l : List (Int × Int)) (by_ : Int) : Int := around by_ l.length
def beN (by_ : Int) : Int := around (by_.tdiv 4) 8 - 1
def bentP (l : List (Int × Int)) (how by_ : Int) : List (Int × Int) :=
  if l = [] then [(0, 1)]
  else if around how 5 = 0 then l.set (beK l by_).toNat (beN by_, (lp l (beK l by_).toNat).2)
  else if around how 5 = 1 then l.set (beK l by_).toNat ((lp l (beK l by_).toNat).1, beN by_)
  else if around how 5 = 2 then l.set (beK l by_).toNat ((lp l (beK l by_).toNat).2, (lp l (beK l by_).toNat).1)
  else if around how 5 = 3 then l ++ [lp l (beK l by_).toNat]
  else l.drop 1
theorem bent_nil {l : List (Int × Int)} {how by_ : Int} (h : l = []) : bentP l how by_ = [(0, 1)] := if_pos h
theorem bent_0 {l : List (Int × Int)} {how by_ : Int} (h : ¬ l = []) (h0 : around how 5 = 0) : bentP l how by_ = l.set (beK l by_).toNat (beN by_, (lp l (beK l by_).toNat).2) := by unfold bentP; simp [h, h0]
theorem bent_1 {l : List (Int × Int)} {how by_ : Int} (h : ¬ l = []) (h0 : around how 5 = 1) : bentP l how by_ = l.set (beK l by_).toNat ((lp l (beK l by_).toNat).1, beN by_) := by unfold bentP; simp [h, h0]
theorem bent_2 {l : List (Int × Int)} {how by_ : Int} (h : ¬ l = []) (h0 : around how 5 = 2) : bentP l how by_ = l.set (beK l by_).toNat ((lp l (beK l by_).toNat).2, (lp l (beK l by_).toNat).1) := by unfold bentP; simp [h, h0]
theorem bent_3 {l : List (Int × Int)} {how by_ : Int} (h : ¬ l = []) (h0 : around how 5 = 3) : bentP l how by_ = l ++ [lp l (beK l by_).toNat] := by unfold bentP; simp [h, h0]
theorem bent_4 {l : List (Int × Int)} {how by_ : Int} (h : ¬ l = []) (h0 : ¬ around how 5 = 0) (h1 : ¬ around how 5 = 1) (h2 : ¬ around how 5 = 2) (h3 : ¬ around how 5 = 3) : bentP l how by_ = l.drop 1 := by unfold bentP; simp [h, h0, h1, h2, h3]
theorem Bent_pure (l : List (Int × Int)) (how by_ : Int) (hl : l.length ≤ 1000) (hh : I64 how) (hb : I64 by_) : Pure Try.prog 14 [pairs l, encI how, encI by_] (pairs (bentP l how by_)) [] := by
  have h80 := around_lo (n := by_.tdiv 4) (most := 8) (by decide)
  have h81 := around_hi (n := by_.tdiv 4) (most := 8) (by decide)
  have hq : I64 (by_.tdiv 4) := tdiv_I64 hb (by decide)
  have hNe : around (by_.tdiv 4) 8 - 1 = beN by_ := rfl
  have hKe : around by_ l.length = beK l by_ := rfl
  refine Pure.intro (ts := [6]) Try.func14 (by kernel_rfl) rfl rfl rfl (Nat.le_of_ble_eq_true rfl) ?_ ?_
  · simp [pure_pairs, encI, PV.pure, pureL]
  refine sZ [0, 1, 2] (fun P S K => K ⟨[(0, S.get 0), (1, S.get 1), (2, S.get 2)], S.hp, S.nx, S.gh⟩) fun K hK => ?_
  repeat' (first | (refine hK _ ?_; clear hK K) | ((first | refine xG_intro (fun hg => ?_) (fun hg => ?_) | refine fun (hg : (_ : Prop)) => ?_) <;> ((try simp only [BQ] at hg); try (exfalso; omega))) | refine And.intro ?_ ?_ | exact cl | exact one_encP _ | refine one_take ?_ _ | refine one_drop ?_ _ | (refine st ?_; try simp only [pairs]) | simp only [pairs])
  all_goals
  refine sZ [1, 2, 7] (fun P S K => XvBuildS P 23 0 S.nx [] (fun r0 ef0 => (23 = 23 ∧ XvAppend P 23 (M (Eff.hp ef0 S.nx S.hp) (S.nx + ef0.add.length)) r0 (S.get 0) (fun r2 ef2 => K ⟨[(1, S.get 1), (2, S.get 2), (7, r2)], (Eff.hp ef2 (S.nx + ef0.add.length) (Eff.hp ef0 S.nx S.hp)), ((S.nx + ef0.add.length) + ef2.add.length), S.gh⟩)))) fun K hK => ?_
  repeat' (first | (refine hK _ ?_; clear hK K) | ((first | refine xG_intro (fun hg => ?_) (fun hg => ?_) | refine fun (hg : (_ : Prop)) => ?_) <;> ((try simp only [BQ] at hg); try (exfalso; omega))) | refine And.intro ?_ ?_ | exact cl | exact one_encP _ | refine one_take ?_ _ | refine one_drop ?_ _ | (refine st ?_; try simp only [pairs]) | simp only [pairs])
  all_goals
  refine Tri.seq ?_
  refine sZ [1, 2, 7, 15] (fun P S K => XvLen P 23 (S.get 7) (fun r1 _ => XvBinOV P .eql 3 (.const (.int .i64 0)) r1 (.atom (.int .i64 0)) (fun r2 _ => K ⟨[(1, S.get 1), (2, S.get 2), (7, S.get 7), (15, r2)], S.hp, S.nx, S.gh⟩))) fun K hK => ?_
  repeat' (first | (refine hK _ ?_; clear hK K) | ((first | refine xG_intro (fun hg => ?_) (fun hg => ?_) | refine fun (hg : (_ : Prop)) => ?_) <;> ((try simp only [BQ] at hg); try (exfalso; omega))) | refine And.intro ?_ ?_ | exact cl | exact one_encP _ | refine one_take ?_ _ | refine one_drop ?_ _ | (refine st ?_; try simp only [pairs]) | simp only [pairs])
  all_goals
  refine Tri.cond rfl (fun h15 => ?_) (fun h15 => ?_)
  ·try (cases h15; done)
   all_goals (try simp only [CQ] at h15)
   all_goals
   refine sZ [6] (fun P S K => XvBuild P 67 [(0, (.atom (.int .i64 0))), (1, (.atom (.int .i64 1)))] (fun r1 _ => XvBuildS P 23 1 S.nx [(0, r1)] (fun r2 ef2 => (23 = 23 ∧ XvAppend P 23 (M (Eff.hp ef2 S.nx S.hp) (S.nx + ef2.add.length)) (S.get 7) r2 (fun r3 ef3 => K ⟨[(6, r3)], (Eff.hp ef3 (S.nx + ef2.add.length) (Eff.hp ef2 S.nx S.hp)), ((S.nx + ef2.add.length) + ef3.add.length), S.gh⟩))))) fun K hK => ?_
   repeat' (first | (refine hK _ ?_; clear hK K) | ((first | refine xG_intro (fun hg => ?_) (fun hg => ?_) | refine fun (hg : (_ : Prop)) => ?_) <;> ((try simp only [BQ] at hg); try (exfalso; omega))) | refine And.intro ?_ ?_ | exact cl | exact one_encP _ | refine one_take ?_ _ | refine one_drop ?_ _ | (refine st ?_; try simp only [pairs]) | simp only [pairs])
   all_goals
   refine Tri.ret ?_
   show ResOk _ _ _ _
   rw [bent_nil (List.eq_nil_of_length_eq_zero (by omega))]
   obtain rfl : l = [] := List.eq_nil_of_length_eq_zero (by omega)
   exact ResOk.frz 5 lstB18 lpvB18
  ·try (cases h15; done)
   all_goals (try simp only [CQ] at h15)
   all_goals
   refine Tri.skip ?_
   have hne : ¬ l = [] := fun e => by subst e; simp_all
   have hlp : 0 < l.length := Nat.pos_of_ne_zero fun e => hne (List.eq_nil_of_length_eq_zero e)
   have hk0 : 0 ≤ beK l by_ := around_lo (by omega)
   have hk1 : beK l by_ < l.length := around_hi (by omega)
   refine sZ [1, 2, 7, 8] (fun P S K => XvLen P 23 (S.get 7) (fun r2 _ => XvFnIV P (M S.hp S.nx) (.fn 35 []) [(S.get 2), r2] (fun r3 ef3 => K ⟨[(1, S.get 1), (2, S.get 2), (7, S.get 7), (8, r3)], (Eff.hp ef3 S.nx S.hp), (S.nx + ef3.add.length), S.gh⟩))) fun K hK => ?_
   repeat' (first | (refine hK _ ?_; clear hK K) | ((first | refine xG_intro (fun hg => ?_) (fun hg => ?_) | refine fun (hg : (_ : Prop)) => ?_) <;> ((try simp only [BQ] at hg); try (exfalso; omega))) | refine And.intro ?_ ?_ | exact cl | exact one_encP _ | refine one_take ?_ _ | refine one_drop ?_ _ | refine .inl ⟨_, _, Around_pure by_ l.length hb (by omega), ?_⟩ | refine ⟨_, _, Around_pure by_ l.length hb (by omega), ?_⟩ | refine .inl ⟨_, _, Around_pure (by_.tdiv 4) 8 hq (by decide), ?_⟩ | refine ⟨_, _, Around_pure (by_.tdiv 4) 8 hq (by decide), ?_⟩ | refine .inl ⟨_, _, Around_pure how 5 hh (by decide), ?_⟩ | refine ⟨_, _, Around_pure how 5 hh (by decide), ?_⟩ | (refine st ?_; try simp only [pairs]) | simp only [pairs])
   rw [hKe]
   all_goals
   refine sZ [1, 7, 8, 9] (fun P S K => XvBinOV P .quo 3 (.const (.int .i64 4)) (S.get 2) (.atom (.int .i64 4)) (fun r1 _ => XvFnIV P (M S.hp S.nx) (.fn 35 []) [r1, (.atom (.int .i64 8))] (fun r2 ef2 => XvBinOV P .sub 3 (.const (.int .i64 1)) r2 (.atom (.int .i64 1)) (fun r3 _ => K ⟨[(1, S.get 1), (7, S.get 7), (8, S.get 8), (9, r3)], (Eff.hp ef2 S.nx S.hp), (S.nx + ef2.add.length), S.gh⟩)))) fun K hK => ?_
   repeat' (first | (refine hK _ ?_; clear hK K) | ((first | refine xG_intro (fun hg => ?_) (fun hg => ?_) | refine fun (hg : (_ : Prop)) => ?_) <;> ((try simp only [BQ] at hg); try (exfalso; omega))) | refine And.intro ?_ ?_ | exact cl | exact one_encP _ | refine one_take ?_ _ | refine one_drop ?_ _ | refine .inl ⟨_, _, Around_pure by_ l.length hb (by omega), ?_⟩ | refine ⟨_, _, Around_pure by_ l.length hb (by omega), ?_⟩ | refine .inl ⟨_, _, Around_pure (by_.tdiv 4) 8 hq (by decide), ?_⟩ | refine ⟨_, _, Around_pure (by_.tdiv 4) 8 hq (by decide), ?_⟩ | refine .inl ⟨_, _, Around_pure how 5 hh (by decide), ?_⟩ | refine ⟨_, _, Around_pure how 5 hh (by decide), ?_⟩ | (refine st ?_; try simp only [pairs, wrap_id hq.1 hq.2]) | simp only [pairs, wrap_id hq.1 hq.2])
   all_goals try simp (disch := omega) only [wrap_id, wrap8_id]
   rw [hNe]
   have hkl : (beK l by_).toNat < l.length := by omega
   all_goals
   refine Tri.seq ?_
   refine sZ [7, 8, 9, 29] (fun P S K => XvFnIV P (M S.hp S.nx) (.fn 35 []) [(S.get 1), (.atom (.int .i64 5))] (fun r1 ef1 => K ⟨[(7, S.get 7), (8, S.get 8), (9, S.get 9), (29, r1)], (Eff.hp ef1 S.nx S.hp), (S.nx + ef1.add.length), S.gh⟩)) fun K hK => ?_
   repeat' (first | (refine hK _ ?_; clear hK K) | ((first | refine xG_intro (fun hg => ?_) (fun hg => ?_) | refine fun (hg : (_ : Prop)) => ?_) <;> ((try simp only [BQ] at hg); try (exfalso; omega))) | refine And.intro ?_ ?_ | exact cl | exact one_encP _ | refine one_take ?_ _ | refine one_drop ?_ _ | refine .inl ⟨_, _, Around_pure by_ l.length hb (by omega), ?_⟩ | refine ⟨_, _, Around_pure by_ l.length hb (by omega), ?_⟩ | refine .inl ⟨_, _, Around_pure (by_.tdiv 4) 8 hq (by decide), ?_⟩ | refine ⟨_, _, Around_pure (by_.tdiv 4) 8 hq (by decide), ?_⟩ | refine .inl ⟨_, _, Around_pure how 5 hh (by decide), ?_⟩ | refine ⟨_, _, Around_pure how 5 hh (by decide), ?_⟩ | (refine st ?_; try simp only [pairs]) | simp only [pairs])
   all_goals
   refine Tri.block ?_
   refine sZ [7, 8, 9, 29, 32] (fun P S K => XvBinOV P .eql 3 (.const (.int .i64 0)) (S.get 29) (.atom (.int .i64 0)) (fun r0 _ => K ⟨[(7, S.get 7), (8, S.get 8), (9, S.get 9), (29, S.get 29), (32, r0)], S.hp, S.nx, S.gh⟩)) fun K hK => ?_
   repeat' (first | (refine hK _ ?_; clear hK K) | ((first | refine xG_intro (fun hg => ?_) (fun hg => ?_) | refine fun (hg : (_ : Prop)) => ?_) <;> ((try simp only [BQ] at hg); try (exfalso; omega))) | refine And.intro ?_ ?_ | exact cl | exact one_encP _ | refine one_take ?_ _ | refine one_drop ?_ _ | (refine st ?_; try simp only [pairs]) | simp only [pairs])
   all_goals
   refine Tri.cond rfl (fun h32 => ?_) (fun h32 => ?_)
   ·try (cases h32; done)
    all_goals (try simp only [CQ] at h32)
    all_goals
    refine rZ [7] (fun P S K => XvIndexAddr P 23 (S.get 7) (S.get 8) (fun r3 _ => XvIndexAddr P 67 r3 (.atom (.int .i64 0)) (fun r4 _ => XvStore P 3 (M S.hp S.nx) r4 (S.get 9) (fun r5 ef5 => K ⟨[(7, S.get 7)], (Eff.hp ef5 S.nx S.hp), (S.nx + ef5.add.length), S.gh⟩)))) fun K hK => ?_
    repeat' (first | (refine hK _ ?_; clear hK K) | ((first | refine xG_intro (fun hg => ?_) (fun hg => ?_) | refine fun (hg : (_ : Prop)) => ?_) <;> ((try simp only [BQ] at hg); try (exfalso; omega))) | refine And.intro ?_ ?_ | exact cl | exact one_encP _ | refine one_take ?_ _ | refine one_drop ?_ _ | (refine st ?_; try simp only [pairs, getD_encP hkl, encP]) | simp only [pairs, getD_encP hkl, encP])
    all_goals
    refine sZ [6] (fun P S K => K ⟨[(6, (S.get 7))], S.hp, S.nx, S.gh⟩) fun K hK => ?_
    repeat' (first | (refine hK _ ?_; clear hK K) | ((first | refine xG_intro (fun hg => ?_) (fun hg => ?_) | refine fun (hg : (_ : Prop)) => ?_) <;> ((try simp only [BQ] at hg); try (exfalso; omega))) | refine And.intro ?_ ?_ | exact cl | exact one_encP _ | refine one_take ?_ _ | refine one_drop ?_ _ | (refine st ?_; try simp only [pairs]) | simp only [pairs])
    all_goals
    refine Tri.ret ?_
    show ResOk _ _ _ _
    first
      | rw [bent_0 hne (by assumption)]
      | rw [bent_1 hne (by assumption)]
      | rw [bent_2 hne (by assumption)]
      | rw [bent_3 hne (by assumption)]
      | rw [bent_4 hne (by assumption) (by assumption) (by assumption) (by assumption)]
    refine ResOk.frz 5 ?_ (pure_pairs _)
    first
      | (simp [-List.map_map, sealed, retV, St.get, St.obj, lk, pairs, map_sealed_encP, take_map_len, encP, encI, List.take_of_length_le]; done)
      | (simp [sealed, retV, St.get, St.obj, lk, pairs, encP, encI, List.take_of_length_le, List.map_set, PV.ren, renL]; done)
      | (obtain ⟨x, r, rfl⟩ := List.exists_cons_of_ne_nil hne; simp [-List.map_map, sealed, retV, St.get, St.obj, lk, pairs, map_sealed_encP, take_map_len, Nat.add_comm 1]; done)
      | (obtain ⟨x, r, rfl⟩ := List.exists_cons_of_ne_nil hne
         obtain rfl : r = [] := List.eq_nil_of_length_eq_zero (by simp only [List.length_cons] at *; omega)
         rfl)
   ·try (cases h32; done)
    all_goals (try simp only [CQ] at h32)
    all_goals
    refine sZ [7, 8, 9, 29, 39] (fun P S K => XvBinOV P .eql 3 (.const (.int .i64 1)) (S.get 29) (.atom (.int .i64 1)) (fun r0 _ => K ⟨[(7, S.get 7), (8, S.get 8), (9, S.get 9), (29, S.get 29), (39, r0)], S.hp, S.nx, S.gh⟩)) fun K hK => ?_
    repeat' (first | (refine hK _ ?_; clear hK K) | ((first | refine xG_intro (fun hg => ?_) (fun hg => ?_) | refine fun (hg : (_ : Prop)) => ?_) <;> ((try simp only [BQ] at hg); try (exfalso; omega))) | refine And.intro ?_ ?_ | exact cl | exact one_encP _ | refine one_take ?_ _ | refine one_drop ?_ _ | (refine st ?_; try simp only [pairs]) | simp only [pairs])
    all_goals
    refine Tri.cond rfl (fun h39 => ?_) (fun h39 => ?_)
    ·try (cases h39; done)
     all_goals (try simp only [CQ] at h39)
     all_goals
     refine rZ [7] (fun P S K => XvIndexAddr P 23 (S.get 7) (S.get 8) (fun r3 _ => XvIndexAddr P 67 r3 (.atom (.int .i64 1)) (fun r4 _ => XvStore P 3 (M S.hp S.nx) r4 (S.get 9) (fun r5 ef5 => K ⟨[(7, S.get 7)], (Eff.hp ef5 S.nx S.hp), (S.nx + ef5.add.length), S.gh⟩)))) fun K hK => ?_
     repeat' (first | (refine hK _ ?_; clear hK K) | ((first | refine xG_intro (fun hg => ?_) (fun hg => ?_) | refine fun (hg : (_ : Prop)) => ?_) <;> ((try simp only [BQ] at hg); try (exfalso; omega))) | refine And.intro ?_ ?_ | exact cl | exact one_encP _ | refine one_take ?_ _ | refine one_drop ?_ _ | (refine st ?_; try simp only [pairs, getD_encP hkl, encP]) | simp only [pairs, getD_encP hkl, encP])
     all_goals
     refine sZ [6] (fun P S K => K ⟨[(6, (S.get 7))], S.hp, S.nx, S.gh⟩) fun K hK => ?_
     repeat' (first | (refine hK _ ?_; clear hK K) | ((first | refine xG_intro (fun hg => ?_) (fun hg => ?_) | refine fun (hg : (_ : Prop)) => ?_) <;> ((try simp only [BQ] at hg); try (exfalso; omega))) | refine And.intro ?_ ?_ | exact cl | exact one_encP _ | refine one_take ?_ _ | refine one_drop ?_ _ | (refine st ?_; try simp only [pairs]) | simp only [pairs])
     all_goals
     refine Tri.ret ?_
     show ResOk _ _ _ _
     first
       | rw [bent_0 hne (by assumption)]
       | rw [bent_1 hne (by assumption)]
       | rw [bent_2 hne (by assumption)]
       | rw [bent_3 hne (by assumption)]
       | rw [bent_4 hne (by assumption) (by assumption) (by assumption) (by assumption)]
     refine ResOk.frz 5 ?_ (pure_pairs _)
     first
       | (simp [-List.map_map, sealed, retV, St.get, St.obj, lk, pairs, map_sealed_encP, take_map_len, encP, encI, List.take_of_length_le]; done)
       | (simp [sealed, retV, St.get, St.obj, lk, pairs, encP, encI, List.take_of_length_le, List.map_set, PV.ren, renL]; done)
       | (obtain ⟨x, r, rfl⟩ := List.exists_cons_of_ne_nil hne; simp [-List.map_map, sealed, retV, St.get, St.obj, lk, pairs, map_sealed_encP, take_map_len, Nat.add_comm 1]; done)
       | (obtain ⟨x, r, rfl⟩ := List.exists_cons_of_ne_nil hne
          obtain rfl : r = [] := List.eq_nil_of_length_eq_zero (by simp only [List.length_cons] at *; omega)
          rfl)
    ·try (cases h39; done)
     all_goals (try simp only [CQ] at h39)
     all_goals
     refine sZ [7, 8, 29, 46] (fun P S K => XvBinOV P .eql 3 (.const (.int .i64 2)) (S.get 29) (.atom (.int .i64 2)) (fun r0 _ => K ⟨[(7, S.get 7), (8, S.get 8), (29, S.get 29), (46, r0)], S.hp, S.nx, S.gh⟩)) fun K hK => ?_
     repeat' (first | (refine hK _ ?_; clear hK K) | ((first | refine xG_intro (fun hg => ?_) (fun hg => ?_) | refine fun (hg : (_ : Prop)) => ?_) <;> ((try simp only [BQ] at hg); try (exfalso; omega))) | refine And.intro ?_ ?_ | exact cl | exact one_encP _ | refine one_take ?_ _ | refine one_drop ?_ _ | (refine st ?_; try simp only [pairs]) | simp only [pairs])
     all_goals
     refine Tri.cond rfl (fun h46 => ?_) (fun h46 => ?_)
     ·try (cases h46; done)
      all_goals (try simp only [CQ] at h46)
      all_goals
      refine rD 14 [7] (fun P GD S K => XvIndexAddr P 23 (S.get 7) (S.get 8) (fun r4 ef4 => XvIndexAddr P 67 r4 (.atom (.int .i64 1)) (fun r5 ef5 => XvLoad P 3 (M S.hp S.nx) r5 (fun r6 ef6 => XvIndexAddr P 23 (S.get 7) (S.get 8) (fun r9 ef9 => XvIndexAddr P 67 r9 (.atom (.int .i64 0)) (fun r10 ef10 => XvLoad P 3 (M S.hp S.nx) r10 (fun r11 ef11 => XvBuild P 67 [(0, r6), (1, r11)] (fun r12 ef12 => XvIndexAddr P 23 (S.get 7) (S.get 8) (fun r13 ef13 => (trOk S.nx GD [⟨S.nx, 0, [], [], []⟩, ⟨S.nx, 0, [], [], []⟩, ⟨S.nx, 0, [], [], []⟩, ⟨S.nx, 0, [], [], []⟩, ⟨S.nx, 0, ef4.rd, [], []⟩, ⟨S.nx, 0, ef5.rd, [], []⟩, ⟨S.nx, 0, ef6.rd, [], []⟩, ⟨S.nx, 0, [], [], []⟩, ⟨S.nx, 0, [], [], []⟩, ⟨S.nx, 0, ef9.rd, [], []⟩, ⟨S.nx, 0, ef10.rd, [], []⟩, ⟨S.nx, 0, ef11.rd, [], []⟩, ⟨S.nx, 0, ef12.rd, [], []⟩, ⟨S.nx, 0, ef13.rd, [], []⟩] = true ∧ XvStore P 67 (M S.hp S.nx) r13 r12 (fun r14 ef14 => K ⟨[(7, S.get 7)], (Eff.hp ef14 S.nx S.hp), (S.nx + ef14.add.length), S.gh⟩))))))))))) fun K hK => ?_
      repeat' (first | (refine hK _ ?_; clear hK K) | (refine (?_ : trOk _ _ _ = true); kernel_rfl) | ((first | refine xG_intro (fun hg => ?_) (fun hg => ?_) | refine fun (hg : (_ : Prop)) => ?_) <;> ((try simp only [BQ] at hg); try (exfalso; omega))) | refine And.intro ?_ ?_ | exact cl | exact one_encP _ | refine one_take ?_ _ | refine one_drop ?_ _ | (refine st ?_; try simp only [pairs, getD_encP hkl, encP]) | simp only [pairs, getD_encP hkl, encP])
      all_goals
      refine sZ [6] (fun P S K => K ⟨[(6, (S.get 7))], S.hp, S.nx, S.gh⟩) fun K hK => ?_
      repeat' (first | (refine hK _ ?_; clear hK K) | ((first | refine xG_intro (fun hg => ?_) (fun hg => ?_) | refine fun (hg : (_ : Prop)) => ?_) <;> ((try simp only [BQ] at hg); try (exfalso; omega))) | refine And.intro ?_ ?_ | exact cl | exact one_encP _ | refine one_take ?_ _ | refine one_drop ?_ _ | (refine st ?_; try simp only [pairs]) | simp only [pairs])
      all_goals
      refine Tri.ret ?_
      show ResOk _ _ _ _
      first
        | rw [bent_0 hne (by assumption)]
        | rw [bent_1 hne (by assumption)]
        | rw [bent_2 hne (by assumption)]
        | rw [bent_3 hne (by assumption)]
        | rw [bent_4 hne (by assumption) (by assumption) (by assumption) (by assumption)]
      refine ResOk.frz 5 ?_ (pure_pairs _)
      first
        | (simp [-List.map_map, sealed, retV, St.get, St.obj, lk, pairs, map_sealed_encP, take_map_len, encP, encI, List.take_of_length_le]; done)
        | (simp [sealed, retV, St.get, St.obj, lk, pairs, encP, encI, List.take_of_length_le, List.map_set, PV.ren, renL]; done)
        | (obtain ⟨x, r, rfl⟩ := List.exists_cons_of_ne_nil hne; simp [-List.map_map, sealed, retV, St.get, St.obj, lk, pairs, map_sealed_encP, take_map_len, Nat.add_comm 1]; done)
        | (obtain ⟨x, r, rfl⟩ := List.exists_cons_of_ne_nil hne
           obtain rfl : r = [] := List.eq_nil_of_length_eq_zero (by simp only [List.length_cons] at *; omega)
           rfl)
     ·try (cases h46; done)
      all_goals (try simp only [CQ] at h46)
      all_goals
      refine sZ [7, 8, 62] (fun P S K => XvBinOV P .eql 3 (.const (.int .i64 3)) (S.get 29) (.atom (.int .i64 3)) (fun r0 _ => K ⟨[(7, S.get 7), (8, S.get 8), (62, r0)], S.hp, S.nx, S.gh⟩)) fun K hK => ?_
      repeat' (first | (refine hK _ ?_; clear hK K) | ((first | refine xG_intro (fun hg => ?_) (fun hg => ?_) | refine fun (hg : (_ : Prop)) => ?_) <;> ((try simp only [BQ] at hg); try (exfalso; omega))) | refine And.intro ?_ ?_ | exact cl | exact one_encP _ | refine one_take ?_ _ | refine one_drop ?_ _ | (refine st ?_; try simp only [pairs]) | simp only [pairs])
      all_goals
      refine Tri.cond rfl (fun h62 => ?_) (fun h62 => ?_)
      ·try (cases h62; done)
       all_goals (try simp only [CQ] at h62)
       all_goals
       refine rZ [7] (fun P S K => XvIndexAddr P 23 (S.get 7) (S.get 8) (fun r3 _ => XvLoad P 67 (M S.hp S.nx) r3 (fun r4 _ => XvBuildS P 23 1 S.nx [(0, r4)] (fun r5 ef5 => (23 = 23 ∧ XvAppend P 23 (M (Eff.hp ef5 S.nx S.hp) (S.nx + ef5.add.length)) (S.get 7) r5 (fun r6 ef6 => K ⟨[(7, r6)], (Eff.hp ef6 (S.nx + ef5.add.length) (Eff.hp ef5 S.nx S.hp)), ((S.nx + ef5.add.length) + ef6.add.length), S.gh⟩)))))) fun K hK => ?_
       repeat' (first | (refine hK _ ?_; clear hK K) | ((first | refine xG_intro (fun hg => ?_) (fun hg => ?_) | refine fun (hg : (_ : Prop)) => ?_) <;> ((try simp only [BQ] at hg); try (exfalso; omega))) | refine And.intro ?_ ?_ | exact cl | exact one_encP _ | refine one_take ?_ _ | refine one_drop ?_ _ | (refine st ?_; try simp only [pairs, getD_encP hkl, encP]) | simp only [pairs, getD_encP hkl, encP])
       all_goals
       refine sZ [6] (fun P S K => K ⟨[(6, (S.get 7))], S.hp, S.nx, S.gh⟩) fun K hK => ?_
       repeat' (first | (refine hK _ ?_; clear hK K) | ((first | refine xG_intro (fun hg => ?_) (fun hg => ?_) | refine fun (hg : (_ : Prop)) => ?_) <;> ((try simp only [BQ] at hg); try (exfalso; omega))) | refine And.intro ?_ ?_ | exact cl | exact one_encP _ | refine one_take ?_ _ | refine one_drop ?_ _ | (refine st ?_; try simp only [pairs]) | simp only [pairs])
       all_goals
       refine Tri.ret ?_
       show ResOk _ _ _ _
       first
         | rw [bent_0 hne (by assumption)]
         | rw [bent_1 hne (by assumption)]
         | rw [bent_2 hne (by assumption)]
         | rw [bent_3 hne (by assumption)]
         | rw [bent_4 hne (by assumption) (by assumption) (by assumption) (by assumption)]
       refine ResOk.frz 5 ?_ (pure_pairs _)
       first
         | (simp [-List.map_map, sealed, retV, St.get, St.obj, lk, pairs, map_sealed_encP, take_map_len, encP, encI, List.take_of_length_le]; done)
         | (simp [sealed, retV, St.get, St.obj, lk, pairs, encP, encI, List.take_of_length_le, List.map_set, PV.ren, renL]; done)
         | (obtain ⟨x, r, rfl⟩ := List.exists_cons_of_ne_nil hne; simp [-List.map_map, sealed, retV, St.get, St.obj, lk, pairs, map_sealed_encP, take_map_len, Nat.add_comm 1]; done)
         | (obtain ⟨x, r, rfl⟩ := List.exists_cons_of_ne_nil hne
            obtain rfl : r = [] := List.eq_nil_of_length_eq_zero (by simp only [List.length_cons] at *; omega)
            rfl)
      ·try (cases h62; done)
       all_goals (try simp only [CQ] at h62)
       all_goals
       refine rZ [7] (fun P S K => XvSliceV P 23 (S.get 7) (some (.atom (.int .i64 1))) none (fun r1 _ => K ⟨[(7, r1)], S.hp, S.nx, S.gh⟩)) fun K hK => ?_
       repeat' (first | (refine hK _ ?_; clear hK K) | ((first | refine xG_intro (fun hg => ?_) (fun hg => ?_) | refine fun (hg : (_ : Prop)) => ?_) <;> ((try simp only [BQ] at hg); try (exfalso; omega))) | refine And.intro ?_ ?_ | exact cl | exact one_encP _ | refine one_take ?_ _ | refine one_drop ?_ _ | (refine st ?_; try simp only [pairs]) | simp only [pairs])
       all_goals
       refine sZ [6] (fun P S K => K ⟨[(6, (S.get 7))], S.hp, S.nx, S.gh⟩) fun K hK => ?_
       repeat' (first | (refine hK _ ?_; clear hK K) | ((first | refine xG_intro (fun hg => ?_) (fun hg => ?_) | refine fun (hg : (_ : Prop)) => ?_) <;> ((try simp only [BQ] at hg); try (exfalso; omega))) | refine And.intro ?_ ?_ | exact cl | exact one_encP _ | refine one_take ?_ _ | refine one_drop ?_ _ | (refine st ?_; try simp only [pairs]) | simp only [pairs])
       all_goals
       refine Tri.ret ?_
       show ResOk _ _ _ _
       first
         | rw [bent_0 hne (by assumption)]
         | rw [bent_1 hne (by assumption)]
         | rw [bent_2 hne (by assumption)]
         | rw [bent_3 hne (by assumption)]
         | rw [bent_4 hne (by assumption) (by assumption) (by assumption) (by assumption)]
       refine ResOk.frz 5 ?_ (pure_pairs _)
       first
         | (simp [-List.map_map, sealed, retV, St.get, St.obj, lk, pairs, map_sealed_encP, take_map_len, encP, encI, List.take_of_length_le]; done)
         | (simp [sealed, retV, St.get, St.obj, lk, pairs, encP, encI, List.take_of_length_le, List.map_set, PV.ren, renL]; done)
         | (obtain ⟨x, r, rfl⟩ := List.exists_cons_of_ne_nil hne; simp [-List.map_map, sealed, retV, St.get, St.obj, lk, pairs, map_sealed_encP, take_map_len, Nat.add_comm 1]; done)
         | (obtain ⟨x, r, rfl⟩ := List.exists_cons_of_ne_nil hne
            obtain rfl : r = [] := List.eq_nil_of_length_eq_zero (by simp only [List.length_cons] at *; omega)
            rfl)
end Go.Proofs.Ytcdeilgijleoaaa
set_option linter.all false
namespace Go.Proofs.Ytcdeilgijleoaaa
open Go Go.RowKit
set_option linter.unusedSimpArgs false
set_option linter.unusedVariables false
set_option maxRecDepth 100000
def encN (n : Nat) : PV := .atom (.int .u64 (n : Int))
def nats (l : List Nat) : PV := .sl 1 (l.map encN)
theorem pureL_encN (l : List Nat) : pureL (l.map encN) = true := pureL_map encN (fun _ => rfl) l
theorem pure_nats (l : List Nat) : (nats l).pure = true := pureL_encN l
theorem renL_encN (ρ : Nat → Nat) (l : List Nat) : renL ρ (l.map encN) = l.map encN := renL_pure ρ _ (pureL_encN l)
theorem map_sealed_encN (H : Nat → Option AO) (keep : Nat → Bool) (n : Nat) (l : List Nat) : (l.map encN).map (sealed H keep n) = l.map encN := map_sealed_pure H keep n (pureL_encN l)
theorem map_ren_encN (ρ : Nat → Nat) (l : List Nat) : (l.map encN).map (PV.ren ρ) = l.map encN := map_ren_pure ρ (pureL_encN l)
theorem getD_encN {l : List Nat} {k : Nat} (h : k < l.length) : (l.map encN).getD k .junk = encN (l.getD k 0) := by
  simp [List.getD_eq_getElem?_getD, h]
theorem run_ones : (List.range 64).all (fun a => sameR (gRun Try.prog tbl0 [] 20 48 [encN a] []) (encI (popc a), [], [])) = true := by kernel_rfl
theorem ones_pure {a : Nat} (h : a < 64) : Pure Try.prog 48 [encN a] (encI (popc a)) [] :=
  run_pure (x := (encI (popc a), [], [])) tbl0_ok mixed (List.all_eq_true.1 run_ones a (List.mem_range.2 h)) rfl
end Go.Proofs.Ytcdeilgijleoaaa
set_option linter.all false
namespace Go.Proofs.Ytcdeilgijleoaaa
open Go Go.RowKit
set_option linter.unusedSimpArgs false
set_option linter.unusedVariables false
set_option maxRecDepth 20000
set_option maxHeartbeats 1000000
theorem leqB20 {p : Prop} (h : p := by (refine ⟨4, ?_, ?_, rfl, by simp, rfl, fun _ h _ => absurd h (Nat.not_lt_zero _)⟩ <;> (simp only [List.forall_mem_cons]; repeat' (first | refine And.intro ?_ ?_ | (intro p hp; exact absurd hp List.not_mem_nil) | rfl | exact sp (pure_case _) | exact sp (pure_pairs _) | exact sp (pure_nats _) | exact (sealed_pure _ _ _ (pure_ints _)).trans (ren_ints _ _).symm | exact (sealed_pure _ _ _ (pure_strs _)).trans (ren_strs _ _).symm | exact sp (by assumption) | (intro o ho; cases ho; refine ⟨by decide, ?_⟩; first | (refine LeqS.row rfl ?_ ?_; (next => (first | rfl | (simp only [List.map_append, List.map_cons, List.map_nil, List.append_nil, List.nil_append, List.append_assoc, List.cons_append, encI, encS, ints, strs]; done) | (simp [encI, encS, ints, strs, encP, encN, List.map_set]; done))); (next => (first | rfl | exact pureL_encI _ | exact pureL_encS _ | exact pureL_ints _ | exact pureL_strs _ | exact pureL_encP _ | exact pureL_encN _ | (simp [pureL_append, pureL_encI, pureL_encS, pureL_ints, pureL_strs, pureL, PV.pure, pure_ints, pure_strs, pure_case, pureL_encP, pure_pairs, pureL_encN, pure_nats]; done))); done) | refine ⟨_, rfl, rfl, ?_⟩) | (simp [St.born, St.known, retV, St.get, St.obj, lk, sealed, PV.ren, renL, rmap, AO.ren, ints, strs, encI, encS, map_sealed_encI, map_sealed_encS, map_sealed_ints, map_sealed_strs, map_ren_encI, map_ren_encS, map_ren_ints, map_ren_strs, renL_encI, renL_encS, renL_ints, renL_strs, ren_case, encC, pairs, renL_encP, map_sealed_encP, map_ren_encP, encP, take_map_len, renL_encN, map_sealed_encN, map_ren_encN] <;> omega)))); first | done | fail) : p := h
theorem lsrB20 {p : Prop} (h : p := by (first | rfl | (simp [St.born, St.known, retV, St.get, St.obj, lk, sealed, PV.ren, renL, rmap, AO.ren, ints, strs, encI, encS, map_sealed_encI, map_sealed_encS, map_sealed_ints, map_sealed_strs, map_ren_encI, map_ren_encS, map_ren_ints, map_ren_strs, renL_encI, renL_encS, renL_ints, renL_strs, ren_case, encC, pairs, renL_encP, map_sealed_encP, map_ren_encP, encP, take_map_len, renL_encN, map_sealed_encN, map_ren_encN]; done)); first | done | fail) : p := h
theorem lpvB20 {p : Prop} (h : p := by (first | rfl | (simp [pure_ints, pure_strs, PV.pure, pureL, pureL_encI, pureL_encS, pureL_ints, pureL_strs, pure_case, pureL_encP, pure_pairs, pureL_encN, pure_nats]; done)); first | done | fail) : p := h
def firstB {α : Type} (g : α → Bool) (d : α) (l : List α) : Nat → Int
  | 0 => -1
  | k + 1 => if 0 ≤ firstB g d l k then firstB g d l k else if g (l.getD k d) = true then (k : Int) else -1
theorem firstB_none {α : Type} {g : α → Bool} {d : α} {l : List α} : ∀ {k : Nat}, (∀ j, j < k → g (l.getD j d) = false) → firstB g d l k = -1
  | 0, _ => rfl
  | k + 1, h => by
    rw [firstB, firstB_none fun j hj => h j (by omega), if_neg (by decide), if_neg (by rw [h k (by omega)]; decide)]
theorem firstB_at {α : Type} {g : α → Bool} {d : α} {l : List α} {k : Nat} (h : ∀ j, j < k → g (l.getD j d) = false) (hk : g (l.getD k d) = true) : ∀ n, k < n → firstB g d l n = k
  | 0, hn => absurd hn (Nat.not_lt_zero _)
  | n + 1, hn => by
    rcases Nat.lt_succ_iff_lt_or_eq.1 hn with hn | rfl
    · rw [firstB, firstB_at h hk n hn, if_pos (by omega)]
    · rw [firstB, firstB_none h, if_neg (by decide), if_pos hk]
theorem firstB_any {α : Type} {g : α → Bool} {d : α} {l : List α} : decide (0 ≤ firstB g d l l.length) = l.any g := by
  rcases hb : l.any g with _ | _
  · rw [firstB_none fun j hj => ?_]
    · rfl
    · rw [List.any_eq_false] at hb
      have : l.getD j d ∈ l := by simp [List.getD_eq_getElem?_getD, hj]
      simpa using hb _ this
  · obtain ⟨x, hx, hg⟩ := List.any_eq_true.1 hb
    have : ∃ j, j < l.length ∧ g (l.getD j d) = true := by
      obtain ⟨j, hj, rfl⟩ := List.getElem_of_mem hx
      exact ⟨j, hj, by simpa [List.getD_eq_getElem?_getD, hj] using hg⟩
    refine decide_eq_true ?_
    apply Classical.byContradiction
    intro hn
    have hnone : ∀ n, n ≤ l.length → firstB g d l n < 0 → ∀ j, j < n → g (l.getD j d) = false := by
      intro n
      induction n with
      | zero => exact fun _ _ j hj => absurd hj (Nat.not_lt_zero _)
      | succ n ih =>
        intro h1 h2 j hj
        rw [firstB] at h2
        split at h2
        · omega
        · rename_i h3
          split at h2
          · omega
          · rename_i h4
            rcases Nat.lt_succ_iff_lt_or_eq.1 hj with hj | rfl
            · exact ih (by omega) (by omega) j hj
            · simpa using h4
    obtain ⟨j, h1, h2⟩ := this
    have := hnone l.length (Nat.le_refl _) (by omega) j h1
    rw [this] at h2; cases h2
theorem indexI (f : FuncId) (g : Int → Bool) (l : List Int) (hl : l.length ≤ 1000000000) (hc : ∀ x, x ∈ l → Pure Try.prog f [encI x] (.atom (.bool (g x))) []) : Pure Try.prog 62 [ints l, .fn f []] (encI (firstB g 0 l l.length)) [] := by
  refine Pure.intro (ts := [4]) Try.func62 (by kernel_rfl) rfl rfl rfl (Nat.le_of_ble_eq_true rfl) ?_ ?_
  · simp [pure_ints, PV.pure, pureL]
  refine sY [0, 1] (fun P S K => K ⟨[(0, S.get 0), (1, S.get 1)], S.hp, S.nx, S.gh⟩) ?_
  all_goals
  refine Tri.seq ?_
  refine sY [0, 1, 7, 8] (fun P S K => XvLen P 22 (S.get 0) (fun r1 _ => K ⟨[(0, S.get 0), (1, S.get 1), (7, r1), (8, (.atom (.int .i64 0)))], S.hp, S.nx, S.gh⟩)) ?_
  all_goals
  refine Tri.block ?_
  refine Tri.loop (α := (k : Nat) ×' (k ≤ l.length ∧ ∀ j, j < k → g (l.getD j 0) = false)) (fun z => (fun (k : Nat) => (⟨[(0, ints l), (1, .fn f []), (7, encI l.length), (8, encI k)], [], 0, []⟩ : St)) z.1) (fun z => (fun (k : Nat) => l.length - k) z.1) ⟨0, ⟨Nat.zero_le _, fun j hj => absurd hj (Nat.not_lt_zero _)⟩⟩ [] ?_ ?_
  ·exact leqB20
  ·rintro ⟨k, ⟨hk, hno⟩⟩
   refine sY [0, 1, 7, 8, 9] (fun P S K => XvBinOV P .lss 3 (.tmp 7) (S.get 8) (S.get 7) (fun r0 _ => K ⟨[(0, S.get 0), (1, S.get 1), (7, S.get 7), (8, S.get 8), (9, r0)], S.hp, S.nx, S.gh⟩)) ?_
   all_goals
   refine Tri.seq ?_
   refine Tri.cond rfl (fun h9 => ?_) (fun h9 => ?_)
   ·try (cases h9; done)
    all_goals (try simp only [CQ] at h9)
    all_goals
    refine Tri.skip ?_
    refine Tri.seq ?_
    refine Tri.block ?_
    have hkl : k < l.length := by omega
    refine sY [0, 1, 5, 7, 8] (fun P S K => K ⟨[(0, S.get 0), (1, S.get 1), (5, (S.get 8)), (7, S.get 7), (8, S.get 8)], S.hp, S.nx, S.gh⟩) ?_
    all_goals
    refine sZ [0, 1, 5, 7, 8, 16] (fun P S K => XvIndexAddr P 22 (S.get 0) (S.get 5) (fun r3 _ => XvLoad P 3 (M S.hp S.nx) r3 (fun r4 _ => XvFnIV P (M S.hp S.nx) (S.get 1) [r4] (fun r5 ef5 => K ⟨[(0, S.get 0), (1, S.get 1), (5, S.get 5), (7, S.get 7), (8, S.get 8), (16, r5)], (Eff.hp ef5 S.nx S.hp), (S.nx + ef5.add.length), S.gh⟩)))) fun K hK => ?_
    repeat' (first | (refine hK _ ?_; clear hK K) | ((first | refine xG_intro (fun hg => ?_) (fun hg => ?_) | refine fun (hg : (_ : Prop)) => ?_) <;> ((try simp only [BQ] at hg); try (exfalso; omega))) | refine And.intro ?_ ?_ | exact cl | refine one_take ?_ _ | refine one_drop ?_ _ | refine .inl ⟨_, _, hc (li l k) (li_mem hkl), ?_⟩ | refine ⟨_, _, hc (li l k) (li_mem hkl), ?_⟩ | (refine st ?_; try simp only [getD_encI hkl]) | simp only [getD_encI hkl])
    all_goals
    refine Tri.cond rfl (fun h16 => ?_) (fun h16 => ?_)
    ·try (cases h16; done)
     all_goals (try simp only [CQ] at h16)
     all_goals
     refine sY [4] (fun P S K => K ⟨[(4, (S.get 5))], S.hp, S.nx, S.gh⟩) ?_
     all_goals
     refine Tri.ret ?_
     show ResOk _ _ _ _
     rw [firstB_at hno (show g (l.getD k 0) = true by assumption) l.length hkl]
     exact ResOk.val lsrB20 lpvB20
    ·try (cases h16; done)
     all_goals (try simp only [CQ] at h16)
     all_goals
     refine Tri.skip ?_
     refine rY [0, 1, 7, 8] (fun P S K => XvBinOV P .add 3 (.const (.int .i64 1)) (S.get 8) (.atom (.int .i64 1)) (fun r0 _ => K ⟨[(0, S.get 0), (1, S.get 1), (7, S.get 7), (8, r0)], S.hp, S.nx, S.gh⟩)) ?_
     all_goals try simp (disch := omega) only [wrap_id, wrap8_id]
     all_goals
     refine ⟨⟨k + 1, by omega, fun j hj => ?_⟩, [], by dsimp only; omega, ?_⟩
     · rcases Nat.lt_succ_iff_lt_or_eq.1 hj with hj | rfl
       · exact hno j hj
       · assumption
     · exact leqB20
   ·try (cases h9; done)
    all_goals (try simp only [CQ] at h9)
    all_goals
    refine Tri.exit ?_
    refine sY [4] (fun P S K => K ⟨[(4, (.atom (.int .i64 (-1))))], S.hp, S.nx, S.gh⟩) ?_
    all_goals
    refine Tri.ret ?_
    show ResOk _ _ _ _
    obtain rfl : k = l.length := by omega
    rw [firstB_none hno]
    exact ResOk.val lsrB20 lpvB20
theorem containsI (f : FuncId) (g : Int → Bool) (l : List Int) (hl : l.length ≤ 1000000000) (hc : ∀ x, x ∈ l → Pure Try.prog f [encI x] (.atom (.bool (g x))) []) : Pure Try.prog 43 [ints l, .fn f []] (.atom (.bool (l.any g))) [] := by
  refine Pure.intro (ts := [4]) Try.func43 (by kernel_rfl) rfl rfl rfl (Nat.le_of_ble_eq_true rfl) ?_ ?_
  · simp [pure_ints, PV.pure, pureL]
  refine sY [0, 1] (fun P S K => K ⟨[(0, S.get 0), (1, S.get 1)], S.hp, S.nx, S.gh⟩) ?_
  all_goals
  refine sZ [4] (fun P S K => XvFnIV P (M S.hp S.nx) (.fn 62 []) [(S.get 0), (S.get 1)] (fun r2 ef2 => XvBinOV P .geq 3 (.const (.int .i64 0)) r2 (.atom (.int .i64 0)) (fun r3 _ => K ⟨[(4, r3)], (Eff.hp ef2 S.nx S.hp), (S.nx + ef2.add.length), S.gh⟩))) fun K hK => ?_
  repeat' (first | (refine hK _ ?_; clear hK K) | ((first | refine xG_intro (fun hg => ?_) (fun hg => ?_) | refine fun (hg : (_ : Prop)) => ?_) <;> ((try simp only [BQ] at hg); try (exfalso; omega))) | refine And.intro ?_ ?_ | exact cl | refine one_take ?_ _ | refine one_drop ?_ _ | refine .inl ⟨_, _, indexI f g l hl hc, ?_⟩ | refine ⟨_, _, indexI f g l hl hc, ?_⟩ | refine st ?_)
  all_goals
  refine Tri.ret ?_
  show ResOk _ _ _ _
  rw [← firstB_any (d := 0)]
  exact ResOk.val lsrB20 lpvB20
theorem indexU (f : FuncId) (g : Nat → Bool) (l : List Nat) (hl : l.length ≤ 1000000000) (hc : ∀ x, x ∈ l → Pure Try.prog f [encN x] (.atom (.bool (g x))) []) : Pure Try.prog 64 [nats l, .fn f []] (encI (firstB g 0 l l.length)) [] := by
  refine Pure.intro (ts := [4]) Try.func64 (by kernel_rfl) rfl rfl rfl (Nat.le_of_ble_eq_true rfl) ?_ ?_
  · simp [pure_nats, PV.pure, pureL]
  refine sY [0, 1] (fun P S K => K ⟨[(0, S.get 0), (1, S.get 1)], S.hp, S.nx, S.gh⟩) ?_
  all_goals
  refine Tri.seq ?_
  refine sZ [0, 1, 7, 8] (fun P S K => XvLen P 82 (S.get 0) (fun r1 _ => K ⟨[(0, S.get 0), (1, S.get 1), (7, r1), (8, (.atom (.int .i64 0)))], S.hp, S.nx, S.gh⟩)) fun K hK => ?_
  repeat' (first | (refine hK _ ?_; clear hK K) | ((first | refine xG_intro (fun hg => ?_) (fun hg => ?_) | refine fun (hg : (_ : Prop)) => ?_) <;> ((try simp only [BQ] at hg); try (exfalso; omega))) | refine And.intro ?_ ?_ | exact cl | refine one_take ?_ _ | refine one_drop ?_ _ | (refine st ?_; try simp only [nats]) | simp only [nats])
  all_goals
  refine Tri.block ?_
  refine Tri.loop (α := (k : Nat) ×' (k ≤ l.length ∧ ∀ j, j < k → g (l.getD j 0) = false)) (fun z => (fun (k : Nat) => (⟨[(0, nats l), (1, .fn f []), (7, encI l.length), (8, encI k)], [], 0, []⟩ : St)) z.1) (fun z => (fun (k : Nat) => l.length - k) z.1) ⟨0, ⟨Nat.zero_le _, fun j hj => absurd hj (Nat.not_lt_zero _)⟩⟩ [] ?_ ?_
  ·exact leqB20
  ·rintro ⟨k, ⟨hk, hno⟩⟩
   refine sY [0, 1, 7, 8, 9] (fun P S K => XvBinOV P .lss 3 (.tmp 7) (S.get 8) (S.get 7) (fun r0 _ => K ⟨[(0, S.get 0), (1, S.get 1), (7, S.get 7), (8, S.get 8), (9, r0)], S.hp, S.nx, S.gh⟩)) ?_
   all_goals
   refine Tri.seq ?_
   refine Tri.cond rfl (fun h9 => ?_) (fun h9 => ?_)
   ·try (cases h9; done)
    all_goals (try simp only [CQ] at h9)
    all_goals
    refine Tri.skip ?_
    refine Tri.seq ?_
    refine Tri.block ?_
    have hkl : k < l.length := by omega
    refine sY [0, 1, 5, 7, 8] (fun P S K => K ⟨[(0, S.get 0), (1, S.get 1), (5, (S.get 8)), (7, S.get 7), (8, S.get 8)], S.hp, S.nx, S.gh⟩) ?_
    all_goals
    refine sZ [0, 1, 5, 7, 8, 16] (fun P S K => XvIndexAddr P 82 (S.get 0) (S.get 5) (fun r3 _ => XvLoad P 83 (M S.hp S.nx) r3 (fun r4 _ => XvFnIV P (M S.hp S.nx) (S.get 1) [r4] (fun r5 ef5 => K ⟨[(0, S.get 0), (1, S.get 1), (5, S.get 5), (7, S.get 7), (8, S.get 8), (16, r5)], (Eff.hp ef5 S.nx S.hp), (S.nx + ef5.add.length), S.gh⟩)))) fun K hK => ?_
    repeat' (first | (refine hK _ ?_; clear hK K) | ((first | refine xG_intro (fun hg => ?_) (fun hg => ?_) | refine fun (hg : (_ : Prop)) => ?_) <;> ((try simp only [BQ] at hg); try (exfalso; omega))) | refine And.intro ?_ ?_ | exact cl | refine one_take ?_ _ | refine one_drop ?_ _ | refine .inl ⟨_, _, hc (l.getD k 0) (by simp [List.getD_eq_getElem?_getD, hkl]), ?_⟩ | refine ⟨_, _, hc (l.getD k 0) (by simp [List.getD_eq_getElem?_getD, hkl]), ?_⟩ | (refine st ?_; try simp only [nats, getD_encN hkl, encN]) | simp only [nats, getD_encN hkl, encN])
    all_goals
    refine Tri.cond rfl (fun h16 => ?_) (fun h16 => ?_)
    ·try (cases h16; done)
     all_goals (try simp only [CQ] at h16)
     all_goals
     refine sY [4] (fun P S K => K ⟨[(4, (S.get 5))], S.hp, S.nx, S.gh⟩) ?_
     all_goals
     refine Tri.ret ?_
     show ResOk _ _ _ _
     rw [firstB_at hno (show g (l.getD k 0) = true by assumption) l.length hkl]
     exact ResOk.val lsrB20 lpvB20
    ·try (cases h16; done)
     all_goals (try simp only [CQ] at h16)
     all_goals
     refine Tri.skip ?_
     refine rY [0, 1, 7, 8] (fun P S K => XvBinOV P .add 3 (.const (.int .i64 1)) (S.get 8) (.atom (.int .i64 1)) (fun r0 _ => K ⟨[(0, S.get 0), (1, S.get 1), (7, S.get 7), (8, r0)], S.hp, S.nx, S.gh⟩)) ?_
     all_goals try simp (disch := omega) only [wrap_id, wrap8_id]
     all_goals
     refine ⟨⟨k + 1, by omega, fun j hj => ?_⟩, [], by dsimp only; omega, ?_⟩
     · rcases Nat.lt_succ_iff_lt_or_eq.1 hj with hj | rfl
       · exact hno j hj
       · assumption
     · exact leqB20
   ·try (cases h9; done)
    all_goals (try simp only [CQ] at h9)
    all_goals
    refine Tri.exit ?_
    refine sY [4] (fun P S K => K ⟨[(4, (.atom (.int .i64 (-1))))], S.hp, S.nx, S.gh⟩) ?_
    all_goals
    refine Tri.ret ?_
    show ResOk _ _ _ _
    obtain rfl : k = l.length := by omega
    rw [firstB_none hno]
    exact ResOk.val lsrB20 lpvB20
theorem containsU (f : FuncId) (g : Nat → Bool) (l : List Nat) (hl : l.length ≤ 1000000000) (hc : ∀ x, x ∈ l → Pure Try.prog f [encN x] (.atom (.bool (g x))) []) : Pure Try.prog 45 [nats l, .fn f []] (.atom (.bool (l.any g))) [] := by
  refine Pure.intro (ts := [4]) Try.func45 (by kernel_rfl) rfl rfl rfl (Nat.le_of_ble_eq_true rfl) ?_ ?_
  · simp [pure_nats, PV.pure, pureL]
  refine sY [0, 1] (fun P S K => K ⟨[(0, S.get 0), (1, S.get 1)], S.hp, S.nx, S.gh⟩) ?_
  all_goals
  refine sZ [4] (fun P S K => XvFnIV P (M S.hp S.nx) (.fn 64 []) [(S.get 0), (S.get 1)] (fun r2 ef2 => XvBinOV P .geq 3 (.const (.int .i64 0)) r2 (.atom (.int .i64 0)) (fun r3 _ => K ⟨[(4, r3)], (Eff.hp ef2 S.nx S.hp), (S.nx + ef2.add.length), S.gh⟩))) fun K hK => ?_
  repeat' (first | (refine hK _ ?_; clear hK K) | ((first | refine xG_intro (fun hg => ?_) (fun hg => ?_) | refine fun (hg : (_ : Prop)) => ?_) <;> ((try simp only [BQ] at hg); try (exfalso; omega))) | refine And.intro ?_ ?_ | exact cl | refine one_take ?_ _ | refine one_drop ?_ _ | refine .inl ⟨_, _, indexU f g l hl hc, ?_⟩ | refine ⟨_, _, indexU f g l hl hc, ?_⟩ | (refine st ?_; try simp only [nats]) | simp only [nats])
  all_goals
  refine Tri.ret ?_
  show ResOk _ _ _ _
  rw [← firstB_any (d := 0)]
  exact ResOk.val lsrB20 lpvB20
theorem indexP (f : FuncId) (c1 c2 : PV) (g : Int × Int → Bool) (l : List (Int × Int)) (h1 : c1.pure = true) (h2 : c2.pure = true) (hl : l.length ≤ 1000000000) (hc : ∀ x, x ∈ l → Pure Try.prog f [encP x, c1, c2] (.atom (.bool (g x))) []) : Pure Try.prog 63 [pairs l, .fn f [c1, c2]] (encI (firstB g (0, 0) l l.length)) [] := by
  have hfp : (PV.fn f [c1, c2]).pure = true := by simp [PV.pure, pureL, h1, h2]
  have r1 : ∀ ρ, c1.ren ρ = c1 := fun ρ => ren_pure ρ _ h1
  have r2 : ∀ ρ, c2.ren ρ = c2 := fun ρ => ren_pure ρ _ h2
  have s1 : ∀ H keep n, sealed H keep n c1 = c1 := fun H k n => sealed_pure H k n h1
  have s2 : ∀ H keep n, sealed H keep n c2 = c2 := fun H k n => sealed_pure H k n h2
  have o1 : c1.noOb = true := pure_noOb _ h1
  have o2 : c2.noOb = true := pure_noOb _ h2
  refine Pure.intro (ts := [4]) Try.func63 (by kernel_rfl) rfl rfl rfl (Nat.le_of_ble_eq_true rfl) ?_ ?_
  · simp [pure_pairs, PV.pure, pureL, h1, h2]
  refine sY [0, 1] (fun P S K => K ⟨[(0, S.get 0), (1, S.get 1)], S.hp, S.nx, S.gh⟩) ?_
  all_goals
  refine Tri.seq ?_
  refine sZ [0, 1, 7, 8] (fun P S K => XvLen P 23 (S.get 0) (fun r1 _ => K ⟨[(0, S.get 0), (1, S.get 1), (7, r1), (8, (.atom (.int .i64 0)))], S.hp, S.nx, S.gh⟩)) fun K hK => ?_
  repeat' (first | (refine hK _ ?_; clear hK K) | ((first | refine xG_intro (fun hg => ?_) (fun hg => ?_) | refine fun (hg : (_ : Prop)) => ?_) <;> ((try simp only [BQ] at hg); try (exfalso; omega))) | refine And.intro ?_ ?_ | exact cl | refine one_take ?_ _ | refine one_drop ?_ _ | (refine st ?_; try simp only [pairs]) | simp only [pairs])
  all_goals
  refine Tri.block ?_
  refine Tri.loop (α := (k : Nat) ×' (k ≤ l.length ∧ ∀ j, j < k → g (l.getD j (0, 0)) = false)) (fun z => (fun (k : Nat) => (⟨[(0, pairs l), (1, .fn f [c1, c2]), (7, encI l.length), (8, encI k)], [], 0, []⟩ : St)) z.1) (fun z => (fun (k : Nat) => l.length - k) z.1) ⟨0, ⟨Nat.zero_le _, fun j hj => absurd hj (Nat.not_lt_zero _)⟩⟩ [] ?_ ?_
  ·exact leqB20
  ·rintro ⟨k, ⟨hk, hno⟩⟩
   refine sY [0, 1, 7, 8, 9] (fun P S K => XvBinOV P .lss 3 (.tmp 7) (S.get 8) (S.get 7) (fun r0 _ => K ⟨[(0, S.get 0), (1, S.get 1), (7, S.get 7), (8, S.get 8), (9, r0)], S.hp, S.nx, S.gh⟩)) ?_
   all_goals
   refine Tri.seq ?_
   refine Tri.cond rfl (fun h9 => ?_) (fun h9 => ?_)
   ·try (cases h9; done)
    all_goals (try simp only [CQ] at h9)
    all_goals
    refine Tri.skip ?_
    refine Tri.seq ?_
    refine Tri.block ?_
    have hkl : k < l.length := by omega
    refine sY [0, 1, 5, 7, 8] (fun P S K => K ⟨[(0, S.get 0), (1, S.get 1), (5, (S.get 8)), (7, S.get 7), (8, S.get 8)], S.hp, S.nx, S.gh⟩) ?_
    all_goals
    refine sZ [0, 1, 5, 7, 8, 16] (fun P S K => XvIndexAddr P 23 (S.get 0) (S.get 5) (fun r3 _ => XvLoad P 67 (M S.hp S.nx) r3 (fun r4 _ => XvFnIV P (M S.hp S.nx) (S.get 1) [r4] (fun r5 ef5 => K ⟨[(0, S.get 0), (1, S.get 1), (5, S.get 5), (7, S.get 7), (8, S.get 8), (16, r5)], (Eff.hp ef5 S.nx S.hp), (S.nx + ef5.add.length), S.gh⟩)))) fun K hK => ?_
    repeat' (first | (refine hK _ ?_; clear hK K) | ((first | refine xG_intro (fun hg => ?_) (fun hg => ?_) | refine fun (hg : (_ : Prop)) => ?_) <;> ((try simp only [BQ] at hg); try (exfalso; omega))) | refine And.intro ?_ ?_ | exact cl | refine one_take ?_ _ | refine one_drop ?_ _ | refine .inl ⟨_, _, hc (lp l k) (lp_mem hkl), ?_⟩ | refine ⟨_, _, hc (lp l k) (lp_mem hkl), ?_⟩ | (refine st ?_; try simp only [pairs, getD_encP hkl, encP, s1, s2, o1, o2]) | simp only [pairs, getD_encP hkl, encP, s1, s2, o1, o2])
    all_goals
    refine Tri.cond rfl (fun h16 => ?_) (fun h16 => ?_)
    ·try (cases h16; done)
     all_goals (try simp only [CQ] at h16)
     all_goals
     refine sY [4] (fun P S K => K ⟨[(4, (S.get 5))], S.hp, S.nx, S.gh⟩) ?_
     all_goals
     refine Tri.ret ?_
     show ResOk _ _ _ _
     rw [firstB_at hno (show g (l.getD k (0, 0)) = true by assumption) l.length hkl]
     exact ResOk.val lsrB20 lpvB20
    ·try (cases h16; done)
     all_goals (try simp only [CQ] at h16)
     all_goals
     refine Tri.skip ?_
     refine rY [0, 1, 7, 8] (fun P S K => XvBinOV P .add 3 (.const (.int .i64 1)) (S.get 8) (.atom (.int .i64 1)) (fun r0 _ => K ⟨[(0, S.get 0), (1, S.get 1), (7, S.get 7), (8, r0)], S.hp, S.nx, S.gh⟩)) ?_
     all_goals try simp (disch := omega) only [wrap_id, wrap8_id]
     all_goals
     refine ⟨⟨k + 1, by omega, fun j hj => ?_⟩, [], by dsimp only; omega, ?_⟩
     · rcases Nat.lt_succ_iff_lt_or_eq.1 hj with hj | rfl
       · exact hno j hj
       · assumption
     · exact leqB20
   ·try (cases h9; done)
    all_goals (try simp only [CQ] at h9)
    all_goals
    refine Tri.exit ?_
    refine sY [4] (fun P S K => K ⟨[(4, (.atom (.int .i64 (-1))))], S.hp, S.nx, S.gh⟩) ?_
    all_goals
    refine Tri.ret ?_
    show ResOk _ _ _ _
    obtain rfl : k = l.length := by omega
    rw [firstB_none hno]
    exact ResOk.val lsrB20 lpvB20
theorem containsP (f : FuncId) (c1 c2 : PV) (g : Int × Int → Bool) (l : List (Int × Int)) (h1 : c1.pure = true) (h2 : c2.pure = true) (hl : l.length ≤ 1000000000) (hc : ∀ x, x ∈ l → Pure Try.prog f [encP x, c1, c2] (.atom (.bool (g x))) []) : Pure Try.prog 44 [pairs l, .fn f [c1, c2]] (.atom (.bool (l.any g))) [] := by
  have s1 : ∀ H keep n, sealed H keep n c1 = c1 := fun H k n => sealed_pure H k n h1
  have s2 : ∀ H keep n, sealed H keep n c2 = c2 := fun H k n => sealed_pure H k n h2
  have o1 : c1.noOb = true := pure_noOb _ h1
  have o2 : c2.noOb = true := pure_noOb _ h2
  refine Pure.intro (ts := [4]) Try.func44 (by kernel_rfl) rfl rfl rfl (Nat.le_of_ble_eq_true rfl) ?_ ?_
  · simp [pure_pairs, PV.pure, pureL, h1, h2]
  refine sY [0, 1] (fun P S K => K ⟨[(0, S.get 0), (1, S.get 1)], S.hp, S.nx, S.gh⟩) ?_
  all_goals
  refine sZ [4] (fun P S K => XvFnIV P (M S.hp S.nx) (.fn 63 []) [(S.get 0), (S.get 1)] (fun r2 ef2 => XvBinOV P .geq 3 (.const (.int .i64 0)) r2 (.atom (.int .i64 0)) (fun r3 _ => K ⟨[(4, r3)], (Eff.hp ef2 S.nx S.hp), (S.nx + ef2.add.length), S.gh⟩))) fun K hK => ?_
  repeat' (first | (refine hK _ ?_; clear hK K) | ((first | refine xG_intro (fun hg => ?_) (fun hg => ?_) | refine fun (hg : (_ : Prop)) => ?_) <;> ((try simp only [BQ] at hg); try (exfalso; omega))) | refine And.intro ?_ ?_ | exact cl | refine one_take ?_ _ | refine one_drop ?_ _ | refine .inl ⟨_, _, indexP f c1 c2 g l h1 h2 hl hc, ?_⟩ | refine ⟨_, _, indexP f c1 c2 g l h1 h2 hl hc, ?_⟩ | (refine st ?_; try simp only [pairs, s1, s2, o1, o2]) | simp only [pairs, s1, s2, o1, o2])
  all_goals
  refine Tri.ret ?_
  show ResOk _ _ _ _
  rw [← firstB_any (d := (0, 0))]
  exact ResOk.val lsrB20 lpvB20
end Go.Proofs.Ytcdeilgijleoaaa
