/-
  Walks: Spoilt of the reference model.
-/
import Derived.Test.YtcdeilgijleoaaaQVR
import Derived.Test.YtcdeilgijleoaaaQB16
set_option linter.all false
namespace Go.Proofs.Ytcdeilgijleoaaa
open Go Go.RowKit
set_option linter.unusedSimpArgs false
set_option linter.unusedVariables false
set_option maxRecDepth 20000
set_option maxHeartbeats 1000000
theorem leqB17 {p : Prop} (h : p := by (refine ⟨4, ?_, ?_, rfl, by simp, rfl, fun _ h _ => absurd h (Nat.not_lt_zero _)⟩ <;> (simp only [List.forall_mem_cons]; repeat' (first | refine And.intro ?_ ?_ | (intro p hp; exact absurd hp List.not_mem_nil) | rfl | exact sp (pure_case _) | exact sp (pure_pairs _) | exact sp (pure_cert _) | exact (sealed_pure _ _ _ (pure_ints _)).trans (ren_ints _ _).symm | exact (sealed_pure _ _ _ (pure_strs _)).trans (ren_strs _ _).symm | exact sp (by assumption) | (intro o ho; cases ho; refine ⟨by decide, ?_⟩; first | (refine LeqS.row rfl ?_ ?_; (next => (first | rfl | (simp only [List.map_append, List.map_cons, List.map_nil, List.append_nil, List.nil_append, List.append_assoc, List.cons_append, encI, encS, ints, strs]; done) | (simp [encI, encS, ints, strs, encP, List.map_set, runB_0]; done))); (next => (first | rfl | exact pureL_encI _ | exact pureL_encS _ | exact pureL_ints _ | exact pureL_strs _ | exact pureL_encP _ | (simp [pureL_append, pureL_encI, pureL_encS, pureL_ints, pureL_strs, pureL, PV.pure, pure_ints, pure_strs, pure_case, pureL_encP, pure_pairs, pure_cert]; done))); done) | refine ⟨_, rfl, rfl, ?_⟩) | (simp [St.born, St.known, retV, St.get, St.obj, lk, sealed, PV.ren, renL, rmap, AO.ren, ints, strs, encI, encS, map_sealed_encI, map_sealed_encS, map_sealed_ints, map_sealed_strs, map_ren_encI, map_ren_encS, map_ren_ints, map_ren_strs, renL_encI, renL_encS, renL_ints, renL_strs, ren_case, encC, pairs, renL_encP, map_sealed_encP, map_ren_encP, encP, take_map_len, zeroCase] <;> omega)))); first | done | fail) : p := h
theorem tdiv_I64 {x k : Int} (h : I64 x) (hk : 0 < k) : I64 (x.tdiv k) := by
  obtain ⟨h1, h2⟩ := h
  rcases Int.le_total 0 x with h0 | h0
  · have a := Int.tdiv_nonneg h0 (Int.le_of_lt hk)
    have b := Int.tdiv_le_self k h0
    unfold I64; omega
  · obtain ⟨y, rfl⟩ : ∃ y, x = -y := ⟨-x, by omega⟩
    have a := Int.tdiv_nonneg (a := y) (by omega) (Int.le_of_lt hk)
    have b := Int.tdiv_le_self (a := y) k (by omega)
    rw [Int.neg_tdiv]
    unfold I64; omega
def sz5 : List Int := [0, -1, 1, 1024, 1025]
theorem sz5_get {k : Nat} (h : k < 5) : List.getD [PV.atom (.int .i64 0), .atom (.int .i64 (-1)), .atom (.int .i64 1), .atom (.int .i64 1024), .atom (.int .i64 1025)] k .junk = .atom (.int .i64 (li sz5 k)) := getD_encI (l := sz5) h
def runB (k : Int) : Nat → List (Int × Int)
  | 0 => []
  | p + 1 => runB k p ++ [(k, (p : Int))]
theorem runB_0 (k : Int) : runB k 0 = [] := rfl
theorem runB_len (k : Int) : ∀ p, (runB k p).length = p
  | 0 => rfl
  | p + 1 => by rw [runB, List.length_append, runB_len k p]; rfl
def runM (c : CaseD) (k : Int) : Nat := if k < c.sizes.length then (c.people - 1).toNat else 0
def spK (c : CaseD) (by_ : Int) : Int := around (by_.tdiv 3) (max (c.sizes.length : Int) 1)
def spN (by_ : Int) : Int := around by_ 9 - 1
def spoiltC (c : CaseD) (how by_ : Int) : CaseD :=
  if around how 6 = 0 then ⟨c.sizes, spN by_, c.bars⟩
  else if around how 6 = 1 then ⟨c.sizes, c.people, c.bars ++ [(spK c by_, spN by_)]⟩
  else if around how 6 = 2 then ⟨c.sizes, c.people, c.bars ++ [(spN by_, 0)]⟩
  else if around how 6 = 3 then ⟨if 0 < c.sizes.length then c.sizes.set (spK c by_).toNat (li sz5 (around by_ 5).toNat) else c.sizes, c.people, c.bars⟩
  else if around how 6 = 4 then ⟨c.sizes, c.people, c.bars ++ runB (spK c by_) (runM c (spK c by_))⟩
  else ⟨c.sizes ++ List.replicate ((62 + around by_ 4).toNat - c.sizes.length) 1, c.people, c.bars⟩
theorem spo_0 {c : CaseD} {how by_ : Int} (h : around how 6 = 0) : spoiltC c how by_ = ⟨c.sizes, spN by_, c.bars⟩ := if_pos h
theorem spo_1 {c : CaseD} {how by_ : Int} (h : around how 6 = 1) : spoiltC c how by_ = ⟨c.sizes, c.people, c.bars ++ [(spK c by_, spN by_)]⟩ := by unfold spoiltC; simp [h]
theorem spo_2 {c : CaseD} {how by_ : Int} (h : around how 6 = 2) : spoiltC c how by_ = ⟨c.sizes, c.people, c.bars ++ [(spN by_, 0)]⟩ := by unfold spoiltC; simp [h]
theorem spo_3 {c : CaseD} {how by_ : Int} (h : around how 6 = 3) (h2 : 0 < c.sizes.length) : spoiltC c how by_ = ⟨c.sizes.set (spK c by_).toNat (li sz5 (around by_ 5).toNat), c.people, c.bars⟩ := by unfold spoiltC; simp [h, h2]
theorem spo_3n {c : CaseD} {how by_ : Int} (h : around how 6 = 3) (h2 : ¬ 0 < c.sizes.length) : spoiltC c how by_ = ⟨c.sizes, c.people, c.bars⟩ := by unfold spoiltC; simp [h, h2]
theorem spo_4 {c : CaseD} {how by_ : Int} {p : Nat} (h : around how 6 = 4) (hp : p = runM c (spK c by_)) : spoiltC c how by_ = ⟨c.sizes, c.people, c.bars ++ runB (spK c by_) p⟩ := by unfold spoiltC; simp [h, hp]
theorem spo_5 {c : CaseD} {how by_ : Int} {j : Nat} (h0 : ¬ around how 6 = 0) (h1 : ¬ around how 6 = 1) (h2 : ¬ around how 6 = 2) (h3 : ¬ around how 6 = 3) (h4 : ¬ around how 6 = 4) (hj : j = (62 + around by_ 4).toNat - c.sizes.length) : spoiltC c how by_ = ⟨c.sizes ++ List.replicate j 1, c.people, c.bars⟩ := by unfold spoiltC; simp [h0, h1, h2, h3, h4, hj]
theorem set_encI (l : List Int) (i : Nat) (v : Int) : (l.map encI).set i (PV.atom (.int .i64 v)) = (l.set i v).map encI := by rw [List.map_set]; rfl
theorem Spoilt_pure (c : CaseD) (how by_ : Int) (hG : Good c) (hbl : c.bars.length ≤ 1000) (hh : I64 how) (hb : I64 by_) : Pure Try.prog 11 [encC c, encI how, encI by_] (encC (spoiltC c how by_)) [] := by
  have hmany := hG.many
  have hlo := hG.lo
  have hhi := hG.hi
  have h90 := around_lo (n := by_) (most := 9) (by decide)
  have h91 := around_hi (n := by_) (most := 9) (by decide)
  have h50 := around_lo (n := by_) (most := 5) (by decide)
  have h51 := around_hi (n := by_) (most := 5) (by decide)
  have h40 := around_lo (n := by_) (most := 4) (by decide)
  have h41 := around_hi (n := by_) (most := 4) (by decide)
  have hb1 := hb.1
  have hb2 := hb.2
  have hq : I64 (by_.tdiv 3) := tdiv_I64 hb (by decide)
  have hk0 : 0 ≤ spK c by_ := around_lo (by omega)
  have hk1 : spK c by_ < max (c.sizes.length : Int) 1 := around_hi (n := by_.tdiv 3) (most := max (c.sizes.length : Int) 1) (by omega)
  have hg5 := sz5_get (k := (around by_ 5).toNat) (by omega)
  have hNe : around by_ 9 - 1 = spN by_ := rfl
  have hKe : around (by_.tdiv 3) (max (c.sizes.length : Int) 1) = spK c by_ := rfl
  refine Pure.introR (rv := [.cell 6 25]) Try.func11 (by kernel_rfl) rfl rfl rfl (Nat.le_of_ble_eq_true rfl) ?_ ?_
  · simp [pure_case, encI, PV.pure, pureL]
  refine sZ [1, 2, 3, 6] (fun P S K => XvBox S.nx (S.get 0) (fun r0 ef0 => XvAlloc P 25 (S.nx + ef0.add.length) (fun r1 ef1 => K ⟨[(1, S.get 1), (2, S.get 2), (3, r0), (6, r1)], (Eff.hp ef1 (S.nx + ef0.add.length) (Eff.hp ef0 S.nx S.hp)), ((S.nx + ef0.add.length) + ef1.add.length), S.gh⟩))) fun K hK => ?_
  repeat' (first | (refine hK _ ?_; clear hK K) | ((first | refine xG_intro (fun hg => ?_) (fun hg => ?_) | refine fun (hg : (_ : Prop)) => ?_) <;> ((try simp only [BQ] at hg); try (exfalso; omega))) | refine And.intro ?_ ?_ | exact cl | exact one_encP _ | refine one_take ?_ _ | refine one_drop ?_ _ | (refine st ?_; try simp only [encC, pairs, zeroCase]) | simp only [encC, pairs, zeroCase])
  all_goals
  refine Tri.cut (α := Unit) (fun ⟨⟩ => ⟨[(1, encI how), (2, encI by_), (6, .ptr 0 3 0 0), (7, .ptr 1 3 0 0)], [(0, some ⟨3, [zeroCase]⟩), (1, some ⟨3, [.agg [.ob 2 1 0 c.sizes.length, encI c.people, .ob 3 2 0 c.bars.length]]⟩), (2, some ⟨1, c.sizes.map encI⟩), (3, some ⟨2, c.bars.map encP⟩)], 4, []⟩) ?_ ?_
  ·skip
   refine rD 12 [1, 2, 6, 7] (fun P GD S K => XvBuildS P 22 0 S.nx [] (fun r0 ef0 => XvFieldAddr P 25 0 (S.get 3) (fun r1 ef1 => XvLoad P 22 (M (Eff.hp ef0 S.nx S.hp) (S.nx + ef0.add.length)) r1 (fun r2 ef2 => (22 = 22 ∧ XvAppend P 22 (M (Eff.hp ef0 S.nx S.hp) (S.nx + ef0.add.length)) r0 r2 (fun r3 ef3 => XvFieldAddr P 25 1 (S.get 3) (fun r4 ef4 => XvLoad P 3 (M (Eff.hp ef3 (S.nx + ef0.add.length) (Eff.hp ef0 S.nx S.hp)) ((S.nx + ef0.add.length) + ef3.add.length)) r4 (fun r5 ef5 => XvBuildS P 23 0 ((S.nx + ef0.add.length) + ef3.add.length) [] (fun r6 ef6 => XvFieldAddr P 25 2 (S.get 3) (fun r7 ef7 => XvLoad P 23 (M (Eff.hp ef6 ((S.nx + ef0.add.length) + ef3.add.length) (Eff.hp ef3 (S.nx + ef0.add.length) (Eff.hp ef0 S.nx S.hp))) (((S.nx + ef0.add.length) + ef3.add.length) + ef6.add.length)) r7 (fun r8 ef8 => (23 = 23 ∧ XvAppend P 23 (M (Eff.hp ef6 ((S.nx + ef0.add.length) + ef3.add.length) (Eff.hp ef3 (S.nx + ef0.add.length) (Eff.hp ef0 S.nx S.hp))) (((S.nx + ef0.add.length) + ef3.add.length) + ef6.add.length)) r6 r8 (fun r9 ef9 => XvBuild P 25 [(0, r3), (1, r5), (2, r9)] (fun r10 ef10 => XvAlloc P 25 ((((S.nx + ef0.add.length) + ef3.add.length) + ef6.add.length) + ef9.add.length) (fun r11 ef11 => (trOk S.nx GD [(Eff.tr ef0 S.nx), ⟨(S.nx + ef0.add.length), 0, ef1.rd, [], []⟩, ⟨(S.nx + ef0.add.length), 0, ef2.rd, [], []⟩, (Eff.tr ef3 (S.nx + ef0.add.length)), ⟨((S.nx + ef0.add.length) + ef3.add.length), 0, ef4.rd, [], []⟩, ⟨((S.nx + ef0.add.length) + ef3.add.length), 0, ef5.rd, [], []⟩, (Eff.tr ef6 ((S.nx + ef0.add.length) + ef3.add.length)), ⟨(((S.nx + ef0.add.length) + ef3.add.length) + ef6.add.length), 0, ef7.rd, [], []⟩, ⟨(((S.nx + ef0.add.length) + ef3.add.length) + ef6.add.length), 0, ef8.rd, [], []⟩, (Eff.tr ef9 (((S.nx + ef0.add.length) + ef3.add.length) + ef6.add.length)), ⟨((((S.nx + ef0.add.length) + ef3.add.length) + ef6.add.length) + ef9.add.length), 0, ef10.rd, [], []⟩, (Eff.tr ef11 ((((S.nx + ef0.add.length) + ef3.add.length) + ef6.add.length) + ef9.add.length))] = true ∧ XvStore P 25 (M (Eff.hp ef11 ((((S.nx + ef0.add.length) + ef3.add.length) + ef6.add.length) + ef9.add.length) (Eff.hp ef9 (((S.nx + ef0.add.length) + ef3.add.length) + ef6.add.length) (Eff.hp ef6 ((S.nx + ef0.add.length) + ef3.add.length) (Eff.hp ef3 (S.nx + ef0.add.length) (Eff.hp ef0 S.nx S.hp))))) (((((S.nx + ef0.add.length) + ef3.add.length) + ef6.add.length) + ef9.add.length) + ef11.add.length)) r11 r10 (fun r12 ef12 => K ⟨[(1, S.get 1), (2, S.get 2), (6, S.get 6), (7, r11)], (Eff.hp ef12 (((((S.nx + ef0.add.length) + ef3.add.length) + ef6.add.length) + ef9.add.length) + ef11.add.length) (Eff.hp ef11 ((((S.nx + ef0.add.length) + ef3.add.length) + ef6.add.length) + ef9.add.length) (Eff.hp ef9 (((S.nx + ef0.add.length) + ef3.add.length) + ef6.add.length) (Eff.hp ef6 ((S.nx + ef0.add.length) + ef3.add.length) (Eff.hp ef3 (S.nx + ef0.add.length) (Eff.hp ef0 S.nx S.hp)))))), ((((((S.nx + ef0.add.length) + ef3.add.length) + ef6.add.length) + ef9.add.length) + ef11.add.length) + ef12.add.length), S.gh⟩))))))))))))))))) fun K hK => ?_
   repeat' (first | (refine hK _ ?_; clear hK K) | (refine (?_ : trOk _ _ _ = true); kernel_rfl) | ((first | refine xG_intro (fun hg => ?_) (fun hg => ?_) | refine fun (hg : (_ : Prop)) => ?_) <;> ((try simp only [BQ] at hg); try (exfalso; omega))) | refine And.intro ?_ ?_ | exact cl | exact one_encP _ | refine one_take ?_ _ | refine one_drop ?_ _ | (refine st ?_; try simp only [encC, pairs, zeroCase]) | simp only [encC, pairs, zeroCase])
   all_goals
   refine ⟨(), [1, 6, 3, 5], ?_⟩
   exact leqB17
  ·rintro ⟨⟩
   refine sZ [1, 2, 6, 7, 8] (fun P S K => XvFnIV P (M S.hp S.nx) (.fn 35 []) [(S.get 2), (.atom (.int .i64 9))] (fun r1 ef1 => XvBinOV P .sub 3 (.const (.int .i64 1)) r1 (.atom (.int .i64 1)) (fun r2 _ => K ⟨[(1, S.get 1), (2, S.get 2), (6, S.get 6), (7, S.get 7), (8, r2)], (Eff.hp ef1 S.nx S.hp), (S.nx + ef1.add.length), S.gh⟩))) fun K hK => ?_
   repeat' (first | (refine hK _ ?_; clear hK K) | ((first | refine xG_intro (fun hg => ?_) (fun hg => ?_) | refine fun (hg : (_ : Prop)) => ?_) <;> ((try simp only [BQ] at hg); try (exfalso; omega))) | refine And.intro ?_ ?_ | exact cl | exact one_encP _ | refine one_take ?_ _ | refine one_drop ?_ _ | refine .inl ⟨_, _, Around_pure how 6 hh (by decide), ?_⟩ | refine ⟨_, _, Around_pure how 6 hh (by decide), ?_⟩ | refine .inl ⟨_, _, Around_pure by_ 9 hb (by decide), ?_⟩ | refine ⟨_, _, Around_pure by_ 9 hb (by decide), ?_⟩ | refine .inl ⟨_, _, Around_pure (by_.tdiv 3) (max (c.sizes.length : Int) 1) hq (by omega), ?_⟩ | refine ⟨_, _, Around_pure (by_.tdiv 3) (max (c.sizes.length : Int) 1) hq (by omega), ?_⟩ | refine .inl ⟨_, _, Around_pure by_ 5 hb (by decide), ?_⟩ | refine ⟨_, _, Around_pure by_ 5 hb (by decide), ?_⟩ | refine .inl ⟨_, _, Around_pure by_ 4 hb (by decide), ?_⟩ | refine ⟨_, _, Around_pure by_ 4 hb (by decide), ?_⟩ | (refine st ?_; try simp only [encC, pairs, zeroCase]) | simp only [encC, pairs, zeroCase])
   all_goals try simp (disch := omega) only [wrap_id, wrap8_id]
   rw [hNe]
   all_goals
   refine sZ [1, 2, 6, 7, 8, 9] (fun P S K => XvBinOV P .quo 3 (.const (.int .i64 3)) (S.get 2) (.atom (.int .i64 3)) (fun r1 _ => XvFieldAddr P 25 0 (S.get 7) (fun r2 _ => XvLoad P 22 (M S.hp S.nx) r2 (fun r3 _ => XvLen P 22 r3 (fun r4 _ => XvMinMax true r4 (.atom (.int .i64 1)) (fun r5 _ => XvFnIV P (M S.hp S.nx) (.fn 35 []) [r1, r5] (fun r6 ef6 => K ⟨[(1, S.get 1), (2, S.get 2), (6, S.get 6), (7, S.get 7), (8, S.get 8), (9, r6)], (Eff.hp ef6 S.nx S.hp), (S.nx + ef6.add.length), S.gh⟩))))))) fun K hK => ?_
   repeat' (first | (refine hK _ ?_; clear hK K) | ((first | refine xG_intro (fun hg => ?_) (fun hg => ?_) | refine fun (hg : (_ : Prop)) => ?_) <;> ((try simp only [BQ] at hg); try (exfalso; omega))) | refine And.intro ?_ ?_ | exact cl | exact one_encP _ | refine one_take ?_ _ | refine one_drop ?_ _ | refine .inl ⟨_, _, Around_pure how 6 hh (by decide), ?_⟩ | refine ⟨_, _, Around_pure how 6 hh (by decide), ?_⟩ | refine .inl ⟨_, _, Around_pure by_ 9 hb (by decide), ?_⟩ | refine ⟨_, _, Around_pure by_ 9 hb (by decide), ?_⟩ | refine .inl ⟨_, _, Around_pure (by_.tdiv 3) (max (c.sizes.length : Int) 1) hq (by omega), ?_⟩ | refine ⟨_, _, Around_pure (by_.tdiv 3) (max (c.sizes.length : Int) 1) hq (by omega), ?_⟩ | refine .inl ⟨_, _, Around_pure by_ 5 hb (by decide), ?_⟩ | refine ⟨_, _, Around_pure by_ 5 hb (by decide), ?_⟩ | refine .inl ⟨_, _, Around_pure by_ 4 hb (by decide), ?_⟩ | refine ⟨_, _, Around_pure by_ 4 hb (by decide), ?_⟩ | (refine st ?_; try simp only [encC, pairs, zeroCase, wrap_id hq.1 hq.2]) | simp only [encC, pairs, zeroCase, wrap_id hq.1 hq.2])
   all_goals try simp (disch := omega) only [wrap_id, wrap8_id]
   rw [hKe]
   generalize hke : spK c by_ = k at hk0 hk1
   generalize hne : spN by_ = n
   all_goals
   refine Tri.seq ?_
   refine sZ [2, 6, 7, 8, 9, 33] (fun P S K => XvFnIV P (M S.hp S.nx) (.fn 35 []) [(S.get 1), (.atom (.int .i64 6))] (fun r1 ef1 => K ⟨[(2, S.get 2), (6, S.get 6), (7, S.get 7), (8, S.get 8), (9, S.get 9), (33, r1)], (Eff.hp ef1 S.nx S.hp), (S.nx + ef1.add.length), S.gh⟩)) fun K hK => ?_
   repeat' (first | (refine hK _ ?_; clear hK K) | ((first | refine xG_intro (fun hg => ?_) (fun hg => ?_) | refine fun (hg : (_ : Prop)) => ?_) <;> ((try simp only [BQ] at hg); try (exfalso; omega))) | refine And.intro ?_ ?_ | exact cl | exact one_encP _ | refine one_take ?_ _ | refine one_drop ?_ _ | refine .inl ⟨_, _, Around_pure how 6 hh (by decide), ?_⟩ | refine ⟨_, _, Around_pure how 6 hh (by decide), ?_⟩ | refine .inl ⟨_, _, Around_pure by_ 9 hb (by decide), ?_⟩ | refine ⟨_, _, Around_pure by_ 9 hb (by decide), ?_⟩ | refine .inl ⟨_, _, Around_pure (by_.tdiv 3) (max (c.sizes.length : Int) 1) hq (by omega), ?_⟩ | refine ⟨_, _, Around_pure (by_.tdiv 3) (max (c.sizes.length : Int) 1) hq (by omega), ?_⟩ | refine .inl ⟨_, _, Around_pure by_ 5 hb (by decide), ?_⟩ | refine ⟨_, _, Around_pure by_ 5 hb (by decide), ?_⟩ | refine .inl ⟨_, _, Around_pure by_ 4 hb (by decide), ?_⟩ | refine ⟨_, _, Around_pure by_ 4 hb (by decide), ?_⟩ | (refine st ?_; try simp only [encC, pairs, zeroCase]) | simp only [encC, pairs, zeroCase])
   all_goals
   refine Tri.block ?_
   refine sZ [2, 6, 7, 8, 9, 33, 46] (fun P S K => XvBinOV P .eql 3 (.const (.int .i64 0)) (S.get 33) (.atom (.int .i64 0)) (fun r0 _ => K ⟨[(2, S.get 2), (6, S.get 6), (7, S.get 7), (8, S.get 8), (9, S.get 9), (33, S.get 33), (46, r0)], S.hp, S.nx, S.gh⟩)) fun K hK => ?_
   repeat' (first | (refine hK _ ?_; clear hK K) | ((first | refine xG_intro (fun hg => ?_) (fun hg => ?_) | refine fun (hg : (_ : Prop)) => ?_) <;> ((try simp only [BQ] at hg); try (exfalso; omega))) | refine And.intro ?_ ?_ | exact cl | exact one_encP _ | refine one_take ?_ _ | refine one_drop ?_ _ | (refine st ?_; try simp only [encC, pairs, zeroCase]) | simp only [encC, pairs, zeroCase])
   all_goals
   refine Tri.cond rfl (fun h46 => ?_) (fun h46 => ?_)
   ·try (cases h46; done)
    all_goals (try simp only [CQ] at h46)
    all_goals
    refine rZ [6, 7] (fun P S K => XvFieldAddr P 25 1 (S.get 7) (fun r1 _ => XvStore P 3 (M S.hp S.nx) r1 (S.get 8) (fun r2 ef2 => K ⟨[(6, S.get 6), (7, S.get 7)], (Eff.hp ef2 S.nx S.hp), (S.nx + ef2.add.length), S.gh⟩))) fun K hK => ?_
    repeat' (first | (refine hK _ ?_; clear hK K) | ((first | refine xG_intro (fun hg => ?_) (fun hg => ?_) | refine fun (hg : (_ : Prop)) => ?_) <;> ((try simp only [BQ] at hg); try (exfalso; omega))) | refine And.intro ?_ ?_ | exact cl | exact one_encP _ | refine one_take ?_ _ | refine one_drop ?_ _ | (refine st ?_; try simp only [encC, pairs, zeroCase]) | simp only [encC, pairs, zeroCase])
    all_goals
    refine sZ [6] (fun P S K => XvLoad P 25 (M S.hp S.nx) (S.get 7) (fun r0 _ => XvStore P 25 (M S.hp S.nx) (S.get 6) r0 (fun r1 ef1 => K ⟨[(6, S.get 6)], (Eff.hp ef1 S.nx S.hp), (S.nx + ef1.add.length), S.gh⟩))) fun K hK => ?_
    repeat' (first | (refine hK _ ?_; clear hK K) | ((first | refine xG_intro (fun hg => ?_) (fun hg => ?_) | refine fun (hg : (_ : Prop)) => ?_) <;> ((try simp only [BQ] at hg); try (exfalso; omega))) | refine And.intro ?_ ?_ | exact cl | exact one_encP _ | refine one_take ?_ _ | refine one_drop ?_ _ | (refine st ?_; try simp only [encC, pairs, zeroCase]) | simp only [encC, pairs, zeroCase])
    all_goals
    refine Tri.ret ?_
    show ResR _ _ _ _ _
    first
      | rw [spo_0 (by assumption), hne]
      | rw [spo_1 (by assumption), hne, hke]
      | rw [spo_2 (by assumption), hne]
      | rw [spo_3 (by assumption) (by omega), hke]
      | rw [spo_3n (by assumption) (by omega)]
      | (have hpm : p = runM c k := (by unfold runM; split <;> omega); rw [spo_4 (p := p) (by assumption) (by rw [hke]; exact hpm), hke])
      | (have hjm : j = (62 + around by_ 4).toNat - c.sizes.length := (by omega); rw [spo_5 (by assumption) (by assumption) (by assumption) (by assumption) (by assumption) hjm])
    refine ResR.cell1 (PV.agg [_, _, _]) rfl ?_ (pure_case _)
    first
      | (simp [-List.map_map, sealed, St.obj, lk, encC, ints, pairs, map_sealed_encI, map_sealed_encP, take_map_len, set_encI]; done)
      | (simp [-List.map_map, sealed, St.obj, lk, encC, ints, pairs, map_sealed_encI, map_sealed_encP, take_map_len, List.take_of_length_le, runB_len, encP, encI, List.map_set]; done)
      | (simp [sealed, St.obj, lk, encC, ints, pairs, List.take_of_length_le, runB_len, encP, encI, List.map_set, PV.ren, renL]; done)
   ·try (cases h46; done)
    all_goals (try simp only [CQ] at h46)
    all_goals
    refine sZ [2, 6, 7, 8, 9, 33, 50] (fun P S K => XvBinOV P .eql 3 (.const (.int .i64 1)) (S.get 33) (.atom (.int .i64 1)) (fun r0 _ => K ⟨[(2, S.get 2), (6, S.get 6), (7, S.get 7), (8, S.get 8), (9, S.get 9), (33, S.get 33), (50, r0)], S.hp, S.nx, S.gh⟩)) fun K hK => ?_
    repeat' (first | (refine hK _ ?_; clear hK K) | ((first | refine xG_intro (fun hg => ?_) (fun hg => ?_) | refine fun (hg : (_ : Prop)) => ?_) <;> ((try simp only [BQ] at hg); try (exfalso; omega))) | refine And.intro ?_ ?_ | exact cl | exact one_encP _ | refine one_take ?_ _ | refine one_drop ?_ _ | (refine st ?_; try simp only [encC, pairs, zeroCase]) | simp only [encC, pairs, zeroCase])
    all_goals
    refine Tri.cond rfl (fun h50 => ?_) (fun h50 => ?_)
    ·try (cases h50; done)
     all_goals (try simp only [CQ] at h50)
     all_goals
     refine rZ [6, 7] (fun P S K => XvFieldAddr P 25 2 (S.get 7) (fun r0 _ => XvLoad P 23 (M S.hp S.nx) r0 (fun r1 _ => XvBuild P 67 [(0, (S.get 9)), (1, (S.get 8))] (fun r4 _ => XvBuildS P 23 1 S.nx [(0, r4)] (fun r5 ef5 => (23 = 23 ∧ XvAppend P 23 (M (Eff.hp ef5 S.nx S.hp) (S.nx + ef5.add.length)) r1 r5 (fun r6 ef6 => XvFieldAddr P 25 2 (S.get 7) (fun r7 _ => XvStore P 23 (M (Eff.hp ef6 (S.nx + ef5.add.length) (Eff.hp ef5 S.nx S.hp)) ((S.nx + ef5.add.length) + ef6.add.length)) r7 r6 (fun r8 ef8 => K ⟨[(6, S.get 6), (7, S.get 7)], (Eff.hp ef8 ((S.nx + ef5.add.length) + ef6.add.length) (Eff.hp ef6 (S.nx + ef5.add.length) (Eff.hp ef5 S.nx S.hp))), (((S.nx + ef5.add.length) + ef6.add.length) + ef8.add.length), S.gh⟩))))))))) fun K hK => ?_
     repeat' (first | (refine hK _ ?_; clear hK K) | ((first | refine xG_intro (fun hg => ?_) (fun hg => ?_) | refine fun (hg : (_ : Prop)) => ?_) <;> ((try simp only [BQ] at hg); try (exfalso; omega))) | refine And.intro ?_ ?_ | exact cl | exact one_encP _ | refine one_take ?_ _ | refine one_drop ?_ _ | (refine st ?_; try simp only [encC, pairs, zeroCase]) | simp only [encC, pairs, zeroCase])
     all_goals
     refine sZ [6] (fun P S K => XvLoad P 25 (M S.hp S.nx) (S.get 7) (fun r0 _ => XvStore P 25 (M S.hp S.nx) (S.get 6) r0 (fun r1 ef1 => K ⟨[(6, S.get 6)], (Eff.hp ef1 S.nx S.hp), (S.nx + ef1.add.length), S.gh⟩))) fun K hK => ?_
     repeat' (first | (refine hK _ ?_; clear hK K) | ((first | refine xG_intro (fun hg => ?_) (fun hg => ?_) | refine fun (hg : (_ : Prop)) => ?_) <;> ((try simp only [BQ] at hg); try (exfalso; omega))) | refine And.intro ?_ ?_ | exact cl | exact one_encP _ | refine one_take ?_ _ | refine one_drop ?_ _ | (refine st ?_; try simp only [encC, pairs, zeroCase]) | simp only [encC, pairs, zeroCase])
     all_goals
     refine Tri.ret ?_
     show ResR _ _ _ _ _
     first
       | rw [spo_0 (by assumption), hne]
       | rw [spo_1 (by assumption), hne, hke]
       | rw [spo_2 (by assumption), hne]
       | rw [spo_3 (by assumption) (by omega), hke]
       | rw [spo_3n (by assumption) (by omega)]
       | (have hpm : p = runM c k := (by unfold runM; split <;> omega); rw [spo_4 (p := p) (by assumption) (by rw [hke]; exact hpm), hke])
       | (have hjm : j = (62 + around by_ 4).toNat - c.sizes.length := (by omega); rw [spo_5 (by assumption) (by assumption) (by assumption) (by assumption) (by assumption) hjm])
     refine ResR.cell1 (PV.agg [_, _, _]) rfl ?_ (pure_case _)
     first
       | (simp [-List.map_map, sealed, St.obj, lk, encC, ints, pairs, map_sealed_encI, map_sealed_encP, take_map_len, set_encI]; done)
       | (simp [-List.map_map, sealed, St.obj, lk, encC, ints, pairs, map_sealed_encI, map_sealed_encP, take_map_len, List.take_of_length_le, runB_len, encP, encI, List.map_set]; done)
       | (simp [sealed, St.obj, lk, encC, ints, pairs, List.take_of_length_le, runB_len, encP, encI, List.map_set, PV.ren, renL]; done)
    ·try (cases h50; done)
     all_goals (try simp only [CQ] at h50)
     all_goals
     refine sZ [2, 6, 7, 8, 9, 33, 60] (fun P S K => XvBinOV P .eql 3 (.const (.int .i64 2)) (S.get 33) (.atom (.int .i64 2)) (fun r0 _ => K ⟨[(2, S.get 2), (6, S.get 6), (7, S.get 7), (8, S.get 8), (9, S.get 9), (33, S.get 33), (60, r0)], S.hp, S.nx, S.gh⟩)) fun K hK => ?_
     repeat' (first | (refine hK _ ?_; clear hK K) | ((first | refine xG_intro (fun hg => ?_) (fun hg => ?_) | refine fun (hg : (_ : Prop)) => ?_) <;> ((try simp only [BQ] at hg); try (exfalso; omega))) | refine And.intro ?_ ?_ | exact cl | exact one_encP _ | refine one_take ?_ _ | refine one_drop ?_ _ | (refine st ?_; try simp only [encC, pairs, zeroCase]) | simp only [encC, pairs, zeroCase])
     all_goals
     refine Tri.cond rfl (fun h60 => ?_) (fun h60 => ?_)
     ·try (cases h60; done)
      all_goals (try simp only [CQ] at h60)
      all_goals
      refine rZ [6, 7] (fun P S K => XvFieldAddr P 25 2 (S.get 7) (fun r0 _ => XvLoad P 23 (M S.hp S.nx) r0 (fun r1 _ => XvBuild P 67 [(0, (S.get 8)), (1, (.atom (.int .i64 0)))] (fun r3 _ => XvBuildS P 23 1 S.nx [(0, r3)] (fun r4 ef4 => (23 = 23 ∧ XvAppend P 23 (M (Eff.hp ef4 S.nx S.hp) (S.nx + ef4.add.length)) r1 r4 (fun r5 ef5 => XvFieldAddr P 25 2 (S.get 7) (fun r6 _ => XvStore P 23 (M (Eff.hp ef5 (S.nx + ef4.add.length) (Eff.hp ef4 S.nx S.hp)) ((S.nx + ef4.add.length) + ef5.add.length)) r6 r5 (fun r7 ef7 => K ⟨[(6, S.get 6), (7, S.get 7)], (Eff.hp ef7 ((S.nx + ef4.add.length) + ef5.add.length) (Eff.hp ef5 (S.nx + ef4.add.length) (Eff.hp ef4 S.nx S.hp))), (((S.nx + ef4.add.length) + ef5.add.length) + ef7.add.length), S.gh⟩))))))))) fun K hK => ?_
      repeat' (first | (refine hK _ ?_; clear hK K) | ((first | refine xG_intro (fun hg => ?_) (fun hg => ?_) | refine fun (hg : (_ : Prop)) => ?_) <;> ((try simp only [BQ] at hg); try (exfalso; omega))) | refine And.intro ?_ ?_ | exact cl | exact one_encP _ | refine one_take ?_ _ | refine one_drop ?_ _ | (refine st ?_; try simp only [encC, pairs, zeroCase]) | simp only [encC, pairs, zeroCase])
      all_goals
      refine sZ [6] (fun P S K => XvLoad P 25 (M S.hp S.nx) (S.get 7) (fun r0 _ => XvStore P 25 (M S.hp S.nx) (S.get 6) r0 (fun r1 ef1 => K ⟨[(6, S.get 6)], (Eff.hp ef1 S.nx S.hp), (S.nx + ef1.add.length), S.gh⟩))) fun K hK => ?_
      repeat' (first | (refine hK _ ?_; clear hK K) | ((first | refine xG_intro (fun hg => ?_) (fun hg => ?_) | refine fun (hg : (_ : Prop)) => ?_) <;> ((try simp only [BQ] at hg); try (exfalso; omega))) | refine And.intro ?_ ?_ | exact cl | exact one_encP _ | refine one_take ?_ _ | refine one_drop ?_ _ | (refine st ?_; try simp only [encC, pairs, zeroCase]) | simp only [encC, pairs, zeroCase])
      all_goals
      refine Tri.ret ?_
      show ResR _ _ _ _ _
      first
        | rw [spo_0 (by assumption), hne]
        | rw [spo_1 (by assumption), hne, hke]
        | rw [spo_2 (by assumption), hne]
        | rw [spo_3 (by assumption) (by omega), hke]
        | rw [spo_3n (by assumption) (by omega)]
        | (have hpm : p = runM c k := (by unfold runM; split <;> omega); rw [spo_4 (p := p) (by assumption) (by rw [hke]; exact hpm), hke])
        | (have hjm : j = (62 + around by_ 4).toNat - c.sizes.length := (by omega); rw [spo_5 (by assumption) (by assumption) (by assumption) (by assumption) (by assumption) hjm])
      refine ResR.cell1 (PV.agg [_, _, _]) rfl ?_ (pure_case _)
      first
        | (simp [-List.map_map, sealed, St.obj, lk, encC, ints, pairs, map_sealed_encI, map_sealed_encP, take_map_len, set_encI]; done)
        | (simp [-List.map_map, sealed, St.obj, lk, encC, ints, pairs, map_sealed_encI, map_sealed_encP, take_map_len, List.take_of_length_le, runB_len, encP, encI, List.map_set]; done)
        | (simp [sealed, St.obj, lk, encC, ints, pairs, List.take_of_length_le, runB_len, encP, encI, List.map_set, PV.ren, renL]; done)
     ·try (cases h60; done)
      all_goals (try simp only [CQ] at h60)
      all_goals
      refine sZ [2, 6, 7, 9, 33, 69] (fun P S K => XvBinOV P .eql 3 (.const (.int .i64 3)) (S.get 33) (.atom (.int .i64 3)) (fun r0 _ => K ⟨[(2, S.get 2), (6, S.get 6), (7, S.get 7), (9, S.get 9), (33, S.get 33), (69, r0)], S.hp, S.nx, S.gh⟩)) fun K hK => ?_
      repeat' (first | (refine hK _ ?_; clear hK K) | ((first | refine xG_intro (fun hg => ?_) (fun hg => ?_) | refine fun (hg : (_ : Prop)) => ?_) <;> ((try simp only [BQ] at hg); try (exfalso; omega))) | refine And.intro ?_ ?_ | exact cl | exact one_encP _ | refine one_take ?_ _ | refine one_drop ?_ _ | (refine st ?_; try simp only [encC, pairs, zeroCase]) | simp only [encC, pairs, zeroCase])
      all_goals
      refine Tri.cond rfl (fun h69 => ?_) (fun h69 => ?_)
      ·try (cases h69; done)
       all_goals (try simp only [CQ] at h69)
       all_goals
       refine sZ [2, 6, 7, 9, 74] (fun P S K => XvFieldAddr P 25 0 (S.get 7) (fun r0 _ => XvLoad P 22 (M S.hp S.nx) r0 (fun r1 _ => XvLen P 22 r1 (fun r2 _ => XvBinOV P .gtr 3 (.const (.int .i64 0)) r2 (.atom (.int .i64 0)) (fun r3 _ => K ⟨[(2, S.get 2), (6, S.get 6), (7, S.get 7), (9, S.get 9), (74, r3)], S.hp, S.nx, S.gh⟩))))) fun K hK => ?_
       repeat' (first | (refine hK _ ?_; clear hK K) | ((first | refine xG_intro (fun hg => ?_) (fun hg => ?_) | refine fun (hg : (_ : Prop)) => ?_) <;> ((try simp only [BQ] at hg); try (exfalso; omega))) | refine And.intro ?_ ?_ | exact cl | exact one_encP _ | refine one_take ?_ _ | refine one_drop ?_ _ | (refine st ?_; try simp only [encC, pairs, zeroCase]) | simp only [encC, pairs, zeroCase])
       all_goals
       refine Tri.cond rfl (fun h74 => ?_) (fun h74 => ?_)
       ·try (cases h74; done)
        all_goals (try simp only [CQ] at h74)
        all_goals
        have hkl : k.toNat < c.sizes.length := by omega
        refine rD 9 [6, 7] (fun P GD S K => XvFieldAddr P 25 0 (S.get 7) (fun r0 ef0 => XvLoad P 22 (M S.hp S.nx) r0 (fun r1 ef1 => XvBuildS P 22 5 S.nx [(0, (.atom (.int .i64 0))), (1, (.atom (.int .i64 (-1)))), (2, (.atom (.int .i64 1))), (3, (.atom (.int .i64 1024))), (4, (.atom (.int .i64 1025)))] (fun r3 ef3 => XvFnV P (M (Eff.hp ef3 S.nx S.hp) (S.nx + ef3.add.length)) (.fn 35 []) [(S.get 2), (.atom (.int .i64 5))] (fun r5 ef5 => XvIndexAddr P 22 r3 r5 (fun r6 ef6 => XvLoad P 3 (M (Eff.hp ef5 (S.nx + ef3.add.length) (Eff.hp ef3 S.nx S.hp)) ((S.nx + ef3.add.length) + ef5.add.length)) r6 (fun r7 ef7 => XvIndexAddr P 22 r1 (S.get 9) (fun r8 ef8 => (trOk S.nx GD [⟨S.nx, 0, ef0.rd, [], []⟩, ⟨S.nx, 0, ef1.rd, [], []⟩, ⟨S.nx, 0, [], [], []⟩, (Eff.tr ef3 S.nx), ⟨(S.nx + ef3.add.length), 0, [], [], []⟩, (Eff.tr ef5 (S.nx + ef3.add.length)), ⟨((S.nx + ef3.add.length) + ef5.add.length), 0, ef6.rd, [], []⟩, ⟨((S.nx + ef3.add.length) + ef5.add.length), 0, ef7.rd, [], []⟩, ⟨((S.nx + ef3.add.length) + ef5.add.length), 0, ef8.rd, [], []⟩] = true ∧ XvStore P 3 (M (Eff.hp ef5 (S.nx + ef3.add.length) (Eff.hp ef3 S.nx S.hp)) ((S.nx + ef3.add.length) + ef5.add.length)) r8 r7 (fun r9 ef9 => K ⟨[(6, S.get 6), (7, S.get 7)], (Eff.hp ef9 ((S.nx + ef3.add.length) + ef5.add.length) (Eff.hp ef5 (S.nx + ef3.add.length) (Eff.hp ef3 S.nx S.hp))), (((S.nx + ef3.add.length) + ef5.add.length) + ef9.add.length), S.gh⟩)))))))))) fun K hK => ?_
        repeat' (first | (refine hK _ ?_; clear hK K) | (refine (?_ : trOk _ _ _ = true); kernel_rfl) | ((first | refine xG_intro (fun hg => ?_) (fun hg => ?_) | refine fun (hg : (_ : Prop)) => ?_) <;> ((try simp only [BQ] at hg); try (exfalso; omega))) | refine And.intro ?_ ?_ | exact cl | exact one_encP _ | refine one_take ?_ _ | refine one_drop ?_ _ | refine .inl ⟨_, _, Around_pure how 6 hh (by decide), ?_⟩ | refine ⟨_, _, Around_pure how 6 hh (by decide), ?_⟩ | refine .inl ⟨_, _, Around_pure by_ 9 hb (by decide), ?_⟩ | refine ⟨_, _, Around_pure by_ 9 hb (by decide), ?_⟩ | refine .inl ⟨_, _, Around_pure (by_.tdiv 3) (max (c.sizes.length : Int) 1) hq (by omega), ?_⟩ | refine ⟨_, _, Around_pure (by_.tdiv 3) (max (c.sizes.length : Int) 1) hq (by omega), ?_⟩ | refine .inl ⟨_, _, Around_pure by_ 5 hb (by decide), ?_⟩ | refine ⟨_, _, Around_pure by_ 5 hb (by decide), ?_⟩ | refine .inl ⟨_, _, Around_pure by_ 4 hb (by decide), ?_⟩ | refine ⟨_, _, Around_pure by_ 4 hb (by decide), ?_⟩ | (refine st ?_; try simp only [encC, pairs, zeroCase, hg5, getD_encI hkl]) | simp only [encC, pairs, zeroCase, hg5, getD_encI hkl])
        all_goals
        refine sZ [6] (fun P S K => XvLoad P 25 (M S.hp S.nx) (S.get 7) (fun r0 _ => XvStore P 25 (M S.hp S.nx) (S.get 6) r0 (fun r1 ef1 => K ⟨[(6, S.get 6)], (Eff.hp ef1 S.nx S.hp), (S.nx + ef1.add.length), S.gh⟩))) fun K hK => ?_
        repeat' (first | (refine hK _ ?_; clear hK K) | ((first | refine xG_intro (fun hg => ?_) (fun hg => ?_) | refine fun (hg : (_ : Prop)) => ?_) <;> ((try simp only [BQ] at hg); try (exfalso; omega))) | refine And.intro ?_ ?_ | exact cl | exact one_encP _ | refine one_take ?_ _ | refine one_drop ?_ _ | (refine st ?_; try simp only [encC, pairs, zeroCase]) | simp only [encC, pairs, zeroCase])
        all_goals
        refine Tri.ret ?_
        show ResR _ _ _ _ _
        first
          | rw [spo_0 (by assumption), hne]
          | rw [spo_1 (by assumption), hne, hke]
          | rw [spo_2 (by assumption), hne]
          | rw [spo_3 (by assumption) (by omega), hke]
          | rw [spo_3n (by assumption) (by omega)]
          | (have hpm : p = runM c k := (by unfold runM; split <;> omega); rw [spo_4 (p := p) (by assumption) (by rw [hke]; exact hpm), hke])
          | (have hjm : j = (62 + around by_ 4).toNat - c.sizes.length := (by omega); rw [spo_5 (by assumption) (by assumption) (by assumption) (by assumption) (by assumption) hjm])
        refine ResR.cell1 (PV.agg [_, _, _]) rfl ?_ (pure_case _)
        first
          | (simp [-List.map_map, sealed, St.obj, lk, encC, ints, pairs, map_sealed_encI, map_sealed_encP, take_map_len, set_encI]; done)
          | (simp [-List.map_map, sealed, St.obj, lk, encC, ints, pairs, map_sealed_encI, map_sealed_encP, take_map_len, List.take_of_length_le, runB_len, encP, encI, List.map_set]; done)
          | (simp [sealed, St.obj, lk, encC, ints, pairs, List.take_of_length_le, runB_len, encP, encI, List.map_set, PV.ren, renL]; done)
       ·try (cases h74; done)
        all_goals (try simp only [CQ] at h74)
        all_goals
        refine Tri.skip ?_
        refine sZ [6] (fun P S K => XvLoad P 25 (M S.hp S.nx) (S.get 7) (fun r0 _ => XvStore P 25 (M S.hp S.nx) (S.get 6) r0 (fun r1 ef1 => K ⟨[(6, S.get 6)], (Eff.hp ef1 S.nx S.hp), (S.nx + ef1.add.length), S.gh⟩))) fun K hK => ?_
        repeat' (first | (refine hK _ ?_; clear hK K) | ((first | refine xG_intro (fun hg => ?_) (fun hg => ?_) | refine fun (hg : (_ : Prop)) => ?_) <;> ((try simp only [BQ] at hg); try (exfalso; omega))) | refine And.intro ?_ ?_ | exact cl | exact one_encP _ | refine one_take ?_ _ | refine one_drop ?_ _ | (refine st ?_; try simp only [encC, pairs, zeroCase]) | simp only [encC, pairs, zeroCase])
        all_goals
        refine Tri.ret ?_
        show ResR _ _ _ _ _
        first
          | rw [spo_0 (by assumption), hne]
          | rw [spo_1 (by assumption), hne, hke]
          | rw [spo_2 (by assumption), hne]
          | rw [spo_3 (by assumption) (by omega), hke]
          | rw [spo_3n (by assumption) (by omega)]
          | (have hpm : p = runM c k := (by unfold runM; split <;> omega); rw [spo_4 (p := p) (by assumption) (by rw [hke]; exact hpm), hke])
          | (have hjm : j = (62 + around by_ 4).toNat - c.sizes.length := (by omega); rw [spo_5 (by assumption) (by assumption) (by assumption) (by assumption) (by assumption) hjm])
        refine ResR.cell1 (PV.agg [_, _, _]) rfl ?_ (pure_case _)
        first
          | (simp [-List.map_map, sealed, St.obj, lk, encC, ints, pairs, map_sealed_encI, map_sealed_encP, take_map_len, set_encI]; done)
          | (simp [-List.map_map, sealed, St.obj, lk, encC, ints, pairs, map_sealed_encI, map_sealed_encP, take_map_len, List.take_of_length_le, runB_len, encP, encI, List.map_set]; done)
          | (simp [sealed, St.obj, lk, encC, ints, pairs, List.take_of_length_le, runB_len, encP, encI, List.map_set, PV.ren, renL]; done)
      ·try (cases h69; done)
       all_goals (try simp only [CQ] at h69)
       all_goals
       refine sZ [2, 6, 7, 9, 84] (fun P S K => XvBinOV P .eql 3 (.const (.int .i64 4)) (S.get 33) (.atom (.int .i64 4)) (fun r0 _ => K ⟨[(2, S.get 2), (6, S.get 6), (7, S.get 7), (9, S.get 9), (84, r0)], S.hp, S.nx, S.gh⟩)) fun K hK => ?_
       repeat' (first | (refine hK _ ?_; clear hK K) | ((first | refine xG_intro (fun hg => ?_) (fun hg => ?_) | refine fun (hg : (_ : Prop)) => ?_) <;> ((try simp only [BQ] at hg); try (exfalso; omega))) | refine And.intro ?_ ?_ | exact cl | exact one_encP _ | refine one_take ?_ _ | refine one_drop ?_ _ | (refine st ?_; try simp only [encC, pairs, zeroCase]) | simp only [encC, pairs, zeroCase])
       all_goals
       refine Tri.cond rfl (fun h84 => ?_) (fun h84 => ?_)
       ·try (cases h84; done)
        all_goals (try simp only [CQ] at h84)
        all_goals
        refine sZ [6, 7, 9, 10] (fun P S K => K ⟨[(6, S.get 6), (7, S.get 7), (9, S.get 9), (10, (.atom (.int .i64 0)))], S.hp, S.nx, S.gh⟩) fun K hK => ?_
        repeat' (first | (refine hK _ ?_; clear hK K) | ((first | refine xG_intro (fun hg => ?_) (fun hg => ?_) | refine fun (hg : (_ : Prop)) => ?_) <;> ((try simp only [BQ] at hg); try (exfalso; omega))) | refine And.intro ?_ ?_ | exact cl | exact one_encP _ | refine one_take ?_ _ | refine one_drop ?_ _ | (refine st ?_; try simp only [encC, pairs, zeroCase]) | simp only [encC, pairs, zeroCase])
        all_goals
        refine Tri.block ?_
        refine Tri.loop (α := (p : Nat) ×' ((p : Int) ≤ c.people - 1 ∧ (0 < p → k < c.sizes.length))) (fun z => (fun (p : Nat) => (⟨[(6, .ptr 0 3 0 0), (7, .ptr 1 3 0 0), (9, encI k), (10, encI p)], [(0, some ⟨3, [zeroCase]⟩), (1, some ⟨3, [.agg [.ob 2 1 0 c.sizes.length, encI c.people, .ob 3 2 0 (c.bars.length + p)]]⟩), (2, some ⟨1, c.sizes.map encI⟩), (3, some ⟨2, (c.bars ++ runB k p).map encP⟩)], 4, []⟩ : St)) z.1) (fun z => (fun (p : Nat) => 6 - p) z.1) ⟨0, ⟨by omega, fun h => absurd h (Nat.lt_irrefl _)⟩⟩ [0, 1, 2, 3] ?_ ?_
        ·exact leqB17
        ·rintro ⟨p, ⟨hp, hpk⟩⟩
         have hrl := runB_len k p
         refine Tri.seq ?_
         refine sZ [6, 7, 9, 10, 101] (fun P S K => XvBinOV P .add 3 (.const (.int .i64 1)) (S.get 10) (.atom (.int .i64 1)) (fun r1 _ => XvFieldAddr P 25 1 (S.get 7) (fun r2 _ => XvLoad P 3 (M S.hp S.nx) r2 (fun r3 _ => XvBinOV P .lss 3 (.tmp 89) r1 r3 (fun r4 _ => Xgq r4 true (fun k => k (S.get 10)) (fun g6 r6 => Xgq g6 true (fun k => XvBinOV P .lss 3 (.const (.int .i64 6)) r6 (.atom (.int .i64 6)) (fun r7 _ => k r7)) (fun g7 r7 => XvPick g7 r7 (.atom (.bool false)) (fun r8 _ => Xgq r8 true (fun k => k (S.get 9)) (fun g10 r10 => Xgq g10 true (fun k => XvFieldAddr P 25 0 (S.get 7) (fun r11 _ => k r11)) (fun g11 r11 => Xgq g11 true (fun k => XvLoad P 22 (M S.hp S.nx) r11 (fun r12 _ => k r12)) (fun g12 r12 => Xgq g12 true (fun k => XvLen P 22 r12 (fun r13 _ => k r13)) (fun g13 r13 => Xgq g13 true (fun k => XvBinOV P .lss 3 (.tmp 99) r10 r13 (fun r14 _ => k r14)) (fun g14 r14 => XvPick g14 r14 (.atom (.bool false)) (fun r15 _ => K ⟨[(6, S.get 6), (7, S.get 7), (9, S.get 9), (10, S.get 10), (101, r15)], S.hp, S.nx, S.gh⟩)))))))))))))) fun K hK => ?_
         repeat' (first | (refine hK _ ?_; clear hK K) | ((first | refine xG_intro (fun hg => ?_) (fun hg => ?_) | refine fun (hg : (_ : Prop)) => ?_) <;> ((try simp only [BQ] at hg); try (exfalso; omega))) | refine And.intro ?_ ?_ | exact cl | exact one_encP _ | refine one_take ?_ _ | refine one_drop ?_ _ | (refine st ?_; try simp only [encC, pairs, zeroCase, wrap_id (x := (p : Int) + 1) (by omega) (by omega)]) | simp only [encC, pairs, zeroCase, wrap_id (x := (p : Int) + 1) (by omega) (by omega)])
         all_goals try simp (disch := omega) only [wrap_id, wrap8_id]
         all_goals
         refine Tri.cond rfl (fun h101 => ?_) (fun h101 => ?_)
         ·try (cases h101; done)
          all_goals (try simp only [CQ] at h101)
          all_goals
          refine Tri.skip ?_
          refine Tri.seq ?_
          refine Tri.block ?_
          refine rZ [6, 7, 9, 10] (fun P S K => XvFieldAddr P 25 2 (S.get 7) (fun r0 _ => XvLoad P 23 (M S.hp S.nx) r0 (fun r1 _ => XvBuild P 67 [(0, (S.get 9)), (1, (S.get 10))] (fun r4 _ => XvBuildS P 23 1 S.nx [(0, r4)] (fun r5 ef5 => (23 = 23 ∧ XvAppend P 23 (M (Eff.hp ef5 S.nx S.hp) (S.nx + ef5.add.length)) r1 r5 (fun r6 ef6 => XvFieldAddr P 25 2 (S.get 7) (fun r7 _ => XvStore P 23 (M (Eff.hp ef6 (S.nx + ef5.add.length) (Eff.hp ef5 S.nx S.hp)) ((S.nx + ef5.add.length) + ef6.add.length)) r7 r6 (fun r8 ef8 => K ⟨[(6, S.get 6), (7, S.get 7), (9, S.get 9), (10, S.get 10)], (Eff.hp ef8 ((S.nx + ef5.add.length) + ef6.add.length) (Eff.hp ef6 (S.nx + ef5.add.length) (Eff.hp ef5 S.nx S.hp))), (((S.nx + ef5.add.length) + ef6.add.length) + ef8.add.length), S.gh⟩))))))))) fun K hK => ?_
          repeat' (first | (refine hK _ ?_; clear hK K) | ((first | refine xG_intro (fun hg => ?_) (fun hg => ?_) | refine fun (hg : (_ : Prop)) => ?_) <;> ((try simp only [BQ] at hg); try (exfalso; omega))) | refine And.intro ?_ ?_ | exact cl | exact one_encP _ | refine one_take ?_ _ | refine one_drop ?_ _ | (refine st ?_; try simp only [encC, pairs, zeroCase, runB_len, List.length_append]) | simp only [encC, pairs, zeroCase, runB_len, List.length_append])
          all_goals
          refine rZ [6, 7, 9, 10] (fun P S K => XvBinOV P .add 3 (.const (.int .i64 1)) (S.get 10) (.atom (.int .i64 1)) (fun r1 _ => K ⟨[(6, S.get 6), (7, S.get 7), (9, S.get 9), (10, r1)], S.hp, S.nx, S.gh⟩)) fun K hK => ?_
          repeat' (first | (refine hK _ ?_; clear hK K) | ((first | refine xG_intro (fun hg => ?_) (fun hg => ?_) | refine fun (hg : (_ : Prop)) => ?_) <;> ((try simp only [BQ] at hg); try (exfalso; omega))) | refine And.intro ?_ ?_ | exact cl | exact one_encP _ | refine one_take ?_ _ | refine one_drop ?_ _ | (refine st ?_; try simp only [encC, pairs, zeroCase]) | simp only [encC, pairs, zeroCase])
          all_goals try simp (disch := omega) only [wrap_id, wrap8_id]
          all_goals
          refine ⟨⟨p + 1, by omega, by omega⟩, [0, 1, 2, 5], by dsimp only; omega, ?_⟩
          dsimp only
          rw [show c.bars.length + (p + 1) = c.bars.length + p + 1 from rfl, runB, ← List.append_assoc]
          exact leqB17
         ·try (cases h101; done)
          all_goals (try simp only [CQ] at h101)
          all_goals
          refine Tri.exit ?_
          refine sZ [6] (fun P S K => XvLoad P 25 (M S.hp S.nx) (S.get 7) (fun r0 _ => XvStore P 25 (M S.hp S.nx) (S.get 6) r0 (fun r1 ef1 => K ⟨[(6, S.get 6)], (Eff.hp ef1 S.nx S.hp), (S.nx + ef1.add.length), S.gh⟩))) fun K hK => ?_
          repeat' (first | (refine hK _ ?_; clear hK K) | ((first | refine xG_intro (fun hg => ?_) (fun hg => ?_) | refine fun (hg : (_ : Prop)) => ?_) <;> ((try simp only [BQ] at hg); try (exfalso; omega))) | refine And.intro ?_ ?_ | exact cl | exact one_encP _ | refine one_take ?_ _ | refine one_drop ?_ _ | (refine st ?_; try simp only [encC, pairs, zeroCase]) | simp only [encC, pairs, zeroCase])
          all_goals
          refine Tri.ret ?_
          show ResR _ _ _ _ _
          first
            | rw [spo_0 (by assumption), hne]
            | rw [spo_1 (by assumption), hne, hke]
            | rw [spo_2 (by assumption), hne]
            | rw [spo_3 (by assumption) (by omega), hke]
            | rw [spo_3n (by assumption) (by omega)]
            | (have hpm : p = runM c k := (by unfold runM; split <;> omega); rw [spo_4 (p := p) (by assumption) (by rw [hke]; exact hpm), hke])
            | (have hjm : j = (62 + around by_ 4).toNat - c.sizes.length := (by omega); rw [spo_5 (by assumption) (by assumption) (by assumption) (by assumption) (by assumption) hjm])
          refine ResR.cell1 (PV.agg [_, _, _]) rfl ?_ (pure_case _)
          first
            | (simp [-List.map_map, sealed, St.obj, lk, encC, ints, pairs, map_sealed_encI, map_sealed_encP, take_map_len, set_encI]; done)
            | (simp [-List.map_map, sealed, St.obj, lk, encC, ints, pairs, map_sealed_encI, map_sealed_encP, take_map_len, List.take_of_length_le, runB_len, encP, encI, List.map_set]; done)
            | (simp [sealed, St.obj, lk, encC, ints, pairs, List.take_of_length_le, runB_len, encP, encI, List.map_set, PV.ren, renL]; done)
       ·try (cases h84; done)
        all_goals (try simp only [CQ] at h84)
        all_goals
        refine Tri.block ?_
        refine Tri.loop (α := (j : Nat) ×' (j ≤ 65 ∧ (0 < j → (c.sizes.length : Int) + j ≤ 62 + around by_ 4))) (fun z => (fun (j : Nat) => (⟨[(2, encI by_), (6, .ptr 0 3 0 0), (7, .ptr 1 3 0 0)], [(0, some ⟨3, [zeroCase]⟩), (1, some ⟨3, [.agg [.ob 2 1 0 (c.sizes.length + j), encI c.people, .ob 3 2 0 c.bars.length]]⟩), (2, some ⟨1, (c.sizes ++ List.replicate j 1).map encI⟩), (3, some ⟨2, c.bars.map encP⟩)], 4, []⟩ : St)) z.1) (fun z => (fun (j : Nat) => 70 - j) z.1) ⟨0, ⟨by omega, fun h => absurd h (Nat.lt_irrefl _)⟩⟩ [0, 1, 2, 3] ?_ ?_
        ·exact leqB17
        ·rintro ⟨j, ⟨hj, hj2⟩⟩
         refine Tri.seq ?_
         refine sD 7 [2, 6, 7, 40] (fun P GD S K => XvFieldAddr P 25 0 (S.get 7) (fun r0 ef0 => XvLoad P 22 (M S.hp S.nx) r0 (fun r1 ef1 => XvLen P 22 r1 (fun r2 ef2 => XvFnV P (M S.hp S.nx) (.fn 35 []) [(S.get 2), (.atom (.int .i64 4))] (fun r4 ef4 => XvBinOV P .add 3 (.tmp 38) (.atom (.int .i64 62)) r4 (fun r5 ef5 => XvBinOV P .lss 3 (.tmp 39) r2 r5 (fun r6 ef6 => (trOk S.nx GD [⟨S.nx, 0, ef0.rd, [], []⟩, ⟨S.nx, 0, ef1.rd, [], []⟩, ⟨S.nx, 0, ef2.rd, [], []⟩, ⟨S.nx, 0, [], [], []⟩, (Eff.tr ef4 S.nx), ⟨(S.nx + ef4.add.length), 0, ef5.rd, [], []⟩, ⟨(S.nx + ef4.add.length), 0, ef6.rd, [], []⟩] = true ∧ K ⟨[(2, S.get 2), (6, S.get 6), (7, S.get 7), (40, r6)], (Eff.hp ef4 S.nx S.hp), (S.nx + ef4.add.length), S.gh⟩)))))))) fun K hK => ?_
         repeat' (first | (refine hK _ ?_; clear hK K) | (refine (?_ : trOk _ _ _ = true); kernel_rfl) | ((first | refine xG_intro (fun hg => ?_) (fun hg => ?_) | refine fun (hg : (_ : Prop)) => ?_) <;> ((try simp only [BQ] at hg); try (exfalso; omega))) | refine And.intro ?_ ?_ | exact cl | exact one_encP _ | refine one_take ?_ _ | refine one_drop ?_ _ | refine .inl ⟨_, _, Around_pure how 6 hh (by decide), ?_⟩ | refine ⟨_, _, Around_pure how 6 hh (by decide), ?_⟩ | refine .inl ⟨_, _, Around_pure by_ 9 hb (by decide), ?_⟩ | refine ⟨_, _, Around_pure by_ 9 hb (by decide), ?_⟩ | refine .inl ⟨_, _, Around_pure (by_.tdiv 3) (max (c.sizes.length : Int) 1) hq (by omega), ?_⟩ | refine ⟨_, _, Around_pure (by_.tdiv 3) (max (c.sizes.length : Int) 1) hq (by omega), ?_⟩ | refine .inl ⟨_, _, Around_pure by_ 5 hb (by decide), ?_⟩ | refine ⟨_, _, Around_pure by_ 5 hb (by decide), ?_⟩ | refine .inl ⟨_, _, Around_pure by_ 4 hb (by decide), ?_⟩ | refine ⟨_, _, Around_pure by_ 4 hb (by decide), ?_⟩ | (refine st ?_; try simp only [encC, pairs, zeroCase]) | simp only [encC, pairs, zeroCase])
         all_goals try simp (disch := omega) only [wrap_id, wrap8_id]
         all_goals
         refine Tri.cond rfl (fun h40 => ?_) (fun h40 => ?_)
         ·try (cases h40; done)
          all_goals (try simp only [CQ] at h40)
          all_goals
          refine Tri.skip ?_
          refine Tri.block ?_
          refine rZ [2, 6, 7] (fun P S K => XvFieldAddr P 25 0 (S.get 7) (fun r0 _ => XvLoad P 22 (M S.hp S.nx) r0 (fun r1 _ => XvBuildS P 22 1 S.nx [(0, (.atom (.int .i64 1)))] (fun r2 ef2 => (22 = 22 ∧ XvAppend P 22 (M (Eff.hp ef2 S.nx S.hp) (S.nx + ef2.add.length)) r1 r2 (fun r3 ef3 => XvFieldAddr P 25 0 (S.get 7) (fun r4 _ => XvStore P 22 (M (Eff.hp ef3 (S.nx + ef2.add.length) (Eff.hp ef2 S.nx S.hp)) ((S.nx + ef2.add.length) + ef3.add.length)) r4 r3 (fun r5 ef5 => K ⟨[(2, S.get 2), (6, S.get 6), (7, S.get 7)], (Eff.hp ef5 ((S.nx + ef2.add.length) + ef3.add.length) (Eff.hp ef3 (S.nx + ef2.add.length) (Eff.hp ef2 S.nx S.hp))), (((S.nx + ef2.add.length) + ef3.add.length) + ef5.add.length), S.gh⟩)))))))) fun K hK => ?_
          repeat' (first | (refine hK _ ?_; clear hK K) | ((first | refine xG_intro (fun hg => ?_) (fun hg => ?_) | refine fun (hg : (_ : Prop)) => ?_) <;> ((try simp only [BQ] at hg); try (exfalso; omega))) | refine And.intro ?_ ?_ | exact cl | exact one_encP _ | refine one_take ?_ _ | refine one_drop ?_ _ | (refine st ?_; try simp only [encC, pairs, zeroCase]) | simp only [encC, pairs, zeroCase])
          all_goals
          refine ⟨⟨j + 1, by omega, by omega⟩, [0, 1, 5, 3], by dsimp only; omega, ?_⟩
          dsimp only
          rw [show c.sizes.length + (j + 1) = c.sizes.length + j + 1 from rfl, List.replicate_succ', ← List.append_assoc]
          exact leqB17
         ·try (cases h40; done)
          all_goals (try simp only [CQ] at h40)
          all_goals
          refine Tri.exit ?_
          refine sZ [6] (fun P S K => XvLoad P 25 (M S.hp S.nx) (S.get 7) (fun r0 _ => XvStore P 25 (M S.hp S.nx) (S.get 6) r0 (fun r1 ef1 => K ⟨[(6, S.get 6)], (Eff.hp ef1 S.nx S.hp), (S.nx + ef1.add.length), S.gh⟩))) fun K hK => ?_
          repeat' (first | (refine hK _ ?_; clear hK K) | ((first | refine xG_intro (fun hg => ?_) (fun hg => ?_) | refine fun (hg : (_ : Prop)) => ?_) <;> ((try simp only [BQ] at hg); try (exfalso; omega))) | refine And.intro ?_ ?_ | exact cl | exact one_encP _ | refine one_take ?_ _ | refine one_drop ?_ _ | (refine st ?_; try simp only [encC, pairs, zeroCase]) | simp only [encC, pairs, zeroCase])
          all_goals
          refine Tri.ret ?_
          show ResR _ _ _ _ _
          first
            | rw [spo_0 (by assumption), hne]
            | rw [spo_1 (by assumption), hne, hke]
            | rw [spo_2 (by assumption), hne]
            | rw [spo_3 (by assumption) (by omega), hke]
            | rw [spo_3n (by assumption) (by omega)]
            | (have hpm : p = runM c k := (by unfold runM; split <;> omega); rw [spo_4 (p := p) (by assumption) (by rw [hke]; exact hpm), hke])
            | (have hjm : j = (62 + around by_ 4).toNat - c.sizes.length := (by omega); rw [spo_5 (by assumption) (by assumption) (by assumption) (by assumption) (by assumption) hjm])
          refine ResR.cell1 (PV.agg [_, _, _]) rfl ?_ (pure_case _)
          first
            | (simp [-List.map_map, sealed, St.obj, lk, encC, ints, pairs, map_sealed_encI, map_sealed_encP, take_map_len, set_encI]; done)
            | (simp [-List.map_map, sealed, St.obj, lk, encC, ints, pairs, map_sealed_encI, map_sealed_encP, take_map_len, List.take_of_length_le, runB_len, encP, encI, List.map_set]; done)
            | (simp [sealed, St.obj, lk, encC, ints, pairs, List.take_of_length_le, runB_len, encP, encI, List.map_set, PV.ren, renL]; done)
end Go.Proofs.Ytcdeilgijleoaaa
