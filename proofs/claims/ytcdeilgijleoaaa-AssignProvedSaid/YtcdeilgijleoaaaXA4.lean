/-
  The clean machine: a nil cell of an element of an own row, seen as a frozen row that is empty.
-/
import Derived.Test.YtcdeilgijleoaaaXA2
import Derived.Test.YtcdeilgijleoaaaXA1
import Derived.Test.YtcdeilgijleoaaaXB53
import Derived.Test.YtcdeilgijleoaaaXB16
import Derived.Test.YtcdeilgijleoaaaXB22
set_option linter.all false
namespace Go.Proofs.Ytcdeilgijleoaaa
open Go Go.RowKit
set_option maxRecDepth 20000
set_option maxHeartbeats 1000000
theorem getD_in {α : Type} {l : List α} {k : Nat} {d : α} (h : k < l.length) : l.getD k d ∈ l := by simp [List.getD_eq_getElem?_getD, h]
theorem own_pure (c : CaseD) : Pure Try.prog 16 [encC c] (encC c) [] := by
  refine Pure.introR (rv := [.cell 2 38]) Try.func16 (by kernel_rfl) rfl rfl rfl (Nat.le_of_ble_eq_true rfl) ?_ ?_
  · simp [pure_case, PV.pure, pureL]
  refine sZ [1, 2] (fun P S K => XvBox S.nx (S.get 0) (fun r0 ef0 => XvAlloc P 38 (S.nx + ef0.add.length) (fun r1 ef1 => K ⟨[(1, r0), (2, r1)], (Eff.hp ef1 (S.nx + ef0.add.length) (Eff.hp ef0 S.nx S.hp)), ((S.nx + ef0.add.length) + ef1.add.length), S.gh⟩))) fun K hK => ?_
  repeat' (first | (refine hK _ ?_; clear hK K) | refine And.intro ?_ ?_ | exact cl | (refine st ?_; try simp only [encC, pairs]) | simp only [encC, pairs])
  all_goals
  refine sZ [2] (fun P S K => XvFieldAddr P 25 0 (S.get 1) (fun r0 _ => XvLoad P 22 (M S.hp S.nx) r0 (fun r1 _ => XvFieldAddr P 25 1 (S.get 1) (fun r2 _ => XvLoad P 3 (M S.hp S.nx) r2 (fun r3 _ => XvFieldAddr P 25 2 (S.get 1) (fun r4 _ => XvLoad P 23 (M S.hp S.nx) r4 (fun r5 _ => XvBuild P 38 [(0, r1), (1, r3), (2, r5)] (fun r6 _ => XvStore P 38 (M S.hp S.nx) (S.get 2) r6 (fun r7 ef7 => K ⟨[(2, S.get 2)], (Eff.hp ef7 S.nx S.hp), (S.nx + ef7.add.length), S.gh⟩))))))))) fun K hK => ?_
  repeat' (first | (refine hK _ ?_; clear hK K) | refine And.intro ?_ ?_ | exact cl | (refine st ?_; try simp only [encC, pairs]) | simp only [encC, pairs])
  all_goals
  refine Tri.ret ?_
  show ResR _ _ _ _ _
  refine ResR.cell1 (encC c) rfl ?_ (pure_case _)
  exact sealed_pure _ _ _ (pure_case _)
theorem leqB36 {p : Prop} (h : p := by (refine ⟨4, ?_, ?_, rfl, by simp, rfl, fun _ h _ => absurd h (Nat.not_lt_zero _)⟩ <;> (simp only [List.forall_mem_cons]; repeat' (first | refine And.intro ?_ ?_ | (intro p hp; exact absurd hp List.not_mem_nil) | rfl | exact sp (pure_case _) | exact sp (pure_pairs _) | exact sp (pure_cert _) | exact (sealed_pure _ _ _ (pure_ints _)).trans (ren_ints _ _).symm | exact (sealed_pure _ _ _ (pure_strs _)).trans (ren_strs _ _).symm | exact sp (by assumption) | (intro o ho; cases ho; refine ⟨by decide, ?_⟩; first | (refine LeqS.row rfl ?_ ?_; (next => (first | rfl | (simp only [List.map_append, List.map_cons, List.map_nil, List.append_nil, List.nil_append, List.append_assoc, List.cons_append, encI, encS, ints, strs]; done) | (simp [encI, encS, ints, strs, encP]; done))); (next => (first | rfl | exact pureL_encI _ | exact pureL_encS _ | exact pureL_ints _ | exact pureL_strs _ | exact pureL_encP _ | (simp [pureL_append, pureL_encI, pureL_encS, pureL_ints, pureL_strs, pureL, PV.pure, pure_ints, pure_strs, pure_case, pureL_encP, pure_pairs, pure_cert]; done))); done) | refine ⟨_, rfl, rfl, ?_⟩) | (simp [St.born, St.known, retV, St.get, St.obj, lk, sealed, PV.ren, renL, rmap, AO.ren, ints, strs, encI, encS, map_sealed_encI, map_sealed_encS, map_sealed_ints, map_sealed_strs, map_ren_encI, map_ren_encS, map_ren_ints, map_ren_strs, renL_encI, renL_encS, renL_ints, renL_strs, ren_case, encC, pairs, renL_encP, map_sealed_encP, map_ren_encP, encP, take_map_len, encCert] <;> omega)))); first | done | fail) : p := h
def toN (by_ : Int) : Int := around by_ 9 - 1
def tornX (x : CertD) (how by_ : Int) : CertD :=
  if around how 6 = 0 then ⟨x.some, x.people, x.least + toN by_ - 3⟩
  else if around how 6 = 1 then ⟨x.some, x.people ++ [toN by_], x.least⟩
  else if around how 6 = 2 then ⟨x.some ++ [toN by_], x.people, x.least⟩
  else if around how 6 = 3 then ⟨x.some, x.people.drop 1, x.least⟩
  else if around how 6 = 4 then ⟨x.some.take (x.some.length - 1), x.people, x.least⟩
  else ⟨[toN by_], [], by_.tmod 12⟩
theorem torn_0 {x : CertD} {how by_ : Int} (h : around how 6 = 0) : tornX x how by_ = ⟨x.some, x.people, x.least + toN by_ - 3⟩ := if_pos h
theorem torn_1 {x : CertD} {how by_ : Int} (h : around how 6 = 1) : tornX x how by_ = ⟨x.some, x.people ++ [toN by_], x.least⟩ := by unfold tornX; simp [h]
theorem torn_2 {x : CertD} {how by_ : Int} (h : around how 6 = 2) : tornX x how by_ = ⟨x.some ++ [toN by_], x.people, x.least⟩ := by unfold tornX; simp [h]
theorem torn_3 {x : CertD} {how by_ : Int} (h : around how 6 = 3) : tornX x how by_ = ⟨x.some, x.people.drop 1, x.least⟩ := by unfold tornX; simp [h]
theorem torn_4 {x : CertD} {how by_ : Int} (h : around how 6 = 4) : tornX x how by_ = ⟨x.some.take (x.some.length - 1), x.people, x.least⟩ := by unfold tornX; simp [h]
theorem torn_5 {x : CertD} {how by_ : Int} (h0 : ¬ around how 6 = 0) (h1 : ¬ around how 6 = 1) (h2 : ¬ around how 6 = 2) (h3 : ¬ around how 6 = 3) (h4 : ¬ around how 6 = 4) : tornX x how by_ = ⟨[toN by_], [], by_.tmod 12⟩ := by unfold tornX; simp [h0, h1, h2, h3, h4]
theorem Torn_pure (so pe : List Int) (le : Int) (how by_ : Int) (hs : so.length ≤ 1000) (hp : pe.length ≤ 1000) (hl : -1000000000 ≤ le ∧ le ≤ 1000000000) (hh : I64 how) (hb : I64 by_) : Pure Try.prog 26 [encCert ⟨so, pe, le⟩, encI how, encI by_] (encCert (tornX ⟨so, pe, le⟩ how by_)) [] := by
  have h90 := around_lo (n := by_) (most := 9) (by decide)
  have h91 := around_hi (n := by_) (most := 9) (by decide)
  have hb1 := hb.1
  have hb2 := hb.2
  have hl1 := hl.1
  have hl2 := hl.2
  have hNe : around by_ 9 - 1 = toN by_ := rfl
  refine Pure.introR (rv := [.cell 6 31]) Try.func26 (by kernel_rfl) rfl rfl rfl (Nat.le_of_ble_eq_true rfl) ?_ ?_
  · simp [pure_cert, encI, PV.pure, pureL]
  refine sZ [1, 2, 3, 6] (fun P S K => XvBox S.nx (S.get 0) (fun r0 ef0 => XvAlloc P 31 (S.nx + ef0.add.length) (fun r1 ef1 => K ⟨[(1, S.get 1), (2, S.get 2), (3, r0), (6, r1)], (Eff.hp ef1 (S.nx + ef0.add.length) (Eff.hp ef0 S.nx S.hp)), ((S.nx + ef0.add.length) + ef1.add.length), S.gh⟩))) fun K hK => ?_
  repeat' (first | (refine hK _ ?_; clear hK K) | refine And.intro ?_ ?_ | exact cl | exact hs1 | exact hs2 | (refine st ?_; try simp only [encCert, zeroCert]) | simp only [encCert, zeroCert])
  all_goals
  refine Tri.cut (α := Unit) (fun ⟨⟩ => ⟨[(1, encI how), (2, encI by_), (6, .ptr 0 3 0 0), (7, .ptr 1 3 0 0)], [(0, some ⟨3, [zeroCert]⟩), (1, some ⟨3, [.agg [.ob 2 1 0 so.length, .ob 3 1 0 pe.length, encI le]]⟩), (2, some ⟨1, so.map encI⟩), (3, some ⟨1, pe.map encI⟩)], 4, []⟩) ?_ ?_
  ·skip
   refine rD 12 [1, 2, 6, 7] (fun P GD S K => XvBuildS P 22 0 S.nx [] (fun r0 ef0 => XvFieldAddr P 31 0 (S.get 3) (fun r1 ef1 => XvLoad P 22 (M (Eff.hp ef0 S.nx S.hp) (S.nx + ef0.add.length)) r1 (fun r2 ef2 => (22 = 22 ∧ XvAppend P 22 (M (Eff.hp ef0 S.nx S.hp) (S.nx + ef0.add.length)) r0 r2 (fun r3 ef3 => XvBuildS P 22 0 ((S.nx + ef0.add.length) + ef3.add.length) [] (fun r4 ef4 => XvFieldAddr P 31 1 (S.get 3) (fun r5 ef5 => XvLoad P 22 (M (Eff.hp ef4 ((S.nx + ef0.add.length) + ef3.add.length) (Eff.hp ef3 (S.nx + ef0.add.length) (Eff.hp ef0 S.nx S.hp))) (((S.nx + ef0.add.length) + ef3.add.length) + ef4.add.length)) r5 (fun r6 ef6 => (22 = 22 ∧ XvAppend P 22 (M (Eff.hp ef4 ((S.nx + ef0.add.length) + ef3.add.length) (Eff.hp ef3 (S.nx + ef0.add.length) (Eff.hp ef0 S.nx S.hp))) (((S.nx + ef0.add.length) + ef3.add.length) + ef4.add.length)) r4 r6 (fun r7 ef7 => XvFieldAddr P 31 2 (S.get 3) (fun r8 ef8 => XvLoad P 3 (M (Eff.hp ef7 (((S.nx + ef0.add.length) + ef3.add.length) + ef4.add.length) (Eff.hp ef4 ((S.nx + ef0.add.length) + ef3.add.length) (Eff.hp ef3 (S.nx + ef0.add.length) (Eff.hp ef0 S.nx S.hp)))) ((((S.nx + ef0.add.length) + ef3.add.length) + ef4.add.length) + ef7.add.length)) r8 (fun r9 ef9 => XvBuild P 31 [(0, r3), (1, r7), (2, r9)] (fun r10 ef10 => XvAlloc P 31 ((((S.nx + ef0.add.length) + ef3.add.length) + ef4.add.length) + ef7.add.length) (fun r11 ef11 => (trOk S.nx GD [(Eff.tr ef0 S.nx), ⟨(S.nx + ef0.add.length), 0, ef1.rd, [], []⟩, ⟨(S.nx + ef0.add.length), 0, ef2.rd, [], []⟩, (Eff.tr ef3 (S.nx + ef0.add.length)), (Eff.tr ef4 ((S.nx + ef0.add.length) + ef3.add.length)), ⟨(((S.nx + ef0.add.length) + ef3.add.length) + ef4.add.length), 0, ef5.rd, [], []⟩, ⟨(((S.nx + ef0.add.length) + ef3.add.length) + ef4.add.length), 0, ef6.rd, [], []⟩, (Eff.tr ef7 (((S.nx + ef0.add.length) + ef3.add.length) + ef4.add.length)), ⟨((((S.nx + ef0.add.length) + ef3.add.length) + ef4.add.length) + ef7.add.length), 0, ef8.rd, [], []⟩, ⟨((((S.nx + ef0.add.length) + ef3.add.length) + ef4.add.length) + ef7.add.length), 0, ef9.rd, [], []⟩, ⟨((((S.nx + ef0.add.length) + ef3.add.length) + ef4.add.length) + ef7.add.length), 0, ef10.rd, [], []⟩, (Eff.tr ef11 ((((S.nx + ef0.add.length) + ef3.add.length) + ef4.add.length) + ef7.add.length))] = true ∧ XvStore P 31 (M (Eff.hp ef11 ((((S.nx + ef0.add.length) + ef3.add.length) + ef4.add.length) + ef7.add.length) (Eff.hp ef7 (((S.nx + ef0.add.length) + ef3.add.length) + ef4.add.length) (Eff.hp ef4 ((S.nx + ef0.add.length) + ef3.add.length) (Eff.hp ef3 (S.nx + ef0.add.length) (Eff.hp ef0 S.nx S.hp))))) (((((S.nx + ef0.add.length) + ef3.add.length) + ef4.add.length) + ef7.add.length) + ef11.add.length)) r11 r10 (fun r12 ef12 => K ⟨[(1, S.get 1), (2, S.get 2), (6, S.get 6), (7, r11)], (Eff.hp ef12 (((((S.nx + ef0.add.length) + ef3.add.length) + ef4.add.length) + ef7.add.length) + ef11.add.length) (Eff.hp ef11 ((((S.nx + ef0.add.length) + ef3.add.length) + ef4.add.length) + ef7.add.length) (Eff.hp ef7 (((S.nx + ef0.add.length) + ef3.add.length) + ef4.add.length) (Eff.hp ef4 ((S.nx + ef0.add.length) + ef3.add.length) (Eff.hp ef3 (S.nx + ef0.add.length) (Eff.hp ef0 S.nx S.hp)))))), ((((((S.nx + ef0.add.length) + ef3.add.length) + ef4.add.length) + ef7.add.length) + ef11.add.length) + ef12.add.length), S.gh⟩))))))))))))))))) fun K hK => ?_
   repeat' (first | (refine hK _ ?_; clear hK K) | (refine (?_ : trOk _ _ _ = true); kernel_rfl) | ((first | refine xG_intro (fun hg => ?_) (fun hg => ?_) | refine fun (hg : (_ : Prop)) => ?_) <;> ((try simp only [BQ] at hg); try (exfalso; omega))) | refine And.intro ?_ ?_ | exact cl | exact hs1 | exact hs2 | refine one_take ?_ _ | refine one_drop ?_ _ | (refine st ?_; try simp only [encCert, zeroCert]) | simp only [encCert, zeroCert])
   all_goals
   refine ⟨(), [1, 6, 3, 5], ?_⟩
   exact leqB36
  ·rintro ⟨⟩
   refine sZ [1, 2, 6, 7, 8] (fun P S K => XvFnIV P (M S.hp S.nx) (.fn 35 []) [(S.get 2), (.atom (.int .i64 9))] (fun r1 ef1 => XvBinOV P .sub 3 (.const (.int .i64 1)) r1 (.atom (.int .i64 1)) (fun r2 _ => K ⟨[(1, S.get 1), (2, S.get 2), (6, S.get 6), (7, S.get 7), (8, r2)], (Eff.hp ef1 S.nx S.hp), (S.nx + ef1.add.length), S.gh⟩))) fun K hK => ?_
   repeat' (first | (refine hK _ ?_; clear hK K) | refine And.intro ?_ ?_ | exact cl | exact hs1 | exact hs2 | refine .inl ⟨_, _, Around_pure how 6 hh (by decide), ?_⟩ | refine .inl ⟨_, _, Around_pure by_ 9 hb (by decide), ?_⟩ | (refine st ?_; try simp only [encCert, zeroCert]) | simp only [encCert, zeroCert])
   all_goals try simp (disch := omega) only [wrap_id, wrap8_id]
   rw [hNe]
   generalize hne : toN by_ = n at h90 h91
   all_goals
   refine Tri.seq ?_
   refine sZ [2, 6, 7, 8, 24] (fun P S K => XvFnIV P (M S.hp S.nx) (.fn 35 []) [(S.get 1), (.atom (.int .i64 6))] (fun r1 ef1 => K ⟨[(2, S.get 2), (6, S.get 6), (7, S.get 7), (8, S.get 8), (24, r1)], (Eff.hp ef1 S.nx S.hp), (S.nx + ef1.add.length), S.gh⟩)) fun K hK => ?_
   repeat' (first | (refine hK _ ?_; clear hK K) | refine And.intro ?_ ?_ | exact cl | exact hs1 | exact hs2 | refine .inl ⟨_, _, Around_pure how 6 hh (by decide), ?_⟩ | refine .inl ⟨_, _, Around_pure by_ 9 hb (by decide), ?_⟩ | (refine st ?_; try simp only [encCert, zeroCert]) | simp only [encCert, zeroCert])
   all_goals
   refine Tri.block ?_
   refine sZ [2, 6, 7, 8, 24, 30] (fun P S K => XvBinOV P .eql 3 (.const (.int .i64 0)) (S.get 24) (.atom (.int .i64 0)) (fun r0 _ => K ⟨[(2, S.get 2), (6, S.get 6), (7, S.get 7), (8, S.get 8), (24, S.get 24), (30, r0)], S.hp, S.nx, S.gh⟩)) fun K hK => ?_
   repeat' (first | (refine hK _ ?_; clear hK K) | refine And.intro ?_ ?_ | exact cl | exact hs1 | exact hs2 | (refine st ?_; try simp only [encCert, zeroCert]) | simp only [encCert, zeroCert])
   all_goals
   refine Tri.cond rfl (fun h30 => ?_) (fun h30 => ?_)
   ·try (cases h30; done)
    all_goals (try simp only [CQ] at h30)
    all_goals
    refine rZ [6, 7] (fun P S K => XvFieldAddr P 31 2 (S.get 7) (fun r0 _ => XvLoad P 3 (M S.hp S.nx) r0 (fun r1 _ => XvBinOV P .add 3 (.tmp 34) r1 (S.get 8) (fun r3 _ => XvBinOV P .sub 3 (.const (.int .i64 3)) r3 (.atom (.int .i64 3)) (fun r4 _ => XvFieldAddr P 31 2 (S.get 7) (fun r5 _ => XvStore P 3 (M S.hp S.nx) r5 r4 (fun r6 ef6 => K ⟨[(6, S.get 6), (7, S.get 7)], (Eff.hp ef6 S.nx S.hp), (S.nx + ef6.add.length), S.gh⟩))))))) fun K hK => ?_
    repeat' (first | (refine hK _ ?_; clear hK K) | refine And.intro ?_ ?_ | exact cl | exact hs1 | exact hs2 | refine one_take ?_ _ | refine one_drop ?_ _ | (refine st ?_; try simp only [encCert, zeroCert]) | simp only [encCert, zeroCert])
    all_goals try simp (disch := omega) only [wrap_id, wrap8_id]
    all_goals
    refine sZ [6] (fun P S K => XvLoad P 31 (M S.hp S.nx) (S.get 7) (fun r0 _ => XvStore P 31 (M S.hp S.nx) (S.get 6) r0 (fun r1 ef1 => K ⟨[(6, S.get 6)], (Eff.hp ef1 S.nx S.hp), (S.nx + ef1.add.length), S.gh⟩))) fun K hK => ?_
    repeat' (first | (refine hK _ ?_; clear hK K) | refine And.intro ?_ ?_ | exact cl | exact hs1 | exact hs2 | refine one_take ?_ _ | refine one_drop ?_ _ | (refine st ?_; try simp only [encCert, zeroCert]) | simp only [encCert, zeroCert])
    all_goals
    refine Tri.ret ?_
    show ResR _ _ _ _ _
    first
      | rw [torn_0 (by assumption), hne]
      | rw [torn_1 (by assumption), hne]
      | rw [torn_2 (by assumption), hne]
      | rw [torn_3 (by assumption)]
      | rw [torn_4 (by assumption)]
      | rw [torn_5 (by assumption) (by assumption) (by assumption) (by assumption) (by assumption), hne]
    all_goals refine ResR.cell1 (PV.agg [_, _, _]) rfl ?_ (pure_cert _)
    first
      | (have hq1 : pe.length = 1 := (by omega); obtain ⟨y, rfl⟩ : ∃ y, pe = [y] := List.length_eq_one_iff.1 hq1; simp [-List.map_map, sealed, St.obj, lk, encCert, ints, map_sealed_encI, take_map_len, encI, PV.ren, renL]; done)
      | (have hq1 : pe.length = 0 := (by omega); obtain rfl : pe = [] := List.eq_nil_of_length_eq_zero hq1; simp [-List.map_map, sealed, St.obj, lk, encCert, ints, map_sealed_encI, take_map_len, encI, PV.ren, renL]; done)
      | (have hq1 : so.length = 0 := (by omega); obtain rfl : so = [] := List.eq_nil_of_length_eq_zero hq1; simp [-List.map_map, sealed, St.obj, lk, encCert, ints, map_sealed_encI, take_map_len, encI, PV.ren, renL]; done)
      | (obtain ⟨y, r, rfl⟩ : ∃ y r, pe = y :: r := (by cases pe with | nil => simp at * | cons y r => exact ⟨y, r, rfl⟩); simp [-List.map_map, sealed, St.obj, lk, encCert, ints, map_sealed_encI, take_map_len, Nat.add_comm 1]; done)
      | (simp [-List.map_map, sealed, St.obj, lk, encCert, ints, map_sealed_encI, take_map_len]; done)
      | (simp [-List.map_map, sealed, St.obj, lk, encCert, ints, map_sealed_encI, take_map_len, List.take_of_length_le, encI]; done)
      | (simp [sealed, St.obj, lk, encCert, ints, List.take_of_length_le, encI, PV.ren, renL]; done)
   ·try (cases h30; done)
    all_goals (try simp only [CQ] at h30)
    all_goals
    refine sZ [2, 6, 7, 8, 24, 38] (fun P S K => XvBinOV P .eql 3 (.const (.int .i64 1)) (S.get 24) (.atom (.int .i64 1)) (fun r0 _ => K ⟨[(2, S.get 2), (6, S.get 6), (7, S.get 7), (8, S.get 8), (24, S.get 24), (38, r0)], S.hp, S.nx, S.gh⟩)) fun K hK => ?_
    repeat' (first | (refine hK _ ?_; clear hK K) | refine And.intro ?_ ?_ | exact cl | exact hs1 | exact hs2 | (refine st ?_; try simp only [encCert, zeroCert]) | simp only [encCert, zeroCert])
    all_goals
    refine Tri.cond rfl (fun h38 => ?_) (fun h38 => ?_)
    ·try (cases h38; done)
     all_goals (try simp only [CQ] at h38)
     all_goals
     refine rZ [6, 7] (fun P S K => XvFieldAddr P 31 1 (S.get 7) (fun r0 _ => XvLoad P 22 (M S.hp S.nx) r0 (fun r1 _ => XvBuildS P 22 1 S.nx [(0, (S.get 8))] (fun r3 ef3 => (22 = 22 ∧ XvAppend P 22 (M (Eff.hp ef3 S.nx S.hp) (S.nx + ef3.add.length)) r1 r3 (fun r4 ef4 => XvFieldAddr P 31 1 (S.get 7) (fun r5 _ => XvStore P 22 (M (Eff.hp ef4 (S.nx + ef3.add.length) (Eff.hp ef3 S.nx S.hp)) ((S.nx + ef3.add.length) + ef4.add.length)) r5 r4 (fun r6 ef6 => K ⟨[(6, S.get 6), (7, S.get 7)], (Eff.hp ef6 ((S.nx + ef3.add.length) + ef4.add.length) (Eff.hp ef4 (S.nx + ef3.add.length) (Eff.hp ef3 S.nx S.hp))), (((S.nx + ef3.add.length) + ef4.add.length) + ef6.add.length), S.gh⟩)))))))) fun K hK => ?_
     repeat' (first | (refine hK _ ?_; clear hK K) | ((first | refine xG_intro (fun hg => ?_) (fun hg => ?_) | refine fun (hg : (_ : Prop)) => ?_) <;> ((try simp only [BQ] at hg); try (exfalso; omega))) | refine And.intro ?_ ?_ | exact cl | exact hs1 | exact hs2 | refine one_take ?_ _ | refine one_drop ?_ _ | (refine st ?_; try simp only [encCert, zeroCert]) | simp only [encCert, zeroCert])
     all_goals
     refine sZ [6] (fun P S K => XvLoad P 31 (M S.hp S.nx) (S.get 7) (fun r0 _ => XvStore P 31 (M S.hp S.nx) (S.get 6) r0 (fun r1 ef1 => K ⟨[(6, S.get 6)], (Eff.hp ef1 S.nx S.hp), (S.nx + ef1.add.length), S.gh⟩))) fun K hK => ?_
     repeat' (first | (refine hK _ ?_; clear hK K) | refine And.intro ?_ ?_ | exact cl | exact hs1 | exact hs2 | refine one_take ?_ _ | refine one_drop ?_ _ | (refine st ?_; try simp only [encCert, zeroCert]) | simp only [encCert, zeroCert])
     all_goals
     refine Tri.ret ?_
     show ResR _ _ _ _ _
     first
       | rw [torn_0 (by assumption), hne]
       | rw [torn_1 (by assumption), hne]
       | rw [torn_2 (by assumption), hne]
       | rw [torn_3 (by assumption)]
       | rw [torn_4 (by assumption)]
       | rw [torn_5 (by assumption) (by assumption) (by assumption) (by assumption) (by assumption), hne]
     all_goals refine ResR.cell1 (PV.agg [_, _, _]) rfl ?_ (pure_cert _)
     first
       | (have hq1 : pe.length = 1 := (by omega); obtain ⟨y, rfl⟩ : ∃ y, pe = [y] := List.length_eq_one_iff.1 hq1; simp [-List.map_map, sealed, St.obj, lk, encCert, ints, map_sealed_encI, take_map_len, encI, PV.ren, renL]; done)
       | (have hq1 : pe.length = 0 := (by omega); obtain rfl : pe = [] := List.eq_nil_of_length_eq_zero hq1; simp [-List.map_map, sealed, St.obj, lk, encCert, ints, map_sealed_encI, take_map_len, encI, PV.ren, renL]; done)
       | (have hq1 : so.length = 0 := (by omega); obtain rfl : so = [] := List.eq_nil_of_length_eq_zero hq1; simp [-List.map_map, sealed, St.obj, lk, encCert, ints, map_sealed_encI, take_map_len, encI, PV.ren, renL]; done)
       | (obtain ⟨y, r, rfl⟩ : ∃ y r, pe = y :: r := (by cases pe with | nil => simp at * | cons y r => exact ⟨y, r, rfl⟩); simp [-List.map_map, sealed, St.obj, lk, encCert, ints, map_sealed_encI, take_map_len, Nat.add_comm 1]; done)
       | (simp [-List.map_map, sealed, St.obj, lk, encCert, ints, map_sealed_encI, take_map_len]; done)
       | (simp [-List.map_map, sealed, St.obj, lk, encCert, ints, map_sealed_encI, take_map_len, List.take_of_length_le, encI]; done)
       | (simp [sealed, St.obj, lk, encCert, ints, List.take_of_length_le, encI, PV.ren, renL]; done)
    ·try (cases h38; done)
     all_goals (try simp only [CQ] at h38)
     all_goals
     refine sZ [2, 6, 7, 8, 24, 46] (fun P S K => XvBinOV P .eql 3 (.const (.int .i64 2)) (S.get 24) (.atom (.int .i64 2)) (fun r0 _ => K ⟨[(2, S.get 2), (6, S.get 6), (7, S.get 7), (8, S.get 8), (24, S.get 24), (46, r0)], S.hp, S.nx, S.gh⟩)) fun K hK => ?_
     repeat' (first | (refine hK _ ?_; clear hK K) | refine And.intro ?_ ?_ | exact cl | exact hs1 | exact hs2 | (refine st ?_; try simp only [encCert, zeroCert]) | simp only [encCert, zeroCert])
     all_goals
     refine Tri.cond rfl (fun h46 => ?_) (fun h46 => ?_)
     ·try (cases h46; done)
      all_goals (try simp only [CQ] at h46)
      all_goals
      refine rZ [6, 7] (fun P S K => XvFieldAddr P 31 0 (S.get 7) (fun r0 _ => XvLoad P 22 (M S.hp S.nx) r0 (fun r1 _ => XvBuildS P 22 1 S.nx [(0, (S.get 8))] (fun r3 ef3 => (22 = 22 ∧ XvAppend P 22 (M (Eff.hp ef3 S.nx S.hp) (S.nx + ef3.add.length)) r1 r3 (fun r4 ef4 => XvFieldAddr P 31 0 (S.get 7) (fun r5 _ => XvStore P 22 (M (Eff.hp ef4 (S.nx + ef3.add.length) (Eff.hp ef3 S.nx S.hp)) ((S.nx + ef3.add.length) + ef4.add.length)) r5 r4 (fun r6 ef6 => K ⟨[(6, S.get 6), (7, S.get 7)], (Eff.hp ef6 ((S.nx + ef3.add.length) + ef4.add.length) (Eff.hp ef4 (S.nx + ef3.add.length) (Eff.hp ef3 S.nx S.hp))), (((S.nx + ef3.add.length) + ef4.add.length) + ef6.add.length), S.gh⟩)))))))) fun K hK => ?_
      repeat' (first | (refine hK _ ?_; clear hK K) | ((first | refine xG_intro (fun hg => ?_) (fun hg => ?_) | refine fun (hg : (_ : Prop)) => ?_) <;> ((try simp only [BQ] at hg); try (exfalso; omega))) | refine And.intro ?_ ?_ | exact cl | exact hs1 | exact hs2 | refine one_take ?_ _ | refine one_drop ?_ _ | (refine st ?_; try simp only [encCert, zeroCert]) | simp only [encCert, zeroCert])
      all_goals
      refine sZ [6] (fun P S K => XvLoad P 31 (M S.hp S.nx) (S.get 7) (fun r0 _ => XvStore P 31 (M S.hp S.nx) (S.get 6) r0 (fun r1 ef1 => K ⟨[(6, S.get 6)], (Eff.hp ef1 S.nx S.hp), (S.nx + ef1.add.length), S.gh⟩))) fun K hK => ?_
      repeat' (first | (refine hK _ ?_; clear hK K) | refine And.intro ?_ ?_ | exact cl | exact hs1 | exact hs2 | refine one_take ?_ _ | refine one_drop ?_ _ | (refine st ?_; try simp only [encCert, zeroCert]) | simp only [encCert, zeroCert])
      all_goals
      refine Tri.ret ?_
      show ResR _ _ _ _ _
      first
        | rw [torn_0 (by assumption), hne]
        | rw [torn_1 (by assumption), hne]
        | rw [torn_2 (by assumption), hne]
        | rw [torn_3 (by assumption)]
        | rw [torn_4 (by assumption)]
        | rw [torn_5 (by assumption) (by assumption) (by assumption) (by assumption) (by assumption), hne]
      all_goals refine ResR.cell1 (PV.agg [_, _, _]) rfl ?_ (pure_cert _)
      first
        | (have hq1 : pe.length = 1 := (by omega); obtain ⟨y, rfl⟩ : ∃ y, pe = [y] := List.length_eq_one_iff.1 hq1; simp [-List.map_map, sealed, St.obj, lk, encCert, ints, map_sealed_encI, take_map_len, encI, PV.ren, renL]; done)
        | (have hq1 : pe.length = 0 := (by omega); obtain rfl : pe = [] := List.eq_nil_of_length_eq_zero hq1; simp [-List.map_map, sealed, St.obj, lk, encCert, ints, map_sealed_encI, take_map_len, encI, PV.ren, renL]; done)
        | (have hq1 : so.length = 0 := (by omega); obtain rfl : so = [] := List.eq_nil_of_length_eq_zero hq1; simp [-List.map_map, sealed, St.obj, lk, encCert, ints, map_sealed_encI, take_map_len, encI, PV.ren, renL]; done)
        | (obtain ⟨y, r, rfl⟩ : ∃ y r, pe = y :: r := (by cases pe with | nil => simp at * | cons y r => exact ⟨y, r, rfl⟩); simp [-List.map_map, sealed, St.obj, lk, encCert, ints, map_sealed_encI, take_map_len, Nat.add_comm 1]; done)
        | (simp [-List.map_map, sealed, St.obj, lk, encCert, ints, map_sealed_encI, take_map_len]; done)
        | (simp [-List.map_map, sealed, St.obj, lk, encCert, ints, map_sealed_encI, take_map_len, List.take_of_length_le, encI]; done)
        | (simp [sealed, St.obj, lk, encCert, ints, List.take_of_length_le, encI, PV.ren, renL]; done)
     ·try (cases h46; done)
      all_goals (try simp only [CQ] at h46)
      all_goals
      refine sZ [2, 6, 7, 8, 24, 54] (fun P S K => XvBinOV P .eql 3 (.const (.int .i64 3)) (S.get 24) (.atom (.int .i64 3)) (fun r0 _ => K ⟨[(2, S.get 2), (6, S.get 6), (7, S.get 7), (8, S.get 8), (24, S.get 24), (54, r0)], S.hp, S.nx, S.gh⟩)) fun K hK => ?_
      repeat' (first | (refine hK _ ?_; clear hK K) | refine And.intro ?_ ?_ | exact cl | exact hs1 | exact hs2 | (refine st ?_; try simp only [encCert, zeroCert]) | simp only [encCert, zeroCert])
      all_goals
      refine Tri.cond rfl (fun h54 => ?_) (fun h54 => ?_)
      ·try (cases h54; done)
       all_goals (try simp only [CQ] at h54)
       all_goals
       refine sZ [6, 7, 59] (fun P S K => XvFieldAddr P 31 1 (S.get 7) (fun r0 _ => XvLoad P 22 (M S.hp S.nx) r0 (fun r1 _ => XvLen P 22 r1 (fun r2 _ => XvBinOV P .gtr 3 (.const (.int .i64 0)) r2 (.atom (.int .i64 0)) (fun r3 _ => K ⟨[(6, S.get 6), (7, S.get 7), (59, r3)], S.hp, S.nx, S.gh⟩))))) fun K hK => ?_
       repeat' (first | (refine hK _ ?_; clear hK K) | refine And.intro ?_ ?_ | exact cl | exact hs1 | exact hs2 | refine one_take ?_ _ | refine one_drop ?_ _ | (refine st ?_; try simp only [encCert, zeroCert]) | simp only [encCert, zeroCert])
       all_goals
       refine Tri.cond rfl (fun h59 => ?_) (fun h59 => ?_)
       ·try (cases h59; done)
        all_goals (try simp only [CQ] at h59)
        all_goals
        refine rZ [6, 7] (fun P S K => XvFieldAddr P 31 1 (S.get 7) (fun r0 _ => XvLoad P 22 (M S.hp S.nx) r0 (fun r1 _ => XvSliceV P 22 r1 (some (.atom (.int .i64 1))) none (fun r2 _ => XvFieldAddr P 31 1 (S.get 7) (fun r3 _ => XvStore P 22 (M S.hp S.nx) r3 r2 (fun r4 ef4 => K ⟨[(6, S.get 6), (7, S.get 7)], (Eff.hp ef4 S.nx S.hp), (S.nx + ef4.add.length), S.gh⟩)))))) fun K hK => ?_
        repeat' (first | (refine hK _ ?_; clear hK K) | ((first | refine xG_intro (fun hg => ?_) (fun hg => ?_) | refine fun (hg : (_ : Prop)) => ?_) <;> ((try simp only [BQ] at hg); try (exfalso; omega))) | refine And.intro ?_ ?_ | exact cl | exact hs1 | exact hs2 | refine one_take ?_ _ | refine one_drop ?_ _ | (refine st ?_; try simp only [encCert, zeroCert]) | simp only [encCert, zeroCert])
        all_goals
        refine sZ [6] (fun P S K => XvLoad P 31 (M S.hp S.nx) (S.get 7) (fun r0 _ => XvStore P 31 (M S.hp S.nx) (S.get 6) r0 (fun r1 ef1 => K ⟨[(6, S.get 6)], (Eff.hp ef1 S.nx S.hp), (S.nx + ef1.add.length), S.gh⟩))) fun K hK => ?_
        repeat' (first | (refine hK _ ?_; clear hK K) | refine And.intro ?_ ?_ | exact cl | exact hs1 | exact hs2 | refine one_take ?_ _ | refine one_drop ?_ _ | (refine st ?_; try simp only [encCert, zeroCert]) | simp only [encCert, zeroCert])
        all_goals
        refine Tri.ret ?_
        show ResR _ _ _ _ _
        first
          | rw [torn_0 (by assumption), hne]
          | rw [torn_1 (by assumption), hne]
          | rw [torn_2 (by assumption), hne]
          | rw [torn_3 (by assumption)]
          | rw [torn_4 (by assumption)]
          | rw [torn_5 (by assumption) (by assumption) (by assumption) (by assumption) (by assumption), hne]
        all_goals refine ResR.cell1 (PV.agg [_, _, _]) rfl ?_ (pure_cert _)
        first
          | (have hq1 : pe.length = 1 := (by omega); obtain ⟨y, rfl⟩ : ∃ y, pe = [y] := List.length_eq_one_iff.1 hq1; simp [-List.map_map, sealed, St.obj, lk, encCert, ints, map_sealed_encI, take_map_len, encI, PV.ren, renL]; done)
          | (have hq1 : pe.length = 0 := (by omega); obtain rfl : pe = [] := List.eq_nil_of_length_eq_zero hq1; simp [-List.map_map, sealed, St.obj, lk, encCert, ints, map_sealed_encI, take_map_len, encI, PV.ren, renL]; done)
          | (have hq1 : so.length = 0 := (by omega); obtain rfl : so = [] := List.eq_nil_of_length_eq_zero hq1; simp [-List.map_map, sealed, St.obj, lk, encCert, ints, map_sealed_encI, take_map_len, encI, PV.ren, renL]; done)
          | (obtain ⟨y, r, rfl⟩ : ∃ y r, pe = y :: r := (by cases pe with | nil => simp at * | cons y r => exact ⟨y, r, rfl⟩); simp [-List.map_map, sealed, St.obj, lk, encCert, ints, map_sealed_encI, take_map_len, Nat.add_comm 1]; done)
          | (simp [-List.map_map, sealed, St.obj, lk, encCert, ints, map_sealed_encI, take_map_len]; done)
          | (simp [-List.map_map, sealed, St.obj, lk, encCert, ints, map_sealed_encI, take_map_len, List.take_of_length_le, encI]; done)
          | (simp [sealed, St.obj, lk, encCert, ints, List.take_of_length_le, encI, PV.ren, renL]; done)
       ·try (cases h59; done)
        all_goals (try simp only [CQ] at h59)
        all_goals
        refine Tri.skip ?_
        refine sZ [6] (fun P S K => XvLoad P 31 (M S.hp S.nx) (S.get 7) (fun r0 _ => XvStore P 31 (M S.hp S.nx) (S.get 6) r0 (fun r1 ef1 => K ⟨[(6, S.get 6)], (Eff.hp ef1 S.nx S.hp), (S.nx + ef1.add.length), S.gh⟩))) fun K hK => ?_
        repeat' (first | (refine hK _ ?_; clear hK K) | refine And.intro ?_ ?_ | exact cl | exact hs1 | exact hs2 | refine one_take ?_ _ | refine one_drop ?_ _ | (refine st ?_; try simp only [encCert, zeroCert]) | simp only [encCert, zeroCert])
        all_goals
        refine Tri.ret ?_
        show ResR _ _ _ _ _
        first
          | rw [torn_0 (by assumption), hne]
          | rw [torn_1 (by assumption), hne]
          | rw [torn_2 (by assumption), hne]
          | rw [torn_3 (by assumption)]
          | rw [torn_4 (by assumption)]
          | rw [torn_5 (by assumption) (by assumption) (by assumption) (by assumption) (by assumption), hne]
        all_goals refine ResR.cell1 (PV.agg [_, _, _]) rfl ?_ (pure_cert _)
        first
          | (have hq1 : pe.length = 1 := (by omega); obtain ⟨y, rfl⟩ : ∃ y, pe = [y] := List.length_eq_one_iff.1 hq1; simp [-List.map_map, sealed, St.obj, lk, encCert, ints, map_sealed_encI, take_map_len, encI, PV.ren, renL]; done)
          | (have hq1 : pe.length = 0 := (by omega); obtain rfl : pe = [] := List.eq_nil_of_length_eq_zero hq1; simp [-List.map_map, sealed, St.obj, lk, encCert, ints, map_sealed_encI, take_map_len, encI, PV.ren, renL]; done)
          | (have hq1 : so.length = 0 := (by omega); obtain rfl : so = [] := List.eq_nil_of_length_eq_zero hq1; simp [-List.map_map, sealed, St.obj, lk, encCert, ints, map_sealed_encI, take_map_len, encI, PV.ren, renL]; done)
          | (obtain ⟨y, r, rfl⟩ : ∃ y r, pe = y :: r := (by cases pe with | nil => simp at * | cons y r => exact ⟨y, r, rfl⟩); simp [-List.map_map, sealed, St.obj, lk, encCert, ints, map_sealed_encI, take_map_len, Nat.add_comm 1]; done)
          | (simp [-List.map_map, sealed, St.obj, lk, encCert, ints, map_sealed_encI, take_map_len]; done)
          | (simp [-List.map_map, sealed, St.obj, lk, encCert, ints, map_sealed_encI, take_map_len, List.take_of_length_le, encI]; done)
          | (simp [sealed, St.obj, lk, encCert, ints, List.take_of_length_le, encI, PV.ren, renL]; done)
      ·try (cases h54; done)
       all_goals (try simp only [CQ] at h54)
       all_goals
       refine sZ [2, 6, 7, 8, 64] (fun P S K => XvBinOV P .eql 3 (.const (.int .i64 4)) (S.get 24) (.atom (.int .i64 4)) (fun r0 _ => K ⟨[(2, S.get 2), (6, S.get 6), (7, S.get 7), (8, S.get 8), (64, r0)], S.hp, S.nx, S.gh⟩)) fun K hK => ?_
       repeat' (first | (refine hK _ ?_; clear hK K) | refine And.intro ?_ ?_ | exact cl | exact hs1 | exact hs2 | (refine st ?_; try simp only [encCert, zeroCert]) | simp only [encCert, zeroCert])
       all_goals
       refine Tri.cond rfl (fun h64 => ?_) (fun h64 => ?_)
       ·try (cases h64; done)
        all_goals (try simp only [CQ] at h64)
        all_goals
        refine sZ [6, 7, 69] (fun P S K => XvFieldAddr P 31 0 (S.get 7) (fun r0 _ => XvLoad P 22 (M S.hp S.nx) r0 (fun r1 _ => XvLen P 22 r1 (fun r2 _ => XvBinOV P .gtr 3 (.const (.int .i64 0)) r2 (.atom (.int .i64 0)) (fun r3 _ => K ⟨[(6, S.get 6), (7, S.get 7), (69, r3)], S.hp, S.nx, S.gh⟩))))) fun K hK => ?_
        repeat' (first | (refine hK _ ?_; clear hK K) | refine And.intro ?_ ?_ | exact cl | exact hs1 | exact hs2 | refine one_take ?_ _ | refine one_drop ?_ _ | (refine st ?_; try simp only [encCert, zeroCert]) | simp only [encCert, zeroCert])
        all_goals
        refine Tri.cond rfl (fun h69 => ?_) (fun h69 => ?_)
        ·try (cases h69; done)
         all_goals (try simp only [CQ] at h69)
         all_goals
         have hs1 : (0 : Int) ≤ (so.length : Int) - 1 := by omega
         have hs2 : (so.length : Int) - 1 ≤ so.length := by omega
         refine rZ [6, 7] (fun P S K => XvFieldAddr P 31 0 (S.get 7) (fun r0 _ => XvLoad P 22 (M S.hp S.nx) r0 (fun r1 _ => XvFieldAddr P 31 0 (S.get 7) (fun r2 _ => XvLoad P 22 (M S.hp S.nx) r2 (fun r3 _ => XvLen P 22 r3 (fun r4 _ => XvBinOV P .sub 3 (.const (.int .i64 1)) r4 (.atom (.int .i64 1)) (fun r5 _ => XvSliceV P 22 r1 none (some r5) (fun r6 _ => XvFieldAddr P 31 0 (S.get 7) (fun r7 _ => XvStore P 22 (M S.hp S.nx) r7 r6 (fun r8 ef8 => K ⟨[(6, S.get 6), (7, S.get 7)], (Eff.hp ef8 S.nx S.hp), (S.nx + ef8.add.length), S.gh⟩)))))))))) fun K hK => ?_
         repeat' (first | (refine hK _ ?_; clear hK K) | ((first | refine xG_intro (fun hg => ?_) (fun hg => ?_) | refine fun (hg : (_ : Prop)) => ?_) <;> ((try simp only [BQ] at hg); try (exfalso; omega))) | refine And.intro ?_ ?_ | exact cl | exact hs1 | exact hs2 | refine one_take ?_ _ | refine one_drop ?_ _ | (refine st ?_; try simp only [encCert, zeroCert, wrap_id (x := (so.length : Int) - 1) (by omega) (by omega)]) | simp only [encCert, zeroCert, wrap_id (x := (so.length : Int) - 1) (by omega) (by omega)])
         all_goals try simp (disch := omega) only [wrap_id, wrap8_id]
         all_goals
         refine sZ [6] (fun P S K => XvLoad P 31 (M S.hp S.nx) (S.get 7) (fun r0 _ => XvStore P 31 (M S.hp S.nx) (S.get 6) r0 (fun r1 ef1 => K ⟨[(6, S.get 6)], (Eff.hp ef1 S.nx S.hp), (S.nx + ef1.add.length), S.gh⟩))) fun K hK => ?_
         repeat' (first | (refine hK _ ?_; clear hK K) | refine And.intro ?_ ?_ | exact cl | exact hs1 | exact hs2 | refine one_take ?_ _ | refine one_drop ?_ _ | (refine st ?_; try simp only [encCert, zeroCert]) | simp only [encCert, zeroCert])
         all_goals
         refine Tri.ret ?_
         show ResR _ _ _ _ _
         first
           | rw [torn_0 (by assumption), hne]
           | rw [torn_1 (by assumption), hne]
           | rw [torn_2 (by assumption), hne]
           | rw [torn_3 (by assumption)]
           | rw [torn_4 (by assumption)]
           | rw [torn_5 (by assumption) (by assumption) (by assumption) (by assumption) (by assumption), hne]
         all_goals refine ResR.cell1 (PV.agg [_, _, _]) rfl ?_ (pure_cert _)
         first
           | (have hq1 : pe.length = 1 := (by omega); obtain ⟨y, rfl⟩ : ∃ y, pe = [y] := List.length_eq_one_iff.1 hq1; simp [-List.map_map, sealed, St.obj, lk, encCert, ints, map_sealed_encI, take_map_len, encI, PV.ren, renL]; done)
           | (have hq1 : pe.length = 0 := (by omega); obtain rfl : pe = [] := List.eq_nil_of_length_eq_zero hq1; simp [-List.map_map, sealed, St.obj, lk, encCert, ints, map_sealed_encI, take_map_len, encI, PV.ren, renL]; done)
           | (have hq1 : so.length = 0 := (by omega); obtain rfl : so = [] := List.eq_nil_of_length_eq_zero hq1; simp [-List.map_map, sealed, St.obj, lk, encCert, ints, map_sealed_encI, take_map_len, encI, PV.ren, renL]; done)
           | (obtain ⟨y, r, rfl⟩ : ∃ y r, pe = y :: r := (by cases pe with | nil => simp at * | cons y r => exact ⟨y, r, rfl⟩); simp [-List.map_map, sealed, St.obj, lk, encCert, ints, map_sealed_encI, take_map_len, Nat.add_comm 1]; done)
           | (simp [-List.map_map, sealed, St.obj, lk, encCert, ints, map_sealed_encI, take_map_len]; done)
           | (simp [-List.map_map, sealed, St.obj, lk, encCert, ints, map_sealed_encI, take_map_len, List.take_of_length_le, encI]; done)
           | (simp [sealed, St.obj, lk, encCert, ints, List.take_of_length_le, encI, PV.ren, renL]; done)
        ·try (cases h69; done)
         all_goals (try simp only [CQ] at h69)
         all_goals
         refine Tri.skip ?_
         refine sZ [6] (fun P S K => XvLoad P 31 (M S.hp S.nx) (S.get 7) (fun r0 _ => XvStore P 31 (M S.hp S.nx) (S.get 6) r0 (fun r1 ef1 => K ⟨[(6, S.get 6)], (Eff.hp ef1 S.nx S.hp), (S.nx + ef1.add.length), S.gh⟩))) fun K hK => ?_
         repeat' (first | (refine hK _ ?_; clear hK K) | refine And.intro ?_ ?_ | exact cl | exact hs1 | exact hs2 | refine one_take ?_ _ | refine one_drop ?_ _ | (refine st ?_; try simp only [encCert, zeroCert]) | simp only [encCert, zeroCert])
         all_goals
         refine Tri.ret ?_
         show ResR _ _ _ _ _
         first
           | rw [torn_0 (by assumption), hne]
           | rw [torn_1 (by assumption), hne]
           | rw [torn_2 (by assumption), hne]
           | rw [torn_3 (by assumption)]
           | rw [torn_4 (by assumption)]
           | rw [torn_5 (by assumption) (by assumption) (by assumption) (by assumption) (by assumption), hne]
         all_goals refine ResR.cell1 (PV.agg [_, _, _]) rfl ?_ (pure_cert _)
         first
           | (have hq1 : pe.length = 1 := (by omega); obtain ⟨y, rfl⟩ : ∃ y, pe = [y] := List.length_eq_one_iff.1 hq1; simp [-List.map_map, sealed, St.obj, lk, encCert, ints, map_sealed_encI, take_map_len, encI, PV.ren, renL]; done)
           | (have hq1 : pe.length = 0 := (by omega); obtain rfl : pe = [] := List.eq_nil_of_length_eq_zero hq1; simp [-List.map_map, sealed, St.obj, lk, encCert, ints, map_sealed_encI, take_map_len, encI, PV.ren, renL]; done)
           | (have hq1 : so.length = 0 := (by omega); obtain rfl : so = [] := List.eq_nil_of_length_eq_zero hq1; simp [-List.map_map, sealed, St.obj, lk, encCert, ints, map_sealed_encI, take_map_len, encI, PV.ren, renL]; done)
           | (obtain ⟨y, r, rfl⟩ : ∃ y r, pe = y :: r := (by cases pe with | nil => simp at * | cons y r => exact ⟨y, r, rfl⟩); simp [-List.map_map, sealed, St.obj, lk, encCert, ints, map_sealed_encI, take_map_len, Nat.add_comm 1]; done)
           | (simp [-List.map_map, sealed, St.obj, lk, encCert, ints, map_sealed_encI, take_map_len]; done)
           | (simp [-List.map_map, sealed, St.obj, lk, encCert, ints, map_sealed_encI, take_map_len, List.take_of_length_le, encI]; done)
           | (simp [sealed, St.obj, lk, encCert, ints, List.take_of_length_le, encI, PV.ren, renL]; done)
       ·try (cases h64; done)
        all_goals (try simp only [CQ] at h64)
        all_goals
        refine rZ [6, 7] (fun P S K => XvBuildS P 22 1 S.nx [(0, (S.get 8))] (fun r1 ef1 => XvBinOV P .rem 3 (.const (.int .i64 12)) (S.get 2) (.atom (.int .i64 12)) (fun r3 _ => XvBuild P 31 [(0, r1), (2, r3)] (fun r4 _ => XvStore P 31 (M (Eff.hp ef1 S.nx S.hp) (S.nx + ef1.add.length)) (S.get 7) r4 (fun r5 ef5 => K ⟨[(6, S.get 6), (7, S.get 7)], (Eff.hp ef5 (S.nx + ef1.add.length) (Eff.hp ef1 S.nx S.hp)), ((S.nx + ef1.add.length) + ef5.add.length), S.gh⟩))))) fun K hK => ?_
        repeat' (first | (refine hK _ ?_; clear hK K) | ((first | refine xG_intro (fun hg => ?_) (fun hg => ?_) | refine fun (hg : (_ : Prop)) => ?_) <;> ((try simp only [BQ] at hg); try (exfalso; omega))) | refine And.intro ?_ ?_ | exact cl | exact hs1 | exact hs2 | refine one_take ?_ _ | refine one_drop ?_ _ | (refine st ?_; try simp only [encCert, zeroCert]) | simp only [encCert, zeroCert])
        refine Tri.nilF 1 1 1 3 _ rfl rfl ?_
        all_goals
        refine sZ [6] (fun P S K => XvLoad P 31 (M S.hp S.nx) (S.get 7) (fun r0 _ => XvStore P 31 (M S.hp S.nx) (S.get 6) r0 (fun r1 ef1 => K ⟨[(6, S.get 6)], (Eff.hp ef1 S.nx S.hp), (S.nx + ef1.add.length), S.gh⟩))) fun K hK => ?_
        repeat' (first | (refine hK _ ?_; clear hK K) | refine And.intro ?_ ?_ | exact cl | exact hs1 | exact hs2 | refine one_take ?_ _ | refine one_drop ?_ _ | (refine st ?_; try simp only [encCert, zeroCert]) | simp only [encCert, zeroCert])
        all_goals
        refine Tri.ret ?_
        show ResR _ _ _ _ _
        first
          | rw [torn_0 (by assumption), hne]
          | rw [torn_1 (by assumption), hne]
          | rw [torn_2 (by assumption), hne]
          | rw [torn_3 (by assumption)]
          | rw [torn_4 (by assumption)]
          | rw [torn_5 (by assumption) (by assumption) (by assumption) (by assumption) (by assumption), hne]
        all_goals refine ResR.cell1 (PV.agg [_, _, _]) rfl ?_ (pure_cert _)
        first
          | (have hq1 : pe.length = 1 := (by omega); obtain ⟨y, rfl⟩ : ∃ y, pe = [y] := List.length_eq_one_iff.1 hq1; simp [-List.map_map, sealed, St.obj, lk, encCert, ints, map_sealed_encI, take_map_len, encI, PV.ren, renL]; done)
          | (have hq1 : pe.length = 0 := (by omega); obtain rfl : pe = [] := List.eq_nil_of_length_eq_zero hq1; simp [-List.map_map, sealed, St.obj, lk, encCert, ints, map_sealed_encI, take_map_len, encI, PV.ren, renL]; done)
          | (have hq1 : so.length = 0 := (by omega); obtain rfl : so = [] := List.eq_nil_of_length_eq_zero hq1; simp [-List.map_map, sealed, St.obj, lk, encCert, ints, map_sealed_encI, take_map_len, encI, PV.ren, renL]; done)
          | (obtain ⟨y, r, rfl⟩ : ∃ y r, pe = y :: r := (by cases pe with | nil => simp at * | cons y r => exact ⟨y, r, rfl⟩); simp [-List.map_map, sealed, St.obj, lk, encCert, ints, map_sealed_encI, take_map_len, Nat.add_comm 1]; done)
          | (simp [-List.map_map, sealed, St.obj, lk, encCert, ints, map_sealed_encI, take_map_len]; done)
          | (simp [-List.map_map, sealed, St.obj, lk, encCert, ints, map_sealed_encI, take_map_len, List.take_of_length_le, encI]; done)
          | (simp [sealed, St.obj, lk, encCert, ints, List.take_of_length_le, encI, PV.ren, renL]; done)
def swp (d : List Int) (j : Nat) : List Int := (d.set j (li d (j - 1))).set (j - 1) (li d j)
def sink (lt : Int → Int → Bool) (a : Nat) : Nat → List Int → List Int
  | 0, d => d
  | j + 1, d => if a < j + 1 ∧ lt (li d (j + 1)) (li d j) = true then sink lt a j (swp d (j + 1)) else d
def isort (lt : Int → Int → Bool) (a : Nat) : Nat → Nat → List Int → List Int
  | 0, _, d => d
  | n + 1, i, d => isort lt a n (i + 1) (sink lt a i d)
theorem swp_len (d : List Int) (j : Nat) : (swp d j).length = d.length := by simp [swp]
theorem swp_mem {d : List Int} {j : Nat} (hj : j < d.length) {x : Int} (h : x ∈ swp d j) : x ∈ d := by
  rcases List.mem_or_eq_of_mem_set h with h | rfl
  · rcases List.mem_or_eq_of_mem_set h with h | rfl
    · exact h
    · exact li_mem (by omega)
  · exact li_mem hj
structure SinkI (lt : Int → Int → Bool) (l : List Int) (a i : Nat) (d0 d : List Int) (j : Nat) : Prop where
  lo : a ≤ j
  hi : j ≤ i
  len : d.length = l.length
  mem : ∀ x, x ∈ d → x ∈ l
  core : sink lt a i d0 = sink lt a j d
theorem SinkI.step {lt : Int → Int → Bool} {l : List Int} {a i : Nat} {d0 d : List Int} {j : Nat} (h : SinkI lt l a i d0 d j) (hi : i < l.length) (hj : a < j) (hc : lt (li d j) (li d (j - 1)) = true) : SinkI lt l a i d0 (swp d j) (j - 1) := by
  obtain ⟨k, rfl⟩ : ∃ k, j = k + 1 := ⟨j - 1, by omega⟩
  have h1 := h.hi
  have h2 := h.len
  refine ⟨by omega, by omega, by rw [swp_len]; exact h.len, fun x hx => h.mem x (swp_mem (by omega) hx), ?_⟩
  rw [h.core, sink, if_pos ⟨hj, hc⟩]; rfl
theorem SinkI.stop {lt : Int → Int → Bool} {l : List Int} {a i : Nat} {d0 d : List Int} {j : Nat} (h : SinkI lt l a i d0 d j) (hc : ¬ (a < j ∧ lt (li d j) (li d (j - 1)) = true)) : sink lt a i d0 = d := by
  rw [h.core]
  cases j with
  | zero => rfl
  | succ k => rw [sink, if_neg (by simpa using hc)]
structure InsI (lt : Int → Int → Bool) (l : List Int) (a b : Nat) (d : List Int) (i : Nat) : Prop where
  lo : a + 1 ≤ i
  len : d.length = l.length
  mem : ∀ x, x ∈ d → x ∈ l
  core : isort lt a (b - (a + 1)) (a + 1) l = isort lt a (b - i) i d
theorem InsI.start (lt : Int → Int → Bool) (l : List Int) (a b : Nat) : InsI lt l a b l (a + 1) := ⟨Nat.le_refl _, rfl, fun _ h => h, rfl⟩
theorem InsI.sink {lt : Int → Int → Bool} {l : List Int} {a b : Nat} {d : List Int} {i : Nat} (h : InsI lt l a b d i) : SinkI lt l a i d d i := ⟨by have := h.lo; omega, Nat.le_refl _, h.len, h.mem, rfl⟩
theorem InsI.next {lt : Int → Int → Bool} {l : List Int} {a b : Nat} {d d' : List Int} {i j : Nat} (h : InsI lt l a b d i) (hi : i < b) (hs : SinkI lt l a i d d' j) (hc : ¬ (a < j ∧ lt (li d' j) (li d' (j - 1)) = true)) : InsI lt l a b d' (i + 1) := by
  refine ⟨by have := h.lo; omega, hs.len, hs.mem, ?_⟩
  have e : b - i = (b - (i + 1)) + 1 := by omega
  rw [h.core, e, isort, hs.stop hc]
theorem InsI.stop {lt : Int → Int → Bool} {l : List Int} {a b : Nat} {d : List Int} {i : Nat} (h : InsI lt l a b d i) (hi : b ≤ i) : isort lt a (b - (a + 1)) (a + 1) l = d := by
  rw [h.core, Nat.sub_eq_zero_of_le hi]; rfl
def ltc (c : Int → Int → Int) (x y : Int) : Bool := decide (c x y < 0)
def sortedL (c : Int → Int → Int) (l : List Int) : List Int := isort (ltc c) 0 (l.length - 1) 1 l
theorem sink_len {lt : Int → Int → Bool} (a : Nat) : ∀ (j : Nat) (d : List Int), (sink lt a j d).length = d.length
  | 0, _ => rfl
  | j + 1, d => by
    rw [sink]; split
    · rw [sink_len a j, swp_len]
    · rfl
theorem isort_len {lt : Int → Int → Bool} (a : Nat) : ∀ (n i : Nat) (d : List Int), (isort lt a n i d).length = d.length
  | 0, _, _ => rfl
  | n + 1, i, d => by rw [isort, isort_len a n, sink_len]
theorem sortedL_len (c : Int → Int → Int) (l : List Int) : (sortedL c l).length = l.length := isort_len ..
def insAt {α : Type} (l : List α) (k : Nat) (x : α) : List α := l.take k ++ x :: l.drop k
theorem insAt_len {α : Type} (l : List α) (k : Nat) (x : α) : (insAt l k x).length = l.length + 1 := by simp [insAt]; omega
def insC (lt : Int → Int → Bool) (A : List Int) (x : Int) : List Int := insAt A (down (fun j => lt x (li A j)) A.length) x
theorem down_congr {p q : Nat → Bool} : ∀ n, (∀ j, j < n → p j = q j) → down p n = down q n
  | 0, _ => rfl
  | n + 1, h => by rw [down, down, h n (Nat.lt_succ_self n), down_congr n fun j hj => h j (Nat.lt_succ_of_lt hj)]
theorem down_le (p : Nat → Bool) : ∀ n, down p n ≤ n
  | 0 => Nat.le_refl _
  | n + 1 => by
    rw [down]; split
    · exact Nat.le_succ_of_le (down_le p n)
    · exact Nat.le_refl _
theorem li_app_left {A B : List Int} {j : Nat} (h : j < A.length) : li (A ++ B) j = li A j := by simp [li, List.getD_eq_getElem?_getD, List.getElem?_append_left h]
theorem li_app_at (A : List Int) (x : Int) (B : List Int) : li (A ++ x :: B) A.length = x := by simp [li, List.getD_eq_getElem?_getD]
theorem insC_len (lt : Int → Int → Bool) (A : List Int) (x : Int) : (insC lt A x).length = A.length + 1 := insAt_len ..
theorem sink_ins (lt : Int → Int → Bool) : ∀ (n : Nat) (A : List Int) (x : Int) (B : List Int), A.length = n → sink lt 0 n (A ++ x :: B) = insC lt A x ++ B
  | 0, A, x, B, h => by
    obtain rfl := List.length_eq_zero_iff.1 h
    simp [sink, insC, insAt]
  | n + 1, A, x, B, h => by
    obtain ⟨A', y, rfl⟩ : ∃ A' y, A = A' ++ [y] := ⟨A.dropLast, A.getLast (by intro e; rw [e] at h; cases h), (List.dropLast_concat_getLast _).symm⟩
    have hn : A'.length = n := by simpa using h
    have e1 : li (A' ++ [y] ++ x :: B) (n + 1) = x := by
      have := li_app_at (A' ++ [y]) x B
      rwa [h] at this
    have e2 : li (A' ++ [y] ++ x :: B) n = y := by
      rw [List.append_assoc, ← hn]; exact li_app_at A' y (x :: B)
    have e3 : li (A' ++ [y]) n = y := by rw [← hn]; exact li_app_at A' y []
    rw [sink, e1, e2]
    unfold insC
    rw [h, down, e3]
    by_cases hc : lt x y = true
    · rw [if_pos ⟨by omega, hc⟩, if_pos hc]
      have e4 : swp (A' ++ [y] ++ x :: B) (n + 1) = A' ++ x :: (y :: B) := by
        unfold swp
        rw [Nat.add_sub_cancel, e1, e2]
        subst hn
        rw [List.append_assoc, List.singleton_append, List.set_append_right _ _ (by omega), show A'.length + 1 - A'.length = 1 by omega, List.set_append_right _ _ (by simp), Nat.sub_self]
        rfl
      rw [e4, sink_ins lt n A' x (y :: B) hn]
      unfold insC
      rw [hn, down_congr n (q := fun j => lt x (li (A' ++ [y]) j)) fun j hj => by show lt x _ = lt x _; rw [li_app_left (by omega)]]
      have hd := down_le (fun j => lt x (li (A' ++ [y]) j)) n
      generalize down (fun j => lt x (li (A' ++ [y]) j)) n = k at hd
      unfold insAt
      rw [List.take_append_of_le_length (by omega), List.drop_append_of_le_length (by omega)]
      simp
    · rw [if_neg (fun g => hc g.2), if_neg hc]
      unfold insAt
      rw [List.take_of_length_le (by omega), List.drop_of_length_le (by omega)]
      simp
theorem isort_ins (lt : Int → Int → Bool) : ∀ (B A : List Int), isort lt 0 B.length A.length (A ++ B) = B.foldl (insC lt) A
  | [], A => by simp [isort]
  | x :: B, A => by
    rw [List.length_cons, isort, sink_ins lt _ A x B rfl, List.foldl_cons, ← isort_ins lt B (insC lt A x), insC_len]
theorem sortedL_fold (c : Int → Int → Int) (l : List Int) : sortedL c l = l.foldl (insC (ltc c)) [] := by
  cases l with
  | nil => rfl
  | cons x l => exact isort_ins (ltc c) l [x]
theorem down_above {p : Nat → Bool} : ∀ n j, down p n ≤ j → j < n → p j = true
  | 0, j, _, h => absurd h (Nat.not_lt_zero _)
  | n + 1, j, h1, h2 => by
    rw [down] at h1
    by_cases hp : p n = true
    · rw [if_pos hp] at h1
      rcases Nat.lt_succ_iff_lt_or_eq.1 h2 with h | rfl
      · exact down_above n j h1 h
      · exact hp
    · rw [if_neg hp] at h1; omega
theorem down_below {p : Nat → Bool} : ∀ n, 0 < down p n → p (down p n - 1) = false
  | 0, h => absurd h (Nat.lt_irrefl _)
  | n + 1, h => by
    rw [down] at h ⊢
    by_cases hp : p n = true
    · rw [if_pos hp] at h ⊢; exact down_below n h
    · rw [if_neg hp]
      simpa using hp
theorem insAt_perm {α : Type} (l : List α) (k : Nat) (x : α) : (insAt l k x).Perm (x :: l) := by
  unfold insAt
  exact List.perm_middle.trans (by rw [List.take_append_drop])
theorem insC_perm (lt : Int → Int → Bool) (A : List Int) (x : Int) : (insC lt A x).Perm (x :: A) := insAt_perm ..
theorem foldl_insC_perm (lt : Int → Int → Bool) : ∀ xs A : List Int, (xs.foldl (insC lt) A).Perm (A ++ xs)
  | [], A => by simp
  | x :: xs, A => by
    rw [List.foldl_cons]
    refine (foldl_insC_perm lt xs _).trans ?_
    refine ((insC_perm lt A x).append_right xs).trans ?_
    exact List.perm_middle.symm
theorem sortedL_perm (c : Int → Int → Int) (l : List Int) : (sortedL c l).Perm l := by
  rw [sortedL_fold]; simpa using foldl_insC_perm (ltc c) l []
def lexK (key : Int → Int) (x y : Int) : Prop := key x < key y ∨ (key x = key y ∧ x < y)
theorem lexK_asym {key : Int → Int} {x y : Int} (h1 : lexK key x y) (h2 : lexK key y x) : False := by unfold lexK at *; omega
def Keyed (c : Int → Int → Int) (key : Int → Int) : Prop := ∀ x y, c x y < 0 ↔ key x < key y
theorem ins_parts {c : Int → Int → Int} {key : Int → Int} (hc : Keyed c key) {A : List Int} (hA : A.Pairwise fun a b => key a ≤ key b) (x : Int) :
    ∃ k, k ≤ A.length ∧ insC (ltc c) A x = A.take k ++ x :: A.drop k ∧ (∀ a, a ∈ A.take k → key a ≤ key x) ∧ ∀ b, b ∈ A.drop k → key x < key b := by
  generalize hk : down (fun j => ltc c x (li A j)) A.length = k
  have hkl : k ≤ A.length := by rw [← hk]; exact down_le _ _
  have hab : ∀ j, k ≤ j → j < A.length → key x < key (li A j) := fun j h1 h2 => (hc _ _).1 (of_decide_eq_true (down_above (p := fun j => ltc c x (li A j)) A.length j (by rw [hk]; exact h1) h2))
  have hbe : 0 < k → ¬ key x < key (li A (k - 1)) := fun h1 => by
    have := down_below (p := fun j => ltc c x (li A j)) A.length (by rw [hk]; exact h1)
    rw [hk] at this
    exact fun h => of_decide_eq_false this ((hc _ _).2 h)
  have hli : ∀ j (hj : j < A.length), li A j = A[j] := fun j hj => by simp [li, List.getD_eq_getElem?_getD, hj]
  refine ⟨k, hkl, by unfold insC insAt; rw [hk], fun a ha => ?_, fun b hb => ?_⟩
  · obtain ⟨j, hj, rfl⟩ := List.getElem_of_mem ha
    have hj2 : j < k := by rw [List.length_take] at hj; omega
    have h1 := hbe (by omega)
    rw [hli _ (by omega)] at h1
    rw [List.getElem_take]
    by_cases hjk : j = k - 1
    · subst hjk; omega
    · have := List.pairwise_iff_getElem.1 hA j (k - 1) (by omega) (by omega) (by omega)
      omega
  · obtain ⟨j, hj, rfl⟩ := List.getElem_of_mem hb
    have hj2 : k + j < A.length := by rw [List.length_drop] at hj; omega
    have := hab (k + j) (by omega) hj2
    rw [hli _ hj2] at this
    rw [List.getElem_drop]; exact this
theorem insC_mono {c : Int → Int → Int} {key : Int → Int} (hc : Keyed c key) {A : List Int} (hA : A.Pairwise fun a b => key a ≤ key b) (x : Int) : (insC (ltc c) A x).Pairwise fun a b => key a ≤ key b := by
  obtain ⟨k, h1, h2, h3, h4⟩ := ins_parts hc hA x
  rw [h2]
  have hA2 : (A.take k ++ A.drop k).Pairwise fun a b => key a ≤ key b := by rw [List.take_append_drop]; exact hA
  rw [List.pairwise_append] at hA2 ⊢
  obtain ⟨p1, p2, p3⟩ := hA2
  refine ⟨p1, List.pairwise_cons.2 ⟨fun b hb => Int.le_of_lt (h4 b hb), p2⟩, fun a ha b hb => ?_⟩
  rcases List.mem_cons.1 hb with rfl | hb
  · exact h3 a ha
  · exact p3 a ha b hb
theorem foldl_insC_mono {c : Int → Int → Int} {key : Int → Int} (hc : Keyed c key) : ∀ (xs A : List Int), (A.Pairwise fun a b => key a ≤ key b) → (xs.foldl (insC (ltc c)) A).Pairwise fun a b => key a ≤ key b
  | [], A, h => h
  | x :: xs, A, h => foldl_insC_mono hc xs _ (insC_mono hc h x)
theorem sortedL_mono {c : Int → Int → Int} {key : Int → Int} (hc : Keyed c key) (l : List Int) : (sortedL c l).Pairwise fun a b => key a ≤ key b := by
  rw [sortedL_fold]; exact foldl_insC_mono hc l [] List.Pairwise.nil
theorem insC_stab {c : Int → Int → Int} {key : Int → Int} (hc : Keyed c key) {A : List Int} (hA : A.Pairwise (lexK key)) {x : Int} (hx : ∀ y, y ∈ A → y < x) : (insC (ltc c) A x).Pairwise (lexK key) := by
  obtain ⟨k, h1, h2, h3, h4⟩ := ins_parts hc (hA.imp fun h => by unfold lexK at h; omega) x
  rw [h2]
  have hA2 : (A.take k ++ A.drop k).Pairwise (lexK key) := by rw [List.take_append_drop]; exact hA
  rw [List.pairwise_append] at hA2 ⊢
  obtain ⟨p1, p2, p3⟩ := hA2
  refine ⟨p1, List.pairwise_cons.2 ⟨fun b hb => .inl (h4 b hb), p2⟩, fun a ha b hb => ?_⟩
  rcases List.mem_cons.1 hb with rfl | hb
  · have := h3 a ha
    have := hx a (List.mem_of_mem_take ha)
    unfold lexK; omega
  · exact p3 a ha b hb
theorem foldl_insC_stab {c : Int → Int → Int} {key : Int → Int} (hc : Keyed c key) : ∀ (xs A : List Int), A.Pairwise (lexK key) → xs.Pairwise (· < ·) → (∀ y, y ∈ A → ∀ x, x ∈ xs → y < x) → (xs.foldl (insC (ltc c)) A).Pairwise (lexK key)
  | [], A, h, _, _ => h
  | x :: xs, A, h, hx, hA => by
    rw [List.foldl_cons]
    obtain ⟨g1, g2⟩ := List.pairwise_cons.1 hx
    refine foldl_insC_stab hc xs _ (insC_stab hc h fun y hy => hA y hy x (List.mem_cons_self ..)) g2 fun y hy z hz => ?_
    rcases List.mem_cons.1 ((insC_perm (ltc c) A x).mem_iff.1 hy) with rfl | hy
    · exact g1 z hz
    · exact hA y hy z (List.mem_cons_of_mem _ hz)
theorem sortedL_stab {c : Int → Int → Int} {key : Int → Int} (hc : Keyed c key) {l : List Int} (hl : l.Pairwise (· < ·)) : (sortedL c l).Pairwise (lexK key) := by
  rw [sortedL_fold]
  exact foldl_insC_stab hc l [] List.Pairwise.nil hl fun y hy => by cases hy
def NoInv (c : Int → Int → Int) (l : List Int) : Prop := ∀ i j, i < j → j < l.length → ¬ c (li l j) (li l i) < 0
theorem noInv_mono {c : Int → Int → Int} {key : Int → Int} (hc : Keyed c key) {l : List Int} (h : l.Pairwise fun a b => key a ≤ key b) : NoInv c l := fun i j hij hj => by
  have := List.pairwise_iff_getElem.1 h i j (by omega) hj hij
  rw [hc]
  have e1 : li l i = l[i] := by simp [li, List.getD_eq_getElem?_getD, show i < l.length by omega]
  have e2 : li l j = l[j] := by simp [li, List.getD_eq_getElem?_getD, hj]
  rw [e1, e2]; omega
theorem sink_idle {lt : Int → Int → Bool} {a : Nat} : ∀ {i : Nat} {d : List Int}, (∀ j, i = j + 1 → lt (li d (j + 1)) (li d j) = false) → sink lt a i d = d
  | 0, _, _ => rfl
  | i + 1, d, h => by rw [sink, if_neg (by rw [h i rfl]; simp)]
theorem isort_idle {c : Int → Int → Int} {d : List Int} (h : NoInv c d) (a : Nat) : ∀ n i, n + i ≤ d.length → isort (ltc c) a n i d = d
  | 0, _, _ => rfl
  | n + 1, i, hi => by
    rw [isort, sink_idle fun j hj => decide_eq_false (h j (j + 1) (Nat.lt_succ_self j) (by omega))]
    exact isort_idle h a n (i + 1) (by omega)
theorem isort_ins2 (lt : Int → Int → Bool) : ∀ (B A C : List Int), isort lt 0 B.length A.length (A ++ (B ++ C)) = B.foldl (insC lt) A ++ C
  | [], A, C => by simp [isort]
  | x :: B, A, C => by
    rw [List.length_cons, isort, List.cons_append, sink_ins lt _ A x (B ++ C) rfl, List.foldl_cons, ← isort_ins2 lt B (insC lt A x) C, insC_len]
theorem isort_two (lt : Int → Int → Bool) (a : Nat) : ∀ (m k i : Nat) (d : List Int), isort lt a (m + k) i d = isort lt a k (i + m) (isort lt a m i d)
  | 0, k, i, d => by rw [Nat.zero_add]; rfl
  | m + 1, k, i, d => by
    rw [show m + 1 + k = (m + k) + 1 by omega, isort, isort, isort_two lt a m k (i + 1) _, show i + 1 + m = i + (m + 1) by omega]
theorem block_sorted {c : Int → Int → Int} {key : Int → Int} (hc : Keyed c key) {l : List Int} (h20 : 20 ≤ l.length) (hq : ∀ j, 20 ≤ j → j < l.length → ∀ x, x ∈ l → ¬ c (li l j) x < 0) :
    NoInv c (isort (ltc c) 0 19 1 l) ∧ isort (ltc c) 0 19 1 l = sortedL c l := by
  have e : isort (ltc c) 0 19 1 l = sortedL c (l.take 20) ++ l.drop 20 := by
    obtain ⟨x, l', rfl⟩ : ∃ x l', l = x :: l' := by
      cases l with
      | nil => simp at h20
      | cons x l' => exact ⟨x, l', rfl⟩
    have h1 := isort_ins2 (ltc c) (l'.take 19) [x] (l'.drop 19)
    rw [List.take_append_drop] at h1
    have h2 : (l'.take 19).length = 19 := by rw [List.length_take]; simp at h20; omega
    rw [h2] at h1
    rw [sortedL_fold]
    exact h1
  have hno : NoInv c (isort (ltc c) 0 19 1 l) := by
    rw [e]
    refine noInv_mono hc ?_
    rw [List.pairwise_append]
    have hdrop : ∀ b, b ∈ l.drop 20 → ∀ x, x ∈ l → key x ≤ key b := fun b hb x hx => by
      obtain ⟨j, hj, rfl⟩ := List.getElem_of_mem hb
      have hj2 : 20 + j < l.length := by rw [List.length_drop] at hj; omega
      have := hq (20 + j) (by omega) hj2 x hx
      rw [hc] at this
      rw [List.getElem_drop]
      have e1 : li l (20 + j) = l[20 + j] := by simp [li, List.getD_eq_getElem?_getD, hj2]
      rw [e1] at this; omega
    refine ⟨sortedL_mono hc _, ?_, fun a ha b hb => hdrop b hb a (List.mem_of_mem_take ((sortedL_perm c _).mem_iff.1 ha))⟩
    refine List.pairwise_iff_getElem.2 fun i j hi hj hij => hdrop _ (List.getElem_mem hj) _ (List.mem_of_mem_drop (List.getElem_mem hi))
  refine ⟨hno, ?_⟩
  unfold sortedL
  have h2 := isort_two (ltc c) 0 19 (l.length - 20) 1 l
  rw [show 19 + (l.length - 20) = l.length - 1 by omega] at h2
  rw [h2, isort_idle hno 0 _ _ (by rw [isort_len]; omega)]
end Go.Proofs.Ytcdeilgijleoaaa
