/-
  Walks: Pairs, search of the reference model.
-/
import Derived.Test.YtcdeilgijleoaaaWA1
import Derived.Test.YtcdeilgijleoaaaWB4
set_option linter.all false
namespace Go.Proofs.Ytcdeilgijleoaaa
open Go Go.RowKit
set_option maxRecDepth 20000
set_option maxHeartbeats 1000000
theorem leqB5 {p : Prop} (h : p := by (refine ⟨4, ?_, ?_, rfl, by simp, rfl, fun _ h _ => absurd h (Nat.not_lt_zero _)⟩ <;> (simp only [List.forall_mem_cons]; repeat' (first | refine And.intro ?_ ?_ | (intro p hp; exact absurd hp List.not_mem_nil) | rfl | exact sp (pure_case _) | exact sp (pure_pairs _) | exact (sealed_pure _ _ _ (pure_ints _)).trans (ren_ints _ _).symm | exact (sealed_pure _ _ _ (pure_strs _)).trans (ren_strs _ _).symm | exact sp (by assumption) | (intro o ho; cases ho; refine ⟨by decide, ?_⟩; first | (refine LeqS.row rfl ?_ ?_; (next => (first | rfl | (simp only [List.map_append, List.map_cons, List.map_nil, List.append_nil, List.nil_append, List.append_assoc, List.cons_append, encI, encS, ints, strs]; done) | (simp [encI, encS, ints, strs, encP]; done))); (next => (first | rfl | exact pureL_encI _ | exact pureL_encS _ | exact pureL_ints _ | exact pureL_strs _ | exact pureL_encP _ | (simp [pureL_append, pureL_encI, pureL_encS, pureL_ints, pureL_strs, pureL, PV.pure, pure_ints, pure_strs, pure_case, pureL_encP, pure_pairs]; done))); done) | refine ⟨_, rfl, rfl, ?_⟩) | (simp [St.born, St.known, retV, St.get, St.obj, lk, sealed, PV.ren, renL, rmap, AO.ren, ints, strs, encI, encS, map_sealed_encI, map_sealed_encS, map_sealed_ints, map_sealed_strs, map_ren_encI, map_ren_encS, map_ren_ints, map_ren_strs, renL_encI, renL_encS, renL_ints, renL_strs, ren_case, encC, pairs, renL_encP, map_sealed_encP, map_ren_encP, encP, take_map_len] <;> omega)))); first | done | fail) : p := h
theorem lpvB5 {p : Prop} (h : p := by (first | rfl | (simp [pure_ints, pure_strs, PV.pure, pureL, pureL_encI, pureL_encS, pureL_ints, pureL_strs, pure_case, pureL_encP, pure_pairs]; done)); first | done | fail) : p := h
theorem Pairs_pure (c : CaseD) (i : Int) (hc : Held c) (hp : c.people ≤ 6) : Pure Try.prog 58 [encC c, encI i] (pairs (pairsOf c i)) [] := by
  refine Pure.intro (ts := [4]) Try.func58 (by kernel_rfl) rfl rfl rfl (Nat.le_of_ble_eq_true rfl) ?_ ?_
  · simp [pure_case, encI, PV.pure, pureL]
  refine sZ [1, 2] (fun P S K => XvBox S.nx (S.get 0) (fun r0 ef0 => K ⟨[(1, S.get 1), (2, r0)], (Eff.hp ef0 S.nx S.hp), (S.nx + ef0.add.length), S.gh⟩)) fun K hK => ?_
  repeat' (first | (refine hK _ ?_; clear hK K) | refine And.intro ?_ ?_ | exact cl | exact one_encP _ | (refine st ?_; try simp only [encC, pairs]))
  all_goals
  refine sZ [1, 2, 5] (fun P S K => K ⟨[(1, S.get 1), (2, S.get 2), (5, (.atom (.slice none 0 0)))], S.hp, S.nx, S.gh⟩) fun K hK => ?_
  repeat' (first | (refine hK _ ?_; clear hK K) | refine And.intro ?_ ?_ | exact cl | exact one_encP _ | (refine st ?_; try simp only [encC, pairs]))
  refine Tri.born 5 2 rfl ?_
  all_goals
  refine Tri.seq ?_
  refine sZ [1, 2, 5, 6] (fun P S K => K ⟨[(1, S.get 1), (2, S.get 2), (5, S.get 5), (6, (.atom (.int .i64 0)))], S.hp, S.nx, S.gh⟩) fun K hK => ?_
  repeat' (first | (refine hK _ ?_; clear hK K) | refine And.intro ?_ ?_ | exact cl | exact one_encP _ | (refine st ?_; try simp only [encC, pairs]))
  all_goals
  refine Tri.block ?_
  refine Tri.loop (α := (out : List (Int × Int)) ×' (a : Nat) ×' (a ≤ c.people.toNat ∧ out = allPr c i c.people.toNat a)) (fun z => (fun (out : List (Int × Int)) (a : Nat) => (⟨[(1, encI i), (2, .ptr 0 3 0 0), (5, .ob 1 2 0 out.length), (6, encI a)], [(0, some ⟨3, [encC c]⟩), (1, some ⟨2, out.map encP⟩)], 2, []⟩ : St)) z.1 z.2.1) (fun z => (fun (out : List (Int × Int)) (a : Nat) => 6 - a) z.1 z.2.1) ⟨[], 0, ⟨Nat.zero_le _, rfl⟩⟩ [0, 1] ?_ ?_
  ·exact leqB5
  ·rintro ⟨out, a, ⟨ha, ho⟩⟩
   refine Tri.seq ?_
   refine sZ [1, 2, 5, 6, 11] (fun P S K => XvFieldAddr P 25 1 (S.get 2) (fun r1 _ => XvLoad P 3 (M S.hp S.nx) r1 (fun r2 _ => XvBinOV P .lss 3 (.tmp 10) (S.get 6) r2 (fun r3 _ => K ⟨[(1, S.get 1), (2, S.get 2), (5, S.get 5), (6, S.get 6), (11, r3)], S.hp, S.nx, S.gh⟩)))) fun K hK => ?_
   repeat' (first | (refine hK _ ?_; clear hK K) | refine And.intro ?_ ?_ | exact cl | exact one_encP _ | refine one_take ?_ _ | refine one_drop ?_ _ | (refine st ?_; try simp only [encC, pairs]))
   all_goals
   refine Tri.cond rfl (fun h11 => ?_) (fun h11 => ?_)
   ·try (cases h11; done)
    all_goals (try simp only [CQ] at h11)
    all_goals
    refine Tri.skip ?_
    refine Tri.seq ?_
    refine Tri.block ?_
    have hal : a < c.people.toNat := by omega
    refine sZ [1, 2, 5, 6, 7] (fun P S K => XvBinOV P .add 3 (.const (.int .i64 1)) (S.get 6) (.atom (.int .i64 1)) (fun r1 _ => K ⟨[(1, S.get 1), (2, S.get 2), (5, S.get 5), (6, S.get 6), (7, r1)], S.hp, S.nx, S.gh⟩)) fun K hK => ?_
    repeat' (first | (refine hK _ ?_; clear hK K) | refine And.intro ?_ ?_ | exact cl | exact one_encP _ | (refine st ?_; try simp only [encC, pairs]))
    all_goals try simp (disch := omega) only [wrap_id, wrap8_id]
    all_goals
    refine Tri.block ?_
    refine Tri.loop (α := (o2 : List (Int × Int)) ×' (b : Nat) ×' ((a + 1 ≤ b ∧ b ≤ c.people.toNat) ∧ o2 = out ++ rowPr c i a b)) (fun z => (fun (o2 : List (Int × Int)) (b : Nat) => (⟨[(1, encI i), (2, .ptr 0 3 0 0), (5, .ob 1 2 0 o2.length), (6, encI a), (7, encI b)], [(0, some ⟨3, [encC c]⟩), (1, some ⟨2, o2.map encP⟩)], 2, []⟩ : St)) z.1 z.2.1) (fun z => (fun (o2 : List (Int × Int)) (b : Nat) => 6 - b) z.1 z.2.1) ⟨out, a + 1, ⟨⟨Nat.le_refl _, by omega⟩, by rw [rowPr_low c i a _ (Nat.le_refl _), List.append_nil]⟩⟩ [0, 1] ?_ ?_
    ·exact leqB5
    ·rintro ⟨o2, b, ⟨⟨hb1, hb2⟩, ho2⟩⟩
     have hlo := allPr_len c i c.people.toNat a
     have hlr := rowPr_len c i a b
     have hmul : a * c.people.toNat ≤ 6 * 6 := Nat.mul_le_mul (by omega) (by omega)
     have hl2 : o2.length ≤ 100 := by rw [ho2, ho, List.length_append]; omega
     have hrs : rowPr c i a (b + 1) = rowPr c i a b ++ if a < b ∧ openB c i a = true ∧ openB c i b = true then [((a : Int), (b : Int))] else [] := rfl
     refine Tri.seq ?_
     refine sZ [1, 2, 5, 6, 7, 19] (fun P S K => XvFieldAddr P 25 1 (S.get 2) (fun r1 _ => XvLoad P 3 (M S.hp S.nx) r1 (fun r2 _ => XvBinOV P .lss 3 (.tmp 18) (S.get 7) r2 (fun r3 _ => K ⟨[(1, S.get 1), (2, S.get 2), (5, S.get 5), (6, S.get 6), (7, S.get 7), (19, r3)], S.hp, S.nx, S.gh⟩)))) fun K hK => ?_
     repeat' (first | (refine hK _ ?_; clear hK K) | refine And.intro ?_ ?_ | exact cl | exact one_encP _ | refine one_take ?_ _ | refine one_drop ?_ _ | (refine st ?_; try simp only [encC, pairs]))
     all_goals
     refine Tri.cond rfl (fun h19 => ?_) (fun h19 => ?_)
     ·try (cases h19; done)
      all_goals (try simp only [CQ] at h19)
      all_goals
      refine Tri.skip ?_
      refine Tri.seq ?_
      refine Tri.block ?_
      refine sZ [1, 2, 5, 6, 7, 31] (fun P S K => XvLoad P 25 (M S.hp S.nx) (S.get 2) (fun r0 _ => XvFnIV P (M S.hp S.nx) (.fn 49 []) [r0, (S.get 1), (S.get 6)] (fun r3 ef3 => Xgq r3 true (fun k => XvLoad P 25 (M (Eff.hp ef3 S.nx S.hp) (S.nx + ef3.add.length)) (S.get 2) (fun r5 _ => k r5)) (fun g5 r5 => Xgq g5 true (fun k => k (S.get 1)) (fun g6 r6 => Xgq g6 true (fun k => k (S.get 7)) (fun g7 r7 => Xge g7 true (fun k => XvFnIV P (M (Eff.hp ef3 S.nx S.hp) (S.nx + ef3.add.length)) (.fn 49 []) [r5, r6, r7] k) (fun g8 r8 ef8 => XvPick g8 r8 (.atom (.bool false)) (fun r9 _ => K ⟨[(1, S.get 1), (2, S.get 2), (5, S.get 5), (6, S.get 6), (7, S.get 7), (31, r9)], (Eff.hp ef8 (S.nx + ef3.add.length) (Eff.hp ef3 S.nx S.hp)), ((S.nx + ef3.add.length) + ef8.add.length), S.gh⟩)))))))) fun K hK => ?_
      repeat' (first | (refine hK _ ?_; clear hK K) | ((first | refine xG_intro (fun hg => ?_) (fun hg => ?_) | refine fun (hg : (_ : Prop)) => ?_) <;> ((try simp only [BQ] at hg); try (exfalso; omega))) | refine And.intro ?_ ?_ | exact cl | exact one_encP _ | refine one_take ?_ _ | refine one_drop ?_ _ | refine .inl ⟨_, _, Open_pure c i a hc, ?_⟩ | refine .inl ⟨_, _, Open_pure c i b hc, ?_⟩ | (refine st ?_; try simp only [encC, pairs]))
      all_goals
      refine Tri.cond rfl (fun h31 => ?_) (fun h31 => ?_)
      ·try (cases h31; done)
       all_goals (try simp only [CQ] at h31)
       all_goals
       refine rZ [1, 2, 5, 6, 7] (fun P S K => XvBuild P 67 [(0, (S.get 6)), (1, (S.get 7))] (fun r3 _ => XvBuildS P 23 1 S.nx [(0, r3)] (fun r4 ef4 => (23 = 23 ∧ XvAppend P 23 (M (Eff.hp ef4 S.nx S.hp) (S.nx + ef4.add.length)) (S.get 5) r4 (fun r5 ef5 => K ⟨[(1, S.get 1), (2, S.get 2), (5, r5), (6, S.get 6), (7, S.get 7)], (Eff.hp ef5 (S.nx + ef4.add.length) (Eff.hp ef4 S.nx S.hp)), ((S.nx + ef4.add.length) + ef5.add.length), S.gh⟩))))) fun K hK => ?_
       repeat' (first | (refine hK _ ?_; clear hK K) | ((first | refine xG_intro (fun hg => ?_) (fun hg => ?_) | refine fun (hg : (_ : Prop)) => ?_) <;> ((try simp only [BQ] at hg); try (exfalso; omega))) | refine And.intro ?_ ?_ | exact cl | exact one_encP _ | refine one_take ?_ _ | refine one_drop ?_ _ | (refine st ?_; try simp only [encC, pairs]))
       all_goals
       refine rZ [1, 2, 5, 6, 7] (fun P S K => XvBinOV P .add 3 (.const (.int .i64 1)) (S.get 7) (.atom (.int .i64 1)) (fun r1 _ => K ⟨[(1, S.get 1), (2, S.get 2), (5, S.get 5), (6, S.get 6), (7, r1)], S.hp, S.nx, S.gh⟩)) fun K hK => ?_
       repeat' (first | (refine hK _ ?_; clear hK K) | refine And.intro ?_ ?_ | exact cl | exact one_encP _ | (refine st ?_; try simp only [encC, pairs]))
       all_goals try simp (disch := omega) only [wrap_id, wrap8_id]
       all_goals
       first
       | (refine ⟨⟨o2 ++ [((a : Int), (b : Int))], b + 1, by omega, by rw [hrs, if_pos ⟨by omega, by assumption, by assumption⟩, ho2, List.append_assoc]⟩, [0, 3], by dsimp only; omega, ?_⟩; exact leqB5)
       | (refine ⟨⟨o2, b + 1, by omega, by rw [hrs, if_neg (by simp_all), ho2, List.append_nil]⟩, [0, 1], by dsimp only; omega, ?_⟩; exact leqB5)
      ·try (cases h31; done)
       all_goals (try simp only [CQ] at h31)
       all_goals
       refine Tri.skip ?_
       refine rZ [1, 2, 5, 6, 7] (fun P S K => XvBinOV P .add 3 (.const (.int .i64 1)) (S.get 7) (.atom (.int .i64 1)) (fun r1 _ => K ⟨[(1, S.get 1), (2, S.get 2), (5, S.get 5), (6, S.get 6), (7, r1)], S.hp, S.nx, S.gh⟩)) fun K hK => ?_
       repeat' (first | (refine hK _ ?_; clear hK K) | refine And.intro ?_ ?_ | exact cl | exact one_encP _ | (refine st ?_; try simp only [encC, pairs]))
       all_goals try simp (disch := omega) only [wrap_id, wrap8_id]
       all_goals
       first
       | (refine ⟨⟨o2 ++ [((a : Int), (b : Int))], b + 1, by omega, by rw [hrs, if_pos ⟨by omega, by assumption, by assumption⟩, ho2, List.append_assoc]⟩, [0, 3], by dsimp only; omega, ?_⟩; exact leqB5)
       | (refine ⟨⟨o2, b + 1, by omega, by rw [hrs, if_neg (by simp_all), ho2, List.append_nil]⟩, [0, 1], by dsimp only; omega, ?_⟩; exact leqB5)
     ·try (cases h19; done)
      all_goals (try simp only [CQ] at h19)
      all_goals
      refine Tri.exit ?_
      refine rZ [1, 2, 5, 6] (fun P S K => XvBinOV P .add 3 (.const (.int .i64 1)) (S.get 6) (.atom (.int .i64 1)) (fun r1 _ => K ⟨[(1, S.get 1), (2, S.get 2), (5, S.get 5), (6, r1)], S.hp, S.nx, S.gh⟩)) fun K hK => ?_
      repeat' (first | (refine hK _ ?_; clear hK K) | refine And.intro ?_ ?_ | exact cl | exact one_encP _ | (refine st ?_; try simp only [encC, pairs]))
      all_goals try simp (disch := omega) only [wrap_id, wrap8_id]
      all_goals
      obtain rfl : b = c.people.toNat := by omega
      refine ⟨⟨o2, a + 1, by omega, by rw [ho2, ho]; rfl⟩, [0, 1], by dsimp only; omega, ?_⟩
      exact leqB5
   ·try (cases h11; done)
    all_goals (try simp only [CQ] at h11)
    all_goals
    refine Tri.exit ?_
    have hae : out = pairsOf c i := by rw [ho]; unfold pairsOf; congr 1; omega
    subst hae
    refine sZ [4] (fun P S K => K ⟨[(4, (S.get 5))], S.hp, S.nx, S.gh⟩) fun K hK => ?_
    repeat' (first | (refine hK _ ?_; clear hK K) | refine And.intro ?_ ?_ | exact cl | exact one_encP _ | (refine st ?_; try simp only [encC, pairs]))
    all_goals
    refine Tri.ret ?_
    show ResOk _ _ _ _
    exact ResOk.frz 5 lstB4 lpvB5
theorem lelB6 {p : Prop} (h : p := by (first | rfl | (simp only [List.map_append, List.map_cons, List.map_nil, List.append_nil, List.nil_append, List.append_assoc, List.cons_append, encI, encS, ints, strs]; done) | (simp [encI, encS, ints, strs, encP]; done)); first | done | fail) : p := h
theorem lpuB6 {p : Prop} (h : p := by (first | rfl | exact pureL_encI _ | exact pureL_encS _ | exact pureL_ints _ | exact pureL_strs _ | exact pureL_encP _ | (simp [pureL_append, pureL_encI, pureL_encS, pureL_ints, pureL_strs, pureL, PV.pure, pure_ints, pure_strs, pure_case, pureL_encP, pure_pairs]; done)); first | done | fail) : p := h
theorem foldl_len {α : Type} {f : Srch → α → Srch} {n : Nat} (h : ∀ s x, s.1.length ≤ n → (f s x).1.length ≤ n) : ∀ (l : List α) (s : Srch), s.1.length ≤ n → (l.foldl f s).1.length ≤ n
  | [], s, hs => hs
  | x :: l, s, hs => foldl_len h l _ (h s x hs)
theorem searchF_len (c : CaseD) : ∀ (k : Nat) (L : List Int) (lim : Int), (searchF c k L lim).1.length ≤ k
  | 0, _, _ => Nat.le_refl _
  | k + 1, L, lim => by
    refine foldl_len (fun s x hs => ?_) _ _ (Nat.zero_le _)
    unfold srchStep
    split
    · exact hs
    · split
      · have := searchF_len c k (loadStep c L (c.sizes.length - (k + 1)) x) s.2.1
        simp only [List.length_cons]; omega
      · exact hs
def srchAt (c : CaseD) (k at_ : Nat) (loads : List Int) (limit : Int) (l : List (Int × Int)) (j : Nat) : Srch := (l.take j).foldl (srchStep (searchF c k) c at_ loads) ([], limit, false)
theorem srchAt_next {c : CaseD} {k at_ : Nat} {loads : List Int} {limit : Int} {l : List (Int × Int)} {j : Nat} (h : j < l.length) : srchAt c k at_ loads limit l (j + 1) = srchStep (searchF c k) c at_ loads (srchAt c k at_ loads limit l j) (lp l j) := by
  unfold srchAt
  rw [List.take_succ_eq_append_getElem h, List.foldl_append, lp_get h]; rfl
theorem addAt_step (c : CaseD) (loads : List Int) (i : Nat) (p : Int × Int) : addAt (addAt loads p.1 (li c.sizes i)) p.2 (li c.sizes i) = loadStep c loads i p := rfl
theorem ob_cons (i : Nat) (p : Int × Int) (r : List (Int × Int)) : PV.ob i 2 0 (1 + r.length) = PV.ob i 2 0 (p :: r).length := by rw [List.length_cons, Nat.add_comm]
theorem enc_cons (p : Int × Int) (r : List (Int × Int)) : (PV.agg [PV.atom (.int .i64 p.1), PV.atom (.int .i64 p.2)] :: r.map encP) = (p :: r).map encP := rfl
theorem search_step (c : CaseD) (hc : Held c) (hG : Good c) (k at_ : Nat) (loads : List Int) (limit : Int) (hk : at_ + (k + 1) = c.sizes.length) (hl : loads.length = c.people.toNat) (hr : ∀ x, x ∈ loads → 0 ≤ x ∧ x ≤ 2048 * (at_ : Int))
    (ih : ∀ (L : List Int) (lim : Int), L.length = c.people.toNat → (∀ x, x ∈ L → 0 ≤ x ∧ x ≤ 2048 * ((at_ + 1 : Nat) : Int)) → Pure Try.prog 38 [encC c, encI ((at_ : Int) + 1), ints L, encI lim] (.tup [pairs (searchF c k L lim).1, encI (searchF c k L lim).2.1, .atom (.bool (searchF c k L lim).2.2)]) []) :
    Pure Try.prog 38 [encC c, encI at_, ints loads, encI limit] (.tup [.ob 0 2 0 (searchF c (k + 1) loads limit).1.length, encI (searchF c (k + 1) loads limit).2.1, .atom (.bool (searchF c (k + 1) loads limit).2.2)]) [⟨2, (searchF c (k + 1) loads limit).1.map encP⟩] := by
  have hmany := hG.many
  have hlo := hG.lo
  have hhi := hG.hi
  have hal : at_ < c.sizes.length := by omega
  have hsz := li_rng (m := 0) (M := 1024) (fun x hx => by have := hG.size x hx; omega) (by omega) at_
  have hpm : ∀ p, p ∈ pairsOf c at_ → 0 ≤ p.1 ∧ p.1 < p.2 ∧ p.2 < c.people := fun p hp => by have := allPr_mem hp; omega
  have hpl := allPr_len c at_ c.people.toNat c.people.toNat
  have hmul : c.people.toNat * c.people.toNat ≤ 6 * 6 := Nat.mul_le_mul (by omega) (by omega)
  obtain ⟨l, hle⟩ : ∃ l, l = pairsOf c at_ := ⟨_, rfl⟩
  have hP := Pairs_pure c at_ hc hhi
  rw [← hle] at hP hpm
  have hll : l.length ≤ 100 := by rw [hle]; unfold pairsOf; omega
  have hra := li_rng hr (by omega)
  refine Pure.intro (ts := [8, 9, 10]) Try.func38 (by kernel_rfl) rfl rfl rfl (Nat.le_of_ble_eq_true rfl) ?_ ?_
  · simp [pure_case, pure_ints, encI, PV.pure, pureL]
  refine sZ [1, 2, 3, 4] (fun P S K => XvBox S.nx (S.get 0) (fun r0 ef0 => K ⟨[(1, S.get 1), (2, S.get 2), (3, S.get 3), (4, r0)], (Eff.hp ef0 S.nx S.hp), (S.nx + ef0.add.length), S.gh⟩)) fun K hK => ?_
  repeat' (first | (refine hK _ ?_; clear hK K) | refine And.intro ?_ ?_ | exact cl | exact one_encP _ | exact flat_encI _ | (refine st ?_; try simp only [encC, pairs, encP, renL_encP]) | simp only [encC, pairs, encP, renL_encP])
  all_goals
  refine Tri.seq ?_
  refine sZ [1, 2, 3, 4, 23] (fun P S K => XvFieldAddr P 25 0 (S.get 4) (fun r1 _ => XvLoad P 22 (M S.hp S.nx) r1 (fun r2 _ => XvLen P 22 r2 (fun r3 _ => XvBinOV P .geq 3 (.tmp 22) (S.get 1) r3 (fun r4 _ => K ⟨[(1, S.get 1), (2, S.get 2), (3, S.get 3), (4, S.get 4), (23, r4)], S.hp, S.nx, S.gh⟩))))) fun K hK => ?_
  repeat' (first | (refine hK _ ?_; clear hK K) | refine And.intro ?_ ?_ | exact cl | exact one_encP _ | exact flat_encI _ | refine one_take ?_ _ | refine one_drop ?_ _ | (refine st ?_; try simp only [encC, pairs, encP, renL_encP]) | simp only [encC, pairs, encP, renL_encP])
  all_goals
  refine Tri.cond rfl (fun h23 => ?_) (fun h23 => ?_)
  ·try (cases h23; done)
   all_goals (try simp only [CQ] at h23)
   all_goals
   refine sZ [8, 9, 10] (fun P S K => XvFnIV P (M S.hp S.nx) (.fn 34 []) [(S.get 2)] (fun r1 ef1 => XvFnIV P (M (Eff.hp ef1 S.nx S.hp) (S.nx + ef1.add.length)) (.fn 34 []) [(S.get 2)] (fun r3 ef3 => XvBinOV P .lss 3 (.tmp 28) r3 (S.get 3) (fun r5 _ => K ⟨[(8, (.atom (.slice none 0 0))), (9, r1), (10, r5)], (Eff.hp ef3 (S.nx + ef1.add.length) (Eff.hp ef1 S.nx S.hp)), ((S.nx + ef1.add.length) + ef3.add.length), S.gh⟩)))) fun K hK => ?_
   repeat' (first | (refine hK _ ?_; clear hK K) | refine And.intro ?_ ?_ | exact cl | exact one_encP _ | exact flat_encI _ | refine .inl ⟨_, _, hP, ?_⟩ | refine .inl ⟨_, _, Greatest_pure (loadStep c loads at_ (lp l j)) (by rw [hsl]; omega), ?_⟩ | refine .inl ⟨_, _, ih (loadStep c loads at_ (lp l j)) (srchAt c k at_ loads limit l j).2.1 hsl hsr, ?_⟩ | (refine st ?_; try simp only [encC, pairs, encP, renL_encP]) | simp only [encC, pairs, encP, renL_encP])
   all_goals
   refine Tri.ret ?_
   show ResOk _ _ _ _
   done
  ·try (cases h23; done)
   all_goals (try simp only [CQ] at h23)
   all_goals
   refine Tri.skip ?_
   refine sZ [1, 2, 3, 4, 11] (fun P S K => K ⟨[(1, S.get 1), (2, S.get 2), (3, S.get 3), (4, S.get 4), (11, (.atom (.slice none 0 0)))], S.hp, S.nx, S.gh⟩) fun K hK => ?_
   repeat' (first | (refine hK _ ?_; clear hK K) | refine And.intro ?_ ?_ | exact cl | exact one_encP _ | exact flat_encI _ | (refine st ?_; try simp only [encC, pairs, encP, renL_encP]) | simp only [encC, pairs, encP, renL_encP])
   refine Tri.born 11 2 rfl ?_
   all_goals
   refine sZ [1, 2, 3, 4, 11, 12] (fun P S K => K ⟨[(1, S.get 1), (2, S.get 2), (3, S.get 3), (4, S.get 4), (11, S.get 11), (12, (.atom (.bool false)))], S.hp, S.nx, S.gh⟩) fun K hK => ?_
   repeat' (first | (refine hK _ ?_; clear hK K) | refine And.intro ?_ ?_ | exact cl | exact one_encP _ | exact flat_encI _ | (refine st ?_; try simp only [encC, pairs, encP, renL_encP]) | simp only [encC, pairs, encP, renL_encP])
   all_goals
   refine sZ [1, 2, 3, 4, 11, 12, 13] (fun P S K => XvLoad P 25 (M S.hp S.nx) (S.get 4) (fun r0 _ => XvFnIV P (M S.hp S.nx) (.fn 58 []) [r0, (S.get 1)] (fun r2 ef2 => K ⟨[(1, S.get 1), (2, S.get 2), (3, S.get 3), (4, S.get 4), (11, S.get 11), (12, S.get 12), (13, r2)], (Eff.hp ef2 S.nx S.hp), (S.nx + ef2.add.length), S.gh⟩))) fun K hK => ?_
   repeat' (first | (refine hK _ ?_; clear hK K) | refine And.intro ?_ ?_ | exact cl | exact one_encP _ | exact flat_encI _ | refine one_take ?_ _ | refine one_drop ?_ _ | refine .inl ⟨_, _, hP, ?_⟩ | refine .inl ⟨_, _, ih (loadStep c loads at_ (lp l j)) (srchAt c k at_ loads limit l j).2.1 hsl hsr, ?_⟩ | (refine st ?_; try simp only [encC, pairs, encP, renL_encP]) | simp only [encC, pairs, encP, renL_encP])
   all_goals
   refine Tri.seq ?_
   refine sZ [1, 2, 3, 4, 11, 12, 13, 14] (fun P S K => K ⟨[(1, S.get 1), (2, S.get 2), (3, S.get 3), (4, S.get 4), (11, S.get 11), (12, S.get 12), (13, S.get 13), (14, (.atom (.int .i64 0)))], S.hp, S.nx, S.gh⟩) fun K hK => ?_
   repeat' (first | (refine hK _ ?_; clear hK K) | refine And.intro ?_ ?_ | exact cl | exact one_encP _ | exact flat_encI _ | (refine st ?_; try simp only [encC, pairs, encP, renL_encP]) | simp only [encC, pairs, encP, renL_encP])
   all_goals
   refine Tri.block ?_
   refine Tri.loop (α := (j : Nat) ×' (j ≤ l.length)) (fun z => (fun (j : Nat) => (⟨[(1, encI at_), (2, ints loads), (3, encI (srchAt c k at_ loads limit l j).2.1), (4, .ptr 0 3 0 0), (11, .ob 1 2 0 (srchAt c k at_ loads limit l j).1.length), (12, .atom (.bool (srchAt c k at_ loads limit l j).2.2)), (13, pairs l), (14, encI j)], [(0, some ⟨3, [encC c]⟩), (1, some ⟨2, (srchAt c k at_ loads limit l j).1.map encP⟩)], 2, []⟩ : St)) z.1) (fun z => (fun (j : Nat) => l.length - j) z.1) ⟨0, Nat.zero_le _⟩ [0, 1] ?_ ?_
   ·exact leqB5
   ·rintro ⟨j, hj⟩
    refine Tri.seq ?_
    refine sZ [1, 2, 3, 4, 11, 12, 13, 14, 36] (fun P S K => XvLen P 23 (S.get 13) (fun r2 _ => XvBinOV P .lss 3 (.tmp 35) (S.get 14) r2 (fun r3 _ => K ⟨[(1, S.get 1), (2, S.get 2), (3, S.get 3), (4, S.get 4), (11, S.get 11), (12, S.get 12), (13, S.get 13), (14, S.get 14), (36, r3)], S.hp, S.nx, S.gh⟩))) fun K hK => ?_
    repeat' (first | (refine hK _ ?_; clear hK K) | refine And.intro ?_ ?_ | exact cl | exact one_encP _ | exact flat_encI _ | (refine st ?_; try simp only [encC, pairs, encP, renL_encP]) | simp only [encC, pairs, encP, renL_encP])
    all_goals
    refine Tri.cond rfl (fun h36 => ?_) (fun h36 => ?_)
    ·try (cases h36; done)
     all_goals (try simp only [CQ] at h36)
     all_goals
     refine Tri.skip ?_
     refine Tri.seq ?_
     refine Tri.block ?_
     have hjl : j < l.length := by omega
     have hpj := hpm _ (lp_mem hjl)
     have hs1 : (addAt loads (lp l j).1 (li c.sizes at_)).length = c.people.toNat := by rw [addAt_len, hl]
     have hsl : (loadStep c loads at_ (lp l j)).length = c.people.toNat := by unfold loadStep; rw [addAt_len, addAt_len, hl]
     have hr1 := addAt_rng (l := loads) (k := (lp l j).1) (v := li c.sizes at_) (m := 2048 * (at_ : Int)) (M := 2048 * (at_ : Int) + 1024) hr (by omega) (by omega)
     have hsr : ∀ x, x ∈ loadStep c loads at_ (lp l j) → 0 ≤ x ∧ x ≤ 2048 * ((at_ + 1 : Nat) : Int) := fun x hx => by have := addAt_rng (m := 2048 * (at_ : Int) + 1024) (M := 2048 * (at_ : Int) + 2048) hr1 (by omega) (by omega) x hx; omega
     have hrb := li_rng hr1 (by omega)
     have hra1 := hra (lp l j).1.toNat
     have hrb1 := hrb (lp l j).2.toNat
     have hnext := srchAt_next (c := c) (k := k) (at_ := at_) (loads := loads) (limit := limit) hjl
     refine sZ [1, 2, 3, 4, 11, 12, 13, 14, 15] (fun P S K => XvBuildS P 22 0 S.nx [] (fun r0 ef0 => (22 = 22 ∧ XvAppend P 22 (M (Eff.hp ef0 S.nx S.hp) (S.nx + ef0.add.length)) r0 (S.get 2) (fun r2 ef2 => K ⟨[(1, S.get 1), (2, S.get 2), (3, S.get 3), (4, S.get 4), (11, S.get 11), (12, S.get 12), (13, S.get 13), (14, S.get 14), (15, r2)], (Eff.hp ef2 (S.nx + ef0.add.length) (Eff.hp ef0 S.nx S.hp)), ((S.nx + ef0.add.length) + ef2.add.length), S.gh⟩)))) fun K hK => ?_
     repeat' (first | (refine hK _ ?_; clear hK K) | ((first | refine xG_intro (fun hg => ?_) (fun hg => ?_) | refine fun (hg : (_ : Prop)) => ?_) <;> ((try simp only [BQ] at hg); try (exfalso; omega))) | refine And.intro ?_ ?_ | exact cl | exact one_encP _ | exact flat_encI _ | refine one_take ?_ _ | refine one_drop ?_ _ | (refine st ?_; try simp only [encC, pairs, encP, renL_encP]) | simp only [encC, pairs, encP, renL_encP])
     all_goals
     refine sD 21 [1, 2, 3, 4, 11, 12, 13, 14, 15] (fun P GD S K => XvIndexAddr P 23 (S.get 13) (S.get 14) (fun r3 ef3 => XvIndexAddr P 67 r3 (.atom (.int .i64 0)) (fun r4 ef4 => XvLoad P 3 (M S.hp S.nx) r4 (fun r5 ef5 => XvIndexAddr P 23 (S.get 13) (S.get 14) (fun r9 ef9 => XvIndexAddr P 67 r9 (.atom (.int .i64 0)) (fun r10 ef10 => XvLoad P 3 (M S.hp S.nx) r10 (fun r11 ef11 => XvIndexAddr P 22 (S.get 15) r11 (fun r12 ef12 => XvLoad P 3 (M S.hp S.nx) r12 (fun r13 ef13 => XvFieldAddr P 25 0 (S.get 4) (fun r14 ef14 => XvLoad P 22 (M S.hp S.nx) r14 (fun r15 ef15 => XvIndexAddr P 22 r15 (S.get 1) (fun r17 ef17 => XvLoad P 3 (M S.hp S.nx) r17 (fun r18 ef18 => XvBinOV P .add 3 (.tmp 60) r13 r18 (fun r19 ef19 => XvIndexAddr P 22 (S.get 15) r5 (fun r20 ef20 => (trOk S.nx GD [⟨S.nx, 0, [], [], []⟩, ⟨S.nx, 0, [], [], []⟩, ⟨S.nx, 0, [], [], []⟩, ⟨S.nx, 0, ef3.rd, [], []⟩, ⟨S.nx, 0, ef4.rd, [], []⟩, ⟨S.nx, 0, ef5.rd, [], []⟩, ⟨S.nx, 0, [], [], []⟩, ⟨S.nx, 0, [], [], []⟩, ⟨S.nx, 0, [], [], []⟩, ⟨S.nx, 0, ef9.rd, [], []⟩, ⟨S.nx, 0, ef10.rd, [], []⟩, ⟨S.nx, 0, ef11.rd, [], []⟩, ⟨S.nx, 0, ef12.rd, [], []⟩, ⟨S.nx, 0, ef13.rd, [], []⟩, ⟨S.nx, 0, ef14.rd, [], []⟩, ⟨S.nx, 0, ef15.rd, [], []⟩, ⟨S.nx, 0, [], [], []⟩, ⟨S.nx, 0, ef17.rd, [], []⟩, ⟨S.nx, 0, ef18.rd, [], []⟩, ⟨S.nx, 0, ef19.rd, [], []⟩, ⟨S.nx, 0, ef20.rd, [], []⟩] = true ∧ XvStore P 3 (M S.hp S.nx) r20 r19 (fun r21 ef21 => K ⟨[(1, S.get 1), (2, S.get 2), (3, S.get 3), (4, S.get 4), (11, S.get 11), (12, S.get 12), (13, S.get 13), (14, S.get 14), (15, S.get 15)], (Eff.hp ef21 S.nx S.hp), (S.nx + ef21.add.length), S.gh⟩))))))))))))))))) fun K hK => ?_
     repeat' (first | (refine hK _ ?_; clear hK K) | (refine (?_ : trOk _ _ _ = true); kernel_rfl) | refine And.intro ?_ ?_ | exact cl | exact one_encP _ | exact flat_encI _ | refine one_take ?_ _ | refine one_drop ?_ _ | (refine st ?_; try simp only [encC, pairs, encP, renL_encP, getD_encP hjl, getD_encI hal, getD_encI (show (lp l j).1.toNat < loads.length by omega), wrap_id (x := li loads (lp l j).1.toNat + li c.sizes at_) (by omega) (by omega), hl]) | simp only [encC, pairs, encP, renL_encP, getD_encP hjl, getD_encI hal, getD_encI (show (lp l j).1.toNat < loads.length by omega), wrap_id (x := li loads (lp l j).1.toNat + li c.sizes at_) (by omega) (by omega), hl])
     all_goals try simp (disch := omega) only [wrap_id, wrap8_id]
     rw [addAt_enc]
     all_goals
     refine sD 21 [1, 2, 3, 4, 11, 12, 13, 14, 15] (fun P GD S K => XvIndexAddr P 23 (S.get 13) (S.get 14) (fun r3 ef3 => XvIndexAddr P 67 r3 (.atom (.int .i64 1)) (fun r4 ef4 => XvLoad P 3 (M S.hp S.nx) r4 (fun r5 ef5 => XvIndexAddr P 23 (S.get 13) (S.get 14) (fun r9 ef9 => XvIndexAddr P 67 r9 (.atom (.int .i64 1)) (fun r10 ef10 => XvLoad P 3 (M S.hp S.nx) r10 (fun r11 ef11 => XvIndexAddr P 22 (S.get 15) r11 (fun r12 ef12 => XvLoad P 3 (M S.hp S.nx) r12 (fun r13 ef13 => XvFieldAddr P 25 0 (S.get 4) (fun r14 ef14 => XvLoad P 22 (M S.hp S.nx) r14 (fun r15 ef15 => XvIndexAddr P 22 r15 (S.get 1) (fun r17 ef17 => XvLoad P 3 (M S.hp S.nx) r17 (fun r18 ef18 => XvBinOV P .add 3 (.tmp 81) r13 r18 (fun r19 ef19 => XvIndexAddr P 22 (S.get 15) r5 (fun r20 ef20 => (trOk S.nx GD [⟨S.nx, 0, [], [], []⟩, ⟨S.nx, 0, [], [], []⟩, ⟨S.nx, 0, [], [], []⟩, ⟨S.nx, 0, ef3.rd, [], []⟩, ⟨S.nx, 0, ef4.rd, [], []⟩, ⟨S.nx, 0, ef5.rd, [], []⟩, ⟨S.nx, 0, [], [], []⟩, ⟨S.nx, 0, [], [], []⟩, ⟨S.nx, 0, [], [], []⟩, ⟨S.nx, 0, ef9.rd, [], []⟩, ⟨S.nx, 0, ef10.rd, [], []⟩, ⟨S.nx, 0, ef11.rd, [], []⟩, ⟨S.nx, 0, ef12.rd, [], []⟩, ⟨S.nx, 0, ef13.rd, [], []⟩, ⟨S.nx, 0, ef14.rd, [], []⟩, ⟨S.nx, 0, ef15.rd, [], []⟩, ⟨S.nx, 0, [], [], []⟩, ⟨S.nx, 0, ef17.rd, [], []⟩, ⟨S.nx, 0, ef18.rd, [], []⟩, ⟨S.nx, 0, ef19.rd, [], []⟩, ⟨S.nx, 0, ef20.rd, [], []⟩] = true ∧ XvStore P 3 (M S.hp S.nx) r20 r19 (fun r21 ef21 => K ⟨[(1, S.get 1), (2, S.get 2), (3, S.get 3), (4, S.get 4), (11, S.get 11), (12, S.get 12), (13, S.get 13), (14, S.get 14), (15, S.get 15)], (Eff.hp ef21 S.nx S.hp), (S.nx + ef21.add.length), S.gh⟩))))))))))))))))) fun K hK => ?_
     repeat' (first | (refine hK _ ?_; clear hK K) | (refine (?_ : trOk _ _ _ = true); kernel_rfl) | refine And.intro ?_ ?_ | exact cl | exact one_encP _ | exact flat_encI _ | refine one_take ?_ _ | refine one_drop ?_ _ | (refine st ?_; try simp only [encC, pairs, encP, renL_encP, getD_encP hjl, getD_encI hal, getD_encI (show (lp l j).2.toNat < (addAt loads (lp l j).1 (li c.sizes at_)).length by omega), wrap_id (x := li (addAt loads (lp l j).1 (li c.sizes at_)) (lp l j).2.toNat + li c.sizes at_) (by omega) (by omega), hs1, hl]) | simp only [encC, pairs, encP, renL_encP, getD_encP hjl, getD_encI hal, getD_encI (show (lp l j).2.toNat < (addAt loads (lp l j).1 (li c.sizes at_)).length by omega), wrap_id (x := li (addAt loads (lp l j).1 (li c.sizes at_)) (lp l j).2.toNat + li c.sizes at_) (by omega) (by omega), hs1, hl])
     all_goals try simp (disch := omega) only [wrap_id, wrap8_id]
     rw [addAt_enc, addAt_step]
     all_goals
     refine Tri.cut (α := (u : Unit) ×' (¬ (srchAt c k at_ loads limit l j).2.1 ≤ greatest (loadStep c loads at_ (lp l j)))) (fun ⟨_, hlt⟩ => ⟨[(1, encI at_), (2, ints loads), (3, encI (srchAt c k at_ loads limit l j).2.1), (4, .ptr 0 3 0 0), (11, .ob 1 2 0 (srchAt c k at_ loads limit l j).1.length), (12, .atom (.bool (srchAt c k at_ loads limit l j).2.2)), (13, pairs l), (14, encI j), (15, ints (loadStep c loads at_ (lp l j)))], [(0, some ⟨3, [encC c]⟩), (1, some ⟨2, (srchAt c k at_ loads limit l j).1.map encP⟩)], 2, []⟩) ?_ ?_
     ·skip
      refine sZ [1, 2, 3, 4, 11, 12, 13, 14, 15, 87] (fun P S K => XvFnIV P (M S.hp S.nx) (.fn 34 []) [(S.get 15)] (fun r1 ef1 => XvBinOV P .geq 3 (.tmp 86) r1 (S.get 3) (fun r3 _ => K ⟨[(1, S.get 1), (2, S.get 2), (3, S.get 3), (4, S.get 4), (11, S.get 11), (12, S.get 12), (13, S.get 13), (14, S.get 14), (15, S.get 15), (87, r3)], (Eff.hp ef1 S.nx S.hp), (S.nx + ef1.add.length), S.gh⟩))) fun K hK => ?_
      repeat' (first | (refine hK _ ?_; clear hK K) | refine And.intro ?_ ?_ | exact cl | exact one_encP _ | exact flat_encI _ | refine .inl ⟨_, _, hP, ?_⟩ | refine .inl ⟨_, _, Greatest_pure (loadStep c loads at_ (lp l j)) (by rw [hsl]; omega), ?_⟩ | refine .inl ⟨_, _, ih (loadStep c loads at_ (lp l j)) (srchAt c k at_ loads limit l j).2.1 hsl hsr, ?_⟩ | (refine st ?_; try simp only [encC, pairs, encP, renL_encP, hl, hsl, Nat.le_refl, if_true, (show List.take c.people.toNat ((loadStep c loads at_ (lp l j)).map encI) = (loadStep c loads at_ (lp l j)).map encI from List.take_of_length_le (by rw [List.length_map, hsl]; exact Nat.le_refl _)), map_sealed_encI]) | simp only [encC, pairs, encP, renL_encP, hl, hsl, Nat.le_refl, if_true, (show List.take c.people.toNat ((loadStep c loads at_ (lp l j)).map encI) = (loadStep c loads at_ (lp l j)).map encI from List.take_of_length_le (by rw [List.length_map, hsl]; exact Nat.le_refl _)), map_sealed_encI])
      all_goals
      refine Tri.cond rfl (fun h87 => ?_) (fun h87 => ?_)
      ·try (cases h87; done)
       all_goals (try simp only [CQ] at h87)
       all_goals
       refine Tri.exit ?_
       refine rZ [1, 2, 3, 4, 11, 12, 13, 14] (fun P S K => XvBinOV P .add 3 (.const (.int .i64 1)) (S.get 14) (.atom (.int .i64 1)) (fun r1 _ => K ⟨[(1, S.get 1), (2, S.get 2), (3, S.get 3), (4, S.get 4), (11, S.get 11), (12, S.get 12), (13, S.get 13), (14, r1)], S.hp, S.nx, S.gh⟩)) fun K hK => ?_
       repeat' (first | (refine hK _ ?_; clear hK K) | refine And.intro ?_ ?_ | exact cl | exact one_encP _ | exact flat_encI _ | (refine st ?_; try simp only [encC, pairs, encP, renL_encP]) | simp only [encC, pairs, encP, renL_encP])
       all_goals try simp (disch := omega) only [wrap_id, wrap8_id]
       all_goals
       first
       | (have e : srchAt c k at_ loads limit l (j + 1) = srchAt c k at_ loads limit l j := (by rw [hnext]; unfold srchStep; rw [if_pos (by assumption)]); refine ⟨⟨j + 1, by omega⟩, [0, 1], by dsimp only; omega, ?_⟩; dsimp only; rw [e]; exact leqB5)
       | (have e : srchAt c k at_ loads limit l (j + 1) = srchAt c k at_ loads limit l j := (by rw [hnext]; unfold srchStep; rw [if_neg (by assumption), if_neg (by simp_all)]); refine ⟨⟨j + 1, by omega⟩, [0, 1], by dsimp only; omega, ?_⟩; dsimp only; rw [e]; exact leqB5)
       | (have e : srchAt c k at_ loads limit l (j + 1) = (lp l j :: (searchF c k (loadStep c loads at_ (lp l j)) (srchAt c k at_ loads limit l j).2.1).1, (searchF c k (loadStep c loads at_ (lp l j)) (srchAt c k at_ loads limit l j).2.1).2.1, true) := (by rw [hnext]; unfold srchStep; rw [if_neg (by assumption), if_pos (by assumption)]); rw [ob_cons _ (lp l j), enc_cons]; refine ⟨⟨j + 1, by omega⟩, [0, 3], by dsimp only; omega, ?_⟩; dsimp only; rw [e]; exact leqB5)
      ·try (cases h87; done)
       all_goals (try simp only [CQ] at h87)
       all_goals
       refine Tri.skip ?_
       rw [← hsl]
       refine ⟨⟨(), by first | assumption | omega⟩, [0, 1], ?_⟩
       exact leqB5
     ·rintro ⟨_, hlt⟩
      refine sZ [1, 2, 3, 4, 11, 12, 13, 14, 16, 17, 18] (fun P S K => XvLoad P 25 (M S.hp S.nx) (S.get 4) (fun r0 _ => XvBinOV P .add 3 (.const (.int .i64 1)) (S.get 1) (.atom (.int .i64 1)) (fun r2 _ => XvFnIV P (M S.hp S.nx) (.fn 38 []) [r0, r2, (S.get 15), (S.get 3)] (fun r5 ef5 => XvExtract r5 0 (fun r7 _ => XvExtract r5 1 (fun r8 _ => XvExtract r5 2 (fun r9 _ => K ⟨[(1, S.get 1), (2, S.get 2), (3, S.get 3), (4, S.get 4), (11, S.get 11), (12, S.get 12), (13, S.get 13), (14, S.get 14), (16, r7), (17, r8), (18, r9)], (Eff.hp ef5 S.nx S.hp), (S.nx + ef5.add.length), S.gh⟩))))))) fun K hK => ?_
      repeat' (first | (refine hK _ ?_; clear hK K) | refine And.intro ?_ ?_ | exact cl | exact one_encP _ | exact flat_encI _ | refine one_take ?_ _ | refine one_drop ?_ _ | refine .inl ⟨_, _, hP, ?_⟩ | refine .inl ⟨_, _, ih (loadStep c loads at_ (lp l j)) (srchAt c k at_ loads limit l j).2.1 hsl hsr, ?_⟩ | (refine st ?_; try simp only [encC, pairs, encP, renL_encP, wrap_id (x := (at_ : Int) + 1) (by omega) (by omega)]) | simp only [encC, pairs, encP, renL_encP, wrap_id (x := (at_ : Int) + 1) (by omega) (by omega)])
      all_goals try simp (disch := omega) only [wrap_id, wrap8_id]
      all_goals
      refine sZ [1, 2, 3, 4, 11, 12, 13, 14, 16, 17, 98] (fun P S K => K ⟨[(1, S.get 1), (2, S.get 2), (3, S.get 3), (4, S.get 4), (11, S.get 11), (12, S.get 12), (13, S.get 13), (14, S.get 14), (16, S.get 16), (17, S.get 17), (98, (S.get 18))], S.hp, S.nx, S.gh⟩) fun K hK => ?_
      repeat' (first | (refine hK _ ?_; clear hK K) | refine And.intro ?_ ?_ | exact cl | exact one_encP _ | exact flat_encI _ | (refine st ?_; try simp only [encC, pairs, encP, renL_encP]) | simp only [encC, pairs, encP, renL_encP])
      all_goals
      refine Tri.cond rfl (fun h98 => ?_) (fun h98 => ?_)
      ·try (cases h98; done)
       all_goals (try simp only [CQ] at h98)
       all_goals
       have hln := searchF_len c k (loadStep c loads at_ (lp l j)) (srchAt c k at_ loads limit l j).2.1
       refine sZ [1, 2, 4, 11, 13, 14, 17] (fun P S K => XvIndexAddr P 23 (S.get 13) (S.get 14) (fun r2 _ => XvLoad P 67 (M S.hp S.nx) r2 (fun r3 _ => XvBuildS P 23 1 S.nx [(0, r3)] (fun r4 ef4 => (23 = 23 ∧ XvAppend P 23 (M (Eff.hp ef4 S.nx S.hp) (S.nx + ef4.add.length)) r4 (S.get 16) (fun r6 ef6 => K ⟨[(1, S.get 1), (2, S.get 2), (4, S.get 4), (11, r6), (13, S.get 13), (14, S.get 14), (17, S.get 17)], (Eff.hp ef6 (S.nx + ef4.add.length) (Eff.hp ef4 S.nx S.hp)), ((S.nx + ef4.add.length) + ef6.add.length), S.gh⟩)))))) fun K hK => ?_
       repeat' (first | (refine hK _ ?_; clear hK K) | ((first | refine xG_intro (fun hg => ?_) (fun hg => ?_) | refine fun (hg : (_ : Prop)) => ?_) <;> ((try simp only [BQ] at hg); try (exfalso; omega))) | refine And.intro ?_ ?_ | exact cl | exact one_encP _ | exact flat_encI _ | refine one_take ?_ _ | refine one_drop ?_ _ | (refine st ?_; try simp only [encC, pairs, encP, renL_encP, getD_encP hjl, encP]) | simp only [encC, pairs, encP, renL_encP, getD_encP hjl, encP])
       all_goals
       refine sZ [1, 2, 3, 4, 11, 13, 14] (fun P S K => K ⟨[(1, S.get 1), (2, S.get 2), (3, (S.get 17)), (4, S.get 4), (11, S.get 11), (13, S.get 13), (14, S.get 14)], S.hp, S.nx, S.gh⟩) fun K hK => ?_
       repeat' (first | (refine hK _ ?_; clear hK K) | refine And.intro ?_ ?_ | exact cl | exact one_encP _ | exact flat_encI _ | (refine st ?_; try simp only [encC, pairs, encP, renL_encP]) | simp only [encC, pairs, encP, renL_encP])
       all_goals
       refine rZ [1, 2, 3, 4, 11, 12, 13, 14] (fun P S K => K ⟨[(1, S.get 1), (2, S.get 2), (3, S.get 3), (4, S.get 4), (11, S.get 11), (12, (.atom (.bool true))), (13, S.get 13), (14, S.get 14)], S.hp, S.nx, S.gh⟩) fun K hK => ?_
       repeat' (first | (refine hK _ ?_; clear hK K) | refine And.intro ?_ ?_ | exact cl | exact one_encP _ | exact flat_encI _ | (refine st ?_; try simp only [encC, pairs, encP, renL_encP]) | simp only [encC, pairs, encP, renL_encP])
       all_goals
       refine rZ [1, 2, 3, 4, 11, 12, 13, 14] (fun P S K => XvBinOV P .add 3 (.const (.int .i64 1)) (S.get 14) (.atom (.int .i64 1)) (fun r1 _ => K ⟨[(1, S.get 1), (2, S.get 2), (3, S.get 3), (4, S.get 4), (11, S.get 11), (12, S.get 12), (13, S.get 13), (14, r1)], S.hp, S.nx, S.gh⟩)) fun K hK => ?_
       repeat' (first | (refine hK _ ?_; clear hK K) | refine And.intro ?_ ?_ | exact cl | exact one_encP _ | exact flat_encI _ | (refine st ?_; try simp only [encC, pairs, encP, renL_encP]) | simp only [encC, pairs, encP, renL_encP])
       all_goals try simp (disch := omega) only [wrap_id, wrap8_id]
       all_goals
       first
       | (have e : srchAt c k at_ loads limit l (j + 1) = srchAt c k at_ loads limit l j := (by rw [hnext]; unfold srchStep; rw [if_pos (by assumption)]); refine ⟨⟨j + 1, by omega⟩, [0, 1], by dsimp only; omega, ?_⟩; dsimp only; rw [e]; exact leqB5)
       | (have e : srchAt c k at_ loads limit l (j + 1) = srchAt c k at_ loads limit l j := (by rw [hnext]; unfold srchStep; rw [if_neg (by assumption), if_neg (by simp_all)]); refine ⟨⟨j + 1, by omega⟩, [0, 1], by dsimp only; omega, ?_⟩; dsimp only; rw [e]; exact leqB5)
       | (have e : srchAt c k at_ loads limit l (j + 1) = (lp l j :: (searchF c k (loadStep c loads at_ (lp l j)) (srchAt c k at_ loads limit l j).2.1).1, (searchF c k (loadStep c loads at_ (lp l j)) (srchAt c k at_ loads limit l j).2.1).2.1, true) := (by rw [hnext]; unfold srchStep; rw [if_neg (by assumption), if_pos (by assumption)]); rw [ob_cons _ (lp l j), enc_cons]; refine ⟨⟨j + 1, by omega⟩, [0, 3], by dsimp only; omega, ?_⟩; dsimp only; rw [e]; exact leqB5)
      ·try (cases h98; done)
       all_goals (try simp only [CQ] at h98)
       all_goals
       refine Tri.skip ?_
       refine rZ [1, 2, 3, 4, 11, 12, 13, 14] (fun P S K => XvBinOV P .add 3 (.const (.int .i64 1)) (S.get 14) (.atom (.int .i64 1)) (fun r1 _ => K ⟨[(1, S.get 1), (2, S.get 2), (3, S.get 3), (4, S.get 4), (11, S.get 11), (12, S.get 12), (13, S.get 13), (14, r1)], S.hp, S.nx, S.gh⟩)) fun K hK => ?_
       repeat' (first | (refine hK _ ?_; clear hK K) | refine And.intro ?_ ?_ | exact cl | exact one_encP _ | exact flat_encI _ | (refine st ?_; try simp only [encC, pairs, encP, renL_encP]) | simp only [encC, pairs, encP, renL_encP])
       all_goals try simp (disch := omega) only [wrap_id, wrap8_id]
       all_goals
       first
       | (have e : srchAt c k at_ loads limit l (j + 1) = srchAt c k at_ loads limit l j := (by rw [hnext]; unfold srchStep; rw [if_pos (by assumption)]); refine ⟨⟨j + 1, by omega⟩, [0, 1], by dsimp only; omega, ?_⟩; dsimp only; rw [e]; exact leqB5)
       | (have e : srchAt c k at_ loads limit l (j + 1) = srchAt c k at_ loads limit l j := (by rw [hnext]; unfold srchStep; rw [if_neg (by assumption), if_neg (by simp_all)]); refine ⟨⟨j + 1, by omega⟩, [0, 1], by dsimp only; omega, ?_⟩; dsimp only; rw [e]; exact leqB5)
       | (have e : srchAt c k at_ loads limit l (j + 1) = (lp l j :: (searchF c k (loadStep c loads at_ (lp l j)) (srchAt c k at_ loads limit l j).2.1).1, (searchF c k (loadStep c loads at_ (lp l j)) (srchAt c k at_ loads limit l j).2.1).2.1, true) := (by rw [hnext]; unfold srchStep; rw [if_neg (by assumption), if_pos (by assumption)]); rw [ob_cons _ (lp l j), enc_cons]; refine ⟨⟨j + 1, by omega⟩, [0, 3], by dsimp only; omega, ?_⟩; dsimp only; rw [e]; exact leqB5)
    ·try (cases h36; done)
     all_goals (try simp only [CQ] at h36)
     all_goals
     refine Tri.exit ?_
     have hje : j = l.length := by omega
     have hfin : searchF c (k + 1) loads limit = srchAt c k at_ loads limit l j := by unfold srchAt; rw [List.take_of_length_le (by omega), hle, show at_ = c.sizes.length - (k + 1) by omega]; rfl
     refine sZ [8, 9, 10] (fun P S K => K ⟨[(8, (S.get 11)), (9, (S.get 3)), (10, (S.get 12))], S.hp, S.nx, S.gh⟩) fun K hK => ?_
     repeat' (first | (refine hK _ ?_; clear hK K) | refine And.intro ?_ ?_ | exact cl | exact one_encP _ | exact flat_encI _ | (refine st ?_; try simp only [encC, pairs, encP, renL_encP]) | simp only [encC, pairs, encP, renL_encP])
     all_goals
     refine Tri.ret ?_
     show ResOk _ _ _ _
     rw [hfin]
     exact ResOk.row 1 rfl lelB6 lpuB6 lsrB3
theorem search_base (c : CaseD) (loads : List Int) (limit : Int) (hl : loads.length ≤ 1000000000) (hs : c.sizes.length ≤ 1000000) : Pure Try.prog 38 [encC c, encI (c.sizes.length : Nat), ints loads, encI limit] (.tup [.ob 0 2 0 0, encI (greatest loads), .atom (.bool (decide (greatest loads < limit)))]) [⟨2, []⟩] := by
  refine Pure.intro (ts := [8, 9, 10]) Try.func38 (by kernel_rfl) rfl rfl rfl (Nat.le_of_ble_eq_true rfl) ?_ ?_
  · simp [pure_case, pure_ints, encI, PV.pure, pureL]
  refine sZ [1, 2, 3, 4] (fun P S K => XvBox S.nx (S.get 0) (fun r0 ef0 => K ⟨[(1, S.get 1), (2, S.get 2), (3, S.get 3), (4, r0)], (Eff.hp ef0 S.nx S.hp), (S.nx + ef0.add.length), S.gh⟩)) fun K hK => ?_
  repeat' (first | (refine hK _ ?_; clear hK K) | refine And.intro ?_ ?_ | exact cl | (refine st ?_; try simp only [encC, pairs]) | simp only [encC, pairs])
  all_goals
  refine Tri.seq ?_
  refine sZ [1, 2, 3, 4, 23] (fun P S K => XvFieldAddr P 25 0 (S.get 4) (fun r1 _ => XvLoad P 22 (M S.hp S.nx) r1 (fun r2 _ => XvLen P 22 r2 (fun r3 _ => XvBinOV P .geq 3 (.tmp 22) (S.get 1) r3 (fun r4 _ => K ⟨[(1, S.get 1), (2, S.get 2), (3, S.get 3), (4, S.get 4), (23, r4)], S.hp, S.nx, S.gh⟩))))) fun K hK => ?_
  repeat' (first | (refine hK _ ?_; clear hK K) | refine And.intro ?_ ?_ | exact cl | simp (maxSteps := 2000000) only [↓SD, push_cast, Nat.reduceAdd, Nat.reduceSub, Nat.reduceMul, Nat.reduceLT, Nat.reduceLeDiff, Nat.reduceEqDiff, Int.reduceToNat, reduceIte, reduceCtorEq, Int.reduceLE, Int.reduceLT, Int.reduceNeg, ints, strs, encI, encS, encC, pairs, dec_yes (show (c.sizes.length : Int) ≤ (c.sizes.length : Int) from Int.le_refl _)])
  all_goals
  refine Tri.cond rfl (fun h23 => ?_) (fun h23 => ?_)
  ·try (cases h23; done)
   all_goals (try simp only [CQ] at h23)
   all_goals
   refine sZ [8, 9, 10] (fun P S K => XvFnIV P (M S.hp S.nx) (.fn 34 []) [(S.get 2)] (fun r1 ef1 => XvFnIV P (M (Eff.hp ef1 S.nx S.hp) (S.nx + ef1.add.length)) (.fn 34 []) [(S.get 2)] (fun r3 ef3 => XvBinOV P .lss 3 (.tmp 28) r3 (S.get 3) (fun r5 _ => K ⟨[(8, (.atom (.slice none 0 0))), (9, r1), (10, r5)], (Eff.hp ef3 (S.nx + ef1.add.length) (Eff.hp ef1 S.nx S.hp)), ((S.nx + ef1.add.length) + ef3.add.length), S.gh⟩)))) fun K hK => ?_
   repeat' (first | (refine hK _ ?_; clear hK K) | refine And.intro ?_ ?_ | exact cl | refine .inl ⟨_, _, Greatest_pure loads hl, ?_⟩ | (refine st ?_; try simp only [encC, pairs]) | simp only [encC, pairs])
   refine Tri.born 8 2 rfl ?_
   all_goals
   refine Tri.ret ?_
   show ResOk _ _ _ _
   exact ResOk.row 1 rfl lelB6 lpuB6 lsrB3
  ·try (cases h23; done)
   all_goals (try simp only [CQ] at h23)
   all_goals
   refine Tri.skip ?_
   refine sY [1, 2, 3, 4, 11] (fun P S K => K ⟨[(1, S.get 1), (2, S.get 2), (3, S.get 3), (4, S.get 4), (11, (.atom (.slice none 0 0)))], S.hp, S.nx, S.gh⟩) ?_
   all_goals
   refine sY [1, 2, 3, 4, 11, 12] (fun P S K => K ⟨[(1, S.get 1), (2, S.get 2), (3, S.get 3), (4, S.get 4), (11, S.get 11), (12, (.atom (.bool false)))], S.hp, S.nx, S.gh⟩) ?_
   all_goals
   refine sZ [1, 2, 3, 4, 11, 12, 13] (fun P S K => XvLoad P 25 (M S.hp S.nx) (S.get 4) (fun r0 _ => XvFnIV P (M S.hp S.nx) (.fn 58 []) [r0, (S.get 1)] (fun r2 ef2 => K ⟨[(1, S.get 1), (2, S.get 2), (3, S.get 3), (4, S.get 4), (11, S.get 11), (12, S.get 12), (13, r2)], (Eff.hp ef2 S.nx S.hp), (S.nx + ef2.add.length), S.gh⟩))) fun K hK => ?_
   repeat' (first | (refine hK _ ?_; clear hK K) | refine And.intro ?_ ?_ | exact cl | (refine st ?_; try simp only [encC, pairs]) | simp only [encC, pairs])
   all_goals
   refine Tri.seq ?_
   refine sY [1, 2, 3, 4, 11, 12, 13, 14] (fun P S K => K ⟨[(1, S.get 1), (2, S.get 2), (3, S.get 3), (4, S.get 4), (11, S.get 11), (12, S.get 12), (13, S.get 13), (14, (.atom (.int .i64 0)))], S.hp, S.nx, S.gh⟩) ?_
   all_goals
   refine Tri.block ?_
   fail -- LOOP 0
theorem search_freeze {f : FuncId} {args : List PV} {l : List (Int × Int)} {n : Int} {b : Bool} (h : Pure Try.prog f args (.tup [.ob 0 2 0 l.length, encI n, .atom (.bool b)]) [⟨2, l.map encP⟩]) : Pure Try.prog f args (.tup [pairs l, encI n, .atom (.bool b)]) [] :=
  h.freeze 5 (by simp [-List.map_map, -List.map_inj_left, sealed, pairs, encI, map_sealed_encP, take_map_len]) (by simp [PV.pure, pureL, pure_pairs, encI])
theorem search_own (c : CaseD) (hc : Held c) (hG : Good c) : ∀ (k at_ : Nat) (L : List Int) (lim : Int), at_ + k = c.sizes.length → L.length = c.people.toNat → (∀ x, x ∈ L → 0 ≤ x ∧ x ≤ 2048 * (at_ : Int)) →
    Pure Try.prog 38 [encC c, encI at_, ints L, encI lim] (.tup [.ob 0 2 0 (searchF c k L lim).1.length, encI (searchF c k L lim).2.1, .atom (.bool (searchF c k L lim).2.2)]) [⟨2, (searchF c k L lim).1.map encP⟩]
  | 0, at_, L, lim, h, hl, hr => by
    have := search_base c L lim (by have := hG.hi; omega) hc.sizes
    rw [← h] at this
    exact this
  | k + 1, at_, L, lim, h, hl, hr => search_step c hc hG k at_ L lim h hl hr fun L' lim' hl' hr' => by
    have := search_freeze (search_own c hc hG k (at_ + 1) L' lim' (by omega) hl' hr')
    simpa using this
end Go.Proofs.Ytcdeilgijleoaaa
