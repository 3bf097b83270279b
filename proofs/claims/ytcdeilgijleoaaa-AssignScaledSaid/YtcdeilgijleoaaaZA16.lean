/-
  Plain: no assignment of few passages has a lesser greatest load than that of Find.
-/
import Derived.Test.YtcdeilgijleoaaaZB46
import Derived.Test.YtcdeilgijleoaaaZB50
import Derived.Test.YtcdeilgijleoaaaZA1
import Derived.Test.YtcdeilgijleoaaaZB22
import Derived.ProofKit
import Derived.SliceStrings
import Derived.Deep.Slices
import Derived.OpenShut
set_option linter.all false
namespace Go.Proofs.Ytcdeilgijleoaaa
open Go Go.RowKit
set_option maxRecDepth 20000
theorem findN_eq {c : CaseD} (hv : validC c = 0) : findN c = greatest (loadsR c (findP c)) := if_neg (by omega)
theorem madeB_sizes (l : List Int) (i : Nat) (c : CaseD) : ∀ p, (madeB l i c p).sizes = c.sizes
  | 0 => rfl
  | p + 1 => by
    rw [madeB]; split
    · exact madeB_sizes l i c p
    · exact madeB_sizes l i c p
theorem madeI_nine (l : List Int) (people : Int) : ∀ i, ∀ x, x ∈ (madeI l people i).sizes → x ≤ 9
  | 0, x, hx => by cases hx
  | i + 1, x, hx => by
    rw [madeI, madeB_sizes] at hx
    rcases List.mem_append.1 hx with hx | hx
    · exact madeI_nine l people i x hx
    · have := atI_hi (l := l) (i := 3 + 2 * (i : Int)) (m := 9) (by decide)
      rw [List.mem_singleton.1 hx]; omega
theorem made_nine (l : List Int) : ∀ x, x ∈ (madeC l).sizes → x ≤ 9 := madeI_nine l _ _
def scL (s : Int) (l : List Int) : List Int := l.map (s * ·)
def scC (c : CaseD) (s : Int) : CaseD := ⟨scL s c.sizes, c.people, c.bars⟩
theorem scL_len (s : Int) (l : List Int) : (scL s l).length = l.length := by simp [scL]
theorem li_scL (s : Int) (l : List Int) (j : Nat) : li (scL s l) j = s * li l j := by
  unfold li scL
  by_cases h : j < l.length
  · simp [List.getD_eq_getElem?_getD, h]
  · simp [List.getD_eq_getElem?_getD, h]
theorem scL_zero (s : Int) (n : Nat) : scL s (List.replicate n 0) = List.replicate n 0 := by simp [scL]
theorem max_sc {s : Int} (hs : 0 ≤ s) (a b : Int) : max (s * a) (s * b) = s * max a b := by
  rcases Int.le_total a b with h | h
  · rw [Int.max_eq_right h, Int.max_eq_right (Int.mul_le_mul_of_nonneg_left h hs)]
  · rw [Int.max_eq_left h, Int.max_eq_left (Int.mul_le_mul_of_nonneg_left h hs)]
theorem greatest_sc {s : Int} (hs : 0 ≤ s) (l : List Int) : greatest (scL s l) = s * greatest l := by
  have h : ∀ (l : List Int) (a : Int), (l.map (s * ·)).foldl max (s * a) = s * l.foldl max a := by
    intro l
    induction l with
    | nil => intro a; rfl
    | cons x r ih => intro a; rw [List.map_cons, List.foldl_cons, List.foldl_cons, max_sc hs, ih]
  have := h l 0
  rw [Int.mul_zero] at this
  exact this
theorem addAt_sc (s : Int) (l : List Int) (k v : Int) : addAt (scL s l) k (s * v) = scL s (addAt l k v) := by
  unfold addAt
  rw [li_scL, ← Int.mul_add]
  unfold scL
  rw [List.map_set]
theorem step_sc (c : CaseD) (s : Int) (l : List Int) (i : Nat) (p : Int × Int) : loadStep (scC c s) (scL s l) i p = scL s (loadStep c l i p) := by
  unfold loadStep
  rw [show li (scC c s).sizes i = s * li c.sizes i from li_scL s c.sizes i, addAt_sc, addAt_sc]
theorem open_eq {c d : CaseD} (h : d.bars = c.bars) (i p : Int) : openB d i p = openB c i p := by unfold openB; rw [h]
theorem rowPr_eq {c d : CaseD} (h : d.bars = c.bars) (i : Int) (a : Nat) : ∀ k, rowPr d i a k = rowPr c i a k
  | 0 => rfl
  | k + 1 => by rw [rowPr, rowPr, rowPr_eq h i a k, open_eq h, open_eq h]
theorem allPr_eq {c d : CaseD} (h : d.bars = c.bars) (i : Int) (n : Nat) : ∀ a, allPr d i n a = allPr c i n a
  | 0 => rfl
  | a + 1 => by rw [allPr, allPr, allPr_eq h i n a, rowPr_eq h]
theorem pairs_sc (c : CaseD) (s : Int) (i : Int) : pairsOf (scC c s) i = pairsOf c i := allPr_eq (c := c) (d := scC c s) rfl i _ _
def scR (s : Int) (r : Srch) : Srch := (r.1, s * r.2.1, r.2.2)
theorem le_sc {s a b : Int} (hs : 0 < s) : s * a ≤ s * b ↔ a ≤ b := ⟨fun h => Int.le_of_mul_le_mul_left h hs, fun h => Int.mul_le_mul_of_nonneg_left h (Int.le_of_lt hs)⟩
theorem lt_sc {s a b : Int} (hs : 0 < s) : s * a < s * b ↔ a < b := ⟨fun h => Int.lt_of_mul_lt_mul_left h (Int.le_of_lt hs), fun h => Int.mul_lt_mul_of_pos_left h hs⟩
theorem searchF_sc {c : CaseD} {s : Int} (hs : 0 < s) : ∀ (k : Nat) (loads : List Int) (lim : Int), searchF (scC c s) k (scL s loads) (s * lim) = scR s (searchF c k loads lim)
  | 0, loads, lim => by
    unfold searchF scR
    rw [greatest_sc (Int.le_of_lt hs)]
    simp only [lt_sc hs]
  | k + 1, loads, lim => by
    have hst : ∀ (i : Nat) (st : Srch) (p : Int × Int), srchStep (searchF (scC c s) k) (scC c s) i (scL s loads) (scR s st) p = scR s (srchStep (searchF c k) c i loads st p) := by
      intro i st p
      unfold srchStep
      rw [step_sc, greatest_sc (Int.le_of_lt hs)]
      by_cases h1 : st.2.1 ≤ greatest (loadStep c loads i p)
      · rw [if_pos h1, if_pos (show (scR s st).2.1 ≤ _ from (le_sc hs).2 h1)]
      · rw [if_neg h1, if_neg (show ¬ (scR s st).2.1 ≤ _ from fun h => h1 ((le_sc hs).1 h))]
        rw [show (scR s st).2.1 = s * st.2.1 from rfl, searchF_sc hs k]
        by_cases h2 : (searchF c k (loadStep c loads i p) st.2.1).2.2 = true
        · rw [if_pos h2, if_pos (show (scR s _).2.2 = true from h2)]; rfl
        · rw [if_neg h2, if_neg (show ¬ (scR s _).2.2 = true from h2)]
    have hf : ∀ (i : Nat) (l : List (Int × Int)) (st : Srch), l.foldl (srchStep (searchF (scC c s) k) (scC c s) i (scL s loads)) (scR s st) = scR s (l.foldl (srchStep (searchF c k) c i loads) st) := by
      intro i l
      induction l with
      | nil => intro st; rfl
      | cons p r ih => intro st; rw [List.foldl_cons, List.foldl_cons, hst, ih]
    rw [searchF, searchF, pairs_sc, show (scC c s).sizes.length = c.sizes.length from scL_len _ _]
    exact hf _ _ ([], lim, false)
theorem pickS_sc {c : CaseD} {s : Int} (hs : 0 < s) (done : List Bool) : ∀ n, pickS (scC c s) done n = pickS c done n
  | 0 => rfl
  | n + 1 => by
    rw [pickS, pickS, pickS_sc hs done n, show ∀ j, li (scC c s).sizes j = s * li c.sizes j from li_scL s c.sizes, show ∀ j, li (scC c s).sizes j = s * li c.sizes j from li_scL s c.sizes]
    simp only [lt_sc hs]
theorem leastS_sc {c : CaseD} {s : Int} (hs : 0 < s) (i : Int) (loads : List Int) (but : Int) : ∀ n, leastS (scC c s) i (scL s loads) but n = leastS c i loads but n
  | 0 => rfl
  | n + 1 => by
    rw [leastS, leastS, leastS_sc hs i loads but n, li_scL, li_scL, open_eq (c := c) (d := scC c s) rfl]
    simp only [lt_sc hs]
theorem leastC_sc {c : CaseD} {s : Int} (hs : 0 < s) (i : Int) (loads : List Int) (but : Int) : leastC (scC c s) i (scL s loads) but = leastC c i loads but := by
  unfold leastC
  rw [show (scC c s).people = c.people from rfl, leastS_sc hs]
theorem quickQ_sc {c : CaseD} {s : Int} (hs : 0 < s) : ∀ k, quickQ (scC c s) k = ⟨(quickQ c k).out, (quickQ c k).done, scL s (quickQ c k).loads⟩
  | 0 => by
    unfold quickQ
    rw [show (scC c s).sizes.length = c.sizes.length from scL_len _ _, scL_zero]; rfl
  | k + 1 => by
    rw [quickQ, quickQ_sc hs k, quickQ]
    have e1 : qAt (scC c s) ⟨(quickQ c k).out, (quickQ c k).done, scL s (quickQ c k).loads⟩ = qAt c (quickQ c k) := by
      unfold qAt
      rw [pickS_sc hs, show (scC c s).sizes.length = c.sizes.length from scL_len _ _]
    have e2 : qA (scC c s) ⟨(quickQ c k).out, (quickQ c k).done, scL s (quickQ c k).loads⟩ = qA c (quickQ c k) := by
      unfold qA
      rw [e1, leastC_sc hs]
    have e3 : qB (scC c s) ⟨(quickQ c k).out, (quickQ c k).done, scL s (quickQ c k).loads⟩ = qB c (quickQ c k) := by
      unfold qB
      rw [e1, e2, leastC_sc hs]
    unfold qStep
    rw [e1, e2, e3, show ∀ j, li (scC c s).sizes j = s * li c.sizes j from li_scL s c.sizes, addAt_sc, addAt_sc]
theorem loadsG_sc (c : CaseD) (s : Int) (ps : List (Int × Int)) : ∀ k, loadsG (scC c s) ps k = scL s (loadsG c ps k)
  | 0 => by rw [loadsG, loadsG, scL_zero]; rfl
  | k + 1 => by rw [loadsG, loadsG, loadsG_sc c s ps k, step_sc]
theorem sc_good {c : CaseD} (hG : Good c) (h9 : ∀ x, x ∈ c.sizes → x ≤ 9) {s : Int} (hs : 1 ≤ s ∧ s ≤ 40) : Good (scC c s) := by
  have hl := scL_len s c.sizes
  refine ⟨by show (scL s c.sizes).length ≤ 64; rw [hl]; exact hG.many, hG.lo, hG.hi, fun x hx => ?_, fun b hb => by show 0 ≤ b.1 ∧ b.1 < ((scL s c.sizes).length : Int) ∧ _; rw [hl]; exact hG.bar b hb, fun i hi => hG.some i (by rw [← hl]; exact hi)⟩
  obtain ⟨y, hy, rfl⟩ := List.mem_map.1 hx
  have h1 := hG.size y hy
  have h2 := h9 y hy
  have h3 : s * y ≤ 40 * 9 := Int.mul_le_mul hs.2 h2 (by omega) (by omega)
  have h4 : 1 * 1 ≤ s * y := Int.mul_le_mul hs.1 h1.1 (by omega) (by omega)
  omega
theorem findP_sc {c : CaseD} (hv : validC c = 0) (h9 : ∀ x, x ∈ c.sizes → x ≤ 9) {s : Int} (hs : 1 ≤ s ∧ s ≤ 40) : validC (scC c s) = 0 ∧ findP (scC c s) = findP c ∧ findN (scC c s) = s * findN c := by
  have hG := valid_good hv
  have hd := sc_good hG h9 hs
  have hvd := valid_of_good hd
  have hl : (scC c s).sizes.length = c.sizes.length := scL_len _ _
  have hP : findP (scC c s) = findP c := by
    unfold findP
    rw [if_neg (show ¬ validC (scC c s) ≠ 0 by omega), if_neg (show ¬ validC c ≠ 0 by omega), hl]
    by_cases h6 : c.sizes.length ≤ 6
    · rw [if_pos h6, if_pos h6, show (scC c s).people = c.people from rfl]
      have hb : 1 * 1048576 ≤ s * 1048576 := Int.mul_le_mul_of_nonneg_right hs.1 (by decide)
      have h1 := searchF_lim hd.rng c.sizes.length (zerosL (scC c s)) 1048576 (s * 1048576) 0 (zeros_rng _) (Int.le_refl _) (by omega) (by omega)
      have h2 := search_good hd (L := 1048576) (by omega)
      rw [hl] at h2
      have h3 := h1.2 h2
      have hz : zerosL (scC c s) = scL s (zerosL c) := by unfold zerosL; rw [scL_zero]; rfl
      have h4 := searchF_sc (c := c) (s := s) (by omega) c.sizes.length (zerosL c) 1048576
      rw [← hz] at h4
      have h5 := h3.trans h4
      show (searchF (scC c s) c.sizes.length (zerosL (scC c s)) 1048576).1 = _
      rw [h5]; rfl
    · rw [if_neg h6, if_neg h6]
      unfold quickS
      rw [hl, quickQ_sc (by omega)]
  refine ⟨hvd, hP, ?_⟩
  rw [findN_eq hv, findN_eq hvd, hP]
  have g1 := find_loads hv
  have g2 := find_loads hvd
  rw [hP] at g2
  unfold loadsR
  rw [if_pos g1, if_pos g2, loadsG_sc, greatest_sc (by omega)]
set_option maxHeartbeats 2000000
theorem leqB51 {p : Prop} (h : p := by (refine ⟨4, ?_, ?_, rfl, by simp, rfl, fun _ h _ => absurd h (Nat.not_lt_zero _)⟩ <;> (simp only [List.forall_mem_cons]; repeat' (first | refine And.intro ?_ ?_ | (intro p hp; exact absurd hp List.not_mem_nil) | rfl | exact sp (pure_case _) | exact sp (pure_pairs _) | exact sp (pure_cert _) | exact (sealed_pure _ _ _ (pure_ints _)).trans (ren_ints _ _).symm | exact (sealed_pure _ _ _ (pure_strs _)).trans (ren_strs _ _).symm | exact sp (by assumption) | (intro o ho; cases ho; refine ⟨by decide, ?_⟩; first | (refine LeqS.row rfl ?_ ?_; (next => (first | rfl | (simp only [List.map_append, List.map_cons, List.map_nil, List.append_nil, List.nil_append, List.append_assoc, List.cons_append, encI, encS, ints, strs]; done) | (simp [encI, encS, ints, strs, encP, List.map_set, encC]; done))); (next => (first | rfl | exact pureL_encI _ | exact pureL_encS _ | exact pureL_ints _ | exact pureL_strs _ | exact pureL_encP _ | (simp [pureL_append, pureL_encI, pureL_encS, pureL_ints, pureL_strs, pureL, PV.pure, pure_ints, pure_strs, pure_case, pureL_encP, pure_pairs, pure_cert]; done))); done) | refine ⟨_, rfl, rfl, ?_⟩) | (simp [St.born, St.known, retV, St.get, St.obj, lk, sealed, PV.ren, renL, rmap, AO.ren, ints, strs, encI, encS, map_sealed_encI, map_sealed_encS, map_sealed_ints, map_sealed_strs, map_ren_encI, map_ren_encS, map_ren_ints, map_ren_strs, renL_encI, renL_encS, renL_ints, renL_strs, ren_case, encC, pairs, renL_encP, map_sealed_encP, map_ren_encP, encP, take_map_len, encCert] <;> omega)))); first | done | fail) : p := h
theorem lsrB51 {p : Prop} (h : p := by (first | rfl | (simp [St.born, St.known, retV, St.get, St.obj, lk, sealed, PV.ren, renL, rmap, AO.ren, ints, strs, encI, encS, map_sealed_encI, map_sealed_encS, map_sealed_ints, map_sealed_strs, map_ren_encI, map_ren_encS, map_ren_ints, map_ren_strs, renL_encI, renL_encS, renL_ints, renL_strs, ren_case, encC, pairs, renL_encP, map_sealed_encP, map_ren_encP, encP, take_map_len, encCert]; done)); first | done | fail) : p := h
theorem lpvB51 {p : Prop} (h : p := by (first | rfl | (simp [pure_ints, pure_strs, PV.pure, pureL, pureL_encI, pureL_encS, pureL_ints, pureL_strs, pure_case, pureL_encP, pure_pairs, pure_cert]; done)); first | done | fail) : p := h
theorem SamePairs_self (l : List (Int × Int)) (hl : l.length ≤ 1000000) : Pure Try.prog 23 [pairs l, pairs l] (.atom (.bool true)) [] := by
  refine Pure.intro (ts := [4]) Try.func23 (by kernel_rfl) rfl rfl rfl (Nat.le_of_ble_eq_true rfl) ?_ ?_
  · simp [pure_pairs, PV.pure, pureL]
  refine sY [0, 1] (fun P S K => K ⟨[(0, S.get 0), (1, S.get 1)], S.hp, S.nx, S.gh⟩) ?_
  all_goals
  refine Tri.seq ?_
  refine sZ [0, 1, 10] (fun P S K => XvLen P 23 (S.get 0) (fun r1 _ => XvLen P 23 (S.get 1) (fun r3 _ => XvBinOV P .neq 3 (.tmp 9) r1 r3 (fun r4 _ => K ⟨[(0, S.get 0), (1, S.get 1), (10, r4)], S.hp, S.nx, S.gh⟩)))) fun K hK => ?_
  repeat' (first | (refine hK _ ?_; clear hK K) | refine And.intro ?_ ?_ | exact cl | (refine st ?_; try simp only [pairs, dec_self]) | simp only [pairs, dec_self])
  all_goals
  refine Tri.cond rfl (fun h10 => ?_) (fun h10 => ?_)
  ·try (cases h10; done)
   all_goals (try simp only [CQ] at h10)
   all_goals
   refine sY [4] (fun P S K => K ⟨[(4, (.atom (.bool false)))], S.hp, S.nx, S.gh⟩) ?_
   all_goals
   refine Tri.ret ?_
   show ResOk _ _ _ _
   exact ResOk.val lsrB51 lpvB51
  ·try (cases h10; done)
   all_goals (try simp only [CQ] at h10)
   all_goals
   refine Tri.skip ?_
   refine Tri.seq ?_
   refine sY [0, 1, 5] (fun P S K => K ⟨[(0, S.get 0), (1, S.get 1), (5, (.atom (.int .i64 0)))], S.hp, S.nx, S.gh⟩) ?_
   all_goals
   refine Tri.block ?_
   refine Tri.loop (α := (k : Nat) ×' (k ≤ l.length)) (fun z => (fun (k : Nat) => (⟨[(0, pairs l), (1, pairs l), (5, encI k)], [], 0, []⟩ : St)) z.1) (fun z => (fun (k : Nat) => l.length - k) z.1) ⟨0, Nat.zero_le _⟩ [] ?_ ?_
   ·exact leqB51
   ·rintro ⟨k, hk⟩
    refine Tri.seq ?_
    refine sZ [0, 1, 5, 14] (fun P S K => XvLen P 23 (S.get 0) (fun r2 _ => XvBinOV P .lss 3 (.tmp 13) (S.get 5) r2 (fun r3 _ => K ⟨[(0, S.get 0), (1, S.get 1), (5, S.get 5), (14, r3)], S.hp, S.nx, S.gh⟩))) fun K hK => ?_
    repeat' (first | (refine hK _ ?_; clear hK K) | refine And.intro ?_ ?_ | exact cl | (refine st ?_; try simp only [pairs, dec_self]) | simp only [pairs, dec_self])
    all_goals
    refine Tri.cond rfl (fun h14 => ?_) (fun h14 => ?_)
    ·try (cases h14; done)
     all_goals (try simp only [CQ] at h14)
     all_goals
     refine Tri.skip ?_
     refine Tri.seq ?_
     refine Tri.block ?_
     have hkl : k < l.length := by omega
     refine sD 9 [0, 1, 5, 25] (fun P GD S K => XvIndexAddr P 23 (S.get 0) (S.get 5) (fun r2 ef2 => XvLoad P 67 (M S.hp S.nx) r2 (fun r3 ef3 => XvIndexAddr P 23 (S.get 1) (S.get 5) (fun r6 ef6 => XvLoad P 67 (M S.hp S.nx) r6 (fun r7 ef7 => XvBinOV P .neq 67 (.tmp 24) r3 r7 (fun r8 ef8 => (trOk S.nx GD [⟨S.nx, 0, [], [], []⟩, ⟨S.nx, 0, [], [], []⟩, ⟨S.nx, 0, ef2.rd, [], []⟩, ⟨S.nx, 0, ef3.rd, [], []⟩, ⟨S.nx, 0, [], [], []⟩, ⟨S.nx, 0, [], [], []⟩, ⟨S.nx, 0, ef6.rd, [], []⟩, ⟨S.nx, 0, ef7.rd, [], []⟩, ⟨S.nx, 0, ef8.rd, [], []⟩] = true ∧ K ⟨[(0, S.get 0), (1, S.get 1), (5, S.get 5), (25, r8)], S.hp, S.nx, S.gh⟩))))))) fun K hK => ?_
     repeat' (first | (refine hK _ ?_; clear hK K) | (refine (?_ : trOk _ _ _ = true); kernel_rfl) | refine And.intro ?_ ?_ | exact cl | (refine st ?_; try simp only [pairs, dec_self, getD_encP hkl, encP, intsOf]) | simp only [pairs, dec_self, getD_encP hkl, encP, intsOf])
     all_goals
     refine Tri.cond rfl (fun h25 => ?_) (fun h25 => ?_)
     ·try (cases h25; done)
      all_goals (try simp only [CQ] at h25)
      all_goals
      refine sY [4] (fun P S K => K ⟨[(4, (.atom (.bool false)))], S.hp, S.nx, S.gh⟩) ?_
      all_goals
      refine Tri.ret ?_
      show ResOk _ _ _ _
      exact ResOk.val lsrB51 lpvB51
     ·try (cases h25; done)
      all_goals (try simp only [CQ] at h25)
      all_goals
      refine Tri.skip ?_
      refine rY [0, 1, 5] (fun P S K => XvBinOV P .add 3 (.const (.int .i64 1)) (S.get 5) (.atom (.int .i64 1)) (fun r1 _ => K ⟨[(0, S.get 0), (1, S.get 1), (5, r1)], S.hp, S.nx, S.gh⟩)) ?_
      all_goals try simp (disch := omega) only [wrap_id, wrap8_id]
      all_goals
      refine ⟨⟨k + 1, by omega⟩, [], by dsimp only; omega, ?_⟩
      exact leqB51
    ·try (cases h14; done)
     all_goals (try simp only [CQ] at h14)
     all_goals
     refine Tri.exit ?_
     refine sY [4] (fun P S K => K ⟨[(4, (.atom (.bool true)))], S.hp, S.nx, S.gh⟩) ?_
     all_goals
     refine Tri.ret ?_
     show ResOk _ _ _ _
     exact ResOk.val lsrB51 lpvB51
def Fit (c : CaseD) : Prop := Held c ∧ (validC c = 0 → Tail c)
theorem tail_short {c : CaseD} (h : c.sizes.length ≤ 20) : Tail c := fun j h1 h2 => by omega
theorem made_short (l : List Int) : (madeC l).sizes.length ≤ 12 := by rw [made_sizes]; have := madeM_rng l; omega
theorem made_fit (l : List Int) : Fit (madeC l) := ⟨made_held l, fun _ => tail_short (by have := made_short l; omega)⟩
theorem leqB61 {p : Prop} (h : p := by (refine ⟨4, ?_, ?_, rfl, by simp, rfl, fun _ h _ => absurd h (Nat.not_lt_zero _)⟩ <;> (simp only [List.forall_mem_cons]; repeat' (first | refine And.intro ?_ ?_ | (intro p hp; exact absurd hp List.not_mem_nil) | rfl | exact sp (pure_case _) | exact sp (pure_pairs _) | exact sp (pure_cert _) | exact (sealed_pure _ _ _ (pure_ints _)).trans (ren_ints _ _).symm | exact (sealed_pure _ _ _ (pure_strs _)).trans (ren_strs _ _).symm | exact sp (by assumption) | (intro o ho; cases ho; refine ⟨by decide, ?_⟩; first | (refine LeqS.row rfl ?_ ?_; (next => (first | rfl | (simp only [List.map_append, List.map_cons, List.map_nil, List.append_nil, List.nil_append, List.append_assoc, List.cons_append, encI, encS, ints, strs]; done) | (simp [encI, encS, ints, strs, encP, List.map_set, encC, encCert]; done))); (next => (first | rfl | exact pureL_encI _ | exact pureL_encS _ | exact pureL_ints _ | exact pureL_strs _ | exact pureL_encP _ | exact pureL_encC _ | (simp [pureL_append, pureL_encI, pureL_encS, pureL_ints, pureL_strs, pureL, PV.pure, pure_ints, pure_strs, pure_case, pureL_encP, pure_pairs, pure_cert, pureL_encC]; done))); done) | refine ⟨_, rfl, rfl, ?_⟩) | (simp [St.born, St.known, retV, St.get, St.obj, lk, sealed, PV.ren, renL, rmap, AO.ren, ints, strs, encI, encS, map_sealed_encI, map_sealed_encS, map_sealed_ints, map_sealed_strs, map_ren_encI, map_ren_encS, map_ren_ints, map_ren_strs, renL_encI, renL_encS, renL_ints, renL_strs, ren_case, encC, pairs, renL_encP, map_sealed_encP, map_ren_encP, encP, take_map_len, encCert, renL_encC, scC, -List.map_map, List.take_of_length_le] <;> omega)))); first | done | fail) : p := h
theorem lsrB61 {p : Prop} (h : p := by (first | rfl | (simp [St.born, St.known, retV, St.get, St.obj, lk, sealed, PV.ren, renL, rmap, AO.ren, ints, strs, encI, encS, map_sealed_encI, map_sealed_encS, map_sealed_ints, map_sealed_strs, map_ren_encI, map_ren_encS, map_ren_ints, map_ren_strs, renL_encI, renL_encS, renL_ints, renL_strs, ren_case, encC, pairs, renL_encP, map_sealed_encP, map_ren_encP, encP, take_map_len, encCert, renL_encC, scC, -List.map_map, List.take_of_length_le]; done)); first | done | fail) : p := h
theorem lpvB61 {p : Prop} (h : p := by (first | rfl | (simp [pure_ints, pure_strs, PV.pure, pureL, pureL_encI, pureL_encS, pureL_ints, pureL_strs, pure_case, pureL_encP, pure_pairs, pure_cert, pureL_encC]; done)); first | done | fail) : p := h
theorem scL_take (s : Int) (l : List Int) {i : Nat} (h : i < l.length) : scL s (l.take (i + 1)) = scL s (l.take i) ++ [s * li l i] := by
  have : li l i = l[i] := by simp [li, List.getD_eq_getElem?_getD, h]
  unfold scL
  rw [List.take_succ_eq_append_getElem h, List.map_append, this]; rfl
theorem scaled_pure (l : List Int) (by_ : Int) (hl : Fits l) (hb : I64 by_) (hlv : Pure Try.prog 21 [] (.atom (.bool true)) []) : Pure Try.prog 8 [ints l, encI by_] (.atom (.bool true)) [] := by
  have hG := made_good l
  have hc := made_held l
  have hv := made_valid l
  have hms := made_short l
  have hft := made_fit l
  have h9 := made_nine l
  have hbs := made_bars l
  have hMade := Made_pure l hl
  generalize madeC l = c at hG hc hv hms hft h9 hbs hMade
  have hlo := hG.lo
  have hhi := hG.hi
  have hFl := findP_len c
  have hF := aFind_pure c hft.1 hft.2
  unfold findR at hF
  rw [hv] at hF
  have hd0 := around_lo (n := by_) (most := 40) (by decide)
  have hd1 := around_hi (n := by_) (most := 40) (by decide)
  have hAr := Around_pure by_ 40 hb (by decide)
  generalize around by_ 40 = a at hd0 hd1 hAr
  obtain ⟨e1, e2, e3⟩ := findP_sc hv h9 (s := 1 + a) (by omega)
  have gD := sc_good hG h9 (s := 1 + a) (by omega)
  have hlD := scL_len (1 + a) c.sizes
  have hFd := aFind_pure (scC c (1 + a)) (held_of_good gD (by show c.bars.length ≤ 1000000; omega)) (fun _ => tail_short (by show (scL (1 + a) c.sizes).length ≤ 20; omega))
  unfold findR at hFd
  rw [e1, e2, e3] at hFd
  have hgr := greatest_rng gD (ps := findP c) (by omega)
  rw [← e2, ← findN_eq e1, e3] at hgr
  have hSP := SamePairs_self (findP c) (by omega)
  generalize hsd : (1 + a) = s at *
  have hmul : ∀ x, x ∈ c.sizes → 0 ≤ s * x ∧ s * x ≤ 400 := fun x hx => by
    have h1 := hG.size x hx
    have h2 := h9 x hx
    have h3 : s * x ≤ 40 * 9 := Int.mul_le_mul (by omega) h2 (by omega) (by omega)
    exact ⟨Int.mul_nonneg (by omega) (by omega), by omega⟩
  refine Pure.intro (ts := [4]) Try.func8 (by kernel_rfl) rfl rfl rfl (Nat.le_of_ble_eq_true rfl) ?_ ?_
  · simp [pure_ints, encI, PV.pure, pureL]
  refine sZ [0, 1] (fun P S K => K ⟨[(0, S.get 0), (1, S.get 1)], S.hp, S.nx, S.gh⟩) fun K hK => ?_
  repeat' (first | (refine hK _ ?_; clear hK K) | refine And.intro ?_ ?_ | exact cl | exact one_encP _ | (refine st ?_; try simp only [encC, pairs, encCert, dec_self, renL_encP]) | simp only [encC, pairs, encCert, dec_self, renL_encP])
  all_goals
  refine sZ [1, 5] (fun P S K => XvFnIV P (M S.hp S.nx) (.fn 10 []) [(S.get 0)] (fun r1 ef1 => XvAlloc P 25 (S.nx + ef1.add.length) (fun r2 ef2 => XvStore P 25 (M (Eff.hp ef2 (S.nx + ef1.add.length) (Eff.hp ef1 S.nx S.hp)) ((S.nx + ef1.add.length) + ef2.add.length)) r2 r1 (fun r3 ef3 => K ⟨[(1, S.get 1), (5, r2)], (Eff.hp ef3 ((S.nx + ef1.add.length) + ef2.add.length) (Eff.hp ef2 (S.nx + ef1.add.length) (Eff.hp ef1 S.nx S.hp))), (((S.nx + ef1.add.length) + ef2.add.length) + ef3.add.length), S.gh⟩)))) fun K hK => ?_
  repeat' (first | (refine hK _ ?_; clear hK K) | refine And.intro ?_ ?_ | exact cl | exact one_encP _ | refine .inl ⟨_, _, hMade, ?_⟩ | refine .inl ⟨_, _, hAr, ?_⟩ | refine .inl ⟨_, _, hF, ?_⟩ | refine .inl ⟨_, _, hFd, ?_⟩ | refine .inl ⟨_, _, hSP, ?_⟩ | refine .inl ⟨_, _, hlv, ?_⟩ | (refine st ?_; try simp only [encC, pairs, encCert, dec_self, renL_encP]) | simp only [encC, pairs, encCert, dec_self, renL_encP])
  all_goals
  refine sZ [5, 6] (fun P S K => XvFnIV P (M S.hp S.nx) (.fn 35 []) [(S.get 1), (.atom (.int .i64 40))] (fun r1 ef1 => XvBinOV P .add 3 (.tmp 20) (.atom (.int .i64 1)) r1 (fun r2 _ => K ⟨[(5, S.get 5), (6, r2)], (Eff.hp ef1 S.nx S.hp), (S.nx + ef1.add.length), S.gh⟩))) fun K hK => ?_
  repeat' (first | (refine hK _ ?_; clear hK K) | refine And.intro ?_ ?_ | exact cl | exact one_encP _ | refine .inl ⟨_, _, hMade, ?_⟩ | refine .inl ⟨_, _, hAr, ?_⟩ | refine .inl ⟨_, _, hF, ?_⟩ | refine .inl ⟨_, _, hFd, ?_⟩ | refine .inl ⟨_, _, hSP, ?_⟩ | refine .inl ⟨_, _, hlv, ?_⟩ | (refine st ?_; try simp only [encC, pairs, encCert, dec_self, renL_encP, hsd]) | simp only [encC, pairs, encCert, dec_self, renL_encP, hsd])
  all_goals try simp (disch := omega) only [wrap_id, wrap8_id]
  all_goals
  refine sZ [5, 6, 7] (fun P S K => XvFieldAddr P 25 1 (S.get 5) (fun r0 _ => XvLoad P 3 (M S.hp S.nx) r0 (fun r1 _ => XvFieldAddr P 25 2 (S.get 5) (fun r2 _ => XvLoad P 23 (M S.hp S.nx) r2 (fun r3 _ => XvBuild P 25 [(1, r1), (2, r3)] (fun r4 _ => XvAlloc P 25 S.nx (fun r5 ef5 => XvStore P 25 (M (Eff.hp ef5 S.nx S.hp) (S.nx + ef5.add.length)) r5 r4 (fun r6 ef6 => K ⟨[(5, S.get 5), (6, S.get 6), (7, r5)], (Eff.hp ef6 (S.nx + ef5.add.length) (Eff.hp ef5 S.nx S.hp)), ((S.nx + ef5.add.length) + ef6.add.length), S.gh⟩)))))))) fun K hK => ?_
  repeat' (first | (refine hK _ ?_; clear hK K) | refine And.intro ?_ ?_ | exact cl | exact one_encP _ | refine one_take ?_ _ | refine one_drop ?_ _ | (refine st ?_; try simp only [encC, pairs, encCert, dec_self, renL_encP]) | simp only [encC, pairs, encCert, dec_self, renL_encP])
  refine Tri.bornF 1 0 1 3 _ rfl rfl ?_
  all_goals
  refine Tri.cut (α := Unit) (fun ⟨⟩ => ⟨[(5, .ptr 0 3 0 0), (6, encI s), (7, .ptr 1 3 0 0)], [(0, some ⟨3, [encC c]⟩), (1, some ⟨3, [encC (scC c s)]⟩)], 2, []⟩) ?_ ?_
  ·skip
   refine sZ [5, 6, 7, 8] (fun P S K => K ⟨[(5, S.get 5), (6, S.get 6), (7, S.get 7), (8, (.atom (.int .i64 0)))], S.hp, S.nx, S.gh⟩) fun K hK => ?_
   repeat' (first | (refine hK _ ?_; clear hK K) | refine And.intro ?_ ?_ | exact cl | exact one_encP _ | (refine st ?_; try simp only [encC, pairs, encCert, dec_self, renL_encP]) | simp only [encC, pairs, encCert, dec_self, renL_encP])
   all_goals
   refine Tri.block ?_
   refine Tri.loop (α := (xs : List Int) ×' (i : Nat) ×' (i ≤ c.sizes.length ∧ xs = scL s (c.sizes.take i))) (fun z => (fun (xs : List Int) (i : Nat) => (⟨[(5, .ptr 0 3 0 0), (6, encI s), (7, .ptr 1 3 0 0), (8, encI i)], [(0, some ⟨3, [encC c]⟩), (1, some ⟨3, [.agg [.ob 2 1 0 xs.length, encI c.people, pairs c.bars]]⟩), (2, some ⟨1, xs.map encI⟩)], 3, []⟩ : St)) z.1 z.2.1) (fun z => (fun (xs : List Int) (i : Nat) => c.sizes.length - i) z.1 z.2.1) ⟨[], 0, ⟨Nat.zero_le _, rfl⟩⟩ [0, 1, 2] ?_ ?_
   ·exact leqB61
   ·rintro ⟨xs, i, ⟨hi, hxs⟩⟩
    refine Tri.seq ?_
    refine sZ [5, 6, 7, 8, 31] (fun P S K => XvFieldAddr P 25 0 (S.get 5) (fun r1 _ => XvLoad P 22 (M S.hp S.nx) r1 (fun r2 _ => XvLen P 22 r2 (fun r3 _ => XvBinOV P .lss 3 (.tmp 30) (S.get 8) r3 (fun r4 _ => K ⟨[(5, S.get 5), (6, S.get 6), (7, S.get 7), (8, S.get 8), (31, r4)], S.hp, S.nx, S.gh⟩))))) fun K hK => ?_
    repeat' (first | (refine hK _ ?_; clear hK K) | refine And.intro ?_ ?_ | exact cl | exact one_encP _ | refine one_take ?_ _ | refine one_drop ?_ _ | (refine st ?_; try simp only [encC, pairs, encCert, dec_self, renL_encP]) | simp only [encC, pairs, encCert, dec_self, renL_encP])
    all_goals
    refine Tri.cond rfl (fun h31 => ?_) (fun h31 => ?_)
    ·try (cases h31; done)
     all_goals (try simp only [CQ] at h31)
     all_goals
     refine Tri.skip ?_
     refine Tri.seq ?_
     refine Tri.block ?_
     have hil : i < c.sizes.length := by omega
     have hm := hmul _ (li_mem hil)
     have hst := scL_take s c.sizes hil
     rw [← hxs] at hst
     have hxl : xs.length ≤ 12 := by rw [hxs, scL_len, List.length_take]; omega
     refine rD 12 [5, 6, 7, 8] (fun P GD S K => XvFieldAddr P 25 0 (S.get 7) (fun r0 ef0 => XvLoad P 22 (M S.hp S.nx) r0 (fun r1 ef1 => XvFieldAddr P 25 0 (S.get 5) (fun r3 ef3 => XvLoad P 22 (M S.hp S.nx) r3 (fun r4 ef4 => XvIndexAddr P 22 r4 (S.get 8) (fun r6 ef6 => XvLoad P 3 (M S.hp S.nx) r6 (fun r7 ef7 => XvBinOV P .mul 3 (.tmp 41) (S.get 6) r7 (fun r8 ef8 => XvBuildS P 22 1 S.nx [(0, r8)] (fun r9 ef9 => (22 = 22 ∧ XvAppend P 22 (M (Eff.hp ef9 S.nx S.hp) (S.nx + ef9.add.length)) r1 r9 (fun r10 ef10 => XvFieldAddr P 25 0 (S.get 7) (fun r11 ef11 => (trOk S.nx GD [⟨S.nx, 0, ef0.rd, [], []⟩, ⟨S.nx, 0, ef1.rd, [], []⟩, ⟨S.nx, 0, [], [], []⟩, ⟨S.nx, 0, ef3.rd, [], []⟩, ⟨S.nx, 0, ef4.rd, [], []⟩, ⟨S.nx, 0, [], [], []⟩, ⟨S.nx, 0, ef6.rd, [], []⟩, ⟨S.nx, 0, ef7.rd, [], []⟩, ⟨S.nx, 0, ef8.rd, [], []⟩, (Eff.tr ef9 S.nx), (Eff.tr ef10 (S.nx + ef9.add.length)), ⟨((S.nx + ef9.add.length) + ef10.add.length), 0, ef11.rd, [], []⟩] = true ∧ XvStore P 22 (M (Eff.hp ef10 (S.nx + ef9.add.length) (Eff.hp ef9 S.nx S.hp)) ((S.nx + ef9.add.length) + ef10.add.length)) r11 r10 (fun r12 ef12 => K ⟨[(5, S.get 5), (6, S.get 6), (7, S.get 7), (8, S.get 8)], (Eff.hp ef12 ((S.nx + ef9.add.length) + ef10.add.length) (Eff.hp ef10 (S.nx + ef9.add.length) (Eff.hp ef9 S.nx S.hp))), (((S.nx + ef9.add.length) + ef10.add.length) + ef12.add.length), S.gh⟩)))))))))))))) fun K hK => ?_
     repeat' (first | (refine hK _ ?_; clear hK K) | (refine (?_ : trOk _ _ _ = true); kernel_rfl) | ((first | refine xG_intro (fun hg => ?_) (fun hg => ?_) | refine fun (hg : (_ : Prop)) => ?_) <;> ((try simp only [BQ, List.length_map] at hg); try (cases hg; done); try (exfalso; omega))) | refine And.intro ?_ ?_ | exact cl | exact one_encP _ | refine one_take ?_ _ | refine one_drop ?_ _ | (refine st ?_; try simp only [encC, pairs, encCert, dec_self, renL_encP, getD_encI hil, wrap_id (x := s * li c.sizes i) (by omega) (by omega)]) | simp only [encC, pairs, encCert, dec_self, renL_encP, getD_encI hil, wrap_id (x := s * li c.sizes i) (by omega) (by omega)])
     all_goals try simp (disch := omega) only [wrap_id, wrap8_id]
     all_goals
     refine rZ [5, 6, 7, 8] (fun P S K => XvBinOV P .add 3 (.const (.int .i64 1)) (S.get 8) (.atom (.int .i64 1)) (fun r1 _ => K ⟨[(5, S.get 5), (6, S.get 6), (7, S.get 7), (8, r1)], S.hp, S.nx, S.gh⟩)) fun K hK => ?_
     repeat' (first | (refine hK _ ?_; clear hK K) | refine And.intro ?_ ?_ | exact cl | exact one_encP _ | (refine st ?_; try simp only [encC, pairs, encCert, dec_self, renL_encP]) | simp only [encC, pairs, encCert, dec_self, renL_encP])
     all_goals try simp (disch := omega) only [wrap_id, wrap8_id]
     all_goals
     refine ⟨⟨xs ++ [s * li c.sizes i], i + 1, by omega, hst.symm⟩, [0, 1, 4], by dsimp only; omega, ?_⟩
     exact leqB61
    ·try (cases h31; done)
     all_goals (try simp only [CQ] at h31)
     all_goals
     refine Tri.exit ?_
     (have hxe : xs = (scC c s).sizes := by rw [hxs, show i = c.sizes.length by omega, List.take_length]; rfl); subst hxe
     refine ⟨(), [0, 1], ?_⟩
     exact leqB61
  ·rintro ⟨⟩
   refine sZ [6, 7, 9, 10, 12] (fun P S K => XvLoad P 25 (M S.hp S.nx) (S.get 5) (fun r0 _ => XvFnIV P (M S.hp S.nx) (.fn 16 []) [r0] (fun r1 ef1 => XvFnIV P (M (Eff.hp ef1 S.nx S.hp) (S.nx + ef1.add.length)) (.fn 22 []) [r1] (fun r2 ef2 => XvExtract r2 0 (fun r4 _ => XvExtract r2 1 (fun r5 _ => XvExtract r2 2 (fun r6 _ => XvExtract r2 3 (fun r7 _ => XvAlloc P 47 ((S.nx + ef1.add.length) + ef2.add.length) (fun r8 ef8 => XvStore P 47 (M (Eff.hp ef8 ((S.nx + ef1.add.length) + ef2.add.length) (Eff.hp ef2 (S.nx + ef1.add.length) (Eff.hp ef1 S.nx S.hp))) (((S.nx + ef1.add.length) + ef2.add.length) + ef8.add.length)) r8 r6 (fun r11 ef11 => K ⟨[(6, S.get 6), (7, S.get 7), (9, r4), (10, r5), (12, r7)], (Eff.hp ef11 (((S.nx + ef1.add.length) + ef2.add.length) + ef8.add.length) (Eff.hp ef8 ((S.nx + ef1.add.length) + ef2.add.length) (Eff.hp ef2 (S.nx + ef1.add.length) (Eff.hp ef1 S.nx S.hp)))), ((((S.nx + ef1.add.length) + ef2.add.length) + ef8.add.length) + ef11.add.length), S.gh⟩)))))))))) fun K hK => ?_
   repeat' (first | (refine hK _ ?_; clear hK K) | refine And.intro ?_ ?_ | exact cl | exact one_encP _ | refine one_take ?_ _ | refine one_drop ?_ _ | refine .inl ⟨_, _, hMade, ?_⟩ | refine .inl ⟨_, _, hAr, ?_⟩ | refine .inl ⟨_, _, own_pure c, ?_⟩ | refine .inl ⟨_, _, own_pure (scC c s), ?_⟩ | refine .inl ⟨_, _, hF, ?_⟩ | refine .inl ⟨_, _, hFd, ?_⟩ | refine .inl ⟨_, _, hSP, ?_⟩ | refine .inl ⟨_, _, hlv, ?_⟩ | (refine st ?_; try simp only [encC, pairs, encCert, dec_self, renL_encP]) | simp only [encC, pairs, encCert, dec_self, renL_encP])
   all_goals
   refine sZ [6, 9, 10, 12, 13, 14, 16] (fun P S K => XvLoad P 25 (M S.hp S.nx) (S.get 7) (fun r0 _ => XvFnIV P (M S.hp S.nx) (.fn 16 []) [r0] (fun r1 ef1 => XvFnIV P (M (Eff.hp ef1 S.nx S.hp) (S.nx + ef1.add.length)) (.fn 22 []) [r1] (fun r2 ef2 => XvExtract r2 0 (fun r4 _ => XvExtract r2 1 (fun r5 _ => XvExtract r2 2 (fun r6 _ => XvExtract r2 3 (fun r7 _ => XvAlloc P 47 ((S.nx + ef1.add.length) + ef2.add.length) (fun r8 ef8 => XvStore P 47 (M (Eff.hp ef8 ((S.nx + ef1.add.length) + ef2.add.length) (Eff.hp ef2 (S.nx + ef1.add.length) (Eff.hp ef1 S.nx S.hp))) (((S.nx + ef1.add.length) + ef2.add.length) + ef8.add.length)) r8 r6 (fun r11 ef11 => K ⟨[(6, S.get 6), (9, S.get 9), (10, S.get 10), (12, S.get 12), (13, r4), (14, r5), (16, r7)], (Eff.hp ef11 (((S.nx + ef1.add.length) + ef2.add.length) + ef8.add.length) (Eff.hp ef8 ((S.nx + ef1.add.length) + ef2.add.length) (Eff.hp ef2 (S.nx + ef1.add.length) (Eff.hp ef1 S.nx S.hp)))), ((((S.nx + ef1.add.length) + ef2.add.length) + ef8.add.length) + ef11.add.length), S.gh⟩)))))))))) fun K hK => ?_
   repeat' (first | (refine hK _ ?_; clear hK K) | refine And.intro ?_ ?_ | exact cl | exact one_encP _ | refine one_take ?_ _ | refine one_drop ?_ _ | refine .inl ⟨_, _, hMade, ?_⟩ | refine .inl ⟨_, _, hAr, ?_⟩ | refine .inl ⟨_, _, own_pure c, ?_⟩ | refine .inl ⟨_, _, own_pure (scC c s), ?_⟩ | refine .inl ⟨_, _, hF, ?_⟩ | refine .inl ⟨_, _, hFd, ?_⟩ | refine .inl ⟨_, _, hSP, ?_⟩ | refine .inl ⟨_, _, hlv, ?_⟩ | (refine st ?_; try simp only [encC, pairs, encCert, dec_self, renL_encP]) | simp only [encC, pairs, encCert, dec_self, renL_encP])
   all_goals
   refine sZ [4] (fun P S K => XvBinOV P .eql 32 (.const (.int .i64 0)) (S.get 12) (.atom (.int .i64 0)) (fun r1 _ => Xgq r1 true (fun k => k (S.get 16)) (fun g3 r3 => Xgq g3 true (fun k => XvBinOV P .eql 32 (.const (.int .i64 0)) r3 (.atom (.int .i64 0)) (fun r4 _ => k r4)) (fun g4 r4 => XvPick g4 r4 (.atom (.bool false)) (fun r5 _ => Xgq r5 true (fun k => k (S.get 9)) (fun g7 r7 => Xgq g7 true (fun k => k (S.get 13)) (fun g8 r8 => Xge g8 true (fun k => XvFnIV P (M S.hp S.nx) (.fn 23 []) [r7, r8] k) (fun g9 r9 ef9 => XvPick g9 r9 (.atom (.bool false)) (fun r10 _ => Xgq r10 true (fun k => k (S.get 14)) (fun g12 r12 => Xgq g12 true (fun k => k (S.get 6)) (fun g13 r13 => Xgq g13 true (fun k => k (S.get 10)) (fun g14 r14 => Xgq g14 true (fun k => XvBinOV P .mul 3 (.tmp 76) r13 r14 (fun r15 _ => k r15)) (fun g15 r15 => Xgq g15 true (fun k => XvBinOV P .eql 3 (.tmp 77) r12 r15 (fun r16 _ => k r16)) (fun g16 r16 => XvPick g16 r16 (.atom (.bool false)) (fun r17 _ => Xge r17 true (fun k => XvFnIV P (M (Eff.hp ef9 S.nx S.hp) (S.nx + ef9.add.length)) (.fn 21 []) [] k) (fun g19 r19 ef19 => XvPick g19 r19 (.atom (.bool false)) (fun r20 _ => K ⟨[(4, r20)], (Eff.hp ef19 (S.nx + ef9.add.length) (Eff.hp ef9 S.nx S.hp)), ((S.nx + ef9.add.length) + ef19.add.length), S.gh⟩))))))))))))))))) fun K hK => ?_
   repeat' (first | (refine hK _ ?_; clear hK K) | ((first | refine xG_intro (fun hg => ?_) (fun hg => ?_) | refine fun (hg : (_ : Prop)) => ?_) <;> ((try simp only [BQ, List.length_map] at hg); try (cases hg; done); try (exfalso; omega))) | refine And.intro ?_ ?_ | exact cl | exact one_encP _ | refine one_take ?_ _ | refine one_drop ?_ _ | refine .inl ⟨_, _, hMade, ?_⟩ | refine .inl ⟨_, _, hAr, ?_⟩ | refine .inl ⟨_, _, hF, ?_⟩ | refine .inl ⟨_, _, hFd, ?_⟩ | refine .inl ⟨_, _, hSP, ?_⟩ | refine .inl ⟨_, _, hlv, ?_⟩ | (refine st ?_; try simp only [encC, pairs, encCert, dec_self, renL_encP, wrap_id (x := s * findN c) (by omega) (by omega)]) | simp only [encC, pairs, encCert, dec_self, renL_encP, wrap_id (x := s * findN c) (by omega) (by omega)])
   all_goals try simp (disch := omega) only [wrap_id, wrap8_id]
   all_goals
   refine Tri.ret ?_
   show ResOk _ _ _ _
   exact ResOk.val lsrB61 lpvB61
set_option maxRecDepth 100000
def nilV : PV := .atom (.slice none 0 0)
def arg1 : List PV := [.agg [.ob 0 1 0 3, encI 3, nilV]]
def hp1 : List AO := [⟨1, [3, 2, 2].map encI⟩]
def res1 : CallR := (.tup [.ob 1 2 0 3, encI 5, .agg [.ob 2 1 0 3, .ob 3 1 0 3, encI 5], encI 0], hp1.map some, [⟨2, [(0, 1), (0, 2), (1, 2)].map encP⟩, ⟨1, [0, 1, 2].map encI⟩, ⟨1, [0, 1, 2].map encI⟩])
theorem run_find1 : sameR (gRun Try.prog tbl0 [] 60 22 arg1 hp1) res1 = true := by kernel_rfl
def arg2 : List PV := [.agg [.ob 0 1 0 2, encI 3, .atom (.slice none 0 0)]]
def hp2 : List AO := [⟨1, [5, 1].map encI⟩]
def res2 : CallR := (.tup [.ob 1 2 0 2, encI 6, .agg [.ob 2 1 0 1, .atom (.slice none 0 0), encI 5], encI 0], hp2.map some, [⟨2, [(0, 1), (0, 1)].map encP⟩, ⟨1, [0].map encI⟩])
theorem run_find2 : sameR (gRun Try.prog tbl0 [] 60 22 arg2 hp2) res2 = true := by kernel_rfl
def arg3 : List PV := [.agg [.ob 0 1 0 2, encI 3, .ob 1 2 0 2]]
def hp3 : List AO := [⟨1, [2, 2].map encI⟩, ⟨2, [(0, 2), (1, 2)].map encP⟩]
def res3 : CallR := (.tup [.ob 2 2 0 2, encI 4, .agg [.ob 3 1 0 2, .ob 4 1 0 1, encI 4], encI 0], hp3.map some, [⟨2, [(0, 1), (0, 1)].map encP⟩, ⟨1, [0, 1].map encI⟩, ⟨1, [0].map encI⟩])
theorem run_find3 : sameR (gRun Try.prog tbl0 [] 60 22 arg3 hp3) res3 = true := by kernel_rfl
def tb1 : CallT := tblAdd 22 arg1 hp1 res1 tbl0
def tb2 : CallT := tblAdd 22 arg2 hp2 res2 tb1
def tb3 : CallT := tblAdd 22 arg3 hp3 res3 tb2
theorem tb1_ok : CallOk Try.prog tb1 := callOk_put tbl0_ok (gRun_ok tbl0_ok mixed 60 _ _ _ _ _ _ (sameR_eq run_find1))
theorem tb2_ok : CallOk Try.prog tb2 := callOk_put tb1_ok (gRun_ok tbl0_ok mixed 60 _ _ _ _ _ _ (sameR_eq run_find2))
theorem tb3_ok : CallOk Try.prog tb3 := callOk_put tb2_ok (gRun_ok tbl0_ok mixed 60 _ _ _ _ _ _ (sameR_eq run_find3))
theorem run_lives : sameR (gRun Try.prog tb3 [] 60 21 [] []) (.atom (.bool true), [], []) = true := by kernel_rfl
theorem lives_pure : Pure Try.prog 21 [] (.atom (.bool true)) [] := run_pure (x := (.atom (.bool true), [], [])) tb3_ok mixed run_lives rfl
theorem scaled_law (l : List Int) (by_ : Int) (hl : Fits l) (hb : I64 by_) :
    Pure Try.prog 8 [ints l, encI by_] (.atom (.bool true)) [] := scaled_pure l by_ hl hb lives_pure
end Go.Proofs.Ytcdeilgijleoaaa
namespace Go.Proofs.Ytcdeilgijleoaaa
open Go Go.RowKit Go.ChangeShapes Go.WideShapes Go.ChangeAt Go.Deep
section
variable {H : Type} {enc : TypeId × Value → H} {P : Program} {W : World} {sp : Nat → Bool} {held : Bool}
def oldF (W : World) : Nat → Prop := fun b => b < W.heap.size
def IsPv (W : World) (p : PV) (v : Value) : Prop := ∀ (D : Nat → Prop) (μ : Nat → Option Nat), Rep D μ (oldF W) W p v
theorem IsPv.atom (W : World) (v : Value) : IsPv W (.atom v) v := fun _ _ => .atom v
theorem spot_of {t e : TypeId} {base len cap : Nat} {a : Addr} (ht : P.underlying t = some (.slice e)) (h : Value.okWide P W .any base t (.slice (some a) len cap)) : a.spot = none := by
  simp only [Value.okWide, ht, Cell.okWide, Cell.ok] at h
  exact h.2.2.2.1
theorem isPv_nil (W : World) (sz : Nat) : IsPv W (.sl sz []) (.slice none 0 0) := fun _ _ => .sl0 sz none 0 (Nat.zero_le _) (fun _ => rfl) (fun x hx => by cases hx)
theorem isPv_row {W : World} {sz : Nat} {l : List PV} {a : Addr} {len cap : Nat} (hs : a.spot = none) (hl : l.length = len) (hlc : len ≤ cap) (hc : cap ≤ maxLen) (hsz : 0 < sz) (g : Nat → Value) (hg : ∀ j, j < len * sz → W.cell? ⟨a.block, a.off + j, none⟩ = some (g j))
    (h1 : ∀ k (h : k < l.length), l[k].cells.length = sz) (h2 : ∀ k (h : k < l.length) c (hc : c < l[k].cells.length), l[k].cells[c] = .atom (g (k * sz + c))) : IsPv W (.sl sz l) (.slice (some a) len cap) := fun D μ => by
  subst hl
  obtain ⟨b, off, spot⟩ := a
  simp only at hs hg
  subst hs
  by_cases h0 : l = []
  · subst h0
    exact .sl0 sz _ cap hc (fun h => by cases h) (fun x hx => by cases hx; rfl)
  · have hpos : 0 < l.length := List.length_pos_iff.2 h0
    have hlt : b < W.heap.size := World.block_lt_of_cell? W _ (hg 0 (Nat.mul_pos hpos hsz))
    exact .sl sz l b off cap g hlt hlc hc hg h1 (fun k h c hc => by rw [h2 k h c hc]; exact .atom _)
theorem add_none {a : Addr} (hs : a.spot = none) (n : Nat) : a.add n = ⟨a.block, a.off + n, none⟩ := by
  obtain ⟨b, off, spot⟩ := a
  simp only at hs
  subst hs
  unfold Addr.add
  split <;> simp_all
theorem open_pv_ints {t e : TypeId} {v : Value} {d : DataW H} {ps : List MemPlace} (ht : P.underlying t = some (.slice e)) (he : P.underlying e = some (.int .i64)) (hc : P.cellsOf e = 1)
    {b0 : Nat} (hv : Value.okWide P W .any b0 t v) (h : DataW.Trod enc P W 0 sp held t v d ps) : ∃ l : List Int, Fits l ∧ IsPv W (ints l) v := by
  obtain ⟨a0, len, cap, rfl⟩ := okWide_slice ht hv
  obtain ⟨fuel, hf⟩ := h
  rcases open_ints ht he hc hf with ⟨hcs, hx⟩ | ⟨a, len', cap', zs, hcs, _, hl, hm, hz, hx, hcell, hwf⟩
  · simp [Value.cells] at hcs
    obtain ⟨rfl, rfl, rfl⟩ := hcs
    exact ⟨[], ⟨fun x hx => (by cases hx), by simp⟩, isPv_nil W 1⟩
  · simp [Value.cells] at hcs
    obtain ⟨rfl, rfl, rfl⟩ := hcs
    have hzl : len ≤ zs.length := by rw [hz]; split <;> omega
    have hs := spot_of ht hv
    refine ⟨zs.take len, ⟨fun x hx => ?_, ?_⟩, ?_⟩
    · have := hwf x (List.mem_of_mem_take hx)
      simpa [Lit.wf, IntKind.min, IntKind.max, IntKind.signed, IntKind.bits, I64] using this
    · have : maxLen = 9223372036854775807 := by decide
      simp only [List.length_take]; omega
    · refine isPv_row (sz := 1) hs (by simp; omega) hl hm Nat.one_pos (fun j => .int .i64 (zs.getD j 0)) (fun j hj => ?_) (fun k hk => by simp [encI, PV.cells]) (fun k hk c hcc => ?_)
      · have := hcell j (by omega)
        rw [add_none hs] at this; exact this
      · have hk' : k < len ∧ k < zs.length := by have := hk; simp at this; omega
        have e0 : ((zs.take len).map encI)[k] = encI (zs.getD k 0) := by simp [List.getD_eq_getElem?_getD, hk'.2]
        have e1 : ((zs.take len).map encI)[k].cells = [encI (zs.getD k 0)] := by rw [e0]; rfl
        have hc0 : c = 0 := by rw [e1] at hcc; simpa using hcc
        subst hc0
        rw [gl e1 hcc]
        simp [encI]
theorem Pure.calls {f : FuncId} {args : List PV} (h : Pure P f args (.atom (.bool true)) []) {vs : Array Value} (hl : vs.size = args.length) (hv : ∀ i (h : i < args.length), IsPv W args[i] (vs.getD i undef)) :
    Calls P f vs W fun e W' => e = .returned (.bool true) ∧ Below W.heap.size W W' := by
  refine (h.2 (fun _ => False) (fun _ => none) (oldF W) W vs hl (fun i hi => hv i hi _ _) (fun b hb => hb)).mono fun e W' ⟨v, he, hb, ν, F', hr, _⟩ => ?_
  refine ⟨?_, hb⟩
  cases hr
  exact he
theorem Below.trods (hl : laidOutB P = true) {W' : World} (hb : Below W.heap.size W W') : ∀ (ts : List TypeId) (vs : List Value) (ds : List (DataW H)) (ps : List MemPlace), (∀ t, t ∈ ts → P.readableRec t = true ∧ t < P.types.size) → (∀ x, x ∈ ps → x.block < W.heap.size) →
    DataW.TrodAll enc P W 0 (fun _ => true) true ts vs ds ps → DataW.TrodAll enc P W' 0 (fun b => decide (b < W.heap.size)) true ts vs ds ps
  | [], [], [], ps, _, _, h => h
  | t :: ts, v :: vs, d :: ds, ps, ht, hp, ⟨p, q, h1, h2, e⟩ => by
    subst e
    exact ⟨p, q, Below.trod hl (ht t (List.mem_cons_self ..)).1 (ht t (List.mem_cons_self ..)).2 h1 hb (fun x hx => hp x (List.mem_append_left _ hx)),
      Below.trods hl hb ts vs ds q (fun t h => ht t (List.mem_cons_of_mem _ h)) (fun x hx => hp x (List.mem_append_right _ hx)) h2, rfl⟩
  | [], _ :: _, _, _, _, _, h => h.elim
  | [], [], _ :: _, _, _, _, h => h.elim
  | _ :: _, [], _, _, _, _, h => h.elim
  | _ :: _, _ :: _, [], _, _, _, h => h.elim
end
end Go.Proofs.Ytcdeilgijleoaaa
