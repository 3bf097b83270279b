/-
  Plain: the exact assignment is there, fits, and is that of the reference model.
-/
import Derived.Test.YtcdeilgijleoaaaWB27
import Derived.Test.YtcdeilgijleoaaaWA1
set_option linter.all false
namespace Go.Proofs.Ytcdeilgijleoaaa
open Go Go.RowKit
set_option maxRecDepth 20000
theorem rowPr_of {c : CaseD} {i : Int} {a : Nat} : ∀ {k b : Nat}, a < b → b < k → openB c i a = true → openB c i b = true → ((a : Int), (b : Int)) ∈ rowPr c i a k
  | 0, b, _, h, _, _ => absurd h (Nat.not_lt_zero _)
  | k + 1, b, hab, hb, h1, h2 => by
    rw [rowPr]
    rcases Nat.lt_succ_iff_lt_or_eq.1 hb with hb | rfl
    · exact List.mem_append_left _ (rowPr_of hab hb h1 h2)
    · refine List.mem_append_right _ ?_
      rw [if_pos ⟨hab, h1, h2⟩]; exact List.mem_singleton.2 rfl
theorem allPr_of {c : CaseD} {i : Int} {n : Nat} {p : Int × Int} (h : ((p.1.toNat : Int), (p.2.toNat : Int)) ∈ rowPr c i p.1.toNat n) : ∀ {a : Nat}, p.1.toNat < a → ((p.1.toNat : Int), (p.2.toNat : Int)) ∈ allPr c i n a
  | 0, ha => absurd ha (Nat.not_lt_zero _)
  | a + 1, ha => by
    rw [allPr]
    rcases Nat.lt_succ_iff_lt_or_eq.1 ha with ha | rfl
    · exact List.mem_append_left _ (allPr_of h ha)
    · exact List.mem_append_right _ h
theorem pairsOf_of {c : CaseD} {i : Int} {p : Int × Int} (h0 : 0 ≤ p.1) (h1 : p.1 < p.2) (h2 : p.2 < c.people) (o1 : openB c i p.1 = true) (o2 : openB c i p.2 = true) : p ∈ pairsOf c i := by
  have e : p = ((p.1.toNat : Int), (p.2.toNat : Int)) := by
    obtain ⟨a, b⟩ := p
    simp only at *
    rw [Int.toNat_of_nonneg h0, Int.toNat_of_nonneg (by omega)]
  rw [e]
  refine allPr_of (rowPr_of (by omega) (by omega) ?_ ?_) (by omega)
  · rw [Int.toNat_of_nonneg h0]; exact o1
  · rw [Int.toNat_of_nonneg (by omega)]; exact o2
theorem openN_two {c : CaseD} {i : Int} : ∀ {k : Nat}, 2 ≤ openN c i k → ∃ a b : Nat, a < b ∧ b < k ∧ openB c i a = true ∧ openB c i b = true
  | 0, h => by simp [openN] at h
  | k + 1, h => by
    rw [openN_succ] at h
    by_cases h2 : 2 ≤ openN c i k
    · obtain ⟨a, b, g1, g2, g3⟩ := openN_two h2
      exact ⟨a, b, g1, by omega, g3⟩
    · split at h
      · rename_i ho
        have h1 : 1 ≤ openN c i k := by omega
        have : ∃ a : Nat, a < k ∧ openB c i a = true := by
          have hne : (List.range k).filter (fun (p : Nat) => openB c i p) ≠ [] := fun e => by
            have : openN c i k = 0 := by unfold openN; rw [e]; rfl
            omega
          obtain ⟨a, ha⟩ := List.exists_mem_of_ne_nil _ hne
          obtain ⟨g1, g2⟩ := List.mem_filter.1 ha
          exact ⟨a, List.mem_range.1 g1, g2⟩
        obtain ⟨a, g1, g2⟩ := this
        exact ⟨a, k, g1, Nat.lt_succ_self k, g2, ho⟩
      · omega
theorem pairs_some {c : CaseD} (hG : Good c) {i : Nat} (hi : i < c.sizes.length) : ∃ p, p ∈ pairsOf c (i : Int) := by
  obtain ⟨a, b, g1, g2, g3, g4⟩ := openN_two (hG.some i hi)
  exact ⟨((a : Int), (b : Int)), pairsOf_of (by simp only; omega) (by simp only; omega) (by simp only; omega) g3 g4⟩
theorem fits_some {c : CaseD} (hG : Good c) : ∀ k, k ≤ c.sizes.length → ∃ l, l.length = k ∧ fitsL c (c.sizes.length - k) l
  | 0, _ => ⟨[], rfl, trivial⟩
  | k + 1, h => by
    obtain ⟨l, h1, h2⟩ := fits_some hG k (by omega)
    obtain ⟨p, hp⟩ := pairs_some hG (i := c.sizes.length - (k + 1)) (by omega)
    exact ⟨p :: l, by simp [h1], hp, by rw [show c.sizes.length - (k + 1) + 1 = c.sizes.length - k by omega]; exact h2⟩
theorem runL_rng {c : CaseD} (hs : ∀ x, x ∈ c.sizes → 0 ≤ x ∧ x ≤ 1024) : ∀ (l : List (Int × Int)) (i : Nat) (loads : List Int) (M : Int), 0 ≤ M → (∀ x, x ∈ loads → 0 ≤ x ∧ x ≤ M) → ∀ x, x ∈ runL c i loads l → 0 ≤ x ∧ x ≤ M + 2048 * l.length
  | [], _, loads, M, _, h, x, hx => by have := h x hx; simp only [List.length_nil]; omega
  | p :: r, i, loads, M, h0, h, x, hx => by
    have hz : 0 ≤ li c.sizes i ∧ li c.sizes i ≤ 1024 := li_rng (m := 0) (M := 1024) hs (by omega) _
    have h1 : ∀ x, x ∈ loadStep c loads i p → 0 ≤ x ∧ x ≤ M + 2048 := addAt_rng (addAt_rng h (M := M + 1024) (by omega) (by omega)) (by omega) (by omega)
    have := runL_rng hs r (i + 1) (loadStep c loads i p) (M + 2048) (by omega) h1 x hx
    simp only [List.length_cons]; omega
def zerosL (c : CaseD) : List Int := List.replicate c.people.toNat 0
theorem zeros_ok (c : CaseD) : LoadOk c (zerosL c) := ⟨by simp [zerosL], fun x hx => by rw [(List.mem_replicate.1 hx).2]; exact Int.le_refl _⟩
theorem zeros_rng (c : CaseD) : ∀ x, x ∈ zerosL c → 0 ≤ x ∧ x ≤ 0 := fun x hx => by rw [(List.mem_replicate.1 hx).2]; exact ⟨Int.le_refl _, Int.le_refl _⟩
theorem Good.pos {c : CaseD} (hG : Good c) : ∀ x, x ∈ c.sizes → 0 ≤ x := fun x hx => by have := hG.size x hx; omega
theorem Good.rng {c : CaseD} (hG : Good c) : ∀ x, x ∈ c.sizes → 0 ≤ x ∧ x ≤ 1024 := fun x hx => by have := hG.size x hx; omega
theorem search_good {c : CaseD} (hG : Good c) {L : Int} (hL : 2048 * (c.sizes.length : Int) < L) : (searchF c c.sizes.length (zerosL c) L).2.2 = true := by
  obtain ⟨l, h1, h2⟩ := fits_some hG c.sizes.length (Nat.le_refl _)
  refine (searchF_min (by have := hG.lo; omega) hG.pos c.sizes.length (zerosL c) L l (zeros_ok c) (Nat.le_refl _) h1 h2 ?_).1
  have := greatest_le (l := runL c (c.sizes.length - c.sizes.length) (zerosL c) l) (m := 2048 * c.sizes.length) (by omega) fun x hx => by
    have := runL_rng hG.rng l _ (zerosL c) 0 (Int.le_refl _) (zeros_rng c) x hx
    rw [h1] at this; omega
  omega
theorem exact_eq {c : CaseD} (hG : Good c) (b0 : List (Int × Int)) : exF c c.sizes.length [] (zerosL c) (b0, 9223372036854775807) = ((searchF c c.sizes.length (zerosL c) 1048576).1, (searchF c c.sizes.length (zerosL c) 1048576).2.1) := by
  have hm := hG.many
  have h1 := search_good hG (L := 9223372036854775807) (by omega)
  have h2 := search_good hG (L := 1048576) (by omega)
  rw [exF_search (by have := hG.lo; omega) hG.pos _ _ _ _ _ (zeros_ok c), if_pos h1, (searchF_lim hG.rng c.sizes.length (zerosL c) 9223372036854775807 1048576 0 (zeros_rng c) (Int.le_refl _) (by omega) (by omega)).2 h1]
  rfl
theorem runL_append (c : CaseD) : ∀ (l : List (Int × Int)) (i : Nat) (loads : List Int) (p : Int × Int), runL c i loads (l ++ [p]) = loadStep c (runL c i loads l) (i + l.length) p
  | [], i, loads, p => rfl
  | q :: r, i, loads, p => by
    show runL c (i + 1) (loadStep c loads i q) (r ++ [p]) = _
    rw [runL_append c r (i + 1) _ p, show i + 1 + r.length = i + (q :: r).length by simp; omega]; rfl
theorem loadsG_run (c : CaseD) (ps : List (Int × Int)) : ∀ i, i ≤ ps.length → loadsG c ps i = runL c 0 (zerosL c) (ps.take i)
  | 0, _ => rfl
  | i + 1, h => by
    rw [loadsG, loadsG_run c ps i (by omega), List.take_succ_eq_append_getElem (by omega), runL_append, ← lp_get (show i < ps.length by omega), List.length_take]
    congr 1
    omega
theorem fits_at {c : CaseD} : ∀ {l : List (Int × Int)} {i j : Nat}, fitsL c i l → j < l.length → lp l j ∈ pairsOf c ((i + j : Nat) : Int)
  | [], _, _, _, h => absurd h (Nat.not_lt_zero _)
  | p :: r, i, 0, h, _ => h.1
  | p :: r, i, j + 1, h, hj => by
    have := fits_at (j := j) h.2 (by simpa using hj)
    rw [show i + (j + 1) = i + 1 + j by omega]; exact this
theorem fits_mk {c : CaseD} : ∀ {l : List (Int × Int)} {i : Nat}, (∀ j, j < l.length → lp l j ∈ pairsOf c ((i + j : Nat) : Int)) → fitsL c i l
  | [], _, _ => trivial
  | p :: r, i, h => ⟨h 0 (Nat.zero_lt_succ _), fits_mk fun j hj => by
      have := h (j + 1) (by simpa using hj)
      rw [show i + 1 + j = i + (j + 1) by omega]; exact this⟩
theorem fits_loads {c : CaseD} (hG : Good c) (hv : validC c = 0) {l : List (Int × Int)} (hl : l.length = c.sizes.length) (hf : fitsL c 0 l) : loadsE c l = 0 ∧ loadsR c l = runL c 0 (zerosL c) l := by
  obtain ⟨h1, h2⟩ := loads_ok hv hl fun i hi => by
    have := pairsOf_mem (by have := hG.lo; omega) (fits_at hf hi)
    rw [Nat.zero_add] at this
    unfold badPair
    simp only [Bool.or_eq_false_iff, decide_eq_false_iff_not, Bool.not_eq_false']
    exact ⟨⟨⟨⟨by omega, by omega⟩, by omega⟩, this.2.2.2.1⟩, this.2.2.2.2⟩
  refine ⟨h1, ?_⟩
  rw [h2, loadsG_run c l _ (Nat.le_refl _), List.take_length]
set_option maxHeartbeats 1000000
structure QuickD where
  out : List (Int × Int)
  done : List Bool
  loads : List Int
theorem leqB13 {p : Prop} (h : p := by (refine ⟨4, ?_, ?_, rfl, by simp, rfl, fun _ h _ => absurd h (Nat.not_lt_zero _)⟩ <;> (simp only [List.forall_mem_cons]; repeat' (first | refine And.intro ?_ ?_ | (intro p hp; exact absurd hp List.not_mem_nil) | rfl | exact sp (pure_case _) | exact sp (pure_pairs _) | exact (sealed_pure _ _ _ (pure_ints _)).trans (ren_ints _ _).symm | exact (sealed_pure _ _ _ (pure_strs _)).trans (ren_strs _ _).symm | exact sp (by assumption) | (intro o ho; cases ho; refine ⟨by decide, ?_⟩; first | (refine LeqS.row rfl ?_ ?_; (next => (first | rfl | (simp only [List.map_append, List.map_cons, List.map_nil, List.append_nil, List.nil_append, List.append_assoc, List.cons_append, encI, encS, ints, strs]; done) | (simp [encI, encS, ints, strs, encP, encO]; done))); (next => (first | rfl | exact pureL_encI _ | exact pureL_encS _ | exact pureL_ints _ | exact pureL_strs _ | exact pureL_encP _ | exact pureL_encO _ | (simp [pureL_append, pureL_encI, pureL_encS, pureL_ints, pureL_strs, pureL, PV.pure, pure_ints, pure_strs, pure_case, pureL_encP, pure_pairs, pureL_encO]; done))); done) | refine ⟨_, rfl, rfl, ?_⟩) | (simp [St.born, St.known, retV, St.get, St.obj, lk, sealed, PV.ren, renL, rmap, AO.ren, ints, strs, encI, encS, map_sealed_encI, map_sealed_encS, map_sealed_ints, map_sealed_strs, map_ren_encI, map_ren_encS, map_ren_ints, map_ren_strs, renL_encI, renL_encS, renL_ints, renL_strs, ren_case, encC, pairs, renL_encP, map_sealed_encP, map_ren_encP, encP, take_map_len, renL_encO] <;> omega)))); first | done | fail) : p := h
theorem lstB13 {p : Prop} (h : p := by (first | rfl | (simp [St.born, St.known, retV, St.get, St.obj, lk, sealed, PV.ren, renL, rmap, AO.ren, ints, strs, encI, encS, map_sealed_encI, map_sealed_encS, map_sealed_ints, map_sealed_strs, map_ren_encI, map_ren_encS, map_ren_ints, map_ren_strs, renL_encI, renL_encS, renL_ints, renL_strs, ren_case, encC, pairs, renL_encP, map_sealed_encP, map_ren_encP, encP, take_map_len, renL_encO, take_map_len, List.take_length]; done)); first | done | fail) : p := h
theorem lpvB13 {p : Prop} (h : p := by (first | rfl | (simp [pure_ints, pure_strs, PV.pure, pureL, pureL_encI, pureL_encS, pureL_ints, pureL_strs, pure_case, pureL_encP, pure_pairs, pureL_encO]; done)); first | done | fail) : p := h
def qAt (c : CaseD) (s : QuickD) : Int := pickS c s.done c.sizes.length
def qA (c : CaseD) (s : QuickD) : Int := leastC c (qAt c s) s.loads (-1)
def qB (c : CaseD) (s : QuickD) : Int := leastC c (qAt c s) s.loads (qA c s)
def qStep (c : CaseD) (s : QuickD) : QuickD :=
  ⟨s.out.set (qAt c s).toNat (min (qA c s) (qB c s), max (qA c s) (qB c s)), s.done.set (qAt c s).toNat true, addAt (addAt s.loads (qA c s) (li c.sizes (qAt c s).toNat)) (qB c s) (li c.sizes (qAt c s).toNat)⟩
def quickQ (c : CaseD) : Nat → QuickD
  | 0 => ⟨List.replicate c.sizes.length (0, 0), List.replicate c.sizes.length false, List.replicate c.people.toNat 0⟩
  | k + 1 => qStep c (quickQ c k)
def quickS (c : CaseD) : List (Int × Int) := (quickQ c c.sizes.length).out
theorem count_set : ∀ (l : List Bool) (i : Nat), i < l.length → l.getD i false = false → (l.set i true).count true = l.count true + 1
  | [], i, h, _ => absurd h (Nat.not_lt_zero _)
  | b :: l, 0, _, h => by
    have : b = false := h
    subst this; simp
  | b :: l, i + 1, h, h2 => by
    have := count_set l i (by simpa using h) (by simpa using h2)
    simp only [List.set_cons_succ, List.count_cons, this]; omega
theorem count_free : ∀ (l : List Bool), l.count true < l.length → ∃ i, i < l.length ∧ l.getD i false = false
  | [], h => absurd h (Nat.lt_irrefl _)
  | false :: l, _ => ⟨0, by simp, rfl⟩
  | true :: l, h => by
    obtain ⟨i, h1, h2⟩ := count_free l (by simpa using h)
    exact ⟨i + 1, by simpa using h1, by simpa using h2⟩
structure QuickI (c : CaseD) (k : Nat) : Prop where
  out : (quickQ c k).out.length = c.sizes.length
  done : (quickQ c k).done.length = c.sizes.length
  loads : (quickQ c k).loads.length = c.people.toNat
  count : (quickQ c k).done.count true = k
  rng : ∀ x, x ∈ (quickQ c k).loads → 0 ≤ x ∧ x ≤ 2048 * (k : Int)
theorem quickI_at {c : CaseD} {k : Nat} (h : QuickI c k) (hk : k < c.sizes.length) : 0 ≤ qAt c (quickQ c k) ∧ qAt c (quickQ c k) < c.sizes.length ∧ (quickQ c k).done.getD (qAt c (quickQ c k)).toNat false = false := by
  obtain ⟨h1, h2⟩ := pickS_free c (quickQ c k).done c.sizes.length
  have h0 := h2 (by rw [← h.done]; exact count_free _ (by rw [h.count, h.done]; exact hk))
  exact ⟨h0, (pickS_rng c _ _).2, h1 h0⟩
theorem quickI {c : CaseD} (hG : Good c) : ∀ k, k ≤ c.sizes.length → QuickI c k
  | 0, _ => ⟨by simp [quickQ], by simp [quickQ], by simp [quickQ], by simp [quickQ, List.count_replicate], fun x hx => by
      have := (List.mem_replicate.1 (show x ∈ List.replicate c.people.toNat 0 from hx)).2; omega⟩
  | k + 1, hk => by
    have ih := quickI hG k (by omega)
    obtain ⟨h1, h2, h3⟩ := quickI_at ih (by omega)
    have hs := li_rng (l := c.sizes) (m := 0) (M := 1024) (fun x hx => by have := hG.size x hx; omega) (by omega) (qAt c (quickQ c k)).toNat
    refine ⟨by simp [quickQ, qStep, ih.out], by simp [quickQ, qStep, ih.done], by simp [quickQ, qStep, addAt_len, ih.loads], ?_, ?_⟩
    · show ((quickQ c k).done.set _ true).count true = _
      rw [count_set _ _ (by rw [ih.done]; omega) h3, ih.count]
    · exact fun x hx => addAt_rng (addAt_rng ih.rng (M := 2048 * k + 1024) (by omega) (by omega)) (by omega) (by omega) x hx
theorem set_encP (l : List (Int × Int)) (i : Nat) (a b : Int) : (l.map encP).set i (PV.agg [PV.atom (.int .i64 a), PV.atom (.int .i64 b)]) = (l.set i (a, b)).map encP := by rw [List.map_set]; rfl
theorem set_encO (l : List Bool) (i : Nat) : (l.map encO).set i (PV.atom (.bool true)) = (l.set i true).map encO := by rw [List.map_set]; rfl
theorem zeros_P (n : Nat) : List.replicate n (PV.agg [PV.atom (.int .i64 0), PV.atom (.int .i64 0)]) = (List.replicate n ((0 : Int), (0 : Int))).map encP := by rw [List.map_replicate]; rfl
theorem zeros_O (n : Nat) : List.replicate n (PV.atom (.bool false)) = (List.replicate n false).map encO := by rw [List.map_replicate]; rfl
theorem zeros_I (n : Nat) : List.replicate n (PV.atom (.int .i64 0)) = (List.replicate n (0 : Int)).map encI := by rw [List.map_replicate]; rfl
theorem quick_pure (c : CaseD) (hc : Held c) (hG : Good c) : Pure Try.prog 37 [encC c] (pairs (quickS c)) [] := by
  have hmany := hG.many
  have hlo := hG.lo
  have hhi := hG.hi
  refine Pure.intro (ts := [2]) Try.func37 (by kernel_rfl) rfl rfl rfl (Nat.le_of_ble_eq_true rfl) ?_ ?_
  · simp [pure_case, encI, PV.pure, pureL]
  refine sZ [1] (fun P S K => XvBox S.nx (S.get 0) (fun r0 ef0 => K ⟨[(1, r0)], (Eff.hp ef0 S.nx S.hp), (S.nx + ef0.add.length), S.gh⟩)) fun K hK => ?_
  repeat' (first | (refine hK _ ?_; clear hK K) | refine And.intro ?_ ?_ | exact cl | exact one_encP _ | exact flat_encI _ | (refine st ?_; try simp only [encC, pairs]) | simp only [encC, pairs])
  all_goals
  refine sZ [1, 3] (fun P S K => XvFieldAddr P 25 0 (S.get 1) (fun r0 _ => XvLoad P 22 (M S.hp S.nx) r0 (fun r1 _ => XvLen P 22 r1 (fun r2 _ => XvMake P 23 (M S.hp S.nx) r2 r2 (fun r3 ef3 => K ⟨[(1, S.get 1), (3, r3)], (Eff.hp ef3 S.nx S.hp), (S.nx + ef3.add.length), S.gh⟩))))) fun K hK => ?_
  repeat' (first | (refine hK _ ?_; clear hK K) | ((first | refine xG_intro (fun hg => ?_) (fun hg => ?_) | refine fun (hg : (_ : Prop)) => ?_) <;> ((try simp only [BQ] at hg); try (exfalso; omega))) | refine And.intro ?_ ?_ | exact cl | exact one_encP _ | exact flat_encI _ | refine one_take ?_ _ | refine one_drop ?_ _ | (refine st ?_; try simp only [encC, pairs]) | simp only [encC, pairs])
  rw [zeros_P]
  all_goals
  refine sZ [1, 3, 4] (fun P S K => XvFieldAddr P 25 0 (S.get 1) (fun r0 _ => XvLoad P 22 (M S.hp S.nx) r0 (fun r1 _ => XvLen P 22 r1 (fun r2 _ => XvMake P 93 (M S.hp S.nx) r2 r2 (fun r3 ef3 => K ⟨[(1, S.get 1), (3, S.get 3), (4, r3)], (Eff.hp ef3 S.nx S.hp), (S.nx + ef3.add.length), S.gh⟩))))) fun K hK => ?_
  repeat' (first | (refine hK _ ?_; clear hK K) | ((first | refine xG_intro (fun hg => ?_) (fun hg => ?_) | refine fun (hg : (_ : Prop)) => ?_) <;> ((try simp only [BQ] at hg); try (exfalso; omega))) | refine And.intro ?_ ?_ | exact cl | exact one_encP _ | exact flat_encI _ | refine one_take ?_ _ | refine one_drop ?_ _ | (refine st ?_; try simp only [encC, pairs]) | simp only [encC, pairs])
  rw [zeros_O]
  all_goals
  refine sZ [1, 3, 4, 5] (fun P S K => XvFieldAddr P 25 1 (S.get 1) (fun r0 _ => XvLoad P 3 (M S.hp S.nx) r0 (fun r1 _ => XvMake P 22 (M S.hp S.nx) r1 r1 (fun r2 ef2 => K ⟨[(1, S.get 1), (3, S.get 3), (4, S.get 4), (5, r2)], (Eff.hp ef2 S.nx S.hp), (S.nx + ef2.add.length), S.gh⟩)))) fun K hK => ?_
  repeat' (first | (refine hK _ ?_; clear hK K) | ((first | refine xG_intro (fun hg => ?_) (fun hg => ?_) | refine fun (hg : (_ : Prop)) => ?_) <;> ((try simp only [BQ] at hg); try (exfalso; omega))) | refine And.intro ?_ ?_ | exact cl | exact one_encP _ | exact flat_encI _ | refine one_take ?_ _ | refine one_drop ?_ _ | (refine st ?_; try simp only [encC, pairs]) | simp only [encC, pairs])
  rw [zeros_I]
  all_goals
  refine Tri.seq ?_
  refine sZ [1, 3, 4, 5, 6] (fun P S K => K ⟨[(1, S.get 1), (3, S.get 3), (4, S.get 4), (5, S.get 5), (6, (.atom (.int .i64 0)))], S.hp, S.nx, S.gh⟩) fun K hK => ?_
  repeat' (first | (refine hK _ ?_; clear hK K) | refine And.intro ?_ ?_ | exact cl | exact one_encP _ | exact flat_encI _ | (refine st ?_; try simp only [encC, pairs]) | simp only [encC, pairs])
  all_goals
  refine Tri.block ?_
  refine Tri.loop (α := (k : Nat) ×' (k ≤ c.sizes.length)) (fun z => (fun (k : Nat) => (⟨[(1, .ptr 0 3 0 0), (3, .ob 1 2 0 c.sizes.length), (4, .ob 2 1 0 c.sizes.length), (5, .ob 3 1 0 c.people.toNat), (6, encI k)], [(0, some ⟨3, [encC c]⟩), (1, some ⟨2, (quickQ c k).out.map encP⟩), (2, some ⟨1, (quickQ c k).done.map encO⟩), (3, some ⟨1, (quickQ c k).loads.map encI⟩)], 4, []⟩ : St)) z.1) (fun z => (fun (k : Nat) => c.sizes.length - k) z.1) ⟨0, Nat.zero_le _⟩ [0, 1, 2, 3] ?_ ?_
  ·exact leqB13
  ·rintro ⟨k, hk⟩
   have hI := quickI hG k hk
   have hol := hI.out
   have hdl := hI.done
   have hll := hI.loads
   refine Tri.seq ?_
   refine sZ [1, 3, 4, 5, 6, 26] (fun P S K => XvFieldAddr P 25 0 (S.get 1) (fun r1 _ => XvLoad P 22 (M S.hp S.nx) r1 (fun r2 _ => XvLen P 22 r2 (fun r3 _ => XvBinOV P .lss 3 (.tmp 25) (S.get 6) r3 (fun r4 _ => K ⟨[(1, S.get 1), (3, S.get 3), (4, S.get 4), (5, S.get 5), (6, S.get 6), (26, r4)], S.hp, S.nx, S.gh⟩))))) fun K hK => ?_
   repeat' (first | (refine hK _ ?_; clear hK K) | refine And.intro ?_ ?_ | exact cl | exact one_encP _ | exact flat_encI _ | refine one_take ?_ _ | refine one_drop ?_ _ | (refine st ?_; try simp only [encC, pairs]) | simp only [encC, pairs])
   all_goals
   refine Tri.cond rfl (fun h26 => ?_) (fun h26 => ?_)
   ·try (cases h26; done)
    all_goals (try simp only [CQ] at h26)
    all_goals
    refine Tri.skip ?_
    refine Tri.seq ?_
    refine Tri.block ?_
    refine sZ [1, 3, 4, 5, 6, 7] (fun P S K => K ⟨[(1, S.get 1), (3, S.get 3), (4, S.get 4), (5, S.get 5), (6, S.get 6), (7, (.atom (.int .i64 (-1))))], S.hp, S.nx, S.gh⟩) fun K hK => ?_
    repeat' (first | (refine hK _ ?_; clear hK K) | refine And.intro ?_ ?_ | exact cl | exact one_encP _ | exact flat_encI _ | (refine st ?_; try simp only [encC, pairs]) | simp only [encC, pairs])
    all_goals
    refine Tri.seq ?_
    refine sZ [1, 3, 4, 5, 6, 7, 8] (fun P S K => K ⟨[(1, S.get 1), (3, S.get 3), (4, S.get 4), (5, S.get 5), (6, S.get 6), (7, S.get 7), (8, (.atom (.int .i64 0)))], S.hp, S.nx, S.gh⟩) fun K hK => ?_
    repeat' (first | (refine hK _ ?_; clear hK K) | refine And.intro ?_ ?_ | exact cl | exact one_encP _ | exact flat_encI _ | (refine st ?_; try simp only [encC, pairs]) | simp only [encC, pairs])
    all_goals
    refine Tri.block ?_
    refine Tri.loop (α := (i : Nat) ×' (i ≤ c.sizes.length ∧ k < c.sizes.length)) (fun z => (fun (i : Nat) => (⟨[(1, .ptr 0 3 0 0), (3, .ob 1 2 0 c.sizes.length), (4, .ob 2 1 0 c.sizes.length), (5, .ob 3 1 0 c.people.toNat), (6, encI k), (7, encI (pickS c (quickQ c k).done i)), (8, encI i)], [(0, some ⟨3, [encC c]⟩), (1, some ⟨2, (quickQ c k).out.map encP⟩), (2, some ⟨1, (quickQ c k).done.map encO⟩), (3, some ⟨1, (quickQ c k).loads.map encI⟩)], 4, []⟩ : St)) z.1) (fun z => (fun (i : Nat) => c.sizes.length - i) z.1) ⟨0, ⟨Nat.zero_le _, by omega⟩⟩ [0, 1, 2, 3] ?_ ?_
    ·exact leqB13
    ·rintro ⟨i, ⟨hi, hkl⟩⟩
     have hrg := pickS_rng c (quickQ c k).done i
     have hst : pickS c (quickQ c k).done (i + 1) = if (quickQ c k).done.getD i false = false ∧ (pickS c (quickQ c k).done i < 0 ∨ li c.sizes (pickS c (quickQ c k).done i).toNat < li c.sizes i) then (i : Int) else pickS c (quickQ c k).done i := rfl
     refine Tri.seq ?_
     refine sZ [1, 3, 4, 5, 6, 7, 8, 33] (fun P S K => XvFieldAddr P 25 0 (S.get 1) (fun r1 _ => XvLoad P 22 (M S.hp S.nx) r1 (fun r2 _ => XvLen P 22 r2 (fun r3 _ => XvBinOV P .lss 3 (.tmp 32) (S.get 8) r3 (fun r4 _ => K ⟨[(1, S.get 1), (3, S.get 3), (4, S.get 4), (5, S.get 5), (6, S.get 6), (7, S.get 7), (8, S.get 8), (33, r4)], S.hp, S.nx, S.gh⟩))))) fun K hK => ?_
     repeat' (first | (refine hK _ ?_; clear hK K) | refine And.intro ?_ ?_ | exact cl | exact one_encP _ | exact flat_encI _ | refine one_take ?_ _ | refine one_drop ?_ _ | (refine st ?_; try simp only [encC, pairs]) | simp only [encC, pairs])
     all_goals
     refine Tri.cond rfl (fun h33 => ?_) (fun h33 => ?_)
     ·try (cases h33; done)
      all_goals (try simp only [CQ] at h33)
      all_goals
      refine Tri.skip ?_
      refine Tri.seq ?_
      refine Tri.block ?_
      have hil : i < c.sizes.length := by omega
      rcases Int.lt_or_le (pickS c (quickQ c k).done i) 0 with hneg | hpos
      all_goals
      refine sD 23 [1, 3, 4, 5, 6, 7, 8, 58] (fun P GD S K => XvIndexAddr P 93 (S.get 4) (S.get 8) (fun r2 ef2 => XvLoad P 4 (M S.hp S.nx) r2 (fun r3 ef3 => XvUn .not r3 (fun r4 ef4 => Xge r4 true (fun k => k (S.get 7) e0) (fun g6 r6 ef6 => Xge g6 true (fun k => XvBinOV P .lss 3 (.const (.int .i64 0)) r6 (.atom (.int .i64 0)) k) (fun g7 r7 ef7 => Xge g7 true (fun k => k r7 e0) (fun g8 r8 ef8 => Xge r8 false (fun k => XvFieldAddr P 25 0 (S.get 1) k) (fun g9 r9 ef9 => Xge g9 false (fun k => XvLoad P 22 (M S.hp S.nx) r9 k) (fun g10 r10 ef10 => Xge g10 false (fun k => k (S.get 8) e0) (fun g11 r11 ef11 => Xge g11 false (fun k => XvIndexAddr P 22 r10 r11 k) (fun g12 r12 ef12 => Xge g12 false (fun k => XvLoad P 3 (M S.hp S.nx) r12 k) (fun g13 r13 ef13 => Xge g13 false (fun k => XvFieldAddr P 25 0 (S.get 1) k) (fun g14 r14 ef14 => Xge g14 false (fun k => XvLoad P 22 (M S.hp S.nx) r14 k) (fun g15 r15 ef15 => Xge g15 false (fun k => k (S.get 7) e0) (fun g16 r16 ef16 => Xge g16 false (fun k => XvMinMax true r16 (.atom (.int .i64 0)) k) (fun g17 r17 ef17 => Xge g17 false (fun k => XvIndexAddr P 22 r15 r17 k) (fun g18 r18 ef18 => Xge g18 false (fun k => XvLoad P 3 (M S.hp S.nx) r18 k) (fun g19 r19 ef19 => Xge g19 false (fun k => XvBinOV P .gtr 3 (.tmp 55) r13 r19 k) (fun g20 r20 ef20 => Xge g8 true (fun k => XvPick g20 (.atom (.bool true)) r20 k) (fun g21 r21 ef21 => XvPick g21 r21 (.atom (.bool false)) (fun r22 ef22 => (trOk S.nx GD [⟨S.nx, 0, [], [], []⟩, ⟨S.nx, 0, [], [], []⟩, ⟨S.nx, 0, ef2.rd, [], []⟩, ⟨S.nx, 0, ef3.rd, [], []⟩, ⟨S.nx, 0, ef4.rd, [], []⟩, ⟨S.nx, 0, [], [], []⟩, ⟨S.nx, 0, ef6.rd, [], []⟩, ⟨S.nx, 0, ef7.rd, [], []⟩, ⟨S.nx, 0, ef8.rd, [], []⟩, ⟨S.nx, 0, ef9.rd, [], []⟩, ⟨S.nx, 0, ef10.rd, [], []⟩, ⟨S.nx, 0, ef11.rd, [], []⟩, ⟨S.nx, 0, ef12.rd, [], []⟩, ⟨S.nx, 0, ef13.rd, [], []⟩, ⟨S.nx, 0, ef14.rd, [], []⟩, ⟨S.nx, 0, ef15.rd, [], []⟩, ⟨S.nx, 0, ef16.rd, [], []⟩, ⟨S.nx, 0, ef17.rd, [], []⟩, ⟨S.nx, 0, ef18.rd, [], []⟩, ⟨S.nx, 0, ef19.rd, [], []⟩, ⟨S.nx, 0, ef20.rd, [], []⟩, ⟨S.nx, 0, ef21.rd, [], []⟩, ⟨S.nx, 0, ef22.rd, [], []⟩] = true ∧ K ⟨[(1, S.get 1), (3, S.get 3), (4, S.get 4), (5, S.get 5), (6, S.get 6), (7, S.get 7), (8, S.get 8), (58, r22)], S.hp, S.nx, S.gh⟩)))))))))))))))))))))) fun K hK => ?_
      repeat' (first | (refine hK _ ?_; clear hK K) | (refine (?_ : trOk _ _ _ = true); kernel_rfl) | ((first | refine xG_intro (fun hg => ?_) (fun hg => ?_) | refine fun (hg : (_ : Prop)) => ?_) <;> ((try simp only [BQ] at hg); try (exfalso; omega))) | refine And.intro ?_ ?_ | exact cl | exact one_encP _ | exact flat_encI _ | refine one_take ?_ _ | refine one_drop ?_ _ | simp (maxSteps := 2000000) only [↓SD, push_cast, Nat.reduceAdd, Nat.reduceSub, Nat.reduceMul, Nat.reduceLT, Nat.reduceLeDiff, Nat.reduceEqDiff, Int.reduceToNat, reduceIte, reduceCtorEq, Int.reduceLE, Int.reduceLT, Int.reduceNeg, ints, strs, encI, encS, encC, pairs, dec_yes hneg, getD_encO (show i < (quickQ c k).done.length by omega), encO] | simp (maxSteps := 2000000) only [↓SD, push_cast, Nat.reduceAdd, Nat.reduceSub, Nat.reduceMul, Nat.reduceLT, Nat.reduceLeDiff, Nat.reduceEqDiff, Int.reduceToNat, reduceIte, reduceCtorEq, Int.reduceLE, Int.reduceLT, Int.reduceNeg, ints, strs, encI, encS, encC, pairs, dec_no (Int.not_lt.2 hpos), getD_encO (show i < (quickQ c k).done.length by omega), encO, getD_encI hil, (show max (pickS c (quickQ c k).done i) 0 = pickS c (quickQ c k).done i by omega), getD_encI (show (pickS c (quickQ c k).done i).toNat < c.sizes.length by omega)])
      all_goals try simp (disch := omega) only [wrap_id, wrap8_id]
      all_goals
      refine Tri.cond rfl (fun h58 => ?_) (fun h58 => ?_)
      ·try (cases h58; done)
       all_goals (try simp only [CQ] at h58)
       all_goals
       refine rZ [1, 3, 4, 5, 6, 7, 8] (fun P S K => K ⟨[(1, S.get 1), (3, S.get 3), (4, S.get 4), (5, S.get 5), (6, S.get 6), (7, (S.get 8)), (8, S.get 8)], S.hp, S.nx, S.gh⟩) fun K hK => ?_
       repeat' (first | (refine hK _ ?_; clear hK K) | refine And.intro ?_ ?_ | exact cl | exact one_encP _ | exact flat_encI _ | (refine st ?_; try simp only [encC, pairs]) | simp only [encC, pairs])
       all_goals
       refine rZ [1, 3, 4, 5, 6, 7, 8] (fun P S K => XvBinOV P .add 3 (.const (.int .i64 1)) (S.get 8) (.atom (.int .i64 1)) (fun r1 _ => K ⟨[(1, S.get 1), (3, S.get 3), (4, S.get 4), (5, S.get 5), (6, S.get 6), (7, S.get 7), (8, r1)], S.hp, S.nx, S.gh⟩)) fun K hK => ?_
       repeat' (first | (refine hK _ ?_; clear hK K) | refine And.intro ?_ ?_ | exact cl | exact one_encP _ | exact flat_encI _ | (refine st ?_; try simp only [encC, pairs]) | simp only [encC, pairs])
       all_goals try simp (disch := omega) only [wrap_id, wrap8_id]
       all_goals
       first
       | (have e : pickS c (quickQ c k).done (i + 1) = (i : Int) := (by rw [hst, if_pos ⟨by simp_all, by omega⟩]); refine ⟨⟨i + 1, by omega, hkl⟩, [0, 1, 2, 3], by dsimp only; omega, ?_⟩; dsimp only; rw [e]; exact leqB13)
       | (have e : pickS c (quickQ c k).done (i + 1) = pickS c (quickQ c k).done i := (by rw [hst, if_neg (by rintro ⟨g1, g2⟩; first | omega | simp_all)]); refine ⟨⟨i + 1, by omega, hkl⟩, [0, 1, 2, 3], by dsimp only; omega, ?_⟩; dsimp only; rw [e]; exact leqB13)
      ·try (cases h58; done)
       all_goals (try simp only [CQ] at h58)
       all_goals
       refine Tri.skip ?_
       refine rZ [1, 3, 4, 5, 6, 7, 8] (fun P S K => XvBinOV P .add 3 (.const (.int .i64 1)) (S.get 8) (.atom (.int .i64 1)) (fun r1 _ => K ⟨[(1, S.get 1), (3, S.get 3), (4, S.get 4), (5, S.get 5), (6, S.get 6), (7, S.get 7), (8, r1)], S.hp, S.nx, S.gh⟩)) fun K hK => ?_
       repeat' (first | (refine hK _ ?_; clear hK K) | refine And.intro ?_ ?_ | exact cl | exact one_encP _ | exact flat_encI _ | (refine st ?_; try simp only [encC, pairs]) | simp only [encC, pairs])
       all_goals try simp (disch := omega) only [wrap_id, wrap8_id]
       all_goals
       first
       | (have e : pickS c (quickQ c k).done (i + 1) = (i : Int) := (by rw [hst, if_pos ⟨by simp_all, by omega⟩]); refine ⟨⟨i + 1, by omega, hkl⟩, [0, 1, 2, 3], by dsimp only; omega, ?_⟩; dsimp only; rw [e]; exact leqB13)
       | (have e : pickS c (quickQ c k).done (i + 1) = pickS c (quickQ c k).done i := (by rw [hst, if_neg (by rintro ⟨g1, g2⟩; first | omega | simp_all)]); refine ⟨⟨i + 1, by omega, hkl⟩, [0, 1, 2, 3], by dsimp only; omega, ?_⟩; dsimp only; rw [e]; exact leqB13)
     ·try (cases h33; done)
      all_goals (try simp only [CQ] at h33)
      all_goals
      refine Tri.exit ?_
      obtain rfl : i = c.sizes.length := by omega
      obtain ⟨ha1, ha2, ha3⟩ := quickI_at hI hkl
      rw [show pickS c (quickQ c k).done c.sizes.length = qAt c (quickQ c k) from rfl]
      have hsz := li_rng (l := c.sizes) (m := 0) (M := 1024) (fun x hx => by have := hG.size x hx; omega) (by omega) (qAt c (quickQ c k)).toNat
      have hqa : 0 ≤ qA c (quickQ c k) ∧ qA c (quickQ c k) < c.people := leastC_rng (by omega) _ _ _
      have hqb : 0 ≤ qB c (quickQ c k) ∧ qB c (quickQ c k) < c.people := leastC_rng (by omega) _ _ _
      refine sZ [1, 3, 4, 5, 6, 7, 9] (fun P S K => XvLoad P 25 (M S.hp S.nx) (S.get 1) (fun r0 _ => XvFnIV P (M S.hp S.nx) (.fn 59 []) [r0, (S.get 7), (S.get 5), (.atom (.int .i64 (-1)))] (fun r3 ef3 => K ⟨[(1, S.get 1), (3, S.get 3), (4, S.get 4), (5, S.get 5), (6, S.get 6), (7, S.get 7), (9, r3)], (Eff.hp ef3 S.nx S.hp), (S.nx + ef3.add.length), S.gh⟩))) fun K hK => ?_
      repeat' (first | (refine hK _ ?_; clear hK K) | refine And.intro ?_ ?_ | exact cl | exact one_encP _ | exact flat_encI _ | refine one_take ?_ _ | refine one_drop ?_ _ | refine .inl ⟨_, _, least_pure c hc hG (qAt c (quickQ c k)) (quickQ c k).loads (-1) hI.loads, ?_⟩ | refine .inl ⟨_, _, least_pure c hc hG (qAt c (quickQ c k)) (quickQ c k).loads (qA c (quickQ c k)) hI.loads, ?_⟩ | (refine st ?_; try simp only [encC, pairs, hll, Nat.le_refl, if_true, (show List.take c.people.toNat ((quickQ c k).loads.map encI) = (quickQ c k).loads.map encI from List.take_of_length_le (by rw [List.length_map, hll]; exact Nat.le_refl _)), map_sealed_encI]) | simp only [encC, pairs, hll, Nat.le_refl, if_true, (show List.take c.people.toNat ((quickQ c k).loads.map encI) = (quickQ c k).loads.map encI from List.take_of_length_le (by rw [List.length_map, hll]; exact Nat.le_refl _)), map_sealed_encI])
      rw [show leastC c (qAt c (quickQ c k)) (quickQ c k).loads (-1) = qA c (quickQ c k) from rfl]
      all_goals
      refine sZ [1, 3, 4, 5, 6, 7, 9, 10] (fun P S K => XvLoad P 25 (M S.hp S.nx) (S.get 1) (fun r0 _ => XvFnIV P (M S.hp S.nx) (.fn 59 []) [r0, (S.get 7), (S.get 5), (S.get 9)] (fun r4 ef4 => K ⟨[(1, S.get 1), (3, S.get 3), (4, S.get 4), (5, S.get 5), (6, S.get 6), (7, S.get 7), (9, S.get 9), (10, r4)], (Eff.hp ef4 S.nx S.hp), (S.nx + ef4.add.length), S.gh⟩))) fun K hK => ?_
      repeat' (first | (refine hK _ ?_; clear hK K) | refine And.intro ?_ ?_ | exact cl | exact one_encP _ | exact flat_encI _ | refine one_take ?_ _ | refine one_drop ?_ _ | refine .inl ⟨_, _, least_pure c hc hG (qAt c (quickQ c k)) (quickQ c k).loads (-1) hI.loads, ?_⟩ | refine .inl ⟨_, _, least_pure c hc hG (qAt c (quickQ c k)) (quickQ c k).loads (qA c (quickQ c k)) hI.loads, ?_⟩ | (refine st ?_; try simp only [encC, pairs, hll, Nat.le_refl, if_true, (show List.take c.people.toNat ((quickQ c k).loads.map encI) = (quickQ c k).loads.map encI from List.take_of_length_le (by rw [List.length_map, hll]; exact Nat.le_refl _)), map_sealed_encI]) | simp only [encC, pairs, hll, Nat.le_refl, if_true, (show List.take c.people.toNat ((quickQ c k).loads.map encI) = (quickQ c k).loads.map encI from List.take_of_length_le (by rw [List.length_map, hll]; exact Nat.le_refl _)), map_sealed_encI])
      rw [show leastC c (qAt c (quickQ c k)) (quickQ c k).loads (qA c (quickQ c k)) = qB c (quickQ c k) from rfl]
      all_goals
      refine sZ [1, 3, 4, 5, 6, 7, 9, 10] (fun P S K => XvMinMax false (S.get 9) (S.get 10) (fun r4 _ => XvMinMax true (S.get 9) (S.get 10) (fun r7 _ => XvBuild P 67 [(0, r4), (1, r7)] (fun r8 _ => XvIndexAddr P 23 (S.get 3) (S.get 7) (fun r9 _ => XvStore P 67 (M S.hp S.nx) r9 r8 (fun r10 ef10 => K ⟨[(1, S.get 1), (3, S.get 3), (4, S.get 4), (5, S.get 5), (6, S.get 6), (7, S.get 7), (9, S.get 9), (10, S.get 10)], (Eff.hp ef10 S.nx S.hp), (S.nx + ef10.add.length), S.gh⟩)))))) fun K hK => ?_
      repeat' (first | (refine hK _ ?_; clear hK K) | ((first | refine xG_intro (fun hg => ?_) (fun hg => ?_) | refine fun (hg : (_ : Prop)) => ?_) <;> ((try simp only [BQ] at hg); try (exfalso; omega))) | refine And.intro ?_ ?_ | exact cl | exact one_encP _ | exact flat_encI _ | refine one_take ?_ _ | refine one_drop ?_ _ | (refine st ?_; try simp only [encC, pairs, getD_encP (show (qAt c (quickQ c k)).toNat < (quickQ c k).out.length by omega), encP]) | simp only [encC, pairs, getD_encP (show (qAt c (quickQ c k)).toNat < (quickQ c k).out.length by omega), encP])
      rw [set_encP]
      all_goals
      have hra := li_rng hI.rng (by omega) (qA c (quickQ c k)).toNat
      have hsl : (qAt c (quickQ c k)).toNat < c.sizes.length := by omega
      refine sD 13 [1, 3, 4, 5, 6, 7, 10] (fun P GD S K => XvIndexAddr P 22 (S.get 5) (S.get 9) (fun r4 ef4 => XvLoad P 3 (M S.hp S.nx) r4 (fun r5 ef5 => XvFieldAddr P 25 0 (S.get 1) (fun r6 ef6 => XvLoad P 22 (M S.hp S.nx) r6 (fun r7 ef7 => XvIndexAddr P 22 r7 (S.get 7) (fun r9 ef9 => XvLoad P 3 (M S.hp S.nx) r9 (fun r10 ef10 => XvBinOV P .add 3 (.tmp 89) r5 r10 (fun r11 ef11 => XvIndexAddr P 22 (S.get 5) (S.get 9) (fun r12 ef12 => (trOk S.nx GD [⟨S.nx, 0, [], [], []⟩, ⟨S.nx, 0, [], [], []⟩, ⟨S.nx, 0, [], [], []⟩, ⟨S.nx, 0, [], [], []⟩, ⟨S.nx, 0, ef4.rd, [], []⟩, ⟨S.nx, 0, ef5.rd, [], []⟩, ⟨S.nx, 0, ef6.rd, [], []⟩, ⟨S.nx, 0, ef7.rd, [], []⟩, ⟨S.nx, 0, [], [], []⟩, ⟨S.nx, 0, ef9.rd, [], []⟩, ⟨S.nx, 0, ef10.rd, [], []⟩, ⟨S.nx, 0, ef11.rd, [], []⟩, ⟨S.nx, 0, ef12.rd, [], []⟩] = true ∧ XvStore P 3 (M S.hp S.nx) r12 r11 (fun r13 ef13 => K ⟨[(1, S.get 1), (3, S.get 3), (4, S.get 4), (5, S.get 5), (6, S.get 6), (7, S.get 7), (10, S.get 10)], (Eff.hp ef13 S.nx S.hp), (S.nx + ef13.add.length), S.gh⟩))))))))))) fun K hK => ?_
      repeat' (first | (refine hK _ ?_; clear hK K) | (refine (?_ : trOk _ _ _ = true); kernel_rfl) | refine And.intro ?_ ?_ | exact cl | exact one_encP _ | exact flat_encI _ | refine one_take ?_ _ | refine one_drop ?_ _ | (refine st ?_; try simp only [encC, pairs, getD_encI hsl, getD_encI (show (qA c (quickQ c k)).toNat < (quickQ c k).loads.length by omega), wrap_id (x := li (quickQ c k).loads (qA c (quickQ c k)).toNat + li c.sizes (qAt c (quickQ c k)).toNat) (by omega) (by omega), hll]) | simp only [encC, pairs, getD_encI hsl, getD_encI (show (qA c (quickQ c k)).toNat < (quickQ c k).loads.length by omega), wrap_id (x := li (quickQ c k).loads (qA c (quickQ c k)).toNat + li c.sizes (qAt c (quickQ c k)).toNat) (by omega) (by omega), hll])
      all_goals try simp (disch := omega) only [wrap_id, wrap8_id]
      rw [addAt_enc]
      have hlg2 : (addAt (quickQ c k).loads (qA c (quickQ c k)) (li c.sizes (qAt c (quickQ c k)).toNat)).length = c.people.toNat := by rw [addAt_len, hll]
      have hrb := li_rng (addAt_rng (k := qA c (quickQ c k)) (v := li c.sizes (qAt c (quickQ c k)).toNat) (m := 2048 * (k : Int)) (M := 2048 * (k : Int) + 1024) hI.rng (by omega) (by omega)) (by omega) (qB c (quickQ c k)).toNat
      all_goals
      refine sD 13 [1, 3, 4, 5, 6, 7] (fun P GD S K => XvIndexAddr P 22 (S.get 5) (S.get 10) (fun r4 ef4 => XvLoad P 3 (M S.hp S.nx) r4 (fun r5 ef5 => XvFieldAddr P 25 0 (S.get 1) (fun r6 ef6 => XvLoad P 22 (M S.hp S.nx) r6 (fun r7 ef7 => XvIndexAddr P 22 r7 (S.get 7) (fun r9 ef9 => XvLoad P 3 (M S.hp S.nx) r9 (fun r10 ef10 => XvBinOV P .add 3 (.tmp 102) r5 r10 (fun r11 ef11 => XvIndexAddr P 22 (S.get 5) (S.get 10) (fun r12 ef12 => (trOk S.nx GD [⟨S.nx, 0, [], [], []⟩, ⟨S.nx, 0, [], [], []⟩, ⟨S.nx, 0, [], [], []⟩, ⟨S.nx, 0, [], [], []⟩, ⟨S.nx, 0, ef4.rd, [], []⟩, ⟨S.nx, 0, ef5.rd, [], []⟩, ⟨S.nx, 0, ef6.rd, [], []⟩, ⟨S.nx, 0, ef7.rd, [], []⟩, ⟨S.nx, 0, [], [], []⟩, ⟨S.nx, 0, ef9.rd, [], []⟩, ⟨S.nx, 0, ef10.rd, [], []⟩, ⟨S.nx, 0, ef11.rd, [], []⟩, ⟨S.nx, 0, ef12.rd, [], []⟩] = true ∧ XvStore P 3 (M S.hp S.nx) r12 r11 (fun r13 ef13 => K ⟨[(1, S.get 1), (3, S.get 3), (4, S.get 4), (5, S.get 5), (6, S.get 6), (7, S.get 7)], (Eff.hp ef13 S.nx S.hp), (S.nx + ef13.add.length), S.gh⟩))))))))))) fun K hK => ?_
      repeat' (first | (refine hK _ ?_; clear hK K) | (refine (?_ : trOk _ _ _ = true); kernel_rfl) | refine And.intro ?_ ?_ | exact cl | exact one_encP _ | exact flat_encI _ | refine one_take ?_ _ | refine one_drop ?_ _ | (refine st ?_; try simp only [encC, pairs, getD_encI hsl, getD_encI (show (qB c (quickQ c k)).toNat < (addAt (quickQ c k).loads (qA c (quickQ c k)) (li c.sizes (qAt c (quickQ c k)).toNat)).length by omega), wrap_id (x := li (addAt (quickQ c k).loads (qA c (quickQ c k)) (li c.sizes (qAt c (quickQ c k)).toNat)) (qB c (quickQ c k)).toNat + li c.sizes (qAt c (quickQ c k)).toNat) (by omega) (by omega), hlg2]) | simp only [encC, pairs, getD_encI hsl, getD_encI (show (qB c (quickQ c k)).toNat < (addAt (quickQ c k).loads (qA c (quickQ c k)) (li c.sizes (qAt c (quickQ c k)).toNat)).length by omega), wrap_id (x := li (addAt (quickQ c k).loads (qA c (quickQ c k)) (li c.sizes (qAt c (quickQ c k)).toNat)) (qB c (quickQ c k)).toNat + li c.sizes (qAt c (quickQ c k)).toNat) (by omega) (by omega), hlg2])
      all_goals try simp (disch := omega) only [wrap_id, wrap8_id]
      rw [addAt_enc]
      all_goals
      refine rZ [1, 3, 4, 5, 6] (fun P S K => XvIndexAddr P 93 (S.get 4) (S.get 7) (fun r2 _ => XvStore P 4 (M S.hp S.nx) r2 (.atom (.bool true)) (fun r3 ef3 => K ⟨[(1, S.get 1), (3, S.get 3), (4, S.get 4), (5, S.get 5), (6, S.get 6)], (Eff.hp ef3 S.nx S.hp), (S.nx + ef3.add.length), S.gh⟩))) fun K hK => ?_
      repeat' (first | (refine hK _ ?_; clear hK K) | refine And.intro ?_ ?_ | exact cl | exact one_encP _ | exact flat_encI _ | (refine st ?_; try simp only [encC, pairs, getD_encO (show (qAt c (quickQ c k)).toNat < (quickQ c k).done.length by omega), encO]) | simp only [encC, pairs, getD_encO (show (qAt c (quickQ c k)).toNat < (quickQ c k).done.length by omega), encO])
      rw [set_encO]
      all_goals
      refine rZ [1, 3, 4, 5, 6] (fun P S K => XvBinOV P .add 3 (.const (.int .i64 1)) (S.get 6) (.atom (.int .i64 1)) (fun r1 _ => K ⟨[(1, S.get 1), (3, S.get 3), (4, S.get 4), (5, S.get 5), (6, r1)], S.hp, S.nx, S.gh⟩)) fun K hK => ?_
      repeat' (first | (refine hK _ ?_; clear hK K) | refine And.intro ?_ ?_ | exact cl | exact one_encP _ | exact flat_encI _ | (refine st ?_; try simp only [encC, pairs]) | simp only [encC, pairs])
      all_goals try simp (disch := omega) only [wrap_id, wrap8_id]
      all_goals
      refine ⟨⟨k + 1, by omega⟩, [0, 1, 2, 3], by dsimp only; omega, ?_⟩
      dsimp only
      rw [show quickQ c (k + 1) = qStep c (quickQ c k) from rfl]
      unfold qStep
      exact leqB13
   ·try (cases h26; done)
    all_goals (try simp only [CQ] at h26)
    all_goals
    refine Tri.exit ?_
    obtain rfl : k = c.sizes.length := by omega
    refine sZ [2] (fun P S K => K ⟨[(2, (S.get 3))], S.hp, S.nx, S.gh⟩) fun K hK => ?_
    repeat' (first | (refine hK _ ?_; clear hK K) | refine And.intro ?_ ?_ | exact cl | exact one_encP _ | exact flat_encI _ | (refine st ?_; try simp only [encC, pairs]) | simp only [encC, pairs])
    all_goals
    refine Tri.ret ?_
    show ResOk _ _ _ _
    rw [show PV.ob 1 2 0 c.sizes.length = PV.ob 1 2 0 (quickQ c c.sizes.length).out.length by rw [hol]]
    unfold quickS
    exact ResOk.frz 5 lstB13 lpvB13
def swp (d : List Int) (j : Nat) : List Int := (d.set j (li d (j - 1))).set (j - 1) (li d j)
def sink (lt : Int → Int → Bool) (a : Nat) : Nat → List Int → List Int
  | 0, d => d
  | j + 1, d => if a < j + 1 ∧ lt (li d (j + 1)) (li d j) = true then sink lt a j (swp d (j + 1)) else d
def isort (lt : Int → Int → Bool) (a : Nat) : Nat → Nat → List Int → List Int
  | 0, _, d => d
  | n + 1, i, d => isort lt a n (i + 1) (sink lt a i d)
theorem swp_len (d : List Int) (j : Nat) : (swp d j).length = d.length := by simp [swp]
theorem swp_mem {d : List Int} {j : Nat} (hj : j < d.length) {x : Int} (h : x ∈ swp d j) : x ∈ d := by
  rcases List.mem_or_eq_of_mem_set h with h | rfl
  · rcases List.mem_or_eq_of_mem_set h with h | rfl
    · exact h
    · exact li_mem (by omega)
  · exact li_mem hj
structure SinkI (lt : Int → Int → Bool) (l : List Int) (a i : Nat) (d0 d : List Int) (j : Nat) : Prop where
  lo : a ≤ j
  hi : j ≤ i
  len : d.length = l.length
  mem : ∀ x, x ∈ d → x ∈ l
  core : sink lt a i d0 = sink lt a j d
theorem SinkI.step {lt : Int → Int → Bool} {l : List Int} {a i : Nat} {d0 d : List Int} {j : Nat} (h : SinkI lt l a i d0 d j) (hi : i < l.length) (hj : a < j) (hc : lt (li d j) (li d (j - 1)) = true) : SinkI lt l a i d0 (swp d j) (j - 1) := by
  obtain ⟨k, rfl⟩ : ∃ k, j = k + 1 := ⟨j - 1, by omega⟩
  have h1 := h.hi
  have h2 := h.len
  refine ⟨by omega, by omega, by rw [swp_len]; exact h.len, fun x hx => h.mem x (swp_mem (by omega) hx), ?_⟩
  rw [h.core, sink, if_pos ⟨hj, hc⟩]; rfl
theorem SinkI.stop {lt : Int → Int → Bool} {l : List Int} {a i : Nat} {d0 d : List Int} {j : Nat} (h : SinkI lt l a i d0 d j) (hc : ¬ (a < j ∧ lt (li d j) (li d (j - 1)) = true)) : sink lt a i d0 = d := by
  rw [h.core]
  cases j with
  | zero => rfl
  | succ k => rw [sink, if_neg (by simpa using hc)]
structure InsI (lt : Int → Int → Bool) (l : List Int) (a b : Nat) (d : List Int) (i : Nat) : Prop where
  lo : a + 1 ≤ i
  len : d.length = l.length
  mem : ∀ x, x ∈ d → x ∈ l
  core : isort lt a (b - (a + 1)) (a + 1) l = isort lt a (b - i) i d
theorem InsI.start (lt : Int → Int → Bool) (l : List Int) (a b : Nat) : InsI lt l a b l (a + 1) := ⟨Nat.le_refl _, rfl, fun _ h => h, rfl⟩
theorem InsI.sink {lt : Int → Int → Bool} {l : List Int} {a b : Nat} {d : List Int} {i : Nat} (h : InsI lt l a b d i) : SinkI lt l a i d d i := ⟨by have := h.lo; omega, Nat.le_refl _, h.len, h.mem, rfl⟩
theorem InsI.next {lt : Int → Int → Bool} {l : List Int} {a b : Nat} {d d' : List Int} {i j : Nat} (h : InsI lt l a b d i) (hi : i < b) (hs : SinkI lt l a i d d' j) (hc : ¬ (a < j ∧ lt (li d' j) (li d' (j - 1)) = true)) : InsI lt l a b d' (i + 1) := by
  refine ⟨by have := h.lo; omega, hs.len, hs.mem, ?_⟩
  have e : b - i = (b - (i + 1)) + 1 := by omega
  rw [h.core, e, isort, hs.stop hc]
theorem InsI.stop {lt : Int → Int → Bool} {l : List Int} {a b : Nat} {d : List Int} {i : Nat} (h : InsI lt l a b d i) (hi : b ≤ i) : isort lt a (b - (a + 1)) (a + 1) l = d := by
  rw [h.core, Nat.sub_eq_zero_of_le hi]; rfl
def ltc (c : Int → Int → Int) (x y : Int) : Bool := decide (c x y < 0)
def sortedL (c : Int → Int → Int) (l : List Int) : List Int := isort (ltc c) 0 (l.length - 1) 1 l
theorem sink_len {lt : Int → Int → Bool} (a : Nat) : ∀ (j : Nat) (d : List Int), (sink lt a j d).length = d.length
  | 0, _ => rfl
  | j + 1, d => by
    rw [sink]; split
    · rw [sink_len a j, swp_len]
    · rfl
theorem isort_len {lt : Int → Int → Bool} (a : Nat) : ∀ (n i : Nat) (d : List Int), (isort lt a n i d).length = d.length
  | 0, _, _ => rfl
  | n + 1, i, d => by rw [isort, isort_len a n, sink_len]
theorem sortedL_len (c : Int → Int → Int) (l : List Int) : (sortedL c l).length = l.length := isort_len ..
def insAt {α : Type} (l : List α) (k : Nat) (x : α) : List α := l.take k ++ x :: l.drop k
theorem insAt_len {α : Type} (l : List α) (k : Nat) (x : α) : (insAt l k x).length = l.length + 1 := by simp [insAt]; omega
def insC (lt : Int → Int → Bool) (A : List Int) (x : Int) : List Int := insAt A (down (fun j => lt x (li A j)) A.length) x
theorem down_congr {p q : Nat → Bool} : ∀ n, (∀ j, j < n → p j = q j) → down p n = down q n
  | 0, _ => rfl
  | n + 1, h => by rw [down, down, h n (Nat.lt_succ_self n), down_congr n fun j hj => h j (Nat.lt_succ_of_lt hj)]
theorem down_le (p : Nat → Bool) : ∀ n, down p n ≤ n
  | 0 => Nat.le_refl _
  | n + 1 => by
    rw [down]; split
    · exact Nat.le_succ_of_le (down_le p n)
    · exact Nat.le_refl _
theorem li_app_left {A B : List Int} {j : Nat} (h : j < A.length) : li (A ++ B) j = li A j := by simp [li, List.getD_eq_getElem?_getD, List.getElem?_append_left h]
theorem li_app_at (A : List Int) (x : Int) (B : List Int) : li (A ++ x :: B) A.length = x := by simp [li, List.getD_eq_getElem?_getD]
theorem insC_len (lt : Int → Int → Bool) (A : List Int) (x : Int) : (insC lt A x).length = A.length + 1 := insAt_len ..
theorem sink_ins (lt : Int → Int → Bool) : ∀ (n : Nat) (A : List Int) (x : Int) (B : List Int), A.length = n → sink lt 0 n (A ++ x :: B) = insC lt A x ++ B
  | 0, A, x, B, h => by
    obtain rfl := List.length_eq_zero_iff.1 h
    simp [sink, insC, insAt]
  | n + 1, A, x, B, h => by
    obtain ⟨A', y, rfl⟩ : ∃ A' y, A = A' ++ [y] := ⟨A.dropLast, A.getLast (by intro e; rw [e] at h; cases h), (List.dropLast_concat_getLast _).symm⟩
    have hn : A'.length = n := by simpa using h
    have e1 : li (A' ++ [y] ++ x :: B) (n + 1) = x := by
      have := li_app_at (A' ++ [y]) x B
      rwa [h] at this
    have e2 : li (A' ++ [y] ++ x :: B) n = y := by
      rw [List.append_assoc, ← hn]; exact li_app_at A' y (x :: B)
    have e3 : li (A' ++ [y]) n = y := by rw [← hn]; exact li_app_at A' y []
    rw [sink, e1, e2]
    unfold insC
    rw [h, down, e3]
    by_cases hc : lt x y = true
    · rw [if_pos ⟨by omega, hc⟩, if_pos hc]
      have e4 : swp (A' ++ [y] ++ x :: B) (n + 1) = A' ++ x :: (y :: B) := by
        unfold swp
        rw [Nat.add_sub_cancel, e1, e2]
        subst hn
        rw [List.append_assoc, List.singleton_append, List.set_append_right _ _ (by omega), show A'.length + 1 - A'.length = 1 by omega, List.set_append_right _ _ (by simp), Nat.sub_self]
        rfl
      rw [e4, sink_ins lt n A' x (y :: B) hn]
      unfold insC
      rw [hn, down_congr n (q := fun j => lt x (li (A' ++ [y]) j)) fun j hj => by show lt x _ = lt x _; rw [li_app_left (by omega)]]
      have hd := down_le (fun j => lt x (li (A' ++ [y]) j)) n
      generalize down (fun j => lt x (li (A' ++ [y]) j)) n = k at hd
      unfold insAt
      rw [List.take_append_of_le_length (by omega), List.drop_append_of_le_length (by omega)]
      simp
    · rw [if_neg (fun g => hc g.2), if_neg hc]
      unfold insAt
      rw [List.take_of_length_le (by omega), List.drop_of_length_le (by omega)]
      simp
theorem isort_ins (lt : Int → Int → Bool) : ∀ (B A : List Int), isort lt 0 B.length A.length (A ++ B) = B.foldl (insC lt) A
  | [], A => by simp [isort]
  | x :: B, A => by
    rw [List.length_cons, isort, sink_ins lt _ A x B rfl, List.foldl_cons, ← isort_ins lt B (insC lt A x), insC_len]
theorem sortedL_fold (c : Int → Int → Int) (l : List Int) : sortedL c l = l.foldl (insC (ltc c)) [] := by
  cases l with
  | nil => rfl
  | cons x l => exact isort_ins (ltc c) l [x]
theorem down_above {p : Nat → Bool} : ∀ n j, down p n ≤ j → j < n → p j = true
  | 0, j, _, h => absurd h (Nat.not_lt_zero _)
  | n + 1, j, h1, h2 => by
    rw [down] at h1
    by_cases hp : p n = true
    · rw [if_pos hp] at h1
      rcases Nat.lt_succ_iff_lt_or_eq.1 h2 with h | rfl
      · exact down_above n j h1 h
      · exact hp
    · rw [if_neg hp] at h1; omega
theorem down_below {p : Nat → Bool} : ∀ n, 0 < down p n → p (down p n - 1) = false
  | 0, h => absurd h (Nat.lt_irrefl _)
  | n + 1, h => by
    rw [down] at h ⊢
    by_cases hp : p n = true
    · rw [if_pos hp] at h ⊢; exact down_below n h
    · rw [if_neg hp]
      simpa using hp
theorem insAt_perm {α : Type} (l : List α) (k : Nat) (x : α) : (insAt l k x).Perm (x :: l) := by
  unfold insAt
  exact List.perm_middle.trans (by rw [List.take_append_drop])
theorem insC_perm (lt : Int → Int → Bool) (A : List Int) (x : Int) : (insC lt A x).Perm (x :: A) := insAt_perm ..
theorem foldl_insC_perm (lt : Int → Int → Bool) : ∀ xs A : List Int, (xs.foldl (insC lt) A).Perm (A ++ xs)
  | [], A => by simp
  | x :: xs, A => by
    rw [List.foldl_cons]
    refine (foldl_insC_perm lt xs _).trans ?_
    refine ((insC_perm lt A x).append_right xs).trans ?_
    exact List.perm_middle.symm
theorem sortedL_perm (c : Int → Int → Int) (l : List Int) : (sortedL c l).Perm l := by
  rw [sortedL_fold]; simpa using foldl_insC_perm (ltc c) l []
def lexK (key : Int → Int) (x y : Int) : Prop := key x < key y ∨ (key x = key y ∧ x < y)
theorem lexK_asym {key : Int → Int} {x y : Int} (h1 : lexK key x y) (h2 : lexK key y x) : False := by unfold lexK at *; omega
def Keyed (c : Int → Int → Int) (key : Int → Int) : Prop := ∀ x y, c x y < 0 ↔ key x < key y
theorem ins_parts {c : Int → Int → Int} {key : Int → Int} (hc : Keyed c key) {A : List Int} (hA : A.Pairwise fun a b => key a ≤ key b) (x : Int) :
    ∃ k, k ≤ A.length ∧ insC (ltc c) A x = A.take k ++ x :: A.drop k ∧ (∀ a, a ∈ A.take k → key a ≤ key x) ∧ ∀ b, b ∈ A.drop k → key x < key b := by
  generalize hk : down (fun j => ltc c x (li A j)) A.length = k
  have hkl : k ≤ A.length := by rw [← hk]; exact down_le _ _
  have hab : ∀ j, k ≤ j → j < A.length → key x < key (li A j) := fun j h1 h2 => (hc _ _).1 (of_decide_eq_true (down_above (p := fun j => ltc c x (li A j)) A.length j (by rw [hk]; exact h1) h2))
  have hbe : 0 < k → ¬ key x < key (li A (k - 1)) := fun h1 => by
    have := down_below (p := fun j => ltc c x (li A j)) A.length (by rw [hk]; exact h1)
    rw [hk] at this
    exact fun h => of_decide_eq_false this ((hc _ _).2 h)
  have hli : ∀ j (hj : j < A.length), li A j = A[j] := fun j hj => by simp [li, List.getD_eq_getElem?_getD, hj]
  refine ⟨k, hkl, by unfold insC insAt; rw [hk], fun a ha => ?_, fun b hb => ?_⟩
  · obtain ⟨j, hj, rfl⟩ := List.getElem_of_mem ha
    have hj2 : j < k := by rw [List.length_take] at hj; omega
    have h1 := hbe (by omega)
    rw [hli _ (by omega)] at h1
    rw [List.getElem_take]
    by_cases hjk : j = k - 1
    · subst hjk; omega
    · have := List.pairwise_iff_getElem.1 hA j (k - 1) (by omega) (by omega) (by omega)
      omega
  · obtain ⟨j, hj, rfl⟩ := List.getElem_of_mem hb
    have hj2 : k + j < A.length := by rw [List.length_drop] at hj; omega
    have := hab (k + j) (by omega) hj2
    rw [hli _ hj2] at this
    rw [List.getElem_drop]; exact this
theorem insC_mono {c : Int → Int → Int} {key : Int → Int} (hc : Keyed c key) {A : List Int} (hA : A.Pairwise fun a b => key a ≤ key b) (x : Int) : (insC (ltc c) A x).Pairwise fun a b => key a ≤ key b := by
  obtain ⟨k, h1, h2, h3, h4⟩ := ins_parts hc hA x
  rw [h2]
  have hA2 : (A.take k ++ A.drop k).Pairwise fun a b => key a ≤ key b := by rw [List.take_append_drop]; exact hA
  rw [List.pairwise_append] at hA2 ⊢
  obtain ⟨p1, p2, p3⟩ := hA2
  refine ⟨p1, List.pairwise_cons.2 ⟨fun b hb => Int.le_of_lt (h4 b hb), p2⟩, fun a ha b hb => ?_⟩
  rcases List.mem_cons.1 hb with rfl | hb
  · exact h3 a ha
  · exact p3 a ha b hb
theorem foldl_insC_mono {c : Int → Int → Int} {key : Int → Int} (hc : Keyed c key) : ∀ (xs A : List Int), (A.Pairwise fun a b => key a ≤ key b) → (xs.foldl (insC (ltc c)) A).Pairwise fun a b => key a ≤ key b
  | [], A, h => h
  | x :: xs, A, h => foldl_insC_mono hc xs _ (insC_mono hc h x)
theorem sortedL_mono {c : Int → Int → Int} {key : Int → Int} (hc : Keyed c key) (l : List Int) : (sortedL c l).Pairwise fun a b => key a ≤ key b := by
  rw [sortedL_fold]; exact foldl_insC_mono hc l [] List.Pairwise.nil
theorem insC_stab {c : Int → Int → Int} {key : Int → Int} (hc : Keyed c key) {A : List Int} (hA : A.Pairwise (lexK key)) {x : Int} (hx : ∀ y, y ∈ A → y < x) : (insC (ltc c) A x).Pairwise (lexK key) := by
  obtain ⟨k, h1, h2, h3, h4⟩ := ins_parts hc (hA.imp fun h => by unfold lexK at h; omega) x
  rw [h2]
  have hA2 : (A.take k ++ A.drop k).Pairwise (lexK key) := by rw [List.take_append_drop]; exact hA
  rw [List.pairwise_append] at hA2 ⊢
  obtain ⟨p1, p2, p3⟩ := hA2
  refine ⟨p1, List.pairwise_cons.2 ⟨fun b hb => .inl (h4 b hb), p2⟩, fun a ha b hb => ?_⟩
  rcases List.mem_cons.1 hb with rfl | hb
  · have := h3 a ha
    have := hx a (List.mem_of_mem_take ha)
    unfold lexK; omega
  · exact p3 a ha b hb
theorem foldl_insC_stab {c : Int → Int → Int} {key : Int → Int} (hc : Keyed c key) : ∀ (xs A : List Int), A.Pairwise (lexK key) → xs.Pairwise (· < ·) → (∀ y, y ∈ A → ∀ x, x ∈ xs → y < x) → (xs.foldl (insC (ltc c)) A).Pairwise (lexK key)
  | [], A, h, _, _ => h
  | x :: xs, A, h, hx, hA => by
    rw [List.foldl_cons]
    obtain ⟨g1, g2⟩ := List.pairwise_cons.1 hx
    refine foldl_insC_stab hc xs _ (insC_stab hc h fun y hy => hA y hy x (List.mem_cons_self ..)) g2 fun y hy z hz => ?_
    rcases List.mem_cons.1 ((insC_perm (ltc c) A x).mem_iff.1 hy) with rfl | hy
    · exact g1 z hz
    · exact hA y hy z (List.mem_cons_of_mem _ hz)
theorem sortedL_stab {c : Int → Int → Int} {key : Int → Int} (hc : Keyed c key) {l : List Int} (hl : l.Pairwise (· < ·)) : (sortedL c l).Pairwise (lexK key) := by
  rw [sortedL_fold]
  exact foldl_insC_stab hc l [] List.Pairwise.nil hl fun y hy => by cases hy
def NoInv (c : Int → Int → Int) (l : List Int) : Prop := ∀ i j, i < j → j < l.length → ¬ c (li l j) (li l i) < 0
theorem noInv_mono {c : Int → Int → Int} {key : Int → Int} (hc : Keyed c key) {l : List Int} (h : l.Pairwise fun a b => key a ≤ key b) : NoInv c l := fun i j hij hj => by
  have := List.pairwise_iff_getElem.1 h i j (by omega) hj hij
  rw [hc]
  have e1 : li l i = l[i] := by simp [li, List.getD_eq_getElem?_getD, show i < l.length by omega]
  have e2 : li l j = l[j] := by simp [li, List.getD_eq_getElem?_getD, hj]
  rw [e1, e2]; omega
theorem sink_idle {lt : Int → Int → Bool} {a : Nat} : ∀ {i : Nat} {d : List Int}, (∀ j, i = j + 1 → lt (li d (j + 1)) (li d j) = false) → sink lt a i d = d
  | 0, _, _ => rfl
  | i + 1, d, h => by rw [sink, if_neg (by rw [h i rfl]; simp)]
theorem isort_idle {c : Int → Int → Int} {d : List Int} (h : NoInv c d) (a : Nat) : ∀ n i, n + i ≤ d.length → isort (ltc c) a n i d = d
  | 0, _, _ => rfl
  | n + 1, i, hi => by
    rw [isort, sink_idle fun j hj => decide_eq_false (h j (j + 1) (Nat.lt_succ_self j) (by omega))]
    exact isort_idle h a n (i + 1) (by omega)
theorem isort_ins2 (lt : Int → Int → Bool) : ∀ (B A C : List Int), isort lt 0 B.length A.length (A ++ (B ++ C)) = B.foldl (insC lt) A ++ C
  | [], A, C => by simp [isort]
  | x :: B, A, C => by
    rw [List.length_cons, isort, List.cons_append, sink_ins lt _ A x (B ++ C) rfl, List.foldl_cons, ← isort_ins2 lt B (insC lt A x) C, insC_len]
theorem isort_two (lt : Int → Int → Bool) (a : Nat) : ∀ (m k i : Nat) (d : List Int), isort lt a (m + k) i d = isort lt a k (i + m) (isort lt a m i d)
  | 0, k, i, d => by rw [Nat.zero_add]; rfl
  | m + 1, k, i, d => by
    rw [show m + 1 + k = (m + k) + 1 by omega, isort, isort, isort_two lt a m k (i + 1) _, show i + 1 + m = i + (m + 1) by omega]
theorem block_sorted {c : Int → Int → Int} {key : Int → Int} (hc : Keyed c key) {l : List Int} (h20 : 20 ≤ l.length) (hq : ∀ j, 20 ≤ j → j < l.length → ∀ x, x ∈ l → ¬ c (li l j) x < 0) :
    NoInv c (isort (ltc c) 0 19 1 l) ∧ isort (ltc c) 0 19 1 l = sortedL c l := by
  have e : isort (ltc c) 0 19 1 l = sortedL c (l.take 20) ++ l.drop 20 := by
    obtain ⟨x, l', rfl⟩ : ∃ x l', l = x :: l' := by
      cases l with
      | nil => simp at h20
      | cons x l' => exact ⟨x, l', rfl⟩
    have h1 := isort_ins2 (ltc c) (l'.take 19) [x] (l'.drop 19)
    rw [List.take_append_drop] at h1
    have h2 : (l'.take 19).length = 19 := by rw [List.length_take]; simp at h20; omega
    rw [h2] at h1
    rw [sortedL_fold]
    exact h1
  have hno : NoInv c (isort (ltc c) 0 19 1 l) := by
    rw [e]
    refine noInv_mono hc ?_
    rw [List.pairwise_append]
    have hdrop : ∀ b, b ∈ l.drop 20 → ∀ x, x ∈ l → key x ≤ key b := fun b hb x hx => by
      obtain ⟨j, hj, rfl⟩ := List.getElem_of_mem hb
      have hj2 : 20 + j < l.length := by rw [List.length_drop] at hj; omega
      have := hq (20 + j) (by omega) hj2 x hx
      rw [hc] at this
      rw [List.getElem_drop]
      have e1 : li l (20 + j) = l[20 + j] := by simp [li, List.getD_eq_getElem?_getD, hj2]
      rw [e1] at this; omega
    refine ⟨sortedL_mono hc _, ?_, fun a ha b hb => hdrop b hb a (List.mem_of_mem_take ((sortedL_perm c _).mem_iff.1 ha))⟩
    refine List.pairwise_iff_getElem.2 fun i j hi hj hij => hdrop _ (List.getElem_mem hj) _ (List.mem_of_mem_drop (List.getElem_mem hi))
  refine ⟨hno, ?_⟩
  unfold sortedL
  have h2 := isort_two (ltc c) 0 19 (l.length - 20) 1 l
  rw [show 19 + (l.length - 20) = l.length - 1 by omega] at h2
  rw [h2, isort_idle hno 0 _ _ (by rw [isort_len]; omega)]
end Go.Proofs.Ytcdeilgijleoaaa
