/-
  Plain: no assignment of few passages has a lesser greatest load than that of Find.
-/
import Derived.Test.YtcdeilgijleoaaaYB48
import Derived.Test.YtcdeilgijleoaaaYB50
import Derived.Test.YtcdeilgijleoaaaYA1
set_option linter.all false
namespace Go.Proofs.Ytcdeilgijleoaaa
open Go Go.RowKit
set_option maxRecDepth 20000
theorem findN_eq {c : CaseD} (hv : validC c = 0) : findN c = greatest (loadsR c (findP c)) := if_neg (by omega)
theorem findC_eq {c : CaseD} (hv : validC c = 0) : findC c = bestS c := if_neg (by omega)
theorem run_small {c : CaseD} (hG : Good c) {ps : List (Int × Int)} (hn : ps.length ≤ 64) : greatest (runL c 0 (zerosL c) ps) < 1048576 := by
  have := greatest_le (l := runL c 0 (zerosL c) ps) (m := 0 + 2048 * ps.length) (by omega) fun x hx => (runL_rng hG.rng ps 0 (zerosL c) 0 (Int.le_refl _) (zeros_rng c) x hx).2
  omega
theorem find_small {c : CaseD} (hv : validC c = 0) (h6 : c.sizes.length ≤ 6) : findN c = (searchF c c.sizes.length (zerosL c) 1048576).2.1 := by
  have hG := valid_good hv
  have hP : findP c = (searchF c c.sizes.length (zerosL c) 1048576).1 := by unfold findP; rw [if_neg (by omega), if_pos h6]; rfl
  have hf := searchF_found (c := c) c.sizes.length (zerosL c) 1048576 (Nat.le_refl _) (search_good hG (by omega))
  rw [Nat.sub_self] at hf
  rw [findN_eq hv, hP, (fits_loads hG hv hf.1 hf.2.1).2, hf.2.2.1]
theorem findN_min {c : CaseD} (hv : validC c = 0) (h6 : c.sizes.length ≤ 6) {ps : List (Int × Int)} (hlen : ps.length = c.sizes.length) (hf : fitsL c 0 ps) : findN c ≤ greatest (runL c 0 (zerosL c) ps) := by
  have hG := valid_good hv
  have hs := run_small hG (ps := ps) (by omega)
  have := (searchF_min (by have := hG.lo; omega) hG.pos c.sizes.length (zerosL c) 1048576 ps (zeros_ok c) (Nat.le_refl _) hlen (by rw [Nat.sub_self]; exact hf) (by rw [Nat.sub_self]; exact hs)).2
  rw [Nat.sub_self] at this
  rw [find_small hv h6]; exact this
theorem madeB_sizes (l : List Int) (i : Nat) (c : CaseD) : ∀ p, (madeB l i c p).sizes = c.sizes
  | 0 => rfl
  | p + 1 => by
    rw [madeB]; split
    · exact madeB_sizes l i c p
    · exact madeB_sizes l i c p
theorem madeI_nine (l : List Int) (people : Int) : ∀ i, ∀ x, x ∈ (madeI l people i).sizes → x ≤ 9
  | 0, x, hx => by cases hx
  | i + 1, x, hx => by
    rw [madeI, madeB_sizes] at hx
    rcases List.mem_append.1 hx with hx | hx
    · exact madeI_nine l people i x hx
    · have := atI_hi (l := l) (i := 3 + 2 * (i : Int)) (m := 9) (by decide)
      rw [List.mem_singleton.1 hx]; omega
theorem made_nine (l : List Int) : ∀ x, x ∈ (madeC l).sizes → x ≤ 9 := madeI_nine l _ _
structure Dom (c d : CaseD) : Prop where
  people : d.people = c.people
  len : d.sizes.length = c.sizes.length
  size : ∀ i, 0 ≤ li c.sizes i ∧ li c.sizes i ≤ li d.sizes i
  bars : ∀ (i p : Int), openB d i p = true → openB c i p = true
theorem filter_len_le {α : Type} {p q : α → Bool} (h : ∀ x, p x = true → q x = true) : ∀ l : List α, (l.filter p).length ≤ (l.filter q).length
  | [] => Nat.le_refl _
  | x :: r => by
    have ih := filter_len_le h r
    rw [List.filter_cons, List.filter_cons]
    by_cases hp : p x = true
    · rw [if_pos hp, if_pos (h x hp)]; simp only [List.length_cons]; omega
    · rw [if_neg hp]; split
      · simp only [List.length_cons]; omega
      · exact ih
theorem need_dom {c d : CaseD} (h : Dom c d) (i : Int) (S : List Int) : needS c i S ≤ needS d i S := by
  have h1 : shutN d i S d.people.toNat ≤ shutN c i S c.people.toNat := by
    rw [h.people]
    refine filter_len_le (fun x hx => ?_) _
    rw [Bool.and_eq_true] at hx ⊢
    exact ⟨hx.1, h.bars _ _ hx.2⟩
  rw [needS_open, needS_open]; omega
theorem sumW_append (g : Int → Int) : ∀ a b : List Int, sumW g (a ++ b) = sumW g a + sumW g b
  | [], b => by simp [sumW]
  | x :: r, b => by rw [List.cons_append, sumW, sumW, sumW_append g r b]; omega
def needF (c : CaseD) (S : List Int) (i : Nat) : Int := li c.sizes i * needS c i S
theorem some_sum (c : CaseD) (S : List Int) : ∀ k, sumS c (someS c S k) S = sumF (needF c S) k
  | 0 => rfl
  | k + 1 => by
    have ih := some_sum c S k
    have hr := needS_rng c (k : Int) S
    rw [sumS_W] at ih ⊢
    rw [someS, sumW_append, ih, sumF]
    congr 1
    split
    · simp only [sumW, needF, Int.toNat_natCast, Int.add_zero]
    · have : needS c (k : Int) S = 0 := by omega
      rw [needF, this, Int.mul_zero]; rfl
theorem sumF_le {f g : Nat → Int} (h : ∀ j, f j ≤ g j) : ∀ k, sumF f k ≤ sumF g k
  | 0 => Int.le_refl _
  | k + 1 => by have := sumF_le h k; have := h k; rw [sumF, sumF]; omega
theorem ceil_mono {s t n : Int} (hn : 0 < n) (hs : 0 ≤ s) (h : s ≤ t) : (s + n - 1).tdiv n ≤ (t + n - 1).tdiv n := by
  rw [Int.tdiv_eq_ediv_of_nonneg (by omega), Int.tdiv_eq_ediv_of_nonneg (by omega)]
  exact Int.ediv_le_ediv hn (by omega)
theorem needF_dom {c d : CaseD} (h : Dom c d) (S : List Int) (j : Nat) : 0 ≤ needF c S j ∧ needF c S j ≤ needF d S j := by
  have h1 := h.size j
  have h2 := needS_rng c (j : Int) S
  have h3 := need_dom h (j : Int) S
  exact ⟨Int.mul_nonneg h1.1 h2.1, Int.mul_le_mul h1.2 h3 h2.1 (by omega)⟩
theorem setX_dom {c d : CaseD} (h : Dom c d) {S : List Int} (hS : 0 < S.length) : (setX c S).least ≤ (setX d S).least := by
  show countedS c (someS c S c.sizes.length) S ≤ countedS d (someS d S d.sizes.length) S
  unfold countedS
  rw [some_sum, some_sum, h.len]
  refine ceil_mono (by omega) ?_ (sumF_le (fun j => (needF_dom h S j).2) _)
  exact sumF_mono (a := 0) (fun j => (needF_dom h S j).1) (Nat.zero_le _)
theorem best_dom {c d : CaseD} (hc : Good c) (hd : Good d) (h : Dom c d) : (bestS c).least ≤ (bestS d).least := by
  have hhi := hc.hi
  obtain ⟨h1, -, -⟩ := bestS_spec hc
  obtain ⟨-, h2, h3⟩ := bestS_spec hd
  rcases h1 with ⟨j, hj, e⟩ | ⟨S, hS, e⟩
  · rw [e]
    have g1 := h2 j (by rw [h.len]; exact hj)
    have g2 := (h.size j).2
    show li c.sizes j ≤ _
    omega
  · rw [e]
    have g1 := h3 S (by rw [h.people]; exact hS)
    have g2 := setX_dom h (sets_mem (by omega) hS).1
    omega
theorem pairs_dom {c d : CaseD} (hd : Good d) (h : Dom c d) {i : Int} {p : Int × Int} (hp : p ∈ pairsOf d i) : p ∈ pairsOf c i := by
  have := pairsOf_mem (by have := hd.lo; omega) hp
  exact pairsOf_of this.1 this.2.1 (by rw [← h.people]; exact this.2.2.1) (h.bars _ _ this.2.2.2.1) (h.bars _ _ this.2.2.2.2)
theorem fits_dom {c d : CaseD} (hd : Good d) (h : Dom c d) {ps : List (Int × Int)} (hf : fitsL d 0 ps) : fitsL c 0 ps := fits_mk fun j hj => pairs_dom hd h (fits_at hf hj)
theorem run_dom {c d : CaseD} (h : Dom c d) : ∀ (ps : List (Int × Int)) (i : Nat) (K L : List Int), K.length = L.length → (∀ j, j < K.length → li K j ≤ li L j) → (runL c i K ps).length = (runL d i L ps).length ∧ ∀ j, j < (runL c i K ps).length → li (runL c i K ps) j ≤ li (runL d i L ps) j
  | [], _, K, L, hl, hle => ⟨hl, hle⟩
  | p :: r, i, K, L, hl, hle => by
    refine run_dom h r (i + 1) (loadStep c K i p) (loadStep d L i p) (by rw [loadStep_len, loadStep_len]; exact hl) fun j hj => ?_
    rw [loadStep_len] at hj
    rw [li_loadStep c K i p hj, li_loadStep d L i p (by omega)]
    have h1 := hle j hj
    have h2 := h.size i
    split <;> split <;> omega
theorem great_dom {K L : List Int} (hl : K.length = L.length) (h : ∀ j, j < K.length → li K j ≤ li L j) : greatest K ≤ greatest L := by
  refine greatest_le (greatest_nonneg _) fun x hx => ?_
  obtain ⟨j, hj, rfl⟩ := mem_li hx
  have h1 := h j hj
  have h2 := le_greatest (li_mem (l := L) (show j < L.length by omega))
  omega
theorem find_dom {c d : CaseD} (hc : validC c = 0) (hd : validC d = 0) (h : Dom c d) (h6 : c.sizes.length ≤ 6) : findN c ≤ findN d := by
  have hG := valid_good hd
  have hl := find_loads hd
  obtain ⟨-, g1, g2⟩ := loads_fits hl
  have g3 := fits_loads hG hd g1 g2
  have g4 := findN_min hc h6 (ps := findP d) (by rw [g1, h.len]) (fits_dom hG h g2)
  have hz : zerosL d = zerosL c := by unfold zerosL; rw [h.people]
  obtain ⟨g5, g6⟩ := run_dom h (findP d) 0 (zerosL c) (zerosL d) (by rw [hz]) (fun j _ => by rw [hz]; exact Int.le_refl _)
  have g7 := great_dom g5 g6
  rw [findN_eq hd, g3.2]; omega
def moreX (c : CaseD) (k p : Int) : CaseD := ⟨c.sizes, c.people, c.bars ++ [(k, p)]⟩
def moreY (c : CaseD) (k d : Int) : CaseD := ⟨c.sizes.set k.toNat (li c.sizes k.toNat + d), c.people, c.bars⟩
theorem moreX_valid {c : CaseD} (hG : Good c) {k p : Int} (hk : 0 ≤ k ∧ k < c.sizes.length) (hp : 0 ≤ p ∧ p < c.people) : validC (moreX c k p) = 0 ∨ validC (moreX c k p) = 6 := by
  have hm := hG.many
  have hlo := hG.lo
  have hhi := hG.hi
  have h1 : (moreX c k p).sizes.any badS = false := any_false (d := 0) fun j hj => badS_no (by have := hG.size _ (li_mem (l := c.sizes) hj); show ¬ (li c.sizes j < 1 ∨ 1024 < li c.sizes j); omega)
  have h2 : (moreX c k p).bars.any (badB (moreX c k p)) = false := any_false (d := (0, 0)) fun j hj => badB_no (b := lp (moreX c k p).bars j) (by
    have hin := lp_mem hj
    have hb : 0 ≤ (lp (moreX c k p).bars j).1 ∧ (lp (moreX c k p).bars j).1 < c.sizes.length ∧ 0 ≤ (lp (moreX c k p).bars j).2 ∧ (lp (moreX c k p).bars j).2 < c.people := by
      rcases List.mem_append.1 hin with h | h
      · exact hG.bar _ h
      · rw [List.mem_singleton.1 h]; exact ⟨hk.1, hk.2, hp.1, hp.2⟩
    show ¬ (_ ∨ ((c.sizes.length : Int) ≤ _) ∨ _ ∨ (c.people ≤ _))
    omega)
  unfold validC
  rw [if_neg (show ¬ 64 < (moreX c k p).sizes.length by show ¬ 64 < c.sizes.length; omega), if_neg (show ¬ ((moreX c k p).people < 2 ∨ 6 < (moreX c k p).people) by show ¬ (c.people < 2 ∨ 6 < c.people); omega), if_neg (by rw [h1]; decide), if_neg (by rw [h2]; decide)]
  split
  · exact .inr rfl
  · exact .inl rfl
theorem moreX_dom {c : CaseD} (hG : Good c) (k p : Int) : Dom c (moreX c k p) := by
  refine ⟨rfl, rfl, fun i => ⟨(li_rng (l := c.sizes) (m := 0) (M := 1024) (fun y hy => hG.rng y hy) (by omega) i).1, Int.le_refl _⟩, fun i q h => ?_⟩
  unfold openB at *
  show (!(c.bars.any (isBar i q))) = true
  have h2 : (!((c.bars ++ [(k, p)]).any (isBar i q))) = true := h
  rw [List.any_append] at h2
  cases hc : c.bars.any (isBar i q)
  · rfl
  · rw [hc] at h2; simp at h2
theorem moreY_dom {c : CaseD} (hG : Good c) {k d : Int} (hd : 0 ≤ d) : Dom c (moreY c k d) := by
  refine ⟨rfl, by simp [moreY], fun i => ⟨(li_rng (l := c.sizes) (m := 0) (M := 1024) (fun y hy => hG.rng y hy) (by omega) i).1, ?_⟩, fun i q h => h⟩
  show li c.sizes i ≤ li (addAt c.sizes k d) i
  by_cases hi : i < c.sizes.length
  · rw [li_addAt _ _ _ hi]; split <;> omega
  · have e : li c.sizes i = 0 := by unfold li; simp [List.getD_eq_getElem?_getD, hi]
    have e2 : li (addAt c.sizes k d) i = 0 := by unfold li addAt; simp [List.getD_eq_getElem?_getD, hi]
    omega
theorem moreY_good {c : CaseD} (hG : Good c) (h9 : ∀ x, x ∈ c.sizes → x ≤ 9) {k d : Int} (hk : k.toNat < c.sizes.length) (hd : 0 ≤ d ∧ d < 6) : Good (moreY c k d) := by
  refine ⟨by simp [moreY]; exact hG.many, hG.lo, hG.hi, fun x hx => ?_, fun b hb => by simp [moreY]; exact hG.bar b hb, fun i hi => hG.some i (by simpa [moreY] using hi)⟩
  rcases List.mem_or_eq_of_mem_set hx with hx | rfl
  · exact hG.size x hx
  · have := hG.size _ (li_mem hk); have := h9 _ (li_mem hk); omega
set_option maxHeartbeats 2000000
def Fit (c : CaseD) : Prop := Held c ∧ (validC c = 0 → Tail c)
theorem tail_short {c : CaseD} (h : c.sizes.length ≤ 20) : Tail c := fun j h1 h2 => by omega
theorem made_short (l : List Int) : (madeC l).sizes.length ≤ 12 := by rw [made_sizes]; have := madeM_rng l; omega
theorem made_fit (l : List Int) : Fit (madeC l) := ⟨made_held l, fun _ => tail_short (by have := made_short l; omega)⟩
theorem leqB59 {p : Prop} (h : p := by (refine ⟨4, ?_, ?_, rfl, by simp, rfl, fun _ h _ => absurd h (Nat.not_lt_zero _)⟩ <;> (simp only [List.forall_mem_cons]; repeat' (first | refine And.intro ?_ ?_ | (intro p hp; exact absurd hp List.not_mem_nil) | rfl | exact sp (pure_case _) | exact sp (pure_pairs _) | exact sp (pure_cert _) | exact (sealed_pure _ _ _ (pure_ints _)).trans (ren_ints _ _).symm | exact (sealed_pure _ _ _ (pure_strs _)).trans (ren_strs _ _).symm | exact sp (by assumption) | (intro o ho; cases ho; refine ⟨by decide, ?_⟩; first | (refine LeqS.row rfl ?_ ?_; (next => (first | rfl | (simp only [List.map_append, List.map_cons, List.map_nil, List.append_nil, List.nil_append, List.append_assoc, List.cons_append, encI, encS, ints, strs]; done) | (simp [encI, encS, ints, strs, encP, List.map_set, encC, encCert]; done))); (next => (first | rfl | exact pureL_encI _ | exact pureL_encS _ | exact pureL_ints _ | exact pureL_strs _ | exact pureL_encP _ | exact pureL_encC _ | (simp [pureL_append, pureL_encI, pureL_encS, pureL_ints, pureL_strs, pureL, PV.pure, pure_ints, pure_strs, pure_case, pureL_encP, pure_pairs, pure_cert, pureL_encC]; done))); done) | refine ⟨_, rfl, rfl, ?_⟩) | (simp [St.born, St.known, retV, St.get, St.obj, lk, sealed, PV.ren, renL, rmap, AO.ren, ints, strs, encI, encS, map_sealed_encI, map_sealed_encS, map_sealed_ints, map_sealed_strs, map_ren_encI, map_ren_encS, map_ren_ints, map_ren_strs, renL_encI, renL_encS, renL_ints, renL_strs, ren_case, encC, pairs, renL_encP, map_sealed_encP, map_ren_encP, encP, take_map_len, encCert, renL_encC, moreX, moreY, renL_app, renL_put, -List.map_map, List.take_of_length_le] <;> omega)))); first | done | fail) : p := h
theorem lsrB59 {p : Prop} (h : p := by (first | rfl | (simp [St.born, St.known, retV, St.get, St.obj, lk, sealed, PV.ren, renL, rmap, AO.ren, ints, strs, encI, encS, map_sealed_encI, map_sealed_encS, map_sealed_ints, map_sealed_strs, map_ren_encI, map_ren_encS, map_ren_ints, map_ren_strs, renL_encI, renL_encS, renL_ints, renL_strs, ren_case, encC, pairs, renL_encP, map_sealed_encP, map_ren_encP, encP, take_map_len, encCert, renL_encC, moreX, moreY, renL_app, renL_put, -List.map_map, List.take_of_length_le]; done)); first | done | fail) : p := h
theorem lpvB59 {p : Prop} (h : p := by (first | rfl | (simp [pure_ints, pure_strs, PV.pure, pureL, pureL_encI, pureL_encS, pureL_ints, pureL_strs, pure_case, pureL_encP, pure_pairs, pure_cert, pureL_encC]; done)); first | done | fail) : p := h
theorem renL_app (ρ : Nat → Nat) : ∀ a b : List PV, renL ρ (a ++ b) = renL ρ a ++ renL ρ b
  | [], b => rfl
  | x :: a, b => by simp [renL, renL_app ρ a b]
theorem renL_put (ρ : Nat → Nat) (x : PV) : ∀ (a : List PV) (k : Nat), renL ρ (a.set k x) = (renL ρ a).set k (x.ren ρ)
  | [], k => rfl
  | y :: a, 0 => rfl
  | y :: a, k + 1 => by simp [renL, renL_put ρ x a k]
structure Above (c d : CaseD) (i : Nat) : Prop where
  fit : Fit d
  err : validC d = 0 ∨ (validC d = 6 ∧ i = 0)
  best : validC d = 0 → (findC c).least ≤ (findC d).least
  least : validC d = 0 → c.sizes.length ≤ 6 → findN c ≤ findN d
theorem dom_above {c d : CaseD} {i : Nat} (hv : validC c = 0) (h : Dom c d) (hf : Fit d) (he : validC d = 0 ∨ (validC d = 6 ∧ i = 0)) : Above c d i := by
  refine ⟨hf, he, fun hd => ?_, fun hd h6 => find_dom hv hd h h6⟩
  rw [findC_eq hv, findC_eq hd]
  exact best_dom (valid_good hv) (valid_good hd) h
theorem moreX_fit {c : CaseD} (hG : Good c) (hb : c.bars.length ≤ 1000) (hs : c.sizes.length ≤ 12) {k p : Int} (hk : 0 ≤ k ∧ k < c.sizes.length) (hp : 0 ≤ p ∧ p < c.people) : Fit (moreX c k p) := by
  have hlo := hG.lo
  have hhi := hG.hi
  refine ⟨⟨by show c.sizes.length ≤ 1000000; omega, by simp [moreX]; omega, by show I64 c.people; unfold I64; omega, fun x hx => by have := hG.size x hx; unfold I64; omega, fun b hb => ?_⟩, fun _ => tail_short (by show c.sizes.length ≤ 20; omega)⟩
  rcases List.mem_append.1 hb with h | h
  · have := hG.bar b h; unfold I64; omega
  · rw [List.mem_singleton.1 h]; unfold I64; simp only; omega
theorem more_pure (l : List Int) (at_ person more : Int) (hl : Fits l) (ha : I64 at_) (hp : I64 person) (hm : I64 more) (hlv : Pure Try.prog 21 [] (.atom (.bool true)) []) : Pure Try.prog 7 [ints l, encI at_, encI person, encI more] (.atom (.bool true)) [] := by
  have hG := made_good l
  have hc := made_held l
  have hv := made_valid l
  have hms := made_short l
  have hft := made_fit l
  have hbs := made_bars l
  have h9 := made_nine l
  have htm := findC_tame l
  have hMade := Made_pure l hl
  generalize madeC l = c at hG hc hv hms hft hbs h9 htm hMade
  have hlo := hG.lo
  have hhi := hG.hi
  have hFl := findP_len c
  have hF := aFind_pure c hft.1 hft.2
  unfold findR at hF
  rw [hv] at hF
  have hk0 := fun h => around_lo (n := at_) (most := (c.sizes.length : Int)) h
  have hk1 := fun h => around_hi (n := at_) (most := (c.sizes.length : Int)) h
  have hp0 := around_lo (n := person) (most := c.people) (by omega)
  have hp1 := around_hi (n := person) (most := c.people) (by omega)
  have hd0 := around_lo (n := more) (most := 6) (by decide)
  have hd1 := around_hi (n := more) (most := 6) (by decide)
  refine Pure.intro (ts := [8]) Try.func7 (by kernel_rfl) rfl rfl rfl (Nat.le_of_ble_eq_true rfl) ?_ ?_
  · simp [pure_ints, encI, PV.pure, pureL]
  refine sZ [0, 1, 2, 3] (fun P S K => K ⟨[(0, S.get 0), (1, S.get 1), (2, S.get 2), (3, S.get 3)], S.hp, S.nx, S.gh⟩) fun K hK => ?_
  repeat' (first | (refine hK _ ?_; clear hK K) | refine And.intro ?_ ?_ | exact cl | exact one_encP _ | (refine st ?_; try simp only [encC, pairs, encCert, dec_self, renL_encP]) | simp only [encC, pairs, encCert, dec_self, renL_encP])
  all_goals
  refine sZ [1, 2, 3, 9] (fun P S K => XvFnIV P (M S.hp S.nx) (.fn 10 []) [(S.get 0)] (fun r1 ef1 => XvAlloc P 25 (S.nx + ef1.add.length) (fun r2 ef2 => XvStore P 25 (M (Eff.hp ef2 (S.nx + ef1.add.length) (Eff.hp ef1 S.nx S.hp)) ((S.nx + ef1.add.length) + ef2.add.length)) r2 r1 (fun r3 ef3 => K ⟨[(1, S.get 1), (2, S.get 2), (3, S.get 3), (9, r2)], (Eff.hp ef3 ((S.nx + ef1.add.length) + ef2.add.length) (Eff.hp ef2 (S.nx + ef1.add.length) (Eff.hp ef1 S.nx S.hp))), (((S.nx + ef1.add.length) + ef2.add.length) + ef3.add.length), S.gh⟩)))) fun K hK => ?_
  repeat' (first | (refine hK _ ?_; clear hK K) | refine And.intro ?_ ?_ | exact cl | exact one_encP _ | refine .inl ⟨_, _, hMade, ?_⟩ | refine .inl ⟨_, _, hF, ?_⟩ | refine .inl ⟨_, _, hFd, ?_⟩ | refine .inl ⟨_, _, hlv, ?_⟩ | (refine st ?_; try simp only [encC, pairs, encCert, dec_self, renL_encP]) | simp only [encC, pairs, encCert, dec_self, renL_encP])
  all_goals
  refine Tri.seq ?_
  refine sZ [1, 2, 3, 9, 28] (fun P S K => XvFieldAddr P 25 0 (S.get 9) (fun r0 _ => XvLoad P 22 (M S.hp S.nx) r0 (fun r1 _ => XvLen P 22 r1 (fun r2 _ => XvBinOV P .eql 3 (.const (.int .i64 0)) r2 (.atom (.int .i64 0)) (fun r3 _ => K ⟨[(1, S.get 1), (2, S.get 2), (3, S.get 3), (9, S.get 9), (28, r3)], S.hp, S.nx, S.gh⟩))))) fun K hK => ?_
  repeat' (first | (refine hK _ ?_; clear hK K) | refine And.intro ?_ ?_ | exact cl | exact one_encP _ | refine one_take ?_ _ | refine one_drop ?_ _ | (refine st ?_; try simp only [encC, pairs, encCert, dec_self, renL_encP]) | simp only [encC, pairs, encCert, dec_self, renL_encP])
  all_goals
  refine Tri.cond rfl (fun h28 => ?_) (fun h28 => ?_)
  ·try (cases h28; done)
   all_goals (try simp only [CQ] at h28)
   all_goals
   refine sZ [8] (fun P S K => XvFnIV P (M S.hp S.nx) (.fn 21 []) [] (fun r0 ef0 => K ⟨[(8, r0)], (Eff.hp ef0 S.nx S.hp), (S.nx + ef0.add.length), S.gh⟩)) fun K hK => ?_
   repeat' (first | (refine hK _ ?_; clear hK K) | refine And.intro ?_ ?_ | exact cl | exact one_encP _ | refine .inl ⟨_, _, hMade, ?_⟩ | refine .inl ⟨_, _, hF, ?_⟩ | refine .inl ⟨_, _, hFd, ?_⟩ | refine .inl ⟨_, _, hlv, ?_⟩ | (refine st ?_; try simp only [encC, pairs, encCert, dec_self, renL_encP]) | simp only [encC, pairs, encCert, dec_self, renL_encP])
   all_goals
   refine Tri.ret ?_
   show ResOk _ _ _ _
   exact ResOk.val lsrB59 lpvB59
  ·try (cases h28; done)
   all_goals (try simp only [CQ] at h28)
   all_goals
   refine Tri.skip ?_
   refine sZ [2, 3, 9, 10] (fun P S K => XvFieldAddr P 25 0 (S.get 9) (fun r1 _ => XvLoad P 22 (M S.hp S.nx) r1 (fun r2 _ => XvLen P 22 r2 (fun r3 _ => XvFnIV P (M S.hp S.nx) (.fn 35 []) [(S.get 1), r3] (fun r4 ef4 => K ⟨[(2, S.get 2), (3, S.get 3), (9, S.get 9), (10, r4)], (Eff.hp ef4 S.nx S.hp), (S.nx + ef4.add.length), S.gh⟩))))) fun K hK => ?_
   repeat' (first | (refine hK _ ?_; clear hK K) | refine And.intro ?_ ?_ | exact cl | exact one_encP _ | refine one_take ?_ _ | refine one_drop ?_ _ | refine .inl ⟨_, _, hMade, ?_⟩ | refine .inl ⟨_, _, Around_pure at_ c.sizes.length ha (by omega), ?_⟩ | refine .inl ⟨_, _, Around_pure person c.people hp (by omega), ?_⟩ | refine .inl ⟨_, _, Around_pure more 6 hm (by decide), ?_⟩ | refine .inl ⟨_, _, hF, ?_⟩ | refine .inl ⟨_, _, hFd, ?_⟩ | refine .inl ⟨_, _, hlv, ?_⟩ | (refine st ?_; try simp only [encC, pairs, encCert, dec_self, renL_encP]) | simp only [encC, pairs, encCert, dec_self, renL_encP])
   all_goals
   refine Tri.cut (α := Unit) (fun ⟨⟩ => ⟨[(3, encI more), (9, .ptr 0 3 0 0), (10, encI (around at_ c.sizes.length)), (11, .ptr 1 3 0 0)], [(0, some ⟨3, [encC c]⟩), (1, some ⟨3, [encC (moreX c (around at_ c.sizes.length) (around person c.people))]⟩)], 2, []⟩) ?_ ?_
   ·skip
    refine rD 20 [3, 9, 10, 11] (fun P GD S K => XvBuildS P 22 0 S.nx [] (fun r0 ef0 => XvFieldAddr P 25 0 (S.get 9) (fun r1 ef1 => XvLoad P 22 (M (Eff.hp ef0 S.nx S.hp) (S.nx + ef0.add.length)) r1 (fun r2 ef2 => (22 = 22 ∧ XvAppend P 22 (M (Eff.hp ef0 S.nx S.hp) (S.nx + ef0.add.length)) r0 r2 (fun r3 ef3 => XvFieldAddr P 25 1 (S.get 9) (fun r4 ef4 => XvLoad P 3 (M (Eff.hp ef3 (S.nx + ef0.add.length) (Eff.hp ef0 S.nx S.hp)) ((S.nx + ef0.add.length) + ef3.add.length)) r4 (fun r5 ef5 => XvBuildS P 23 0 ((S.nx + ef0.add.length) + ef3.add.length) [] (fun r6 ef6 => XvFieldAddr P 25 2 (S.get 9) (fun r7 ef7 => XvLoad P 23 (M (Eff.hp ef6 ((S.nx + ef0.add.length) + ef3.add.length) (Eff.hp ef3 (S.nx + ef0.add.length) (Eff.hp ef0 S.nx S.hp))) (((S.nx + ef0.add.length) + ef3.add.length) + ef6.add.length)) r7 (fun r8 ef8 => (23 = 23 ∧ XvAppend P 23 (M (Eff.hp ef6 ((S.nx + ef0.add.length) + ef3.add.length) (Eff.hp ef3 (S.nx + ef0.add.length) (Eff.hp ef0 S.nx S.hp))) (((S.nx + ef0.add.length) + ef3.add.length) + ef6.add.length)) r6 r8 (fun r9 ef9 => XvFieldAddr P 25 1 (S.get 9) (fun r12 ef12 => XvLoad P 3 (M (Eff.hp ef9 (((S.nx + ef0.add.length) + ef3.add.length) + ef6.add.length) (Eff.hp ef6 ((S.nx + ef0.add.length) + ef3.add.length) (Eff.hp ef3 (S.nx + ef0.add.length) (Eff.hp ef0 S.nx S.hp)))) ((((S.nx + ef0.add.length) + ef3.add.length) + ef6.add.length) + ef9.add.length)) r12 (fun r13 ef13 => XvFnV P (M (Eff.hp ef9 (((S.nx + ef0.add.length) + ef3.add.length) + ef6.add.length) (Eff.hp ef6 ((S.nx + ef0.add.length) + ef3.add.length) (Eff.hp ef3 (S.nx + ef0.add.length) (Eff.hp ef0 S.nx S.hp)))) ((((S.nx + ef0.add.length) + ef3.add.length) + ef6.add.length) + ef9.add.length)) (.fn 35 []) [(S.get 2), r13] (fun r14 ef14 => XvBuild P 67 [(0, (S.get 10)), (1, r14)] (fun r15 ef15 => XvBuildS P 23 1 (((((S.nx + ef0.add.length) + ef3.add.length) + ef6.add.length) + ef9.add.length) + ef14.add.length) [(0, r15)] (fun r16 ef16 => (23 = 23 ∧ XvAppend P 23 (M (Eff.hp ef16 (((((S.nx + ef0.add.length) + ef3.add.length) + ef6.add.length) + ef9.add.length) + ef14.add.length) (Eff.hp ef14 ((((S.nx + ef0.add.length) + ef3.add.length) + ef6.add.length) + ef9.add.length) (Eff.hp ef9 (((S.nx + ef0.add.length) + ef3.add.length) + ef6.add.length) (Eff.hp ef6 ((S.nx + ef0.add.length) + ef3.add.length) (Eff.hp ef3 (S.nx + ef0.add.length) (Eff.hp ef0 S.nx S.hp)))))) ((((((S.nx + ef0.add.length) + ef3.add.length) + ef6.add.length) + ef9.add.length) + ef14.add.length) + ef16.add.length)) r9 r16 (fun r17 ef17 => XvBuild P 25 [(0, r3), (1, r5), (2, r17)] (fun r18 ef18 => XvAlloc P 25 (((((((S.nx + ef0.add.length) + ef3.add.length) + ef6.add.length) + ef9.add.length) + ef14.add.length) + ef16.add.length) + ef17.add.length) (fun r19 ef19 => (trOk S.nx GD [(Eff.tr ef0 S.nx), ⟨(S.nx + ef0.add.length), 0, ef1.rd, [], []⟩, ⟨(S.nx + ef0.add.length), 0, ef2.rd, [], []⟩, (Eff.tr ef3 (S.nx + ef0.add.length)), ⟨((S.nx + ef0.add.length) + ef3.add.length), 0, ef4.rd, [], []⟩, ⟨((S.nx + ef0.add.length) + ef3.add.length), 0, ef5.rd, [], []⟩, (Eff.tr ef6 ((S.nx + ef0.add.length) + ef3.add.length)), ⟨(((S.nx + ef0.add.length) + ef3.add.length) + ef6.add.length), 0, ef7.rd, [], []⟩, ⟨(((S.nx + ef0.add.length) + ef3.add.length) + ef6.add.length), 0, ef8.rd, [], []⟩, (Eff.tr ef9 (((S.nx + ef0.add.length) + ef3.add.length) + ef6.add.length)), ⟨((((S.nx + ef0.add.length) + ef3.add.length) + ef6.add.length) + ef9.add.length), 0, [], [], []⟩, ⟨((((S.nx + ef0.add.length) + ef3.add.length) + ef6.add.length) + ef9.add.length), 0, [], [], []⟩, ⟨((((S.nx + ef0.add.length) + ef3.add.length) + ef6.add.length) + ef9.add.length), 0, ef12.rd, [], []⟩, ⟨((((S.nx + ef0.add.length) + ef3.add.length) + ef6.add.length) + ef9.add.length), 0, ef13.rd, [], []⟩, (Eff.tr ef14 ((((S.nx + ef0.add.length) + ef3.add.length) + ef6.add.length) + ef9.add.length)), ⟨(((((S.nx + ef0.add.length) + ef3.add.length) + ef6.add.length) + ef9.add.length) + ef14.add.length), 0, ef15.rd, [], []⟩, (Eff.tr ef16 (((((S.nx + ef0.add.length) + ef3.add.length) + ef6.add.length) + ef9.add.length) + ef14.add.length)), (Eff.tr ef17 ((((((S.nx + ef0.add.length) + ef3.add.length) + ef6.add.length) + ef9.add.length) + ef14.add.length) + ef16.add.length)), ⟨(((((((S.nx + ef0.add.length) + ef3.add.length) + ef6.add.length) + ef9.add.length) + ef14.add.length) + ef16.add.length) + ef17.add.length), 0, ef18.rd, [], []⟩, (Eff.tr ef19 (((((((S.nx + ef0.add.length) + ef3.add.length) + ef6.add.length) + ef9.add.length) + ef14.add.length) + ef16.add.length) + ef17.add.length))] = true ∧ XvStore P 25 (M (Eff.hp ef19 (((((((S.nx + ef0.add.length) + ef3.add.length) + ef6.add.length) + ef9.add.length) + ef14.add.length) + ef16.add.length) + ef17.add.length) (Eff.hp ef17 ((((((S.nx + ef0.add.length) + ef3.add.length) + ef6.add.length) + ef9.add.length) + ef14.add.length) + ef16.add.length) (Eff.hp ef16 (((((S.nx + ef0.add.length) + ef3.add.length) + ef6.add.length) + ef9.add.length) + ef14.add.length) (Eff.hp ef14 ((((S.nx + ef0.add.length) + ef3.add.length) + ef6.add.length) + ef9.add.length) (Eff.hp ef9 (((S.nx + ef0.add.length) + ef3.add.length) + ef6.add.length) (Eff.hp ef6 ((S.nx + ef0.add.length) + ef3.add.length) (Eff.hp ef3 (S.nx + ef0.add.length) (Eff.hp ef0 S.nx S.hp)))))))) ((((((((S.nx + ef0.add.length) + ef3.add.length) + ef6.add.length) + ef9.add.length) + ef14.add.length) + ef16.add.length) + ef17.add.length) + ef19.add.length)) r19 r18 (fun r20 ef20 => K ⟨[(3, S.get 3), (9, S.get 9), (10, S.get 10), (11, r19)], (Eff.hp ef20 ((((((((S.nx + ef0.add.length) + ef3.add.length) + ef6.add.length) + ef9.add.length) + ef14.add.length) + ef16.add.length) + ef17.add.length) + ef19.add.length) (Eff.hp ef19 (((((((S.nx + ef0.add.length) + ef3.add.length) + ef6.add.length) + ef9.add.length) + ef14.add.length) + ef16.add.length) + ef17.add.length) (Eff.hp ef17 ((((((S.nx + ef0.add.length) + ef3.add.length) + ef6.add.length) + ef9.add.length) + ef14.add.length) + ef16.add.length) (Eff.hp ef16 (((((S.nx + ef0.add.length) + ef3.add.length) + ef6.add.length) + ef9.add.length) + ef14.add.length) (Eff.hp ef14 ((((S.nx + ef0.add.length) + ef3.add.length) + ef6.add.length) + ef9.add.length) (Eff.hp ef9 (((S.nx + ef0.add.length) + ef3.add.length) + ef6.add.length) (Eff.hp ef6 ((S.nx + ef0.add.length) + ef3.add.length) (Eff.hp ef3 (S.nx + ef0.add.length) (Eff.hp ef0 S.nx S.hp))))))))), (((((((((S.nx + ef0.add.length) + ef3.add.length) + ef6.add.length) + ef9.add.length) + ef14.add.length) + ef16.add.length) + ef17.add.length) + ef19.add.length) + ef20.add.length), S.gh⟩)))))))))))))))))))))))) fun K hK => ?_
    repeat' (first | (refine hK _ ?_; clear hK K) | (refine (?_ : trOk _ _ _ = true); kernel_rfl) | ((first | refine xG_intro (fun hg => ?_) (fun hg => ?_) | refine fun (hg : (_ : Prop)) => ?_) <;> ((try simp only [BQ] at hg); try (exfalso; omega))) | refine And.intro ?_ ?_ | exact cl | exact one_encP _ | refine one_take ?_ _ | refine one_drop ?_ _ | refine .inl ⟨_, _, hMade, ?_⟩ | refine ⟨_, _, hMade, ?_⟩ | refine .inl ⟨_, _, Around_pure at_ c.sizes.length ha (by omega), ?_⟩ | refine ⟨_, _, Around_pure at_ c.sizes.length ha (by omega), ?_⟩ | refine .inl ⟨_, _, Around_pure person c.people hp (by omega), ?_⟩ | refine ⟨_, _, Around_pure person c.people hp (by omega), ?_⟩ | refine .inl ⟨_, _, Around_pure more 6 hm (by decide), ?_⟩ | refine ⟨_, _, Around_pure more 6 hm (by decide), ?_⟩ | refine .inl ⟨_, _, hF, ?_⟩ | refine ⟨_, _, hF, ?_⟩ | refine .inl ⟨_, _, hFd, ?_⟩ | refine ⟨_, _, hFd, ?_⟩ | refine .inl ⟨_, _, hlv, ?_⟩ | refine ⟨_, _, hlv, ?_⟩ | (refine st ?_; try simp only [encC, pairs, encCert, dec_self, renL_encP]) | simp only [encC, pairs, encCert, dec_self, renL_encP])
    all_goals
    refine ⟨(), [0, 7], ?_⟩
    exact leqB59
   ·rintro ⟨⟩
    refine sD 10 [3, 9, 10, 11, 12] (fun P GD S K => XvBuildS P 22 0 S.nx [] (fun r0 ef0 => XvFieldAddr P 25 0 (S.get 9) (fun r1 ef1 => XvLoad P 22 (M (Eff.hp ef0 S.nx S.hp) (S.nx + ef0.add.length)) r1 (fun r2 ef2 => (22 = 22 ∧ XvAppend P 22 (M (Eff.hp ef0 S.nx S.hp) (S.nx + ef0.add.length)) r0 r2 (fun r3 ef3 => XvFieldAddr P 25 1 (S.get 9) (fun r4 ef4 => XvLoad P 3 (M (Eff.hp ef3 (S.nx + ef0.add.length) (Eff.hp ef0 S.nx S.hp)) ((S.nx + ef0.add.length) + ef3.add.length)) r4 (fun r5 ef5 => XvFieldAddr P 25 2 (S.get 9) (fun r6 ef6 => XvLoad P 23 (M (Eff.hp ef3 (S.nx + ef0.add.length) (Eff.hp ef0 S.nx S.hp)) ((S.nx + ef0.add.length) + ef3.add.length)) r6 (fun r7 ef7 => XvBuild P 25 [(0, r3), (1, r5), (2, r7)] (fun r8 ef8 => XvAlloc P 25 ((S.nx + ef0.add.length) + ef3.add.length) (fun r9 ef9 => (trOk S.nx GD [(Eff.tr ef0 S.nx), ⟨(S.nx + ef0.add.length), 0, ef1.rd, [], []⟩, ⟨(S.nx + ef0.add.length), 0, ef2.rd, [], []⟩, (Eff.tr ef3 (S.nx + ef0.add.length)), ⟨((S.nx + ef0.add.length) + ef3.add.length), 0, ef4.rd, [], []⟩, ⟨((S.nx + ef0.add.length) + ef3.add.length), 0, ef5.rd, [], []⟩, ⟨((S.nx + ef0.add.length) + ef3.add.length), 0, ef6.rd, [], []⟩, ⟨((S.nx + ef0.add.length) + ef3.add.length), 0, ef7.rd, [], []⟩, ⟨((S.nx + ef0.add.length) + ef3.add.length), 0, ef8.rd, [], []⟩, (Eff.tr ef9 ((S.nx + ef0.add.length) + ef3.add.length))] = true ∧ XvStore P 25 (M (Eff.hp ef9 ((S.nx + ef0.add.length) + ef3.add.length) (Eff.hp ef3 (S.nx + ef0.add.length) (Eff.hp ef0 S.nx S.hp))) (((S.nx + ef0.add.length) + ef3.add.length) + ef9.add.length)) r9 r8 (fun r10 ef10 => K ⟨[(3, S.get 3), (9, S.get 9), (10, S.get 10), (11, S.get 11), (12, r9)], (Eff.hp ef10 (((S.nx + ef0.add.length) + ef3.add.length) + ef9.add.length) (Eff.hp ef9 ((S.nx + ef0.add.length) + ef3.add.length) (Eff.hp ef3 (S.nx + ef0.add.length) (Eff.hp ef0 S.nx S.hp)))), ((((S.nx + ef0.add.length) + ef3.add.length) + ef9.add.length) + ef10.add.length), S.gh⟩)))))))))))))) fun K hK => ?_
    repeat' (first | (refine hK _ ?_; clear hK K) | (refine (?_ : trOk _ _ _ = true); kernel_rfl) | ((first | refine xG_intro (fun hg => ?_) (fun hg => ?_) | refine fun (hg : (_ : Prop)) => ?_) <;> ((try simp only [BQ] at hg); try (exfalso; omega))) | refine And.intro ?_ ?_ | exact cl | exact one_encP _ | refine one_take ?_ _ | refine one_drop ?_ _ | (refine st ?_; try simp only [encC, pairs, encCert, dec_self, renL_encP]) | simp only [encC, pairs, encCert, dec_self, renL_encP])
    all_goals
    refine Tri.cut (α := Unit) (fun ⟨⟩ => ⟨[(9, .ptr 0 3 0 0), (11, .ptr 1 3 0 0), (12, .ptr 2 3 0 0)], [(0, some ⟨3, [encC c]⟩), (1, some ⟨3, [encC (moreX c (around at_ c.sizes.length) (around person c.people))]⟩), (2, some ⟨3, [encC (moreY c (around at_ c.sizes.length) (around more 6))]⟩)], 3, []⟩) ?_ ?_
    ·skip
     have hkk0 := hk0 (by omega)
     have hkk1 := hk1 (by omega)
     have hsz := hG.size _ (li_mem (show (around at_ c.sizes.length).toNat < c.sizes.length by omega))
     refine rD 12 [9, 11, 12] (fun P GD S K => XvFieldAddr P 25 0 (S.get 12) (fun r0 ef0 => XvLoad P 22 (M S.hp S.nx) r0 (fun r1 ef1 => XvFieldAddr P 25 0 (S.get 12) (fun r3 ef3 => XvLoad P 22 (M S.hp S.nx) r3 (fun r4 ef4 => XvIndexAddr P 22 r4 (S.get 10) (fun r6 ef6 => XvLoad P 3 (M S.hp S.nx) r6 (fun r7 ef7 => XvFnV P (M S.hp S.nx) (.fn 35 []) [(S.get 3), (.atom (.int .i64 6))] (fun r9 ef9 => XvBinOV P .add 3 (.tmp 72) r7 r9 (fun r10 ef10 => XvIndexAddr P 22 r1 (S.get 10) (fun r11 ef11 => (trOk S.nx GD [⟨S.nx, 0, ef0.rd, [], []⟩, ⟨S.nx, 0, ef1.rd, [], []⟩, ⟨S.nx, 0, [], [], []⟩, ⟨S.nx, 0, ef3.rd, [], []⟩, ⟨S.nx, 0, ef4.rd, [], []⟩, ⟨S.nx, 0, [], [], []⟩, ⟨S.nx, 0, ef6.rd, [], []⟩, ⟨S.nx, 0, ef7.rd, [], []⟩, ⟨S.nx, 0, [], [], []⟩, (Eff.tr ef9 S.nx), ⟨(S.nx + ef9.add.length), 0, ef10.rd, [], []⟩, ⟨(S.nx + ef9.add.length), 0, ef11.rd, [], []⟩] = true ∧ XvStore P 3 (M (Eff.hp ef9 S.nx S.hp) (S.nx + ef9.add.length)) r11 r10 (fun r12 ef12 => K ⟨[(9, S.get 9), (11, S.get 11), (12, S.get 12)], (Eff.hp ef12 (S.nx + ef9.add.length) (Eff.hp ef9 S.nx S.hp)), ((S.nx + ef9.add.length) + ef12.add.length), S.gh⟩)))))))))))) fun K hK => ?_
     repeat' (first | (refine hK _ ?_; clear hK K) | (refine (?_ : trOk _ _ _ = true); kernel_rfl) | refine And.intro ?_ ?_ | exact cl | exact one_encP _ | refine one_take ?_ _ | refine one_drop ?_ _ | refine .inl ⟨_, _, hMade, ?_⟩ | refine ⟨_, _, hMade, ?_⟩ | refine .inl ⟨_, _, Around_pure at_ c.sizes.length ha (by omega), ?_⟩ | refine ⟨_, _, Around_pure at_ c.sizes.length ha (by omega), ?_⟩ | refine .inl ⟨_, _, Around_pure person c.people hp (by omega), ?_⟩ | refine ⟨_, _, Around_pure person c.people hp (by omega), ?_⟩ | refine .inl ⟨_, _, Around_pure more 6 hm (by decide), ?_⟩ | refine ⟨_, _, Around_pure more 6 hm (by decide), ?_⟩ | refine .inl ⟨_, _, hF, ?_⟩ | refine ⟨_, _, hF, ?_⟩ | refine .inl ⟨_, _, hFd, ?_⟩ | refine ⟨_, _, hFd, ?_⟩ | refine .inl ⟨_, _, hlv, ?_⟩ | refine ⟨_, _, hlv, ?_⟩ | (refine st ?_; try simp only [encC, pairs, encCert, dec_self, renL_encP, getD_encI (show (around at_ c.sizes.length).toNat < c.sizes.length by omega), wrap_id (x := li c.sizes (around at_ c.sizes.length).toNat + around more 6) (by omega) (by omega)]) | simp only [encC, pairs, encCert, dec_self, renL_encP, getD_encI (show (around at_ c.sizes.length).toNat < c.sizes.length by omega), wrap_id (x := li c.sizes (around at_ c.sizes.length).toNat + around more 6) (by omega) (by omega)])
     all_goals try simp (disch := omega) only [wrap_id, wrap8_id]
     all_goals
     refine ⟨(), [0, 1, 4], ?_⟩
     exact leqB59
    ·rintro ⟨⟩
     have hkk0 := hk0 (by omega)
     have hkk1 := hk1 (by omega)
     have ab0 := dom_above (i := 0) hv (moreX_dom hG (around at_ c.sizes.length) (around person c.people)) (moreX_fit hG (by omega) hms ⟨hkk0, hkk1⟩ ⟨hp0, hp1⟩) ((moreX_valid hG ⟨hkk0, hkk1⟩ ⟨hp0, hp1⟩).imp id fun h => ⟨h, rfl⟩)
     have gY := moreY_good hG h9 (k := around at_ c.sizes.length) (d := around more 6) (by omega) ⟨hd0, hd1⟩
     have ab1 := dom_above (i := 1) hv (moreY_dom hG (k := around at_ c.sizes.length) hd0) ⟨held_of_good gY (by show c.bars.length ≤ 1000000; omega), fun _ => tail_short (by simp [moreY]; omega)⟩ (.inl (valid_of_good gY))
     generalize moreX c (around at_ c.sizes.length) (around person c.people) = X at ab0
     generalize moreY c (around at_ c.sizes.length) (around more 6) = Y at ab1
     have hds : ∀ i, i < 2 → Above c ([X, Y].getD i ⟨[], 0, []⟩) i := fun i hi => by
       match i, hi with
       | 0, _ => exact ab0
       | 1, _ => exact ab1
     have hLe : PV.sl 3 [encC X, encC Y] = .sl 3 ([X, Y].map encC) := rfl
     have hXs : [X, Y].length = 2 := rfl
     generalize hXe : [X, Y] = Xs at hds hLe hXs
     refine sZ [9, 11, 12, 14, 15, 16] (fun P S K => XvLoad P 25 (M S.hp S.nx) (S.get 9) (fun r0 _ => XvFnIV P (M S.hp S.nx) (.fn 16 []) [r0] (fun r1 ef1 => XvFnIV P (M (Eff.hp ef1 S.nx S.hp) (S.nx + ef1.add.length)) (.fn 22 []) [r1] (fun r2 ef2 => XvExtract r2 0 (fun r4 _ => XvExtract r2 1 (fun r5 _ => XvExtract r2 2 (fun r6 _ => XvExtract r2 3 (fun r7 _ => XvAlloc P 47 ((S.nx + ef1.add.length) + ef2.add.length) (fun r8 ef8 => XvStore P 47 (M (Eff.hp ef8 ((S.nx + ef1.add.length) + ef2.add.length) (Eff.hp ef2 (S.nx + ef1.add.length) (Eff.hp ef1 S.nx S.hp))) (((S.nx + ef1.add.length) + ef2.add.length) + ef8.add.length)) r8 r6 (fun r11 ef11 => K ⟨[(9, S.get 9), (11, S.get 11), (12, S.get 12), (14, r5), (15, r8), (16, r7)], (Eff.hp ef11 (((S.nx + ef1.add.length) + ef2.add.length) + ef8.add.length) (Eff.hp ef8 ((S.nx + ef1.add.length) + ef2.add.length) (Eff.hp ef2 (S.nx + ef1.add.length) (Eff.hp ef1 S.nx S.hp)))), ((((S.nx + ef1.add.length) + ef2.add.length) + ef8.add.length) + ef11.add.length), S.gh⟩)))))))))) fun K hK => ?_
     repeat' (first | (refine hK _ ?_; clear hK K) | refine And.intro ?_ ?_ | exact cl | exact one_encP _ | refine one_take ?_ _ | refine one_drop ?_ _ | refine .inl ⟨_, _, hMade, ?_⟩ | refine .inl ⟨_, _, own_pure c, ?_⟩ | refine .inl ⟨_, _, own_pure d, ?_⟩ | refine .inl ⟨_, _, hF, ?_⟩ | refine .inl ⟨_, _, hFd, ?_⟩ | refine .inl ⟨_, _, hlv, ?_⟩ | (refine st ?_; try simp only [encC, pairs, encCert, dec_self, renL_encP]) | simp only [encC, pairs, encCert, dec_self, renL_encP])
     all_goals
     refine Tri.seq ?_
     refine sZ [9, 11, 12, 14, 15, 84] (fun P S K => XvBinOV P .neq 32 (.const (.int .i64 0)) (S.get 16) (.atom (.int .i64 0)) (fun r1 _ => K ⟨[(9, S.get 9), (11, S.get 11), (12, S.get 12), (14, S.get 14), (15, S.get 15), (84, r1)], S.hp, S.nx, S.gh⟩)) fun K hK => ?_
     repeat' (first | (refine hK _ ?_; clear hK K) | refine And.intro ?_ ?_ | exact cl | exact one_encP _ | (refine st ?_; try simp only [encC, pairs, encCert, dec_self, renL_encP]) | simp only [encC, pairs, encCert, dec_self, renL_encP])
     all_goals
     refine Tri.cond rfl (fun h84 => ?_) (fun h84 => ?_)
     ·try (cases h84; done)
      all_goals (try simp only [CQ] at h84)
      all_goals
      refine sZ [8] (fun P S K => K ⟨[(8, (.atom (.bool false)))], S.hp, S.nx, S.gh⟩) fun K hK => ?_
      repeat' (first | (refine hK _ ?_; clear hK K) | refine And.intro ?_ ?_ | exact cl | exact one_encP _ | (refine st ?_; try simp only [encC, pairs, encCert, dec_self, renL_encP]) | simp only [encC, pairs, encCert, dec_self, renL_encP])
      all_goals
      refine Tri.ret ?_
      show ResOk _ _ _ _
      exact ResOk.val lsrB59 lpvB59
     ·try (cases h84; done)
      all_goals (try simp only [CQ] at h84)
      all_goals
      refine Tri.skip ?_
      refine sZ [9, 14, 15, 17] (fun P S K => XvLoad P 25 (M S.hp S.nx) (S.get 11) (fun r0 _ => XvLoad P 25 (M S.hp S.nx) (S.get 12) (fun r1 _ => XvBuildS P 29 2 S.nx [(0, r0), (1, r1)] (fun r2 ef2 => K ⟨[(9, S.get 9), (14, S.get 14), (15, S.get 15), (17, r2)], (Eff.hp ef2 S.nx S.hp), (S.nx + ef2.add.length), S.gh⟩)))) fun K hK => ?_
      repeat' (first | (refine hK _ ?_; clear hK K) | refine And.intro ?_ ?_ | exact cl | exact one_encP _ | refine one_take ?_ _ | refine one_drop ?_ _ | (refine st ?_; try simp only [encC, pairs, encCert, dec_self, renL_encP]) | simp only [encC, pairs, encCert, dec_self, renL_encP])
      all_goals
      refine Tri.seq ?_
      refine sZ [9, 14, 15, 17, 18] (fun P S K => K ⟨[(9, S.get 9), (14, S.get 14), (15, S.get 15), (17, S.get 17), (18, (.atom (.int .i64 0)))], S.hp, S.nx, S.gh⟩) fun K hK => ?_
      repeat' (first | (refine hK _ ?_; clear hK K) | refine And.intro ?_ ?_ | exact cl | exact one_encP _ | (refine st ?_; try simp only [encC, pairs, encCert, dec_self, renL_encP]) | simp only [encC, pairs, encCert, dec_self, renL_encP])
      all_goals
      refine Tri.block ?_
      refine Tri.loop (α := (i : Nat) ×' (i ≤ 2)) (fun z => (fun (i : Nat) => (⟨[(9, .ptr 0 3 0 0), (14, encI (findN c)), (15, .ptr 1 3 0 0), (17, .sl 3 (Xs.map encC)), (18, encI i)], [(0, some ⟨3, [encC c]⟩), (1, some ⟨3, [encCert (findC c)]⟩)], 2, []⟩ : St)) z.1) (fun z => (fun (i : Nat) => 2 - i) z.1) ⟨0, by omega⟩ [0, 3] ?_ ?_
      ·subst hXe
       exact leqB59
      ·rintro ⟨i, hi⟩
       refine Tri.seq ?_
       refine sZ [9, 14, 15, 17, 18, 89] (fun P S K => XvBinOV P .lss 3 (.const (.int .i64 2)) (S.get 18) (.atom (.int .i64 2)) (fun r1 _ => K ⟨[(9, S.get 9), (14, S.get 14), (15, S.get 15), (17, S.get 17), (18, S.get 18), (89, r1)], S.hp, S.nx, S.gh⟩)) fun K hK => ?_
       repeat' (first | (refine hK _ ?_; clear hK K) | refine And.intro ?_ ?_ | exact cl | exact one_encP _ | (refine st ?_; try simp only [encC, pairs, encCert, dec_self, renL_encP]) | simp only [encC, pairs, encCert, dec_self, renL_encP])
       all_goals
       refine Tri.cond rfl (fun h89 => ?_) (fun h89 => ?_)
       ·try (cases h89; done)
        all_goals (try simp only [CQ] at h89)
        all_goals
        refine Tri.skip ?_
        refine Tri.seq ?_
        refine Tri.block ?_
        have hil : i < Xs.length := by omega
        have hge := getD_encC hil
        have hab := hds i (by omega)
        generalize Xs.getD i ⟨[], 0, []⟩ = d at hab hge
        obtain ⟨f1, f2, f3, f4⟩ := hab
        have hFd := aFind_pure d f1.1 f1.2
        have hdl := findP_len d
        have hdm := f1.1.sizes
        unfold findR at hFd
        generalize validC d = e at hFd f2 f3 f4
        refine sZ [9, 14, 15, 17, 18, 20, 21, 22] (fun P S K => XvIndexAddr P 29 (S.get 17) (S.get 18) (fun r2 _ => XvLoad P 25 (M S.hp S.nx) r2 (fun r3 _ => XvFnIV P (M S.hp S.nx) (.fn 16 []) [r3] (fun r4 ef4 => XvFnIV P (M (Eff.hp ef4 S.nx S.hp) (S.nx + ef4.add.length)) (.fn 22 []) [r4] (fun r5 ef5 => XvExtract r5 0 (fun r7 _ => XvExtract r5 1 (fun r8 _ => XvExtract r5 2 (fun r9 _ => XvExtract r5 3 (fun r10 _ => XvAlloc P 47 ((S.nx + ef4.add.length) + ef5.add.length) (fun r11 ef11 => XvStore P 47 (M (Eff.hp ef11 ((S.nx + ef4.add.length) + ef5.add.length) (Eff.hp ef5 (S.nx + ef4.add.length) (Eff.hp ef4 S.nx S.hp))) (((S.nx + ef4.add.length) + ef5.add.length) + ef11.add.length)) r11 r9 (fun r14 ef14 => K ⟨[(9, S.get 9), (14, S.get 14), (15, S.get 15), (17, S.get 17), (18, S.get 18), (20, r8), (21, r11), (22, r10)], (Eff.hp ef14 (((S.nx + ef4.add.length) + ef5.add.length) + ef11.add.length) (Eff.hp ef11 ((S.nx + ef4.add.length) + ef5.add.length) (Eff.hp ef5 (S.nx + ef4.add.length) (Eff.hp ef4 S.nx S.hp)))), ((((S.nx + ef4.add.length) + ef5.add.length) + ef11.add.length) + ef14.add.length), S.gh⟩))))))))))) fun K hK => ?_
        repeat' (first | (refine hK _ ?_; clear hK K) | refine And.intro ?_ ?_ | exact cl | exact one_encP _ | refine one_take ?_ _ | refine one_drop ?_ _ | refine .inl ⟨_, _, hMade, ?_⟩ | refine .inl ⟨_, _, own_pure c, ?_⟩ | refine .inl ⟨_, _, own_pure d, ?_⟩ | refine .inl ⟨_, _, hF, ?_⟩ | refine .inl ⟨_, _, hFd, ?_⟩ | refine .inl ⟨_, _, hlv, ?_⟩ | (refine st ?_; try simp only [encC, pairs, encCert, dec_self, renL_encP, hge]) | simp only [encC, pairs, encCert, dec_self, renL_encP, hge])
        all_goals
        refine Tri.seq ?_
        refine sZ [9, 14, 15, 17, 18, 20, 21, 22, 108] (fun P S K => XvBinOV P .eql 32 (.const (.int .i64 6)) (S.get 22) (.atom (.int .i64 6)) (fun r1 _ => Xgq r1 true (fun k => k (S.get 18)) (fun g3 r3 => Xgq g3 true (fun k => XvBinOV P .eql 3 (.const (.int .i64 0)) r3 (.atom (.int .i64 0)) (fun r4 _ => k r4)) (fun g4 r4 => XvPick g4 r4 (.atom (.bool false)) (fun r5 _ => K ⟨[(9, S.get 9), (14, S.get 14), (15, S.get 15), (17, S.get 17), (18, S.get 18), (20, S.get 20), (21, S.get 21), (22, S.get 22), (108, r5)], S.hp, S.nx, S.gh⟩))))) fun K hK => ?_
        repeat' (first | (refine hK _ ?_; clear hK K) | ((first | refine xG_intro (fun hg => ?_) (fun hg => ?_) | refine fun (hg : (_ : Prop)) => ?_) <;> ((try simp only [BQ] at hg); try (exfalso; omega))) | refine And.intro ?_ ?_ | exact cl | exact one_encP _ | refine one_take ?_ _ | refine one_drop ?_ _ | (refine st ?_; try simp only [encC, pairs, encCert, dec_self, renL_encP]) | simp only [encC, pairs, encCert, dec_self, renL_encP])
        all_goals
        refine Tri.cond rfl (fun h108 => ?_) (fun h108 => ?_)
        ·try (cases h108; done)
         all_goals (try simp only [CQ] at h108)
         all_goals
         refine Tri.exit ?_
         refine rZ [9, 14, 15, 17, 18] (fun P S K => XvBinOV P .add 3 (.const (.int .i64 1)) (S.get 18) (.atom (.int .i64 1)) (fun r1 _ => K ⟨[(9, S.get 9), (14, S.get 14), (15, S.get 15), (17, S.get 17), (18, r1)], S.hp, S.nx, S.gh⟩)) fun K hK => ?_
         repeat' (first | (refine hK _ ?_; clear hK K) | refine And.intro ?_ ?_ | exact cl | exact one_encP _ | (refine st ?_; try simp only [encC, pairs, encCert, dec_self, renL_encP]) | simp only [encC, pairs, encCert, dec_self, renL_encP])
         all_goals try simp (disch := omega) only [wrap_id, wrap8_id]
         all_goals
         refine ⟨⟨i + 1, by omega⟩, [0, 1], by dsimp only; omega, ?_⟩
         exact leqB59
        ·try (cases h108; done)
         all_goals (try simp only [CQ] at h108)
         all_goals
         refine Tri.skip ?_
         refine sZ [9, 14, 15, 17, 18, 128] (fun P S K => XvBinOV P .neq 32 (.const (.int .i64 0)) (S.get 22) (.atom (.int .i64 0)) (fun r1 _ => Xgq r1 false (fun k => XvFieldAddr P 47 2 (S.get 21) (fun r3 _ => k r3)) (fun g3 r3 => Xgq g3 false (fun k => XvLoad P 3 (M S.hp S.nx) r3 (fun r4 _ => k r4)) (fun g4 r4 => Xgq g4 false (fun k => XvFieldAddr P 47 2 (S.get 15) (fun r5 _ => k r5)) (fun g5 r5 => Xgq g5 false (fun k => XvLoad P 3 (M S.hp S.nx) r5 (fun r6 _ => k r6)) (fun g6 r6 => Xgq g6 false (fun k => XvBinOV P .lss 3 (.tmp 115) r4 r6 (fun r7 _ => k r7)) (fun g7 r7 => XvPick g7 (.atom (.bool true)) r7 (fun r8 _ => Xgq r8 false (fun k => XvFieldAddr P 25 0 (S.get 9) (fun r10 _ => k r10)) (fun g10 r10 => Xgq g10 false (fun k => XvLoad P 22 (M S.hp S.nx) r10 (fun r11 _ => k r11)) (fun g11 r11 => Xgq g11 false (fun k => XvLen P 22 r11 (fun r12 _ => k r12)) (fun g12 r12 => Xgq g12 false (fun k => XvBinOV P .leq 3 (.const (.int .i64 6)) r12 (.atom (.int .i64 6)) (fun r13 _ => k r13)) (fun g13 r13 => Xgq g13 false (fun k => k r13) (fun g14 r14 => Xgq r14 true (fun k => k (S.get 20)) (fun g15 r15 => Xgq g15 true (fun k => k (S.get 14)) (fun g16 r16 => Xgq g16 true (fun k => XvBinOV P .lss 3 (.tmp 125) r15 r16 (fun r17 _ => k r17)) (fun g17 r17 => Xgq g14 false (fun k => XvPick g17 r17 (.atom (.bool false)) (fun r18 _ => k r18)) (fun g18 r18 => XvPick g18 (.atom (.bool true)) r18 (fun r19 _ => K ⟨[(9, S.get 9), (14, S.get 14), (15, S.get 15), (17, S.get 17), (18, S.get 18), (128, r19)], S.hp, S.nx, S.gh⟩)))))))))))))))))) fun K hK => ?_
         repeat' (first | (refine hK _ ?_; clear hK K) | ((first | refine xG_intro (fun hg => ?_) (fun hg => ?_) | refine fun (hg : (_ : Prop)) => ?_) <;> ((try simp only [BQ] at hg); try (exfalso; omega))) | refine And.intro ?_ ?_ | exact cl | exact one_encP _ | refine one_take ?_ _ | refine one_drop ?_ _ | (refine st ?_; try simp only [encC, pairs, encCert, dec_self, renL_encP]) | simp only [encC, pairs, encCert, dec_self, renL_encP])
         all_goals
         refine Tri.cond rfl (fun h128 => ?_) (fun h128 => ?_)
         ·try (cases h128; done)
          all_goals (try simp only [CQ] at h128)
          all_goals
          refine sZ [8] (fun P S K => K ⟨[(8, (.atom (.bool false)))], S.hp, S.nx, S.gh⟩) fun K hK => ?_
          repeat' (first | (refine hK _ ?_; clear hK K) | refine And.intro ?_ ?_ | exact cl | exact one_encP _ | (refine st ?_; try simp only [encC, pairs, encCert, dec_self, renL_encP]) | simp only [encC, pairs, encCert, dec_self, renL_encP])
          all_goals
          refine Tri.ret ?_
          show ResOk _ _ _ _
          exact ResOk.val lsrB59 lpvB59
         ·try (cases h128; done)
          all_goals (try simp only [CQ] at h128)
          all_goals
          refine Tri.skip ?_
          refine rZ [9, 14, 15, 17, 18] (fun P S K => XvBinOV P .add 3 (.const (.int .i64 1)) (S.get 18) (.atom (.int .i64 1)) (fun r1 _ => K ⟨[(9, S.get 9), (14, S.get 14), (15, S.get 15), (17, S.get 17), (18, r1)], S.hp, S.nx, S.gh⟩)) fun K hK => ?_
          repeat' (first | (refine hK _ ?_; clear hK K) | refine And.intro ?_ ?_ | exact cl | exact one_encP _ | (refine st ?_; try simp only [encC, pairs, encCert, dec_self, renL_encP]) | simp only [encC, pairs, encCert, dec_self, renL_encP])
          all_goals try simp (disch := omega) only [wrap_id, wrap8_id]
          all_goals
          refine ⟨⟨i + 1, by omega⟩, [0, 1], by dsimp only; omega, ?_⟩
          exact leqB59
       ·try (cases h89; done)
        all_goals (try simp only [CQ] at h89)
        all_goals
        refine Tri.exit ?_
        refine sZ [8] (fun P S K => XvFnIV P (M S.hp S.nx) (.fn 21 []) [] (fun r0 ef0 => K ⟨[(8, r0)], (Eff.hp ef0 S.nx S.hp), (S.nx + ef0.add.length), S.gh⟩)) fun K hK => ?_
        repeat' (first | (refine hK _ ?_; clear hK K) | refine And.intro ?_ ?_ | exact cl | exact one_encP _ | refine .inl ⟨_, _, hMade, ?_⟩ | refine .inl ⟨_, _, hF, ?_⟩ | refine .inl ⟨_, _, hFd, ?_⟩ | refine .inl ⟨_, _, hlv, ?_⟩ | (refine st ?_; try simp only [encC, pairs, encCert, dec_self, renL_encP]) | simp only [encC, pairs, encCert, dec_self, renL_encP])
        all_goals
        refine Tri.ret ?_
        show ResOk _ _ _ _
        exact ResOk.val lsrB59 lpvB59
end Go.Proofs.Ytcdeilgijleoaaa
