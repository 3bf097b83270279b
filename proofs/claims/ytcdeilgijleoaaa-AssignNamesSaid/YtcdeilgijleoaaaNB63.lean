/-
  Plain: no assignment of few passages has a lesser greatest load than that of Find.
-/
import Derived.Test.YtcdeilgijleoaaaNB48
import Derived.Test.YtcdeilgijleoaaaNB50
import Derived.Test.YtcdeilgijleoaaaNA1
set_option linter.all false
namespace Go.Proofs.Ytcdeilgijleoaaa
open Go Go.RowKit
set_option maxRecDepth 20000
theorem findN_eq {c : CaseD} (hv : validC c = 0) : findN c = greatest (loadsR c (findP c)) := if_neg (by omega)
theorem findC_eq {c : CaseD} (hv : validC c = 0) : findC c = bestS c := if_neg (by omega)
theorem run_small {c : CaseD} (hG : Good c) {ps : List (Int × Int)} (hn : ps.length ≤ 64) : greatest (runL c 0 (zerosL c) ps) < 1048576 := by
  have := greatest_le (l := runL c 0 (zerosL c) ps) (m := 0 + 2048 * ps.length) (by omega) fun x hx => (runL_rng hG.rng ps 0 (zerosL c) 0 (Int.le_refl _) (zeros_rng c) x hx).2
  omega
theorem find_small {c : CaseD} (hv : validC c = 0) (h6 : c.sizes.length ≤ 6) : findN c = (searchF c c.sizes.length (zerosL c) 1048576).2.1 := by
  have hG := valid_good hv
  have hP : findP c = (searchF c c.sizes.length (zerosL c) 1048576).1 := by unfold findP; rw [if_neg (by omega), if_pos h6]; rfl
  have hf := searchF_found (c := c) c.sizes.length (zerosL c) 1048576 (Nat.le_refl _) (search_good hG (by omega))
  rw [Nat.sub_self] at hf
  rw [findN_eq hv, hP, (fits_loads hG hv hf.1 hf.2.1).2, hf.2.2.1]
theorem findN_min {c : CaseD} (hv : validC c = 0) (h6 : c.sizes.length ≤ 6) {ps : List (Int × Int)} (hlen : ps.length = c.sizes.length) (hf : fitsL c 0 ps) : findN c ≤ greatest (runL c 0 (zerosL c) ps) := by
  have hG := valid_good hv
  have hs := run_small hG (ps := ps) (by omega)
  have := (searchF_min (by have := hG.lo; omega) hG.pos c.sizes.length (zerosL c) 1048576 ps (zeros_ok c) (Nat.le_refl _) hlen (by rw [Nat.sub_self]; exact hf) (by rw [Nat.sub_self]; exact hs)).2
  rw [Nat.sub_self] at this
  rw [find_small hv h6]; exact this
structure Dom (c d : CaseD) : Prop where
  people : d.people = c.people
  len : d.sizes.length = c.sizes.length
  size : ∀ i, 0 ≤ li c.sizes i ∧ li c.sizes i ≤ li d.sizes i
  bars : ∀ (i p : Int), openB d i p = true → openB c i p = true
theorem sumW_append (g : Int → Int) : ∀ a b : List Int, sumW g (a ++ b) = sumW g a + sumW g b
  | [], b => by simp [sumW]
  | x :: r, b => by rw [List.cons_append, sumW, sumW, sumW_append g r b]; omega
def needF (c : CaseD) (S : List Int) (i : Nat) : Int := li c.sizes i * needS c i S
theorem some_sum (c : CaseD) (S : List Int) : ∀ k, sumS c (someS c S k) S = sumF (needF c S) k
  | 0 => rfl
  | k + 1 => by
    have ih := some_sum c S k
    have hr := needS_rng c (k : Int) S
    rw [sumS_W] at ih ⊢
    rw [someS, sumW_append, ih, sumF]
    congr 1
    split
    · simp only [sumW, needF, Int.toNat_natCast, Int.add_zero]
    · have : needS c (k : Int) S = 0 := by omega
      rw [needF, this, Int.mul_zero]; rfl
structure Ren (c d : CaseD) (σ : Nat → Nat) : Prop where
  people : d.people = c.people
  sizes : d.sizes = c.sizes
  perm : ((List.range c.people.toNat).map σ).Perm (List.range c.people.toNat)
  bars : ∀ (i : Int) (p : Nat), p < c.people.toNat → openB d i (σ p) = openB c i p
theorem perm_lt {σ : Nat → Nat} {n : Nat} (h : ((List.range n).map σ).Perm (List.range n)) {p : Nat} (hp : p < n) : σ p < n :=
  List.mem_range.1 (h.mem_iff.1 (List.mem_map.2 ⟨p, List.mem_range.2 hp, rfl⟩))
theorem perm_onto {σ : Nat → Nat} {n : Nat} (h : ((List.range n).map σ).Perm (List.range n)) {q : Nat} (hq : q < n) : ∃ p, p < n ∧ σ p = q := by
  obtain ⟨p, hp, e⟩ := List.mem_map.1 (h.mem_iff.2 (List.mem_range.2 hq))
  exact ⟨p, List.mem_range.1 hp, e⟩
theorem perm_inj {σ : Nat → Nat} {n : Nat} (h : ((List.range n).map σ).Perm (List.range n)) {p q : Nat} (hp : p < n) (hq : q < n) (e : σ p = σ q) : p = q := by
  have hn : ((List.range n).map σ).Nodup := h.nodup_iff.2 List.nodup_range
  have h2 := List.pairwise_iff_getElem.1 hn
  rcases Nat.lt_trichotomy p q with g | g | g
  · have := h2 p q (by simpa using hp) (by simpa using hq) g
    simp at this; exact absurd e this
  · exact g
  · have := h2 q p (by simpa using hq) (by simpa using hp) g
    simp at this; exact absurd e.symm this
theorem perm_count {σ : Nat → Nat} {n : Nat} (h : ((List.range n).map σ).Perm (List.range n)) (f : Nat → Bool) : ((List.range n).filter f).length = ((List.range n).filter fun p => f (σ p)).length := by
  rw [← (h.filter f).length_eq, List.filter_map, List.length_map]; rfl
noncomputable def back_ (n : Nat) (σ : Nat → Nat) (q : Nat) : Nat := by
  classical exact if h : ∃ p, p < n ∧ σ p = q then Classical.choose h else q
theorem back_of {σ : Nat → Nat} {n : Nat} (h : ((List.range n).map σ).Perm (List.range n)) {p : Nat} (hp : p < n) : back_ n σ (σ p) = p := by
  unfold back_
  have hx : ∃ r, r < n ∧ σ r = σ p := ⟨p, hp, rfl⟩
  rw [dif_pos hx]
  exact perm_inj h (Classical.choose_spec hx).1 hp (Classical.choose_spec hx).2
theorem Ren.symm {c d : CaseD} {σ : Nat → Nat} (h : Ren c d σ) : Ren d c (back_ c.people.toNat σ) := by
  have hp := h.perm
  refine ⟨h.people.symm, h.sizes.symm, ?_, fun i q hq => ?_⟩
  · rw [h.people]
    refine (hp.map (back_ c.people.toNat σ)).symm.trans ?_
    have e : (List.range c.people.toNat).map (back_ c.people.toNat σ ∘ σ) = (List.range c.people.toNat).map id := List.map_congr_left fun p hm => back_of hp (List.mem_range.1 hm)
    rw [List.map_map, e, List.map_id]
  · rw [h.people] at hq
    obtain ⟨p, h1, rfl⟩ := perm_onto hp hq
    rw [back_of hp h1, h.bars i p h1]
theorem openN_count (c : CaseD) (i : Int) (k : Nat) : openN c i k = ((List.range k).filter fun p => openB c i (p : Nat)).length := rfl
theorem filter_cong {f g : Nat → Bool} {n : Nat} (h : ∀ p, p < n → f p = g p) : ((List.range n).filter f).length = ((List.range n).filter g).length := by
  rw [List.filter_congr fun p hp => h p (List.mem_range.1 hp)]
theorem Ren.openN {c d : CaseD} {σ : Nat → Nat} (h : Ren c d σ) (i : Int) : openN d i d.people.toNat = openN c i c.people.toNat := by
  rw [openN_count, openN_count, h.people, perm_count h.perm]
  exact filter_cong fun p hp => h.bars i p hp
theorem Ren.good {c d : CaseD} {σ : Nat → Nat} (h : Ren c d σ) (hG : Good c) (hb : ∀ b, b ∈ d.bars → 0 ≤ b.1 ∧ b.1 < c.sizes.length ∧ 0 ≤ b.2 ∧ b.2 < c.people) : Good d := by
  refine ⟨by rw [h.sizes]; exact hG.many, by rw [h.people]; exact hG.lo, by rw [h.people]; exact hG.hi, by rw [h.sizes]; exact hG.size, fun b hm => by rw [h.sizes, h.people]; exact hb b hm, fun i hi => ?_⟩
  rw [h.openN]; exact hG.some i (by rw [← h.sizes]; exact hi)
def imgB (n : Nat) (σ : Nat → Nat) (S : List Int) (q : Nat) : Bool := (List.range n).any fun p => decide (σ p = q) && S.contains (p : Int)
def imgS (n : Nat) (σ : Nat → Nat) (S : List Int) : List Int := nI ((List.range n).filter (imgB n σ S))
theorem imgB_at {σ : Nat → Nat} {n : Nat} (h : ((List.range n).map σ).Perm (List.range n)) (S : List Int) {p : Nat} (hp : p < n) : imgB n σ S (σ p) = S.contains (p : Int) := by
  unfold imgB
  cases hc : S.contains (p : Int)
  · refine rangeAny_false fun j hj => ?_
    by_cases e : σ j = σ p
    · rw [perm_inj h hj hp e, hc, Bool.and_false]
    · rw [decide_eq_false e]; rfl
  · exact rangeAny_true hp (by rw [decide_eq_true rfl, hc]; rfl)
theorem imgS_at {σ : Nat → Nat} {n : Nat} (S : List Int) {q : Nat} (hq : q < n) : (imgS n σ S).contains (q : Int) = imgB n σ S q := by
  unfold imgS nI
  rw [List.contains_eq_any_beq, Bool.eq_iff_iff, List.any_eq_true]
  constructor
  · rintro ⟨x, hx, e⟩
    obtain ⟨r, hr, rfl⟩ := List.mem_map.1 hx
    have : q = r := by have := eq_of_beq e; omega
    rw [this]; exact (List.mem_filter.1 hr).2
  · intro hb
    exact ⟨(q : Int), List.mem_map.2 ⟨q, List.mem_filter.2 ⟨List.mem_range.2 hq, hb⟩, rfl⟩, beq_self_eq_true _⟩
theorem sets_count : ∀ n : Fin 7, ∀ l, l ∈ setsN n.1 → ((List.range n.1).filter fun (p : Nat) => l.contains (p : Int)).length = l.length := by decide +kernel
theorem sets_six : ∀ (a b c d e g : Bool) (n : Fin 7), 0 < ((List.range n.1).filter (fnB a b c d e g)).length → nI ((List.range n.1).filter (fnB a b c d e g)) ∈ setsN n.1 := by decide +kernel
theorem sets_has {n : Nat} (h : n ≤ 6) (f : Nat → Bool) (h0 : 0 < ((List.range n).filter f).length) : nI ((List.range n).filter f) ∈ setsN n := by
  have e : (List.range n).filter f = (List.range n).filter (fnB (f 0) (f 1) (f 2) (f 3) (f 4) (f 5)) := List.filter_congr fun q hq => fnB_of f (by have := List.mem_range.1 hq; omega)
  rw [e] at h0 ⊢
  exact sets_six _ _ _ _ _ _ ⟨n, by omega⟩ h0
theorem img_len {σ : Nat → Nat} {n : Nat} (hn : n ≤ 6) (h : ((List.range n).map σ).Perm (List.range n)) {S : List Int} (hS : S ∈ setsN n) : ((List.range n).filter (imgB n σ S)).length = S.length := by
  rw [perm_count h, ← sets_count ⟨n, by omega⟩ S hS]
  exact filter_cong fun p hp => imgB_at h S hp
theorem img_in {σ : Nat → Nat} {n : Nat} (hn : n ≤ 6) (h : ((List.range n).map σ).Perm (List.range n)) {S : List Int} (hS : S ∈ setsN n) : imgS n σ S ∈ setsN n ∧ (imgS n σ S).length = S.length := by
  have hl := img_len hn h hS
  refine ⟨sets_has hn _ (by rw [hl]; exact (sets_mem hn hS).1), ?_⟩
  unfold imgS nI
  rw [List.length_map, hl]
theorem Ren.need {c d : CaseD} {σ : Nat → Nat} (h : Ren c d σ) (i : Int) (S : List Int) : needS d i (imgS c.people.toNat σ S) = needS c i S := by
  rw [needS_open, needS_open, h.people]
  unfold shutN
  rw [perm_count h.perm]
  rw [filter_cong (g := fun p => !S.contains (p : Int) && openB c i p) fun p hp => by
    rw [imgS_at S (perm_lt h.perm hp), imgB_at h.perm S hp, h.bars i p hp]]
theorem Ren.set {c d : CaseD} {σ : Nat → Nat} (h : Ren c d σ) (h6 : c.people ≤ 6) {S : List Int} (hS : S ∈ setsN c.people.toNat) : (setX d (imgS c.people.toNat σ S)).least = (setX c S).least := by
  have hl := (img_in (by omega) h.perm hS).2
  show countedS d (someS d _ d.sizes.length) _ = countedS c (someS c S c.sizes.length) S
  unfold countedS
  rw [some_sum, some_sum, hl, h.sizes]
  have e : needF d (imgS c.people.toNat σ S) = needF c S := by
    funext j
    unfold needF
    rw [h.need, h.sizes]
  rw [e]
theorem Ren.best_le {c d : CaseD} {σ : Nat → Nat} (h : Ren c d σ) (hc : Good c) (hd : Good d) : (bestS c).least ≤ (bestS d).least := by
  have hhi := hc.hi
  obtain ⟨h1, -, -⟩ := bestS_spec hc
  obtain ⟨-, h2, h3⟩ := bestS_spec hd
  rcases h1 with ⟨j, hj, e⟩ | ⟨S, hS, e⟩
  · have g1 := h2 j (by rw [h.sizes]; exact hj)
    rw [h.sizes] at g1
    rw [e]; exact g1
  · have g1 := h3 (imgS c.people.toNat σ S) (by rw [h.people]; exact (img_in (by omega) h.perm hS).1)
    rw [h.set hhi hS] at g1
    rw [e]; exact g1
theorem Ren.best {c d : CaseD} {σ : Nat → Nat} (h : Ren c d σ) (hc : Good c) (hd : Good d) : (bestS c).least = (bestS d).least :=
  Int.le_antisymm (h.best_le hc hd) (h.symm.best_le hd hc)
def renP (σ : Nat → Nat) (p : Int × Int) : Int × Int := (min (σ p.1.toNat : Int) (σ p.2.toNat), max (σ p.1.toNat : Int) (σ p.2.toNat))
theorem Ren.pair {c d : CaseD} {σ : Nat → Nat} (h : Ren c d σ) (hc : Good c) {i : Int} {p : Int × Int} (hp : p ∈ pairsOf c i) : renP σ p ∈ pairsOf d i := by
  have hlo := hc.lo
  obtain ⟨g0, g1, g2, o1, o2⟩ := pairsOf_mem (by omega) hp
  have l1 := perm_lt h.perm (p := p.1.toNat) (by omega)
  have l2 := perm_lt h.perm (p := p.2.toNat) (by omega)
  have hne : σ p.1.toNat ≠ σ p.2.toNat := fun e => by have := perm_inj h.perm (by omega) (by omega) e; omega
  have b1 := h.bars i p.1.toNat (by omega)
  have b2 := h.bars i p.2.toNat (by omega)
  rw [Int.toNat_of_nonneg g0, o1] at b1
  rw [Int.toNat_of_nonneg (by omega), o2] at b2
  have hmm : (min (σ p.1.toNat : Int) (σ p.2.toNat) = σ p.1.toNat ∧ max (σ p.1.toNat : Int) (σ p.2.toNat) = σ p.2.toNat) ∨ (min (σ p.1.toNat : Int) (σ p.2.toNat) = σ p.2.toNat ∧ max (σ p.1.toNat : Int) (σ p.2.toNat) = σ p.1.toNat) := by omega
  unfold renP
  rcases hmm with ⟨e1, e2⟩ | ⟨e1, e2⟩
  · rw [e1, e2]
    exact pairsOf_of (by simp only; omega) (by simp only; omega) (by simp only; rw [h.people]; omega) b1 b2
  · rw [e1, e2]
    exact pairsOf_of (by simp only; omega) (by simp only; omega) (by simp only; rw [h.people]; omega) b2 b1
theorem Ren.run {c d : CaseD} {σ : Nat → Nat} (h : Ren c d σ) (hc : Good c) : ∀ (ps : List (Int × Int)) (i : Nat) (K L : List Int), fitsL c i ps → K.length = c.people.toNat → L.length = c.people.toNat → (∀ j, j < c.people.toNat → li L (σ j) = li K j) →
    (runL d i L (ps.map (renP σ))).length = c.people.toNat ∧ (runL c i K ps).length = c.people.toNat ∧ ∀ j, j < c.people.toNat → li (runL d i L (ps.map (renP σ))) (σ j) = li (runL c i K ps) j
  | [], _, K, L, _, hK, hL, he => ⟨hL, hK, he⟩
  | p :: r, i, K, L, hf, hK, hL, he => by
    have hlo := hc.lo
    obtain ⟨hp, hr⟩ := hf
    refine h.run hc r (i + 1) (loadStep c K i p) (loadStep d L i (renP σ p)) hr (by rw [loadStep_len]; exact hK) (by rw [loadStep_len]; exact hL) fun j hj => ?_
    have lj := perm_lt h.perm hj
    obtain ⟨g0, g1, g2, -, -⟩ := pairsOf_mem (by omega) hp
    rw [li_loadStep c K i p (by omega), li_loadStep d L i _ (by omega), he j hj, h.sizes]
    have i1 : σ j = σ p.1.toNat ↔ j = p.1.toNat := ⟨perm_inj h.perm hj (by omega), fun e => by rw [e]⟩
    have i2 : σ j = σ p.2.toNat ↔ j = p.2.toNat := ⟨perm_inj h.perm hj (by omega), fun e => by rw [e]⟩
    have hn1 : (renP σ p).1.toNat = min (σ p.1.toNat) (σ p.2.toNat) := by show (min (σ p.1.toNat : Int) (σ p.2.toNat)).toNat = _; omega
    have hn2 : (renP σ p).2.toNat = max (σ p.1.toNat) (σ p.2.toNat) := by show (max (σ p.1.toNat : Int) (σ p.2.toNat)).toNat = _; omega
    rw [hn1, hn2]
    rcases Nat.le_total (σ p.1.toNat) (σ p.2.toNat) with g | g
    · rw [Nat.min_eq_left g, Nat.max_eq_right g]
      simp only [i1, i2]
    · rw [Nat.min_eq_right g, Nat.max_eq_left g]
      simp only [i1, i2]
      omega
theorem Ren.find_le {c d : CaseD} {σ : Nat → Nat} (h : Ren c d σ) (hc : validC c = 0) (hd : validC d = 0) (h6 : c.sizes.length ≤ 6) : findN d ≤ findN c := by
  have hG := valid_good hc
  have hGd := valid_good hd
  have hl := find_loads hc
  obtain ⟨-, g1, g2⟩ := loads_fits hl
  have g3 := fits_loads hG hc g1 g2
  have g4 := findN_min hd (by rw [h.sizes]; exact h6) (ps := (findP c).map (renP σ)) (by rw [List.length_map, g1, h.sizes]) (fits_mk fun j hj => by
    have hj2 : j < (findP c).length := by simpa using hj
    have := h.pair hG (fits_at g2 hj2)
    rwa [show lp ((findP c).map (renP σ)) j = renP σ (lp (findP c) j) by unfold lp; simp [List.getD_eq_getElem?_getD, hj2]])
  have hz : zerosL d = zerosL c := by unfold zerosL; rw [h.people]
  have hzl : (zerosL c).length = c.people.toNat := by simp [zerosL]
  have hzz : ∀ j, li (zerosL c) j = 0 := fun j => by
    unfold li zerosL
    rw [List.getD_eq_getElem?_getD, List.getElem?_replicate]
    split <;> rfl
  obtain ⟨k1, k2, k3⟩ := h.run hG (findP c) 0 (zerosL c) (zerosL d) g2 hzl (by rw [hz]; exact hzl) (fun j _ => by rw [hz, hzz, hzz])
  rw [findN_eq hc, g3.2]
  refine Int.le_trans g4 (greatest_le (greatest_nonneg _) fun x hx => ?_)
  obtain ⟨q, hq, rfl⟩ := mem_li hx
  rw [k1] at hq
  obtain ⟨j, hj, rfl⟩ := perm_onto h.perm hq
  rw [k3 j hj]
  exact le_greatest (li_mem (by omega))
theorem Ren.find {c d : CaseD} {σ : Nat → Nat} (h : Ren c d σ) (hc : validC c = 0) (hd : validC d = 0) (h6 : c.sizes.length ≤ 6) : findN c = findN d :=
  Int.le_antisymm (h.symm.find_le hd hc (by rw [h.sizes]; exact h6)) (h.find_le hc hd h6)
set_option maxHeartbeats 2000000
def Fit (c : CaseD) : Prop := Held c ∧ (validC c = 0 → Tail c)
theorem tail_short {c : CaseD} (h : c.sizes.length ≤ 20) : Tail c := fun j h1 h2 => by omega
theorem made_short (l : List Int) : (madeC l).sizes.length ≤ 12 := by rw [made_sizes]; have := madeM_rng l; omega
theorem made_fit (l : List Int) : Fit (madeC l) := ⟨made_held l, fun _ => tail_short (by have := made_short l; omega)⟩
theorem leqB63 {p : Prop} (h : p := by (refine ⟨4, ?_, ?_, rfl, by simp, rfl, fun _ h _ => absurd h (Nat.not_lt_zero _)⟩ <;> (simp only [List.forall_mem_cons]; repeat' (first | refine And.intro ?_ ?_ | (intro p hp; exact absurd hp List.not_mem_nil) | rfl | exact sp (pure_case _) | exact sp (pure_pairs _) | exact sp (pure_cert _) | exact (sealed_pure _ _ _ (pure_ints _)).trans (ren_ints _ _).symm | exact (sealed_pure _ _ _ (pure_strs _)).trans (ren_strs _ _).symm | exact sp (by assumption) | (intro o ho; cases ho; refine ⟨by decide, ?_⟩; first | (refine LeqS.row rfl ?_ ?_; (next => (first | rfl | (simp only [List.map_append, List.map_cons, List.map_nil, List.append_nil, List.nil_append, List.append_assoc, List.cons_append, encI, encS, ints, strs]; done) | (simp [encI, encS, ints, strs, encP, List.map_set, encC, encCert]; done))); (next => (first | rfl | exact pureL_encI _ | exact pureL_encS _ | exact pureL_ints _ | exact pureL_strs _ | exact pureL_encP _ | exact pureL_encC _ | (simp [pureL_append, pureL_encI, pureL_encS, pureL_ints, pureL_strs, pureL, PV.pure, pure_ints, pure_strs, pure_case, pureL_encP, pure_pairs, pure_cert, pureL_encC]; done))); done) | refine ⟨_, rfl, rfl, ?_⟩) | (simp [St.born, St.known, retV, St.get, St.obj, lk, sealed, PV.ren, renL, rmap, AO.ren, ints, strs, encI, encS, map_sealed_encI, map_sealed_encS, map_sealed_ints, map_sealed_strs, map_ren_encI, map_ren_encS, map_ren_ints, map_ren_strs, renL_encI, renL_encS, renL_ints, renL_strs, ren_case, encC, pairs, renL_encP, map_sealed_encP, map_ren_encP, encP, take_map_len, encCert, renL_encC, namC, -List.map_map, List.take_of_length_le] <;> omega)))); first | done | fail) : p := h
theorem lsrB63 {p : Prop} (h : p := by (first | rfl | (simp [St.born, St.known, retV, St.get, St.obj, lk, sealed, PV.ren, renL, rmap, AO.ren, ints, strs, encI, encS, map_sealed_encI, map_sealed_encS, map_sealed_ints, map_sealed_strs, map_ren_encI, map_ren_encS, map_ren_ints, map_ren_strs, renL_encI, renL_encS, renL_ints, renL_strs, ren_case, encC, pairs, renL_encP, map_sealed_encP, map_ren_encP, encP, take_map_len, encCert, renL_encC, namC, -List.map_map, List.take_of_length_le]; done)); first | done | fail) : p := h
theorem lpvB63 {p : Prop} (h : p := by (first | rfl | (simp [pure_ints, pure_strs, PV.pure, pureL, pureL_encI, pureL_encS, pureL_ints, pureL_strs, pure_case, pureL_encP, pure_pairs, pure_cert, pureL_encC]; done)); first | done | fail) : p := h
def sgN (n a : Nat) (b : Bool) (p : Nat) : Nat := if b then n - 1 - (p + a) % n else (p + a) % n
theorem sg_perm : ∀ (n : Fin 7) (a : Fin 7) (b : Bool), a.1 < n.1 → ((List.range n.1).map (sgN n.1 a.1 b)).isPerm (List.range n.1) = true := by decide +kernel
def sgI (c : CaseD) (a : Int) (b : Bool) (p : Int) : Int := if b then c.people - 1 - (p + a).tmod c.people else (p + a).tmod c.people
theorem sgI_N {c : CaseD} (hG : Good c) {a p : Int} (ha : 0 ≤ a ∧ a < c.people) (hp : 0 ≤ p) (b : Bool) : sgI c a b p = sgN c.people.toNat a.toNat b p.toNat := by
  have hlo := hG.lo
  have e : (p + a).tmod c.people = ((p.toNat + a.toNat) % c.people.toNat : Nat) := by
    rw [Int.tmod_eq_emod_of_nonneg (by omega), Int.natCast_emod]
    congr 1 <;> omega
  have hlt := Nat.mod_lt (p.toNat + a.toNat) (show 0 < c.people.toNat by omega)
  unfold sgI sgN
  rw [e]
  cases b
  · rfl
  · simp only [if_true]; omega
def nbX (c : CaseD) (a : Int) (b : Bool) (k : Nat) : Int × Int := ((lp c.bars k).1, sgI c a b (lp c.bars k).2)
def nbK (c : CaseD) (a : Int) (b : Bool) : Nat → List (Int × Int)
  | 0 => []
  | k + 1 => nbX c a b k :: nbK c a b k
theorem nbK_len (c : CaseD) (a : Int) (b : Bool) : ∀ k, (nbK c a b k).length = k
  | 0 => rfl
  | k + 1 => by rw [nbK, List.length_cons, nbK_len c a b k]
theorem nbK_mem {c : CaseD} {a : Int} {b : Bool} {x : Int × Int} : ∀ {k : Nat}, x ∈ nbK c a b k ↔ ∃ j, j < k ∧ x = nbX c a b j
  | 0 => ⟨fun h => (by cases h), fun ⟨j, h, _⟩ => absurd h (Nat.not_lt_zero _)⟩
  | k + 1 => by
    rw [nbK, List.mem_cons, nbK_mem]
    constructor
    · rintro (rfl | ⟨j, h, e⟩)
      · exact ⟨k, Nat.lt_succ_self k, rfl⟩
      · exact ⟨j, Nat.lt_succ_of_lt h, e⟩
    · rintro ⟨j, h, e⟩
      rcases Nat.lt_succ_iff_lt_or_eq.1 h with h | rfl
      · exact .inr ⟨j, h, e⟩
      · exact .inl e
def namC (c : CaseD) (a : Int) (b : Bool) : CaseD := ⟨c.sizes, c.people, nbK c a b c.bars.length⟩
theorem nam_ren {c : CaseD} (hG : Good c) {a : Int} (ha : 0 ≤ a ∧ a < c.people) (b : Bool) : Ren c (namC c a b) (sgN c.people.toNat a.toNat b) := by
  have hlo := hG.lo
  have hhi := hG.hi
  have hperm := List.isPerm_iff.1 (sg_perm ⟨c.people.toNat, by omega⟩ ⟨a.toNat, by omega⟩ b (by simp only; omega))
  refine ⟨rfl, rfl, hperm, fun i p hp => ?_⟩
  unfold openB
  congr 1
  rw [Bool.eq_iff_iff, List.any_eq_true, List.any_eq_true]
  have hbar : ∀ j, j < c.bars.length → 0 ≤ (lp c.bars j).2 ∧ (lp c.bars j).2 < c.people := fun j hj => by have := hG.bar _ (lp_mem hj); omega
  have hiff : ∀ j, j < c.bars.length → (isBar i (sgN c.people.toNat a.toNat b p : Nat) (nbX c a b j) = true ↔ isBar i p (lp c.bars j) = true) := fun j hj => by
    have h2 := hbar j hj
    unfold isBar nbX
    simp only [Bool.and_eq_true, decide_eq_true_eq]
    rw [sgI_N hG ha h2.1]
    constructor
    · rintro ⟨e1, e2⟩
      have := perm_inj hperm (p := (lp c.bars j).2.toNat) (q := p) (by simp only; omega) hp (by simp only; omega)
      exact ⟨e1, by omega⟩
    · rintro ⟨e1, e2⟩
      refine ⟨e1, ?_⟩
      rw [show (lp c.bars j).2.toNat = p by omega]
  constructor
  · rintro ⟨x, hx, e⟩
    obtain ⟨j, hj, rfl⟩ := nbK_mem.1 hx
    exact ⟨_, lp_mem hj, (hiff j hj).1 e⟩
  · rintro ⟨x, hx, e⟩
    obtain ⟨j, hj, rfl⟩ := List.getElem_of_mem hx
    rw [show c.bars[j] = lp c.bars j by simp [lp, List.getD_eq_getElem?_getD, hj]] at e
    exact ⟨_, nbK_mem.2 ⟨j, hj, rfl⟩, (hiff j hj).2 e⟩
theorem nam_good {c : CaseD} (hG : Good c) {a : Int} (ha : 0 ≤ a ∧ a < c.people) (b : Bool) : Good (namC c a b) := by
  have hlo := hG.lo
  refine (nam_ren hG ha b).good hG fun x hx => ?_
  obtain ⟨j, hj, rfl⟩ := nbK_mem.1 hx
  have h2 := hG.bar _ (lp_mem hj)
  have h3 := perm_lt (nam_ren hG ha b).perm (p := (lp c.bars j).2.toNat) (by omega)
  refine ⟨h2.1, h2.2.1, ?_⟩
  show 0 ≤ sgI c a b (lp c.bars j).2 ∧ sgI c a b (lp c.bars j).2 < c.people
  rw [sgI_N hG ha h2.2.2.1]; omega
theorem names_pure (l : List Int) (turn : Int) (back : Bool) (hl : Fits l) (ht : I64 turn) (hlv : Pure Try.prog 21 [] (.atom (.bool true)) []) : Pure Try.prog 9 [ints l, encI turn, .atom (.bool back)] (.atom (.bool true)) [] := by
  have hG := made_good l
  have hc := made_held l
  have hv := made_valid l
  have hms := made_short l
  have hft := made_fit l
  have hbs := made_bars l
  have hMade := Made_pure l hl
  generalize madeC l = c at hG hc hv hms hft hbs hMade
  have hlo := hG.lo
  have hhi := hG.hi
  have hFl := findP_len c
  have hF := aFind_pure c hft.1 hft.2
  unfold findR at hF
  rw [hv] at hF
  have hd0 := around_lo (n := turn) (most := c.people) (by omega)
  have hd1 := around_hi (n := turn) (most := c.people) (by omega)
  have hAr := Around_pure turn c.people ht (by omega)
  generalize around turn c.people = a at hd0 hd1 hAr
  have hR := nam_ren hG ⟨hd0, hd1⟩ back
  have gD := nam_good hG ⟨hd0, hd1⟩ back
  have hvD := valid_of_good gD
  have hnl := nbK_len c a back c.bars.length
  have hFd := aFind_pure (namC c a back) (held_of_good gD (by show (nbK c a back c.bars.length).length ≤ 1000000; omega)) (fun _ => tail_short (by show c.sizes.length ≤ 20; omega))
  have hFdl := findP_len (namC c a back)
  rw [show (namC c a back).sizes = c.sizes from rfl] at hFdl
  unfold findR at hFd
  rw [hvD] at hFd
  have hbe := hR.best hG gD
  rw [← findC_eq hv, ← findC_eq hvD] at hbe
  have hne := fun h6 => hR.find hv hvD h6
  refine Pure.intro (ts := [6]) Try.func9 (by kernel_rfl) rfl rfl rfl (Nat.le_of_ble_eq_true rfl) ?_ ?_
  · simp [pure_ints, encI, PV.pure, pureL]
  refine sZ [0, 1, 2] (fun P S K => K ⟨[(0, S.get 0), (1, S.get 1), (2, S.get 2)], S.hp, S.nx, S.gh⟩) fun K hK => ?_
  repeat' (first | (refine hK _ ?_; clear hK K) | refine And.intro ?_ ?_ | exact cl | exact one_encP _ | (refine st ?_; try simp only [encC, pairs, encCert, dec_self, renL_encP]) | simp only [encC, pairs, encCert, dec_self, renL_encP])
  all_goals
  refine sZ [1, 2, 7] (fun P S K => XvFnIV P (M S.hp S.nx) (.fn 10 []) [(S.get 0)] (fun r1 ef1 => XvAlloc P 25 (S.nx + ef1.add.length) (fun r2 ef2 => XvStore P 25 (M (Eff.hp ef2 (S.nx + ef1.add.length) (Eff.hp ef1 S.nx S.hp)) ((S.nx + ef1.add.length) + ef2.add.length)) r2 r1 (fun r3 ef3 => K ⟨[(1, S.get 1), (2, S.get 2), (7, r2)], (Eff.hp ef3 ((S.nx + ef1.add.length) + ef2.add.length) (Eff.hp ef2 (S.nx + ef1.add.length) (Eff.hp ef1 S.nx S.hp))), (((S.nx + ef1.add.length) + ef2.add.length) + ef3.add.length), S.gh⟩)))) fun K hK => ?_
  repeat' (first | (refine hK _ ?_; clear hK K) | refine And.intro ?_ ?_ | exact cl | exact one_encP _ | refine .inl ⟨_, _, hMade, ?_⟩ | refine .inl ⟨_, _, hAr, ?_⟩ | refine .inl ⟨_, _, hF, ?_⟩ | refine .inl ⟨_, _, hFd, ?_⟩ | refine .inl ⟨_, _, hlv, ?_⟩ | (refine st ?_; try simp only [encC, pairs, encCert, dec_self, renL_encP]) | simp only [encC, pairs, encCert, dec_self, renL_encP])
  all_goals
  refine sZ [1, 2, 7, 8] (fun P S K => XvFieldAddr P 25 0 (S.get 7) (fun r0 _ => XvLoad P 22 (M S.hp S.nx) r0 (fun r1 _ => XvFieldAddr P 25 1 (S.get 7) (fun r2 _ => XvLoad P 3 (M S.hp S.nx) r2 (fun r3 _ => XvBuild P 25 [(0, r1), (1, r3)] (fun r4 _ => XvAlloc P 25 S.nx (fun r5 ef5 => XvStore P 25 (M (Eff.hp ef5 S.nx S.hp) (S.nx + ef5.add.length)) r5 r4 (fun r6 ef6 => K ⟨[(1, S.get 1), (2, S.get 2), (7, S.get 7), (8, r5)], (Eff.hp ef6 (S.nx + ef5.add.length) (Eff.hp ef5 S.nx S.hp)), ((S.nx + ef5.add.length) + ef6.add.length), S.gh⟩)))))))) fun K hK => ?_
  repeat' (first | (refine hK _ ?_; clear hK K) | refine And.intro ?_ ?_ | exact cl | exact one_encP _ | refine one_take ?_ _ | refine one_drop ?_ _ | (refine st ?_; try simp only [encC, pairs, encCert, dec_self, renL_encP]) | simp only [encC, pairs, encCert, dec_self, renL_encP])
  refine Tri.bornF 1 2 2 3 _ rfl rfl ?_
  all_goals
  refine Tri.cut (α := Unit) (fun ⟨⟩ => ⟨[(7, .ptr 0 3 0 0), (8, .ptr 1 3 0 0)], [(0, some ⟨3, [encC c]⟩), (1, some ⟨3, [encC (namC c a back)]⟩)], 2, []⟩) ?_ ?_
  ·skip
   refine sZ [1, 2, 7, 8, 9] (fun P S K => K ⟨[(1, S.get 1), (2, S.get 2), (7, S.get 7), (8, S.get 8), (9, (.atom (.int .i64 0)))], S.hp, S.nx, S.gh⟩) fun K hK => ?_
   repeat' (first | (refine hK _ ?_; clear hK K) | refine And.intro ?_ ?_ | exact cl | exact one_encP _ | (refine st ?_; try simp only [encC, pairs, encCert, dec_self, renL_encP]) | simp only [encC, pairs, encCert, dec_self, renL_encP])
   all_goals
   refine Tri.block ?_
   refine Tri.loop (α := (xs : List (Int × Int)) ×' (k : Nat) ×' (k ≤ c.bars.length ∧ xs = nbK c a back k)) (fun z => (fun (xs : List (Int × Int)) (k : Nat) => (⟨[(1, encI turn), (2, .atom (.bool back)), (7, .ptr 0 3 0 0), (8, .ptr 1 3 0 0), (9, encI k)], [(0, some ⟨3, [encC c]⟩), (1, some ⟨3, [.agg [ints c.sizes, encI c.people, .ob 2 2 0 xs.length]]⟩), (2, some ⟨2, xs.map encP⟩)], 3, []⟩ : St)) z.1 z.2.1) (fun z => (fun (xs : List (Int × Int)) (k : Nat) => c.bars.length - k) z.1 z.2.1) ⟨[], 0, ⟨Nat.zero_le _, rfl⟩⟩ [0, 1, 2] ?_ ?_
   ·exact leqB63
   ·rintro ⟨xs, k, ⟨hk, hxs⟩⟩
    refine Tri.seq ?_
    refine sZ [1, 2, 7, 8, 9, 30] (fun P S K => XvFieldAddr P 25 2 (S.get 7) (fun r1 _ => XvLoad P 23 (M S.hp S.nx) r1 (fun r2 _ => XvLen P 23 r2 (fun r3 _ => XvBinOV P .lss 3 (.tmp 29) (S.get 9) r3 (fun r4 _ => K ⟨[(1, S.get 1), (2, S.get 2), (7, S.get 7), (8, S.get 8), (9, S.get 9), (30, r4)], S.hp, S.nx, S.gh⟩))))) fun K hK => ?_
    repeat' (first | (refine hK _ ?_; clear hK K) | refine And.intro ?_ ?_ | exact cl | exact one_encP _ | refine one_take ?_ _ | refine one_drop ?_ _ | (refine st ?_; try simp only [encC, pairs, encCert, dec_self, renL_encP]) | simp only [encC, pairs, encCert, dec_self, renL_encP])
    all_goals
    refine Tri.cond rfl (fun h30 => ?_) (fun h30 => ?_)
    ·try (cases h30; done)
     all_goals (try simp only [CQ] at h30)
     all_goals
     refine Tri.skip ?_
     refine Tri.seq ?_
     refine Tri.block ?_
     have hkl : k < c.bars.length := by omega
     have hb := hG.bar _ (lp_mem hkl)
     have hnk := nbK_len c a back k
     have hq0 : 0 ≤ ((lp c.bars k).2 + a).tmod c.people := Int.tmod_nonneg _ (by omega)
     have hq1 : ((lp c.bars k).2 + a).tmod c.people < c.people := Int.tmod_lt_of_pos _ (by omega)
     have hX : nbK c a back (k + 1) = ((lp c.bars k).1, sgI c a back (lp c.bars k).2) :: nbK c a back k := rfl
     unfold sgI at hX
     rw [← hxs] at hX hnk
     refine sD 15 [1, 2, 7, 8, 9, 10] (fun P GD S K => XvFieldAddr P 25 2 (S.get 7) (fun r0 ef0 => XvLoad P 23 (M S.hp S.nx) r0 (fun r1 ef1 => XvIndexAddr P 23 r1 (S.get 9) (fun r3 ef3 => XvIndexAddr P 67 r3 (.atom (.int .i64 1)) (fun r4 ef4 => XvLoad P 3 (M S.hp S.nx) r4 (fun r5 ef5 => XvFieldAddr P 25 1 (S.get 7) (fun r7 ef7 => XvLoad P 3 (M S.hp S.nx) r7 (fun r8 ef8 => XvFnV P (M S.hp S.nx) (.fn 35 []) [(S.get 1), r8] (fun r9 ef9 => XvBinOV P .add 3 (.tmp 42) r5 r9 (fun r10 ef10 => XvFieldAddr P 25 1 (S.get 7) (fun r11 ef11 => XvLoad P 3 (M (Eff.hp ef9 S.nx S.hp) (S.nx + ef9.add.length)) r11 (fun r12 ef12 => XvBinOV P .rem 3 (.tmp 45) r10 r12 (fun r13 ef13 => (trOk S.nx GD [⟨S.nx, 0, ef0.rd, [], []⟩, ⟨S.nx, 0, ef1.rd, [], []⟩, ⟨S.nx, 0, [], [], []⟩, ⟨S.nx, 0, ef3.rd, [], []⟩, ⟨S.nx, 0, ef4.rd, [], []⟩, ⟨S.nx, 0, ef5.rd, [], []⟩, ⟨S.nx, 0, [], [], []⟩, ⟨S.nx, 0, ef7.rd, [], []⟩, ⟨S.nx, 0, ef8.rd, [], []⟩, (Eff.tr ef9 S.nx), ⟨(S.nx + ef9.add.length), 0, ef10.rd, [], []⟩, ⟨(S.nx + ef9.add.length), 0, ef11.rd, [], []⟩, ⟨(S.nx + ef9.add.length), 0, ef12.rd, [], []⟩, ⟨(S.nx + ef9.add.length), 0, ef13.rd, [], []⟩, ⟨(S.nx + ef9.add.length), 0, [], [], []⟩] = true ∧ K ⟨[(1, S.get 1), (2, S.get 2), (7, S.get 7), (8, S.get 8), (9, S.get 9), (10, r13)], (Eff.hp ef9 S.nx S.hp), (S.nx + ef9.add.length), S.gh⟩)))))))))))))) fun K hK => ?_
     repeat' (first | (refine hK _ ?_; clear hK K) | (refine (?_ : trOk _ _ _ = true); kernel_rfl) | ((first | refine xG_intro (fun hg => ?_) (fun hg => ?_) | refine fun (hg : (_ : Prop)) => ?_) <;> ((try simp only [BQ, List.length_map] at hg); try (cases hg; done); try (exfalso; omega))) | refine And.intro ?_ ?_ | exact cl | exact one_encP _ | refine one_take ?_ _ | refine one_drop ?_ _ | refine .inl ⟨_, _, hMade, ?_⟩ | refine ⟨_, _, hMade, ?_⟩ | refine .inl ⟨_, _, hAr, ?_⟩ | refine ⟨_, _, hAr, ?_⟩ | refine .inl ⟨_, _, hF, ?_⟩ | refine ⟨_, _, hF, ?_⟩ | refine .inl ⟨_, _, hFd, ?_⟩ | refine ⟨_, _, hFd, ?_⟩ | refine .inl ⟨_, _, hlv, ?_⟩ | refine ⟨_, _, hlv, ?_⟩ | (refine st ?_; try simp only [encC, pairs, encCert, dec_self, renL_encP, getD_encP hkl, wrap_id (x := (lp c.bars k).2 + a) (by omega) (by omega)]; try simp only [encC, pairs, encCert, dec_self, renL_encP, encP]) | simp only [encC, pairs, encCert, dec_self, renL_encP, getD_encP hkl, wrap_id (x := (lp c.bars k).2 + a) (by omega) (by omega)] | simp only [encC, pairs, encCert, dec_self, renL_encP, encP])
     all_goals try simp (disch := omega) only [wrap_id, wrap8_id]
     all_goals
     refine Tri.seq ?_
     refine sZ [1, 2, 7, 8, 9, 10, 47] (fun P S K => K ⟨[(1, S.get 1), (2, S.get 2), (7, S.get 7), (8, S.get 8), (9, S.get 9), (10, S.get 10), (47, (S.get 2))], S.hp, S.nx, S.gh⟩) fun K hK => ?_
     repeat' (first | (refine hK _ ?_; clear hK K) | refine And.intro ?_ ?_ | exact cl | exact one_encP _ | (refine st ?_; try simp only [encC, pairs, encCert, dec_self, renL_encP]) | simp only [encC, pairs, encCert, dec_self, renL_encP])
     all_goals
     refine Tri.cond rfl (fun h47 => ?_) (fun h47 => ?_)
     ·try (cases h47; done)
      all_goals (try simp only [CQ] at h47)
      all_goals
      refine rZ [1, 2, 7, 8, 9, 10] (fun P S K => XvFieldAddr P 25 1 (S.get 7) (fun r0 _ => XvLoad P 3 (M S.hp S.nx) r0 (fun r1 _ => XvBinOV P .sub 3 (.const (.int .i64 1)) r1 (.atom (.int .i64 1)) (fun r2 _ => XvBinOV P .sub 3 (.tmp 51) r2 (S.get 10) (fun r4 _ => K ⟨[(1, S.get 1), (2, S.get 2), (7, S.get 7), (8, S.get 8), (9, S.get 9), (10, r4)], S.hp, S.nx, S.gh⟩))))) fun K hK => ?_
      repeat' (first | (refine hK _ ?_; clear hK K) | refine And.intro ?_ ?_ | exact cl | exact one_encP _ | refine one_take ?_ _ | refine one_drop ?_ _ | (refine st ?_; try simp only [encC, pairs, encCert, dec_self, renL_encP]) | simp only [encC, pairs, encCert, dec_self, renL_encP])
      all_goals try simp (disch := omega) only [wrap_id, wrap8_id]
      all_goals
      refine rD 13 [1, 2, 7, 8, 9] (fun P GD S K => XvFieldAddr P 25 2 (S.get 7) (fun r0 ef0 => XvLoad P 23 (M S.hp S.nx) r0 (fun r1 ef1 => XvIndexAddr P 23 r1 (S.get 9) (fun r3 ef3 => XvIndexAddr P 67 r3 (.atom (.int .i64 0)) (fun r4 ef4 => XvLoad P 3 (M S.hp S.nx) r4 (fun r5 ef5 => XvBuild P 67 [(0, r5), (1, (S.get 10))] (fun r7 ef7 => XvBuildS P 23 1 S.nx [(0, r7)] (fun r8 ef8 => XvFieldAddr P 25 2 (S.get 8) (fun r9 ef9 => XvLoad P 23 (M (Eff.hp ef8 S.nx S.hp) (S.nx + ef8.add.length)) r9 (fun r10 ef10 => (23 = 23 ∧ XvAppend P 23 (M (Eff.hp ef8 S.nx S.hp) (S.nx + ef8.add.length)) r8 r10 (fun r11 ef11 => XvFieldAddr P 25 2 (S.get 8) (fun r12 ef12 => (trOk S.nx GD [⟨S.nx, 0, ef0.rd, [], []⟩, ⟨S.nx, 0, ef1.rd, [], []⟩, ⟨S.nx, 0, [], [], []⟩, ⟨S.nx, 0, ef3.rd, [], []⟩, ⟨S.nx, 0, ef4.rd, [], []⟩, ⟨S.nx, 0, ef5.rd, [], []⟩, ⟨S.nx, 0, [], [], []⟩, ⟨S.nx, 0, ef7.rd, [], []⟩, (Eff.tr ef8 S.nx), ⟨(S.nx + ef8.add.length), 0, ef9.rd, [], []⟩, ⟨(S.nx + ef8.add.length), 0, ef10.rd, [], []⟩, (Eff.tr ef11 (S.nx + ef8.add.length)), ⟨((S.nx + ef8.add.length) + ef11.add.length), 0, ef12.rd, [], []⟩] = true ∧ XvStore P 23 (M (Eff.hp ef11 (S.nx + ef8.add.length) (Eff.hp ef8 S.nx S.hp)) ((S.nx + ef8.add.length) + ef11.add.length)) r12 r11 (fun r13 ef13 => K ⟨[(1, S.get 1), (2, S.get 2), (7, S.get 7), (8, S.get 8), (9, S.get 9)], (Eff.hp ef13 ((S.nx + ef8.add.length) + ef11.add.length) (Eff.hp ef11 (S.nx + ef8.add.length) (Eff.hp ef8 S.nx S.hp))), (((S.nx + ef8.add.length) + ef11.add.length) + ef13.add.length), S.gh⟩))))))))))))))) fun K hK => ?_
      repeat' (first | (refine hK _ ?_; clear hK K) | (refine (?_ : trOk _ _ _ = true); kernel_rfl) | ((first | refine xG_intro (fun hg => ?_) (fun hg => ?_) | refine fun (hg : (_ : Prop)) => ?_) <;> ((try simp only [BQ, List.length_map] at hg); try (cases hg; done); try (exfalso; omega))) | refine And.intro ?_ ?_ | exact cl | exact one_encP _ | refine one_take ?_ _ | refine one_drop ?_ _ | (refine st ?_; try simp only [encC, pairs, encCert, dec_self, renL_encP, getD_encP hkl]; try simp only [encC, pairs, encCert, dec_self, renL_encP, encP]) | simp only [encC, pairs, encCert, dec_self, renL_encP, getD_encP hkl] | simp only [encC, pairs, encCert, dec_self, renL_encP, encP])
      all_goals
      refine rZ [1, 2, 7, 8, 9] (fun P S K => XvBinOV P .add 3 (.const (.int .i64 1)) (S.get 9) (.atom (.int .i64 1)) (fun r1 _ => K ⟨[(1, S.get 1), (2, S.get 2), (7, S.get 7), (8, S.get 8), (9, r1)], S.hp, S.nx, S.gh⟩)) fun K hK => ?_
      repeat' (first | (refine hK _ ?_; clear hK K) | refine And.intro ?_ ?_ | exact cl | exact one_encP _ | (refine st ?_; try simp only [encC, pairs, encCert, dec_self, renL_encP]) | simp only [encC, pairs, encCert, dec_self, renL_encP])
      all_goals try simp (disch := omega) only [wrap_id, wrap8_id]
      all_goals
      first
      | (rw [if_pos (by assumption)] at hX; refine ⟨⟨_, k + 1, by omega, hX.symm⟩, [0, 1, 4], by dsimp only; omega, ?_⟩; exact leqB63)
      | (rw [if_neg (by simp_all)] at hX; refine ⟨⟨_, k + 1, by omega, hX.symm⟩, [0, 1, 4], by dsimp only; omega, ?_⟩; exact leqB63)
     ·try (cases h47; done)
      all_goals (try simp only [CQ] at h47)
      all_goals
      refine Tri.skip ?_
      refine rD 13 [1, 2, 7, 8, 9] (fun P GD S K => XvFieldAddr P 25 2 (S.get 7) (fun r0 ef0 => XvLoad P 23 (M S.hp S.nx) r0 (fun r1 ef1 => XvIndexAddr P 23 r1 (S.get 9) (fun r3 ef3 => XvIndexAddr P 67 r3 (.atom (.int .i64 0)) (fun r4 ef4 => XvLoad P 3 (M S.hp S.nx) r4 (fun r5 ef5 => XvBuild P 67 [(0, r5), (1, (S.get 10))] (fun r7 ef7 => XvBuildS P 23 1 S.nx [(0, r7)] (fun r8 ef8 => XvFieldAddr P 25 2 (S.get 8) (fun r9 ef9 => XvLoad P 23 (M (Eff.hp ef8 S.nx S.hp) (S.nx + ef8.add.length)) r9 (fun r10 ef10 => (23 = 23 ∧ XvAppend P 23 (M (Eff.hp ef8 S.nx S.hp) (S.nx + ef8.add.length)) r8 r10 (fun r11 ef11 => XvFieldAddr P 25 2 (S.get 8) (fun r12 ef12 => (trOk S.nx GD [⟨S.nx, 0, ef0.rd, [], []⟩, ⟨S.nx, 0, ef1.rd, [], []⟩, ⟨S.nx, 0, [], [], []⟩, ⟨S.nx, 0, ef3.rd, [], []⟩, ⟨S.nx, 0, ef4.rd, [], []⟩, ⟨S.nx, 0, ef5.rd, [], []⟩, ⟨S.nx, 0, [], [], []⟩, ⟨S.nx, 0, ef7.rd, [], []⟩, (Eff.tr ef8 S.nx), ⟨(S.nx + ef8.add.length), 0, ef9.rd, [], []⟩, ⟨(S.nx + ef8.add.length), 0, ef10.rd, [], []⟩, (Eff.tr ef11 (S.nx + ef8.add.length)), ⟨((S.nx + ef8.add.length) + ef11.add.length), 0, ef12.rd, [], []⟩] = true ∧ XvStore P 23 (M (Eff.hp ef11 (S.nx + ef8.add.length) (Eff.hp ef8 S.nx S.hp)) ((S.nx + ef8.add.length) + ef11.add.length)) r12 r11 (fun r13 ef13 => K ⟨[(1, S.get 1), (2, S.get 2), (7, S.get 7), (8, S.get 8), (9, S.get 9)], (Eff.hp ef13 ((S.nx + ef8.add.length) + ef11.add.length) (Eff.hp ef11 (S.nx + ef8.add.length) (Eff.hp ef8 S.nx S.hp))), (((S.nx + ef8.add.length) + ef11.add.length) + ef13.add.length), S.gh⟩))))))))))))))) fun K hK => ?_
      repeat' (first | (refine hK _ ?_; clear hK K) | (refine (?_ : trOk _ _ _ = true); kernel_rfl) | ((first | refine xG_intro (fun hg => ?_) (fun hg => ?_) | refine fun (hg : (_ : Prop)) => ?_) <;> ((try simp only [BQ, List.length_map] at hg); try (cases hg; done); try (exfalso; omega))) | refine And.intro ?_ ?_ | exact cl | exact one_encP _ | refine one_take ?_ _ | refine one_drop ?_ _ | (refine st ?_; try simp only [encC, pairs, encCert, dec_self, renL_encP, getD_encP hkl]; try simp only [encC, pairs, encCert, dec_self, renL_encP, encP]) | simp only [encC, pairs, encCert, dec_self, renL_encP, getD_encP hkl] | simp only [encC, pairs, encCert, dec_self, renL_encP, encP])
      all_goals
      refine rZ [1, 2, 7, 8, 9] (fun P S K => XvBinOV P .add 3 (.const (.int .i64 1)) (S.get 9) (.atom (.int .i64 1)) (fun r1 _ => K ⟨[(1, S.get 1), (2, S.get 2), (7, S.get 7), (8, S.get 8), (9, r1)], S.hp, S.nx, S.gh⟩)) fun K hK => ?_
      repeat' (first | (refine hK _ ?_; clear hK K) | refine And.intro ?_ ?_ | exact cl | exact one_encP _ | (refine st ?_; try simp only [encC, pairs, encCert, dec_self, renL_encP]) | simp only [encC, pairs, encCert, dec_self, renL_encP])
      all_goals try simp (disch := omega) only [wrap_id, wrap8_id]
      all_goals
      first
      | (rw [if_pos (by assumption)] at hX; refine ⟨⟨_, k + 1, by omega, hX.symm⟩, [0, 1, 4], by dsimp only; omega, ?_⟩; exact leqB63)
      | (rw [if_neg (by simp_all)] at hX; refine ⟨⟨_, k + 1, by omega, hX.symm⟩, [0, 1, 4], by dsimp only; omega, ?_⟩; exact leqB63)
    ·try (cases h30; done)
     all_goals (try simp only [CQ] at h30)
     all_goals
     refine Tri.exit ?_
     obtain rfl : k = c.bars.length := (by omega); subst hxs
     refine ⟨(), [0, 1], ?_⟩
     exact leqB63
  ·rintro ⟨⟩
   refine sZ [7, 8, 12, 13, 14] (fun P S K => XvLoad P 25 (M S.hp S.nx) (S.get 7) (fun r0 _ => XvFnIV P (M S.hp S.nx) (.fn 16 []) [r0] (fun r1 ef1 => XvFnIV P (M (Eff.hp ef1 S.nx S.hp) (S.nx + ef1.add.length)) (.fn 22 []) [r1] (fun r2 ef2 => XvExtract r2 0 (fun r4 _ => XvExtract r2 1 (fun r5 _ => XvExtract r2 2 (fun r6 _ => XvExtract r2 3 (fun r7 _ => XvAlloc P 47 ((S.nx + ef1.add.length) + ef2.add.length) (fun r8 ef8 => XvStore P 47 (M (Eff.hp ef8 ((S.nx + ef1.add.length) + ef2.add.length) (Eff.hp ef2 (S.nx + ef1.add.length) (Eff.hp ef1 S.nx S.hp))) (((S.nx + ef1.add.length) + ef2.add.length) + ef8.add.length)) r8 r6 (fun r11 ef11 => K ⟨[(7, S.get 7), (8, S.get 8), (12, r5), (13, r8), (14, r7)], (Eff.hp ef11 (((S.nx + ef1.add.length) + ef2.add.length) + ef8.add.length) (Eff.hp ef8 ((S.nx + ef1.add.length) + ef2.add.length) (Eff.hp ef2 (S.nx + ef1.add.length) (Eff.hp ef1 S.nx S.hp)))), ((((S.nx + ef1.add.length) + ef2.add.length) + ef8.add.length) + ef11.add.length), S.gh⟩)))))))))) fun K hK => ?_
   repeat' (first | (refine hK _ ?_; clear hK K) | refine And.intro ?_ ?_ | exact cl | exact one_encP _ | refine one_take ?_ _ | refine one_drop ?_ _ | refine .inl ⟨_, _, hMade, ?_⟩ | refine .inl ⟨_, _, hAr, ?_⟩ | refine .inl ⟨_, _, own_pure c, ?_⟩ | refine .inl ⟨_, _, own_pure (namC c a back), ?_⟩ | refine .inl ⟨_, _, hF, ?_⟩ | refine .inl ⟨_, _, hFd, ?_⟩ | refine .inl ⟨_, _, hlv, ?_⟩ | (refine st ?_; try simp only [encC, pairs, encCert, dec_self, renL_encP]) | simp only [encC, pairs, encCert, dec_self, renL_encP])
   all_goals
   refine sZ [7, 12, 13, 14, 16, 17, 18] (fun P S K => XvLoad P 25 (M S.hp S.nx) (S.get 8) (fun r0 _ => XvFnIV P (M S.hp S.nx) (.fn 16 []) [r0] (fun r1 ef1 => XvFnIV P (M (Eff.hp ef1 S.nx S.hp) (S.nx + ef1.add.length)) (.fn 22 []) [r1] (fun r2 ef2 => XvExtract r2 0 (fun r4 _ => XvExtract r2 1 (fun r5 _ => XvExtract r2 2 (fun r6 _ => XvExtract r2 3 (fun r7 _ => XvAlloc P 47 ((S.nx + ef1.add.length) + ef2.add.length) (fun r8 ef8 => XvStore P 47 (M (Eff.hp ef8 ((S.nx + ef1.add.length) + ef2.add.length) (Eff.hp ef2 (S.nx + ef1.add.length) (Eff.hp ef1 S.nx S.hp))) (((S.nx + ef1.add.length) + ef2.add.length) + ef8.add.length)) r8 r6 (fun r11 ef11 => K ⟨[(7, S.get 7), (12, S.get 12), (13, S.get 13), (14, S.get 14), (16, r5), (17, r8), (18, r7)], (Eff.hp ef11 (((S.nx + ef1.add.length) + ef2.add.length) + ef8.add.length) (Eff.hp ef8 ((S.nx + ef1.add.length) + ef2.add.length) (Eff.hp ef2 (S.nx + ef1.add.length) (Eff.hp ef1 S.nx S.hp)))), ((((S.nx + ef1.add.length) + ef2.add.length) + ef8.add.length) + ef11.add.length), S.gh⟩)))))))))) fun K hK => ?_
   repeat' (first | (refine hK _ ?_; clear hK K) | refine And.intro ?_ ?_ | exact cl | exact one_encP _ | refine one_take ?_ _ | refine one_drop ?_ _ | refine .inl ⟨_, _, hMade, ?_⟩ | refine .inl ⟨_, _, hAr, ?_⟩ | refine .inl ⟨_, _, own_pure c, ?_⟩ | refine .inl ⟨_, _, own_pure (namC c a back), ?_⟩ | refine .inl ⟨_, _, hF, ?_⟩ | refine .inl ⟨_, _, hFd, ?_⟩ | refine .inl ⟨_, _, hlv, ?_⟩ | (refine st ?_; try simp only [encC, pairs, encCert, dec_self, renL_encP]) | simp only [encC, pairs, encCert, dec_self, renL_encP])
   all_goals
   refine sZ [6] (fun P S K => XvBinOV P .eql 32 (.const (.int .i64 0)) (S.get 14) (.atom (.int .i64 0)) (fun r1 _ => Xgq r1 true (fun k => k (S.get 18)) (fun g3 r3 => Xgq g3 true (fun k => XvBinOV P .eql 32 (.const (.int .i64 0)) r3 (.atom (.int .i64 0)) (fun r4 _ => k r4)) (fun g4 r4 => XvPick g4 r4 (.atom (.bool false)) (fun r5 _ => Xgq r5 true (fun k => XvFieldAddr P 47 2 (S.get 13) (fun r7 _ => k r7)) (fun g7 r7 => Xgq g7 true (fun k => XvLoad P 3 (M S.hp S.nx) r7 (fun r8 _ => k r8)) (fun g8 r8 => Xgq g8 true (fun k => XvFieldAddr P 47 2 (S.get 17) (fun r9 _ => k r9)) (fun g9 r9 => Xgq g9 true (fun k => XvLoad P 3 (M S.hp S.nx) r9 (fun r10 _ => k r10)) (fun g10 r10 => Xgq g10 true (fun k => XvBinOV P .eql 3 (.tmp 92) r8 r10 (fun r11 _ => k r11)) (fun g11 r11 => XvPick g11 r11 (.atom (.bool false)) (fun r12 _ => Xgq r12 true (fun k => XvFieldAddr P 25 0 (S.get 7) (fun r14 _ => k r14)) (fun g14 r14 => Xgq g14 true (fun k => XvLoad P 22 (M S.hp S.nx) r14 (fun r15 _ => k r15)) (fun g15 r15 => Xgq g15 true (fun k => XvLen P 22 r15 (fun r16 _ => k r16)) (fun g16 r16 => Xgq g16 true (fun k => XvBinOV P .gtr 3 (.const (.int .i64 6)) r16 (.atom (.int .i64 6)) (fun r17 _ => k r17)) (fun g17 r17 => Xgq g17 true (fun k => k r17) (fun g18 r18 => Xgq r18 false (fun k => k (S.get 12)) (fun g19 r19 => Xgq g19 false (fun k => k (S.get 16)) (fun g20 r20 => Xgq g20 false (fun k => XvBinOV P .eql 3 (.tmp 102) r19 r20 (fun r21 _ => k r21)) (fun g21 r21 => Xgq g18 true (fun k => XvPick g21 (.atom (.bool true)) r21 (fun r22 _ => k r22)) (fun g22 r22 => XvPick g22 r22 (.atom (.bool false)) (fun r23 _ => Xge r23 true (fun k => XvFnIV P (M S.hp S.nx) (.fn 21 []) [] k) (fun g25 r25 ef25 => XvPick g25 r25 (.atom (.bool false)) (fun r26 _ => K ⟨[(6, r26)], (Eff.hp ef25 S.nx S.hp), (S.nx + ef25.add.length), S.gh⟩))))))))))))))))))))))) fun K hK => ?_
   repeat' (first | (refine hK _ ?_; clear hK K) | ((first | refine xG_intro (fun hg => ?_) (fun hg => ?_) | refine fun (hg : (_ : Prop)) => ?_) <;> ((try simp only [BQ, List.length_map] at hg); try (cases hg; done); try (exfalso; omega))) | refine And.intro ?_ ?_ | exact cl | exact one_encP _ | refine one_take ?_ _ | refine one_drop ?_ _ | refine .inl ⟨_, _, hMade, ?_⟩ | refine .inl ⟨_, _, hAr, ?_⟩ | refine .inl ⟨_, _, hF, ?_⟩ | refine .inl ⟨_, _, hFd, ?_⟩ | refine .inl ⟨_, _, hlv, ?_⟩ | (refine st ?_; try simp only [encC, pairs, encCert, dec_self, renL_encP]) | simp only [encC, pairs, encCert, dec_self, renL_encP])
   all_goals
   refine Tri.ret ?_
   show ResOk _ _ _ _
   exact ResOk.val lsrB63 lpvB63
end Go.Proofs.Ytcdeilgijleoaaa
