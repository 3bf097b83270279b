/-
  Walks: Pairs, search of the reference model.
-/
import Derived.Test.YtcdeilgijleoaaaNA1
import Derived.Test.YtcdeilgijleoaaaNB4
import Derived.Test.YtcdeilgijleoaaaNV14
set_option linter.all false
namespace Go.Proofs.Ytcdeilgijleoaaa
open Go Go.RowKit
set_option maxRecDepth 20000
set_option maxHeartbeats 1000000
theorem foldl_len {α : Type} {f : Srch → α → Srch} {n : Nat} (h : ∀ s x, s.1.length ≤ n → (f s x).1.length ≤ n) : ∀ (l : List α) (s : Srch), s.1.length ≤ n → (l.foldl f s).1.length ≤ n
  | [], s, hs => hs
  | x :: l, s, hs => foldl_len h l _ (h s x hs)
theorem searchF_len (c : CaseD) : ∀ (k : Nat) (L : List Int) (lim : Int), (searchF c k L lim).1.length ≤ k
  | 0, _, _ => Nat.le_refl _
  | k + 1, L, lim => by
    refine foldl_len (fun s x hs => ?_) _ _ (Nat.zero_le _)
    unfold srchStep
    split
    · exact hs
    · split
      · have := searchF_len c k (loadStep c L (c.sizes.length - (k + 1)) x) s.2.1
        simp only [List.length_cons]; omega
      · exact hs
def shutN (c : CaseD) (i : Int) (people : List Int) (k : Nat) : Nat := ((List.range k).filter fun (p : Nat) => !people.contains (p : Int) && openB c i p).length
theorem shutN_succ (c : CaseD) (i : Int) (people : List Int) (k : Nat) : shutN c i people (k + 1) = shutN c i people k + if (!people.contains (k : Int) && openB c i k) = true then 1 else 0 := by
  unfold shutN
  rw [List.range_succ, List.filter_append, List.length_append, List.filter_cons, List.filter_nil]
  split <;> rfl
theorem shutN_le (c : CaseD) (i : Int) (people : List Int) (k : Nat) : shutN c i people k ≤ k := by
  unfold shutN; exact Nat.le_trans (List.length_filter_le _ _) (by simp)
theorem needS_open (c : CaseD) (i : Int) (people : List Int) : needS c i people = max (2 - (shutN c i people c.people.toNat : Int)) 0 := rfl
theorem needS_rng (c : CaseD) (i : Int) (people : List Int) : 0 ≤ needS c i people ∧ needS c i people ≤ 2 := by
  rw [needS_open]; omega
def sumK (c : CaseD) (ts people : List Int) (k : Nat) : Int := sumS c (ts.take k) people
theorem sumK_succ (c : CaseD) (ts people : List Int) {k : Nat} (hk : k < ts.length) : sumK c ts people (k + 1) = sumK c ts people k + li c.sizes (li ts k).toNat * needS c (li ts k) people := by
  have e : ts.getD k 0 = ts[k] := by simp [List.getD_eq_getElem?_getD, hk]
  unfold sumK sumS
  rw [List.take_succ_eq_append_getElem hk, List.foldl_append]
  simp [li, hk]
theorem prod_rng {a b : Int} (ha : 0 ≤ a ∧ a ≤ 1024) (hb : 0 ≤ b ∧ b ≤ 2) : 0 ≤ a * b ∧ a * b ≤ 2048 := by
  have h1 := Int.mul_nonneg ha.1 hb.1
  have h2 : a * b ≤ 1024 * 2 := Int.mul_le_mul ha.2 hb.2 hb.1 (by omega)
  omega
theorem sumK_rng {c : CaseD} (hG : Good c) (ts people : List Int) : ∀ k : Nat, k ≤ ts.length → 0 ≤ sumK c ts people k ∧ sumK c ts people k ≤ 2048 * k
  | 0, _ => by simp [sumK, sumS]
  | k + 1, h => by
    have ih := sumK_rng hG ts people k (by omega)
    have hs := li_rng (l := c.sizes) (m := 0) (M := 1024) (fun x hx => by have := hG.size x hx; omega) (by omega) (li ts k).toNat
    have hp := prod_rng hs (needS_rng c (li ts k) people)
    rw [sumK_succ c ts people (by omega)]
    omega
theorem sumK_all (c : CaseD) (ts people : List Int) : sumK c ts people ts.length = sumS c ts people := by unfold sumK; rw [List.take_length]
abbrev ExS := List (Int × Int) × Int
def exStep (f : List (Int × Int) → List Int → ExS → ExS) (c : CaseD) (i : Nat) (pre : List (Int × Int)) (loads : List Int) (st : ExS) (p : Int × Int) : ExS :=
  if st.2 ≤ li loads p.1.toNat + li c.sizes i ∨ st.2 ≤ li loads p.2.toNat + li c.sizes i then st else f (pre ++ [p]) (loadStep c loads i p) st
def exF (c : CaseD) : Nat → List (Int × Int) → List Int → ExS → ExS
  | 0, pre, loads, st => if greatest loads < st.2 then (pre, greatest loads) else st
  | k + 1, pre, loads, st => (pairsOf c (c.sizes.length - (k + 1) : Nat)).foldl (exStep (exF c k) c (c.sizes.length - (k + 1)) pre loads) st
theorem foldl_max_le : ∀ (l : List Int) (a m : Int), a ≤ m → (∀ x, x ∈ l → x ≤ m) → l.foldl max a ≤ m
  | [], a, m, h, _ => h
  | y :: l, a, m, h, hl => foldl_max_le l (max a y) m (by have := hl y (List.mem_cons_self ..); omega) fun x hx => hl x (List.mem_cons_of_mem _ hx)
theorem le_foldl_max : ∀ (l : List Int) (a : Int), a ≤ l.foldl max a ∧ ∀ x, x ∈ l → x ≤ l.foldl max a
  | [], a => ⟨Int.le_refl _, fun x hx => by cases hx⟩
  | y :: l, a => by
    obtain ⟨h1, h2⟩ := le_foldl_max l (max a y)
    have h1' : max a y ≤ List.foldl max a (y :: l) := h1
    refine ⟨by omega, fun x hx => ?_⟩
    rcases List.mem_cons.1 hx with rfl | hx
    · omega
    · exact h2 x hx
theorem greatest_le {l : List Int} {m : Int} (h0 : 0 ≤ m) (h : ∀ x, x ∈ l → x ≤ m) : greatest l ≤ m := foldl_max_le l 0 m h0 h
theorem le_greatest {l : List Int} {x : Int} (h : x ∈ l) : x ≤ greatest l := (le_foldl_max l 0).2 x h
theorem greatest_nonneg (l : List Int) : 0 ≤ greatest l := (le_foldl_max l 0).1
structure LoadOk (c : CaseD) (loads : List Int) : Prop where
  len : loads.length = c.people.toNat
  pos : ∀ x, x ∈ loads → 0 ≤ x
theorem li_addAt (l : List Int) (k v : Int) {j : Nat} (h : j < l.length) : li (addAt l k v) j = li l j + if j = k.toNat then v else 0 := by
  unfold addAt li
  rw [List.getD_eq_getElem?_getD, List.getElem?_set]
  by_cases hj : k.toNat = j
  · subst hj; simp [h, List.getD_eq_getElem?_getD]
  · rw [if_neg hj, if_neg (fun e => hj e.symm), Int.add_zero, List.getD_eq_getElem?_getD]
theorem mem_li {l : List Int} {x : Int} (h : x ∈ l) : ∃ j, j < l.length ∧ x = li l j := by
  obtain ⟨j, hj, rfl⟩ := List.getElem_of_mem h
  exact ⟨j, hj, by simp [li, List.getD_eq_getElem?_getD, hj]⟩
theorem loadStep_len (c : CaseD) (l : List Int) (i : Nat) (p : Int × Int) : (loadStep c l i p).length = l.length := by unfold loadStep; rw [addAt_len, addAt_len]
theorem li_loadStep (c : CaseD) (l : List Int) (i : Nat) (p : Int × Int) {j : Nat} (h : j < l.length) : li (loadStep c l i p) j = li l j + (if j = p.1.toNat then li c.sizes i else 0) + if j = p.2.toNat then li c.sizes i else 0 := by
  unfold loadStep
  rw [li_addAt _ _ _ (by rw [addAt_len]; exact h), li_addAt _ _ _ h]
theorem size_pos {c : CaseD} (hs : ∀ x, x ∈ c.sizes → 0 ≤ x) (i : Nat) : 0 ≤ li c.sizes i := by
  by_cases h : i < c.sizes.length
  · exact hs _ (li_mem h)
  · have : li c.sizes i = 0 := by unfold li; simp [List.getD_eq_getElem?_getD, h]
    omega
theorem LoadOk.step {c : CaseD} {loads : List Int} (h : LoadOk c loads) (hs : ∀ x, x ∈ c.sizes → 0 ≤ x) (i : Nat) (p : Int × Int) : LoadOk c (loadStep c loads i p) := by
  refine ⟨by rw [loadStep_len, h.len], fun x hx => ?_⟩
  obtain ⟨j, hj, rfl⟩ := mem_li hx
  rw [loadStep_len] at hj
  rw [li_loadStep c loads i p hj]
  have := h.pos _ (li_mem hj)
  have := size_pos hs i
  split <;> split <;> omega
theorem greatest_step {c : CaseD} {loads : List Int} (hs : ∀ x, x ∈ c.sizes → 0 ≤ x) (i : Nat) (p : Int × Int) : greatest loads ≤ greatest (loadStep c loads i p) := by
  refine greatest_le (greatest_nonneg _) fun x hx => ?_
  obtain ⟨j, hj, rfl⟩ := mem_li hx
  have h1 : li (loadStep c loads i p) j ≤ greatest (loadStep c loads i p) := le_greatest (li_mem (by rw [loadStep_len]; exact hj))
  rw [li_loadStep c loads i p hj] at h1
  have := size_pos hs i
  split at h1 <;> split at h1 <;> omega
theorem step_at {c : CaseD} {loads : List Int} (h : LoadOk c loads) (hs : ∀ x, x ∈ c.sizes → 0 ≤ x) (i : Nat) {p : Int × Int} (hp : 0 ≤ p.1 ∧ p.1 < p.2 ∧ p.2 < c.people) : li loads p.1.toNat + li c.sizes i ≤ greatest (loadStep c loads i p) ∧ li loads p.2.toNat + li c.sizes i ≤ greatest (loadStep c loads i p) := by
  have hl := h.len
  have h1 : li (loadStep c loads i p) p.1.toNat ≤ greatest (loadStep c loads i p) := le_greatest (li_mem (by rw [loadStep_len]; omega))
  have h2 : li (loadStep c loads i p) p.2.toNat ≤ greatest (loadStep c loads i p) := le_greatest (li_mem (by rw [loadStep_len]; omega))
  rw [li_loadStep c loads i p (by omega)] at h1 h2
  rw [if_pos rfl, if_neg (by omega)] at h1
  rw [if_neg (by omega), if_pos rfl] at h2
  omega
theorem pairsOf_mem {c : CaseD} (h2 : 0 ≤ c.people) {i : Int} {p : Int × Int} (h : p ∈ pairsOf c i) : 0 ≤ p.1 ∧ p.1 < p.2 ∧ p.2 < c.people ∧ openB c i p.1 = true ∧ openB c i p.2 = true := by
  have := allPr_mem h
  exact ⟨this.1, this.2.1, by omega, this.2.2.2⟩
theorem foldl_fix {α β : Type} {f : β → α → β} {b : β} : ∀ (l : List α), (∀ x, x ∈ l → f b x = b) → l.foldl f b = b
  | [], _ => rfl
  | x :: l, h => by rw [List.foldl_cons, h x (List.mem_cons_self ..)]; exact foldl_fix l fun y hy => h y (List.mem_cons_of_mem _ hy)
theorem searchF_cut {c : CaseD} (hs : ∀ x, x ∈ c.sizes → 0 ≤ x) : ∀ (k : Nat) (loads : List Int) (lim : Int), lim ≤ greatest loads → (searchF c k loads lim).2.2 = false
  | 0, loads, lim, h => decide_eq_false (by omega)
  | k + 1, loads, lim, h => by
    unfold searchF
    rw [foldl_fix _ fun p _ => ?_]
    unfold srchStep
    rw [if_pos]
    have := greatest_step (loads := loads) hs (c.sizes.length - (k + 1)) p
    show lim ≤ _
    omega
theorem exF_search {c : CaseD} (h2 : 0 ≤ c.people) (hs : ∀ x, x ∈ c.sizes → 0 ≤ x) : ∀ (k : Nat) (pre : List (Int × Int)) (loads : List Int) (best : List (Int × Int)) (least : Int), LoadOk c loads →
    exF c k pre loads (best, least) = if (searchF c k loads least).2.2 = true then (pre ++ (searchF c k loads least).1, (searchF c k loads least).2.1) else (best, least)
  | 0, pre, loads, best, least, hl => by
    unfold exF searchF
    by_cases h : greatest loads < least <;> simp [h]
  | k + 1, pre, loads, best, least, hl => by
    unfold exF searchF
    have hall : ∀ (l : List (Int × Int)) (st : ExS) (s : Srch), (∀ p, p ∈ l → 0 ≤ p.1 ∧ p.1 < p.2 ∧ p.2 < c.people) → (s.2.2 = false → s = ([], least, false)) → st = (if s.2.2 = true then (pre ++ s.1, s.2.1) else (best, least)) →
        l.foldl (exStep (exF c k) c (c.sizes.length - (k + 1)) pre loads) st = if (l.foldl (srchStep (searchF c k) c (c.sizes.length - (k + 1)) loads) s).2.2 = true then (pre ++ (l.foldl (srchStep (searchF c k) c (c.sizes.length - (k + 1)) loads) s).1, (l.foldl (srchStep (searchF c k) c (c.sizes.length - (k + 1)) loads) s).2.1) else (best, least) := by
      intro l
      induction l with
      | nil => intro st s _ _ hst; exact hst
      | cons p l ih =>
        intro st s hp hf hst
        have hlim : st.2 = s.2.1 := by
          cases hb : s.2.2 with
          | true => rw [hst, hb]; rfl
          | false => rw [hst, hb, hf hb]; rfl
        obtain ⟨g1, g2⟩ := step_at hl hs (c.sizes.length - (k + 1)) (hp p (List.mem_cons_self ..))
        have hx := hl.step hs (c.sizes.length - (k + 1)) p
        rw [List.foldl_cons, List.foldl_cons]
        have hstep : s.2.1 ≤ greatest (loadStep c loads (c.sizes.length - (k + 1)) p) → exStep (exF c k) c (c.sizes.length - (k + 1)) pre loads st p = st := fun hle => by
          unfold exStep
          split
          · rfl
          · have e := exF_search h2 hs k (pre ++ [p]) (loadStep c loads (c.sizes.length - (k + 1)) p) st.1 st.2 hx
            rw [show ((st.1, st.2) : ExS) = st from rfl] at e
            rw [e, searchF_cut hs k _ _ (by rw [hlim]; exact hle)]
            rfl
        by_cases hle : s.2.1 ≤ greatest (loadStep c loads (c.sizes.length - (k + 1)) p)
        · rw [hstep hle, show srchStep (searchF c k) c (c.sizes.length - (k + 1)) loads s p = s from if_pos hle]
          exact ih st s (fun q hq => hp q (List.mem_cons_of_mem _ hq)) hf hst
        · have e1 : exStep (exF c k) c (c.sizes.length - (k + 1)) pre loads st p = exF c k (pre ++ [p]) (loadStep c loads (c.sizes.length - (k + 1)) p) st := if_neg (by omega)
          have e := exF_search h2 hs k (pre ++ [p]) (loadStep c loads (c.sizes.length - (k + 1)) p) st.1 st.2 hx
          rw [show ((st.1, st.2) : ExS) = st from rfl] at e
          rw [e1, e, hlim]
          have e2 : srchStep (searchF c k) c (c.sizes.length - (k + 1)) loads s p = if (searchF c k (loadStep c loads (c.sizes.length - (k + 1)) p) s.2.1).2.2 = true then (p :: (searchF c k (loadStep c loads (c.sizes.length - (k + 1)) p) s.2.1).1, (searchF c k (loadStep c loads (c.sizes.length - (k + 1)) p) s.2.1).2.1, true) else s := if_neg hle
          rw [e2]
          by_cases hfd : (searchF c k (loadStep c loads (c.sizes.length - (k + 1)) p) s.2.1).2.2 = true
          · rw [if_pos hfd, if_pos hfd]
            exact ih _ _ (fun q hq => hp q (List.mem_cons_of_mem _ hq)) (fun h => by cases h) (by simp)
          · rw [if_neg hfd, if_neg hfd]
            exact ih _ _ (fun q hq => hp q (List.mem_cons_of_mem _ hq)) hf hst
    exact hall _ _ _ (fun p hp => by have := pairsOf_mem h2 hp; exact ⟨this.1, this.2.1, this.2.2.1⟩) (fun _ => rfl) rfl
def runL (c : CaseD) : Nat → List Int → List (Int × Int) → List Int
  | _, loads, [] => loads
  | i, loads, p :: r => runL c (i + 1) (loadStep c loads i p) r
def fitsL (c : CaseD) : Nat → List (Int × Int) → Prop
  | _, [] => True
  | i, p :: r => p ∈ pairsOf c (i : Nat) ∧ fitsL c (i + 1) r
theorem runL_ok {c : CaseD} (hs : ∀ x, x ∈ c.sizes → 0 ≤ x) : ∀ (l : List (Int × Int)) (i : Nat) (loads : List Int), LoadOk c loads → LoadOk c (runL c i loads l) ∧ greatest loads ≤ greatest (runL c i loads l)
  | [], _, _, h => ⟨h, Int.le_refl _⟩
  | p :: r, i, loads, h => by
    obtain ⟨h1, h2⟩ := runL_ok hs r (i + 1) (loadStep c loads i p) (h.step hs i p)
    have := greatest_step (loads := loads) hs i p
    exact ⟨h1, by show greatest loads ≤ greatest (runL c (i + 1) (loadStep c loads i p) r); omega⟩
theorem foldl_inv {α β : Type} {f : β → α → β} {I : β → Prop} : ∀ (l : List α) (b : β), I b → (∀ b x, x ∈ l → I b → I (f b x)) → I (l.foldl f b)
  | [], b, h, _ => h
  | x :: l, b, h, hf => foldl_inv l _ (hf b x (List.mem_cons_self ..) h) fun b y hy => hf b y (List.mem_cons_of_mem _ hy)
theorem searchF_le {c : CaseD} : ∀ (k : Nat) (loads : List Int) (lim : Int), (searchF c k loads lim).2.2 = true → (searchF c k loads lim).2.1 ≤ lim
  | 0, loads, lim, h => Int.le_of_lt (of_decide_eq_true h)
  | k + 1, loads, lim, _ => by
    unfold searchF
    refine foldl_inv (I := fun t : Srch => t.2.1 ≤ lim) _ _ (Int.le_refl _) fun t q _ hI => ?_
    unfold srchStep
    split
    · exact hI
    · split
      · rename_i h7 h8
        have := searchF_le k _ _ h8
        simp only; omega
      · exact hI
theorem searchF_found {c : CaseD} : ∀ (k : Nat) (loads : List Int) (lim : Int), k ≤ c.sizes.length → (searchF c k loads lim).2.2 = true →
    (searchF c k loads lim).1.length = k ∧ fitsL c (c.sizes.length - k) (searchF c k loads lim).1 ∧ (searchF c k loads lim).2.1 = greatest (runL c (c.sizes.length - k) loads (searchF c k loads lim).1) ∧ (searchF c k loads lim).2.1 < lim
  | 0, loads, lim, _, h => ⟨rfl, trivial, rfl, of_decide_eq_true h⟩
  | k + 1, loads, lim, hk, h => by
    have hinv : ∀ s, s = searchF c (k + 1) loads lim → (s.2.2 = false → s.2.1 = lim) ∧ s.2.1 ≤ lim ∧ (s.2.2 = true → s.1.length = k + 1 ∧ fitsL c (c.sizes.length - (k + 1)) s.1 ∧ s.2.1 = greatest (runL c (c.sizes.length - (k + 1)) loads s.1) ∧ s.2.1 < lim) := by
      rintro s rfl
      unfold searchF
      refine foldl_inv (I := fun s : Srch => (s.2.2 = false → s.2.1 = lim) ∧ s.2.1 ≤ lim ∧ (s.2.2 = true → s.1.length = k + 1 ∧ fitsL c (c.sizes.length - (k + 1)) s.1 ∧ s.2.1 = greatest (runL c (c.sizes.length - (k + 1)) loads s.1) ∧ s.2.1 < lim)) _ _ ⟨fun _ => rfl, Int.le_refl _, fun h => (by cases h)⟩ fun s p hp hI => ?_
      unfold srchStep
      split
      · exact hI
      · split
        · rename_i hlt hfd
          obtain ⟨g1, g2, g3, g4⟩ := searchF_found k _ _ (by omega) hfd
          have e : c.sizes.length - (k + 1) + 1 = c.sizes.length - k := by omega
          have := hI.2.1
          refine ⟨fun h => (by cases h), by simp only; omega, fun _ => ⟨by simp [g1], ⟨hp, by rw [e]; exact g2⟩, ?_, by simp only; omega⟩⟩
          show _ = greatest (runL c (c.sizes.length - (k + 1) + 1) (loadStep c loads (c.sizes.length - (k + 1)) p) _)
          rw [e]; exact g3
        · exact hI
    exact (hinv _ rfl).2.2 h
theorem searchF_min {c : CaseD} (h2 : 0 ≤ c.people) (hs : ∀ x, x ∈ c.sizes → 0 ≤ x) : ∀ (k : Nat) (loads : List Int) (lim : Int) (l : List (Int × Int)), LoadOk c loads → k ≤ c.sizes.length → l.length = k → fitsL c (c.sizes.length - k) l → greatest (runL c (c.sizes.length - k) loads l) < lim →
    (searchF c k loads lim).2.2 = true ∧ (searchF c k loads lim).2.1 ≤ greatest (runL c (c.sizes.length - k) loads l)
  | 0, loads, lim, l, hl, hk, hlen, hf, hg => by
    obtain rfl : l = [] := List.eq_nil_of_length_eq_zero hlen
    exact ⟨decide_eq_true hg, Int.le_refl _⟩
  | k + 1, loads, lim, [], hl, hk, hlen, hf, hg => by cases hlen
  | k + 1, loads, lim, p :: r, hl, hk, hlen, hf, hg => by
    have e : c.sizes.length - (k + 1) + 1 = c.sizes.length - k := by omega
    obtain ⟨hp, hf⟩ := hf
    rw [e] at hf
    have hg' : greatest (runL c (c.sizes.length - k) (loadStep c loads (c.sizes.length - (k + 1)) p) r) < lim := by rw [← e]; exact hg
    have hge : greatest (runL c (c.sizes.length - (k + 1)) loads (p :: r)) = greatest (runL c (c.sizes.length - k) (loadStep c loads (c.sizes.length - (k + 1)) p) r) := by rw [← e]; rfl
    rw [hge]
    generalize hG : greatest (runL c (c.sizes.length - k) (loadStep c loads (c.sizes.length - (k + 1)) p) r) = G at hg'
    have hx := hl.step hs (c.sizes.length - (k + 1)) p
    have hxg := (runL_ok hs r (c.sizes.length - k) _ hx).2
    rw [hG] at hxg
    have hall : ∀ (l : List (Int × Int)) (s : Srch), (p ∈ l ∧ (s.2.2 = false → s.2.1 = lim) ∧ s.2.1 ≤ lim) ∨ (s.2.2 = true ∧ s.2.1 ≤ G) → (l.foldl (srchStep (searchF c k) c (c.sizes.length - (k + 1)) loads) s).2.2 = true ∧ (l.foldl (srchStep (searchF c k) c (c.sizes.length - (k + 1)) loads) s).2.1 ≤ G := by
      intro l
      induction l with
      | nil => intro s h; exact h.elim (fun h => by cases h.1) id
      | cons q l ih =>
        intro s h
        rw [List.foldl_cons]
        refine ih _ ?_
        have hdown : (srchStep (searchF c k) c (c.sizes.length - (k + 1)) loads s q).2.1 ≤ s.2.1 ∧ (s.2.2 = true → (srchStep (searchF c k) c (c.sizes.length - (k + 1)) loads s q).2.2 = true) ∧ ((srchStep (searchF c k) c (c.sizes.length - (k + 1)) loads s q).2.2 = false → srchStep (searchF c k) c (c.sizes.length - (k + 1)) loads s q = s) := by
          unfold srchStep
          split
          · exact ⟨Int.le_refl _, id, fun _ => rfl⟩
          · split
            · rename_i h5 h6
              exact ⟨searchF_le k _ _ h6, fun _ => rfl, fun h => (by cases h)⟩
            · exact ⟨Int.le_refl _, id, fun _ => rfl⟩
        rcases h with ⟨hm, h1, h3⟩ | ⟨h1, h3⟩
        · rcases List.mem_cons.1 hm with rfl | hm
          · -- here the pair is met
            by_cases hlt : s.2.1 ≤ G
            · right
              cases hb : s.2.2 with
              | true => exact ⟨hdown.2.1 hb, by have := hdown.1; omega⟩
              | false => have := h1 hb; omega
            · obtain ⟨m1, m2⟩ := searchF_min h2 hs k (loadStep c loads (c.sizes.length - (k + 1)) p) s.2.1 r hx (by omega) (by simpa using hlen) hf (by rw [hG]; omega)
              rw [hG] at m2
              right
              have e2 : srchStep (searchF c k) c (c.sizes.length - (k + 1)) loads s p = (p :: (searchF c k (loadStep c loads (c.sizes.length - (k + 1)) p) s.2.1).1, (searchF c k (loadStep c loads (c.sizes.length - (k + 1)) p) s.2.1).2.1, true) := by
                unfold srchStep
                rw [if_neg (by omega), if_pos m1]
              rw [e2]
              exact ⟨rfl, m2⟩
          · left
            refine ⟨hm, fun hb => ?_, by have := hdown.1; omega⟩
            have e3 := hdown.2.2 hb
            rw [e3] at hb ⊢
            exact h1 hb
        · right
          exact ⟨hdown.2.1 h1, by have := hdown.1; omega⟩
    unfold searchF
    exact hall _ _ (.inl ⟨hp, fun _ => rfl, Int.le_refl _⟩)
theorem searchF_lim {c : CaseD} (hs : ∀ x, x ∈ c.sizes → 0 ≤ x ∧ x ≤ 1024) : ∀ (k : Nat) (loads : List Int) (L1 L2 M : Int), (∀ x, x ∈ loads → 0 ≤ x ∧ x ≤ M) → 0 ≤ M → M + 2048 * k < L1 → M + 2048 * k < L2 →
    (searchF c k loads L1).2.2 = (searchF c k loads L2).2.2 ∧ ((searchF c k loads L1).2.2 = true → searchF c k loads L1 = searchF c k loads L2)
  | 0, loads, L1, L2, M, hr, h0, h1, h2 => by
    have := greatest_le h0 fun x hx => (hr x hx).2
    unfold searchF
    rw [dec_yes (show greatest loads < L1 by omega), dec_yes (show greatest loads < L2 by omega)]
    exact ⟨rfl, fun _ => rfl⟩
  | k + 1, loads, L1, L2, M, hr, h0, h1, h2 => by
    have hz : 0 ≤ li c.sizes (c.sizes.length - (k + 1)) ∧ li c.sizes (c.sizes.length - (k + 1)) ≤ 1024 := li_rng (m := 0) (M := 1024) hs (by omega) _
    have hx : ∀ p, ∀ x, x ∈ loadStep c loads (c.sizes.length - (k + 1)) p → 0 ≤ x ∧ x ≤ M + 2048 := fun p => addAt_rng (addAt_rng hr (M := M + 1024) (by omega) (by omega)) (by omega) (by omega)
    have hall : ∀ (l : List (Int × Int)) (s t : Srch), (s.2.2 = t.2.2 ∧ (s.2.2 = true → s = t) ∧ (s.2.2 = false → s = ([], L1, false) ∧ t = ([], L2, false))) →
        (l.foldl (srchStep (searchF c k) c (c.sizes.length - (k + 1)) loads) s).2.2 = (l.foldl (srchStep (searchF c k) c (c.sizes.length - (k + 1)) loads) t).2.2 ∧ ((l.foldl (srchStep (searchF c k) c (c.sizes.length - (k + 1)) loads) s).2.2 = true → l.foldl (srchStep (searchF c k) c (c.sizes.length - (k + 1)) loads) s = l.foldl (srchStep (searchF c k) c (c.sizes.length - (k + 1)) loads) t) := by
      intro l
      induction l with
      | nil => intro s t h; exact ⟨h.1, h.2.1⟩
      | cons p l ih =>
        intro s t h
        rw [List.foldl_cons, List.foldl_cons]
        refine ih _ _ ?_
        cases hb : s.2.2 with
        | true =>
          rw [h.2.1 hb]
          exact ⟨rfl, fun _ => rfl, fun hf => by
            have ht : t.2.2 = true := by rw [← h.1]; exact hb
            exfalso
            have : (srchStep (searchF c k) c (c.sizes.length - (k + 1)) loads t p).2.2 = true := by
              unfold srchStep
              split
              · exact ht
              · split
                · rfl
                · exact ht
            rw [this] at hf; cases hf⟩
        | false =>
          obtain ⟨e1, e2⟩ := h.2.2 hb
          subst e1; subst e2
          have hg := greatest_le (l := loadStep c loads (c.sizes.length - (k + 1)) p) (m := M + 2048) (by omega) fun x hx' => (hx p x hx').2
          obtain ⟨i1, i2⟩ := searchF_lim hs k (loadStep c loads (c.sizes.length - (k + 1)) p) L1 L2 (M + 2048) (hx p) (by omega) (by omega) (by omega)
          have s1 : srchStep (searchF c k) c (c.sizes.length - (k + 1)) loads ([], L1, false) p = if (searchF c k (loadStep c loads (c.sizes.length - (k + 1)) p) L1).2.2 = true then (p :: (searchF c k (loadStep c loads (c.sizes.length - (k + 1)) p) L1).1, (searchF c k (loadStep c loads (c.sizes.length - (k + 1)) p) L1).2.1, true) else ([], L1, false) := if_neg (by show ¬ L1 ≤ _; omega)
          have s2 : srchStep (searchF c k) c (c.sizes.length - (k + 1)) loads ([], L2, false) p = if (searchF c k (loadStep c loads (c.sizes.length - (k + 1)) p) L2).2.2 = true then (p :: (searchF c k (loadStep c loads (c.sizes.length - (k + 1)) p) L2).1, (searchF c k (loadStep c loads (c.sizes.length - (k + 1)) p) L2).2.1, true) else ([], L2, false) := if_neg (by show ¬ L2 ≤ _; omega)
          rw [s1, s2, ← i1]
          by_cases hfd : (searchF c k (loadStep c loads (c.sizes.length - (k + 1)) p) L1).2.2 = true
          · rw [if_pos hfd, if_pos hfd, i2 hfd]
            exact ⟨rfl, fun _ => rfl, fun h => (by cases h)⟩
          · rw [if_neg hfd, if_neg hfd]
            exact ⟨rfl, fun h => (by cases h), fun _ => ⟨rfl, rfl⟩⟩
    unfold searchF
    exact hall _ _ _ ⟨rfl, fun h => (by cases h), fun _ => ⟨rfl, rfl⟩⟩
theorem rowPr_of {c : CaseD} {i : Int} {a : Nat} : ∀ {k b : Nat}, a < b → b < k → openB c i a = true → openB c i b = true → ((a : Int), (b : Int)) ∈ rowPr c i a k
  | 0, b, _, h, _, _ => absurd h (Nat.not_lt_zero _)
  | k + 1, b, hab, hb, h1, h2 => by
    rw [rowPr]
    rcases Nat.lt_succ_iff_lt_or_eq.1 hb with hb | rfl
    · exact List.mem_append_left _ (rowPr_of hab hb h1 h2)
    · refine List.mem_append_right _ ?_
      rw [if_pos ⟨hab, h1, h2⟩]; exact List.mem_singleton.2 rfl
theorem allPr_of {c : CaseD} {i : Int} {n : Nat} {p : Int × Int} (h : ((p.1.toNat : Int), (p.2.toNat : Int)) ∈ rowPr c i p.1.toNat n) : ∀ {a : Nat}, p.1.toNat < a → ((p.1.toNat : Int), (p.2.toNat : Int)) ∈ allPr c i n a
  | 0, ha => absurd ha (Nat.not_lt_zero _)
  | a + 1, ha => by
    rw [allPr]
    rcases Nat.lt_succ_iff_lt_or_eq.1 ha with ha | rfl
    · exact List.mem_append_left _ (allPr_of h ha)
    · exact List.mem_append_right _ h
theorem pairsOf_of {c : CaseD} {i : Int} {p : Int × Int} (h0 : 0 ≤ p.1) (h1 : p.1 < p.2) (h2 : p.2 < c.people) (o1 : openB c i p.1 = true) (o2 : openB c i p.2 = true) : p ∈ pairsOf c i := by
  have e : p = ((p.1.toNat : Int), (p.2.toNat : Int)) := by
    obtain ⟨a, b⟩ := p
    simp only at *
    rw [Int.toNat_of_nonneg h0, Int.toNat_of_nonneg (by omega)]
  rw [e]
  refine allPr_of (rowPr_of (by omega) (by omega) ?_ ?_) (by omega)
  · rw [Int.toNat_of_nonneg h0]; exact o1
  · rw [Int.toNat_of_nonneg (by omega)]; exact o2
theorem openN_two {c : CaseD} {i : Int} : ∀ {k : Nat}, 2 ≤ openN c i k → ∃ a b : Nat, a < b ∧ b < k ∧ openB c i a = true ∧ openB c i b = true
  | 0, h => by simp [openN] at h
  | k + 1, h => by
    rw [openN_succ] at h
    by_cases h2 : 2 ≤ openN c i k
    · obtain ⟨a, b, g1, g2, g3⟩ := openN_two h2
      exact ⟨a, b, g1, by omega, g3⟩
    · split at h
      · rename_i ho
        have h1 : 1 ≤ openN c i k := by omega
        have : ∃ a : Nat, a < k ∧ openB c i a = true := by
          have hne : (List.range k).filter (fun (p : Nat) => openB c i p) ≠ [] := fun e => by
            have : openN c i k = 0 := by unfold openN; rw [e]; rfl
            omega
          obtain ⟨a, ha⟩ := List.exists_mem_of_ne_nil _ hne
          obtain ⟨g1, g2⟩ := List.mem_filter.1 ha
          exact ⟨a, List.mem_range.1 g1, g2⟩
        obtain ⟨a, g1, g2⟩ := this
        exact ⟨a, k, g1, Nat.lt_succ_self k, g2, ho⟩
      · omega
theorem pairs_some {c : CaseD} (hG : Good c) {i : Nat} (hi : i < c.sizes.length) : ∃ p, p ∈ pairsOf c (i : Int) := by
  obtain ⟨a, b, g1, g2, g3, g4⟩ := openN_two (hG.some i hi)
  exact ⟨((a : Int), (b : Int)), pairsOf_of (by simp only; omega) (by simp only; omega) (by simp only; omega) g3 g4⟩
theorem fits_some {c : CaseD} (hG : Good c) : ∀ k, k ≤ c.sizes.length → ∃ l, l.length = k ∧ fitsL c (c.sizes.length - k) l
  | 0, _ => ⟨[], rfl, trivial⟩
  | k + 1, h => by
    obtain ⟨l, h1, h2⟩ := fits_some hG k (by omega)
    obtain ⟨p, hp⟩ := pairs_some hG (i := c.sizes.length - (k + 1)) (by omega)
    exact ⟨p :: l, by simp [h1], hp, by rw [show c.sizes.length - (k + 1) + 1 = c.sizes.length - k by omega]; exact h2⟩
theorem runL_rng {c : CaseD} (hs : ∀ x, x ∈ c.sizes → 0 ≤ x ∧ x ≤ 1024) : ∀ (l : List (Int × Int)) (i : Nat) (loads : List Int) (M : Int), 0 ≤ M → (∀ x, x ∈ loads → 0 ≤ x ∧ x ≤ M) → ∀ x, x ∈ runL c i loads l → 0 ≤ x ∧ x ≤ M + 2048 * l.length
  | [], _, loads, M, _, h, x, hx => by have := h x hx; simp only [List.length_nil]; omega
  | p :: r, i, loads, M, h0, h, x, hx => by
    have hz : 0 ≤ li c.sizes i ∧ li c.sizes i ≤ 1024 := li_rng (m := 0) (M := 1024) hs (by omega) _
    have h1 : ∀ x, x ∈ loadStep c loads i p → 0 ≤ x ∧ x ≤ M + 2048 := addAt_rng (addAt_rng h (M := M + 1024) (by omega) (by omega)) (by omega) (by omega)
    have := runL_rng hs r (i + 1) (loadStep c loads i p) (M + 2048) (by omega) h1 x hx
    simp only [List.length_cons]; omega
def zerosL (c : CaseD) : List Int := List.replicate c.people.toNat 0
theorem zeros_ok (c : CaseD) : LoadOk c (zerosL c) := ⟨by simp [zerosL], fun x hx => by rw [(List.mem_replicate.1 hx).2]; exact Int.le_refl _⟩
theorem zeros_rng (c : CaseD) : ∀ x, x ∈ zerosL c → 0 ≤ x ∧ x ≤ 0 := fun x hx => by rw [(List.mem_replicate.1 hx).2]; exact ⟨Int.le_refl _, Int.le_refl _⟩
theorem Good.pos {c : CaseD} (hG : Good c) : ∀ x, x ∈ c.sizes → 0 ≤ x := fun x hx => by have := hG.size x hx; omega
theorem Good.rng {c : CaseD} (hG : Good c) : ∀ x, x ∈ c.sizes → 0 ≤ x ∧ x ≤ 1024 := fun x hx => by have := hG.size x hx; omega
theorem search_good {c : CaseD} (hG : Good c) {L : Int} (hL : 2048 * (c.sizes.length : Int) < L) : (searchF c c.sizes.length (zerosL c) L).2.2 = true := by
  obtain ⟨l, h1, h2⟩ := fits_some hG c.sizes.length (Nat.le_refl _)
  refine (searchF_min (by have := hG.lo; omega) hG.pos c.sizes.length (zerosL c) L l (zeros_ok c) (Nat.le_refl _) h1 h2 ?_).1
  have := greatest_le (l := runL c (c.sizes.length - c.sizes.length) (zerosL c) l) (m := 2048 * c.sizes.length) (by omega) fun x hx => by
    have := runL_rng hG.rng l _ (zerosL c) 0 (Int.le_refl _) (zeros_rng c) x hx
    rw [h1] at this; omega
  omega
theorem exact_eq {c : CaseD} (hG : Good c) (b0 : List (Int × Int)) : exF c c.sizes.length [] (zerosL c) (b0, 9223372036854775807) = ((searchF c c.sizes.length (zerosL c) 1048576).1, (searchF c c.sizes.length (zerosL c) 1048576).2.1) := by
  have hm := hG.many
  have h1 := search_good hG (L := 9223372036854775807) (by omega)
  have h2 := search_good hG (L := 1048576) (by omega)
  rw [exF_search (by have := hG.lo; omega) hG.pos _ _ _ _ _ (zeros_ok c), if_pos h1, (searchF_lim hG.rng c.sizes.length (zerosL c) 9223372036854775807 1048576 0 (zeros_rng c) (Int.le_refl _) (by omega) (by omega)).2 h1]
  rfl
theorem runL_append (c : CaseD) : ∀ (l : List (Int × Int)) (i : Nat) (loads : List Int) (p : Int × Int), runL c i loads (l ++ [p]) = loadStep c (runL c i loads l) (i + l.length) p
  | [], i, loads, p => rfl
  | q :: r, i, loads, p => by
    show runL c (i + 1) (loadStep c loads i q) (r ++ [p]) = _
    rw [runL_append c r (i + 1) _ p, show i + 1 + r.length = i + (q :: r).length by simp; omega]; rfl
theorem loadsG_run (c : CaseD) (ps : List (Int × Int)) : ∀ i, i ≤ ps.length → loadsG c ps i = runL c 0 (zerosL c) (ps.take i)
  | 0, _ => rfl
  | i + 1, h => by
    rw [loadsG, loadsG_run c ps i (by omega), List.take_succ_eq_append_getElem (by omega), runL_append, ← lp_get (show i < ps.length by omega), List.length_take]
    congr 1
    omega
theorem fits_at {c : CaseD} : ∀ {l : List (Int × Int)} {i j : Nat}, fitsL c i l → j < l.length → lp l j ∈ pairsOf c ((i + j : Nat) : Int)
  | [], _, _, _, h => absurd h (Nat.not_lt_zero _)
  | p :: r, i, 0, h, _ => h.1
  | p :: r, i, j + 1, h, hj => by
    have := fits_at (j := j) h.2 (by simpa using hj)
    rw [show i + (j + 1) = i + 1 + j by omega]; exact this
theorem fits_mk {c : CaseD} : ∀ {l : List (Int × Int)} {i : Nat}, (∀ j, j < l.length → lp l j ∈ pairsOf c ((i + j : Nat) : Int)) → fitsL c i l
  | [], _, _ => trivial
  | p :: r, i, h => ⟨h 0 (Nat.zero_lt_succ _), fits_mk fun j hj => by
      have := h (j + 1) (by simpa using hj)
      rw [show i + 1 + j = i + (j + 1) by omega]; exact this⟩
theorem fits_loads {c : CaseD} (hG : Good c) (hv : validC c = 0) {l : List (Int × Int)} (hl : l.length = c.sizes.length) (hf : fitsL c 0 l) : loadsE c l = 0 ∧ loadsR c l = runL c 0 (zerosL c) l := by
  obtain ⟨h1, h2⟩ := loads_ok hv hl fun i hi => by
    have := pairsOf_mem (by have := hG.lo; omega) (fits_at hf hi)
    rw [Nat.zero_add] at this
    unfold badPair
    simp only [Bool.or_eq_false_iff, decide_eq_false_iff_not, Bool.not_eq_false']
    exact ⟨⟨⟨⟨by omega, by omega⟩, by omega⟩, this.2.2.2.1⟩, this.2.2.2.2⟩
  refine ⟨h1, ?_⟩
  rw [h2, loadsG_run c l _ (Nat.le_refl _), List.take_length]
theorem loads_fits {c : CaseD} {l : List (Int × Int)} (h : loadsE c l = 0) : validC c = 0 ∧ l.length = c.sizes.length ∧ fitsL c 0 l := by
  have hv : validC c = 0 := Classical.byContradiction fun g => g (by rw [(loads_bad g).1] at h; exact h)
  have hl : l.length = c.sizes.length := Classical.byContradiction fun g => by rw [(loads_len hv g).1] at h; cases h
  refine ⟨hv, hl, fits_mk fun j hj => ?_⟩
  have hb : badPair c j (lp l j) = false := by
    cases hb : badPair c j (lp l j) with
    | false => rfl
    | true => rw [(loads_pair hv hl hj hb).1] at h; cases h
  obtain ⟨g1, g2, g3, g4, g5⟩ := badPair_no hb
  rw [Nat.zero_add]
  exact pairsOf_of g1 g2 g3 g4 g5
structure QuickD where
  out : List (Int × Int)
  done : List Bool
  loads : List Int
def qAt (c : CaseD) (s : QuickD) : Int := pickS c s.done c.sizes.length
def qA (c : CaseD) (s : QuickD) : Int := leastC c (qAt c s) s.loads (-1)
def qB (c : CaseD) (s : QuickD) : Int := leastC c (qAt c s) s.loads (qA c s)
def qStep (c : CaseD) (s : QuickD) : QuickD :=
  ⟨s.out.set (qAt c s).toNat (min (qA c s) (qB c s), max (qA c s) (qB c s)), s.done.set (qAt c s).toNat true, addAt (addAt s.loads (qA c s) (li c.sizes (qAt c s).toNat)) (qB c s) (li c.sizes (qAt c s).toNat)⟩
def quickQ (c : CaseD) : Nat → QuickD
  | 0 => ⟨List.replicate c.sizes.length (0, 0), List.replicate c.sizes.length false, List.replicate c.people.toNat 0⟩
  | k + 1 => qStep c (quickQ c k)
def quickS (c : CaseD) : List (Int × Int) := (quickQ c c.sizes.length).out
theorem count_set : ∀ (l : List Bool) (i : Nat), i < l.length → l.getD i false = false → (l.set i true).count true = l.count true + 1
  | [], i, h, _ => absurd h (Nat.not_lt_zero _)
  | b :: l, 0, _, h => by
    have : b = false := h
    subst this; simp
  | b :: l, i + 1, h, h2 => by
    have := count_set l i (by simpa using h) (by simpa using h2)
    simp only [List.set_cons_succ, List.count_cons, this]; omega
theorem count_free : ∀ (l : List Bool), l.count true < l.length → ∃ i, i < l.length ∧ l.getD i false = false
  | [], h => absurd h (Nat.lt_irrefl _)
  | false :: l, _ => ⟨0, by simp, rfl⟩
  | true :: l, h => by
    obtain ⟨i, h1, h2⟩ := count_free l (by simpa using h)
    exact ⟨i + 1, by simpa using h1, by simpa using h2⟩
structure QuickI (c : CaseD) (k : Nat) : Prop where
  out : (quickQ c k).out.length = c.sizes.length
  done : (quickQ c k).done.length = c.sizes.length
  loads : (quickQ c k).loads.length = c.people.toNat
  count : (quickQ c k).done.count true = k
  rng : ∀ x, x ∈ (quickQ c k).loads → 0 ≤ x ∧ x ≤ 2048 * (k : Int)
theorem quickI_at {c : CaseD} {k : Nat} (h : QuickI c k) (hk : k < c.sizes.length) : 0 ≤ qAt c (quickQ c k) ∧ qAt c (quickQ c k) < c.sizes.length ∧ (quickQ c k).done.getD (qAt c (quickQ c k)).toNat false = false := by
  obtain ⟨h1, h2⟩ := pickS_free c (quickQ c k).done c.sizes.length
  have h0 := h2 (by rw [← h.done]; exact count_free _ (by rw [h.count, h.done]; exact hk))
  exact ⟨h0, (pickS_rng c _ _).2, h1 h0⟩
theorem quickI {c : CaseD} (hG : Good c) : ∀ k, k ≤ c.sizes.length → QuickI c k
  | 0, _ => ⟨by simp [quickQ], by simp [quickQ], by simp [quickQ], by simp [quickQ, List.count_replicate], fun x hx => by
      have := (List.mem_replicate.1 (show x ∈ List.replicate c.people.toNat 0 from hx)).2; omega⟩
  | k + 1, hk => by
    have ih := quickI hG k (by omega)
    obtain ⟨h1, h2, h3⟩ := quickI_at ih (by omega)
    have hs := li_rng (l := c.sizes) (m := 0) (M := 1024) (fun x hx => by have := hG.size x hx; omega) (by omega) (qAt c (quickQ c k)).toNat
    refine ⟨by simp [quickQ, qStep, ih.out], by simp [quickQ, qStep, ih.done], by simp [quickQ, qStep, addAt_len, ih.loads], ?_, ?_⟩
    · show ((quickQ c k).done.set _ true).count true = _
      rw [count_set _ _ (by rw [ih.done]; omega) h3, ih.count]
    · exact fun x hx => addAt_rng (addAt_rng ih.rng (M := 2048 * k + 1024) (by omega) (by omega)) (by omega) (by omega) x hx
theorem set_encP (l : List (Int × Int)) (i : Nat) (a b : Int) : (l.map encP).set i (PV.agg [PV.atom (.int .i64 a), PV.atom (.int .i64 b)]) = (l.set i (a, b)).map encP := by rw [List.map_set]; rfl
theorem zeros_P (n : Nat) : List.replicate n (PV.agg [PV.atom (.int .i64 0), PV.atom (.int .i64 0)]) = (List.replicate n ((0 : Int), (0 : Int))).map encP := by rw [List.map_replicate]; rfl
theorem zeros_I (n : Nat) : List.replicate n (PV.atom (.int .i64 0)) = (List.replicate n (0 : Int)).map encI := by rw [List.map_replicate]; rfl
def resVs (P : Program) (S : St) : List ResultVar → Option (List PV)
  | [] => some []
  | .tmp t :: l => (resVs P S l).map (S.get t :: ·)
  | .cell a t :: l => match S.get a, tAgg P t, tSize P t with
    | .ptr i sz k c, some ag, some m => match S.obj i with
      | some o => if o.sz = sz ∧ k < o.els.length ∧ (bif ag then decide (c + m ≤ (o.els.getD k .junk).cells.length) else decide (c < (o.els.getD k .junk).cells.length)) = true then (resVs P S l).map ((o.els.getD k .junk).part ag c m :: ·) else none
      | none => none
    | _, _, _ => none
def resSt (S : St) (vs : List PV) : St := ⟨argEnv 0 vs, S.hp, S.nx, S.gh⟩
def ResR (P : Program) (S : St) (rv : List ResultVar) (r : PV) (os : List AO) : Prop := ∃ vs, resVs P S rv = some vs ∧ ResOk (resSt S vs) (List.range vs.length) r os
def ResPR (P : Program) (S : St) (rv : List ResultVar) (r : PV) (hp : List AO) (hp' : List (Option AO)) (os : List AO) : Prop := ∃ vs, resVs P S rv = some vs ∧ ResP (resSt S vs) (List.range vs.length) r hp hp' os
def retQR (P : Program) (rv : List ResultVar) (r : PV) (os : List AO) : Exit → St → Prop
  | .normal, S => ResR P S rv r os
  | .ret, S => ResR P S rv r os
  | _, _ => False
def retPR (P : Program) (rv : List ResultVar) (r : PV) (hp : List AO) (hp' : List (Option AO)) (os : List AO) : Exit → St → Prop
  | .normal, S => ResPR P S rv r hp hp' os
  | .ret, S => ResPR P S rv r hp hp' os
  | _, _ => False
theorem argEnv_range (S : St) (vs : List PV) : (List.range vs.length).map (resSt S vs).get = vs := by
  apply List.ext_getElem
  · simp
  · intro i h1 h2
    simp only [List.getElem_map, List.getElem_range]
    show (lk (argEnv 0 vs) i).getD .junk = _
    rw [lk_argEnv]; simp [h2]
theorem retV_resSt (S : St) (vs : List PV) : retV (resSt S vs) (List.range vs.length) = match vs with | [v] => v | vs => .tup vs := by
  have := argEnv_range S vs
  match vs, this with
  | [], _ => rfl
  | [v], _ => rfl
  | a :: b :: l, h =>
    have e : List.range (a :: b :: l).length = 0 :: 1 :: (List.range l.length).map (· + 2) := by
      have h1 := List.range_succ_eq_map (n := (b :: l).length)
      simp only [List.length_cons] at h1 ⊢
      rw [h1, List.range_succ_eq_map]; simp
    rw [e] at h ⊢
    show PV.tup _ = _
    rw [h]
section
variable {P : Program} {n : Nat} {S : St} {Q : Exit → St → Prop}
theorem tup_rep {D : Nat → Prop} {μ : Nat → Option Nat} {F : Nat → Prop} {w : World} {xs : List Value} {vs : List PV} (hl : xs.length = vs.length) (h : ∀ i (h : i < vs.length), Rep D μ F w vs[i] (xs.getD i undef)) :
    Rep D μ F w (match vs with | [v] => v | vs => .tup vs) (if h : xs.toArray.size = 1 then xs.toArray[0] else .tuple xs.toArray) := by
  match vs, xs with
  | [v], [x] => simpa using h 0 (by simp)
  | [], [] => simp; exact .tup _ _ rfl (fun i hi => by simp at hi)
  | a :: b :: r, x :: y :: z =>
    rw [dif_neg (by simp)]
    refine .tup _ _ (by simpa using hl) fun i hi => ?_
    have := h i hi
    simpa [Array.getD_eq_getD_getElem?, List.getD_eq_getElem?_getD] using this
  | [], x :: z => simp at hl
  | [v], [] => simp at hl
  | [v], x :: y :: z => simp at hl
  | a :: b :: r, [] => simp at hl
  | a :: b :: r, [x] => simp at hl
theorem run_resVs {w0 : Home} {F0 D : Nat → Prop} {μ : Nat → Option Nat} {F : Nat → Prop} {w : World} {fn : Func} {rv : List ResultVar} (hr : fn.results = rv.toArray) {tmps : Array Value} (hH : HeapSim w0 F0 D μ F S.obj w) (he : ∀ s, Rep D μ F w (S.get s) (tmps.getD s undef)) {vs : List PV} (hvs : resVs P S rv = some vs) :
    ∃ v, (results fn tmps).run P w = .ok v w ∧ Rep D μ F w (retV (resSt S vs) (List.range vs.length)) v := by
  let f : ResultVar → Sem Value := fun
    | .tmp t => pure (tmps.getD t undef)
    | .cell a t => do loadVar t (← asAddr (tmps.getD a undef))
  have key : ∀ (l : List ResultVar) (vs : List PV), resVs P S l = some vs → ∃ xs : List Value, (l.mapM f).run P w = .ok xs w ∧ xs.length = vs.length ∧ ∀ i (h : i < vs.length), Rep D μ F w vs[i] (xs.getD i undef) := by
    intro l
    induction l with
    | nil => intro vs h; cases h; exact ⟨[], by simp, rfl, fun i h => by simp at h⟩
    | cons x l ih =>
      intro vs h
      cases x with
      | tmp t =>
        simp only [resVs] at h
        cases hl : resVs P S l with
        | none => rw [hl] at h; cases h
        | some vs' =>
          rw [hl] at h; cases h
          obtain ⟨xs, h1, h2, h3⟩ := ih vs' hl
          refine ⟨tmps.getD t undef :: xs, ?_, by simp [h2], fun i hi => ?_⟩
          · rw [List.mapM_cons, Sem.run_bind, show (f (.tmp t)).run P w = .ok (tmps.getD t undef) w from rfl]
            simp only [Result.andThen_ok, Sem.run_bind, h1, Sem.run_pure]
          · cases i with
            | zero => simpa using he t
            | succ i => simpa using h3 i (by simpa using hi)
      | cell a t =>
        simp only [resVs] at h
        split at h <;> try (cases h; done)
        rename_i i sz k c ag m hp ha hm
        split at h <;> try (cases h; done)
        rename_i o ho
        split at h <;> try (cases h; done)
        rename_i hc
        cases hl : resVs P S l with
        | none => rw [hl] at h; cases h
        | some vs' =>
          rw [hl] at h; cases h
          obtain ⟨xs, h1, h2, h3⟩ := ih vs' hl
          have hrep := he a
          rw [hp] at hrep
          generalize hu : tmps.getD a undef = u at hrep
          cases hrep with
          | ptr _ _ _ _ b hD hb =>
            have hok := hH.ok ho hb
            have hk := hc.2.1
            have hin := hc.2.2
            rw [cellget _ _ hk] at hin ⊢
            have hin' : bif ag then c + m ≤ o.els[k].cells.length else c < o.els[k].cells.length := by
              cases ag
              · simp only [cond_false] at hin ⊢; exact of_decide_eq_true hin
              · simp only [cond_true] at hin ⊢; exact of_decide_eq_true hin
            obtain ⟨v, g1, g2⟩ := run_loadVar_part (D := D) (μ := μ) (F := F) (w := w) (ad := ⟨b, k * sz + c, none⟩) ha hm hin' rfl (fun j hj hcj => by
              obtain ⟨v, g1, _, g3⟩ := hok.cell hk hj
              refine ⟨v, ?_, g3⟩
              rw [← hc.1]
              rw [show k * o.sz + c + (j - c) = k * o.sz + j by omega]; exact g1)
            refine ⟨v :: xs, ?_, by simp [h2], fun i hi => ?_⟩
            · rw [List.mapM_cons, Sem.run_bind, show (f (.cell a t)).run P w = .ok v w by
                show (do loadVar t (← asAddr (tmps.getD a undef)) : Sem Value).run P w = _
                rw [hu]; simpa [asAddr] using g1]
              simp only [Result.andThen_ok, Sem.run_bind, h1, Sem.run_pure]
            · cases i with
              | zero => simpa using g2
              | succ i => simpa using h3 i (by simpa using hi)
  obtain ⟨xs, h1, h2, h3⟩ := key rv vs hvs
  refine ⟨if h : xs.toArray.size = 1 then xs.toArray[0] else .tuple xs.toArray, ?_, ?_⟩
  · have e : results fn tmps = (do let vs ← fn.results.mapM f; pure (if h : vs.size = 1 then vs[0] else .tuple vs)) := rfl
    rw [e, hr, Array.mapM_eq_mapM_toList, Sem.run_bind, Sem.run_map, show (rv.toArray.toList.mapM f).run P w = .ok xs w by simpa using h1]
    rfl
  · rw [retV_resSt]; exact tup_rep h2 h3
theorem PureCall.introR {f : FuncId} {fn : Func} {c : Code} {args : List PV} {r : PV} {os : List AO} {rv : List ResultVar} (hf : P.funcs[f]? = some fn) (hb : fn.body = some c) (hr : fn.results = rv.toArray) (hn : fn.ntmps = n) (hla : args.length ≤ n) (hpure : args.all PV.pure = true)
    (h : Tri P n c ⟨argEnv 0 args, [], 0, []⟩ (retQR P rv r os)) : PureCall P f args r os := by
  intro D μ F w vs hvs hargs hFs
  refine calls_of_wp hf hb ?_
  have hS : Sim ⟨w, fun _ => False⟩ F (fun _ => False) μ F [] ⟨argEnv 0 args, [], 0, []⟩ n { tmps := vs ++ Array.replicate (fn.ntmps - vs.size) undef, defers := [] } w := by
    refine ⟨rfl, by simp [hvs, hn]; omega, fun s => ?_, ⟨fun i o hi => (by cases hi), fun i j o o' b hi => (by cases hi), fun i o b hi => (by cases hi), Ext.refl _ _, fun b hb => .inl hb, hFs⟩, fun i hi => hi.elim, rfl, fun i hi => by simp at hi⟩
    show Rep _ μ F w ((lk (argEnv 0 args) s).getD .junk) _
    rw [lk_argEnv]
    simp only [Nat.zero_le, if_true, Nat.sub_zero]
    by_cases hs : s < args.length
    · rw [List.getElem?_eq_getElem hs]
      simp only [Option.getD_some]
      have e : (vs ++ Array.replicate (fn.ntmps - vs.size) undef).getD s undef = vs.getD s undef := by
        simp only [Array.getD_eq_getD_getElem?]
        rw [Array.getElem?_append_left (by omega)]
      rw [e]
      exact (hargs s hs).pureAny (all_get hpure s hs)
    · rw [List.getElem?_eq_none (by omega)]
      exact .junk _
  refine wp_mono (h _ F _ μ F [] _ w hS) fun e a' w' ⟨S', D', μ', F', h1, h2⟩ => ?_
  have fin : ResR P S' rv r os → a'.defers = [] ∧ ∃ v, (results fn a'.tmps).run P w' = .ok v w' ∧ ∃ v', Ending.returned v = .returned v' ∧ Below w.heap.size w w' ∧ ResIs F w w' r os v' := fun ⟨vs, hvs, hres⟩ => by
    obtain ⟨v, hv, hrep⟩ := run_resVs (P := P) (S := S') hr h2.heap h2.env hvs
    exact ⟨h2.defers, v, hv, v, rfl, h2.heap.ext.below (fun _ h => h), hres.is h2.heap h2.ids hrep⟩
  cases e with
  | normal => exact fin h1
  | ret => exact fin h1
  | exit id => exact h1.elim
  | goto l => exact h1.elim
  | panic ch => exact h1.elim
  | outgrown => exact h1.elim
theorem ProcCall.introR {f : FuncId} {fn : Func} {c : Code} {args : List PV} {hp : List AO} {r : PV} {hp' : List (Option AO)} {os : List AO} {rv : List ResultVar} (hf : P.funcs[f]? = some fn) (hb : fn.body = some c) (hr : fn.results = rv.toArray) (hn : fn.ntmps = n) (hla : args.length ≤ n)
    (hlen : hp'.length = hp.length) (h : Tri P n c ⟨argEnv 0 args, objEnv 0 (hp.map some), hp.length, marks 0 hp⟩ (retPR P rv r hp hp' os)) : ProcCall P f args hp r hp' os := by
  refine ⟨hlen, fun μ F w vs hH hvs hargs => calls_of_wp hf hb ?_⟩
  have hobj : (St.mk (argEnv 0 args) (objEnv 0 (hp.map some)) hp.length (marks 0 hp)).obj = fun i => hp[i]? := by
    funext i
    show (lk (objEnv 0 (hp.map some)) i).join = _
    rw [lk_objEnv]
    simp only [Nat.zero_le, if_true, Nat.sub_zero, List.getElem?_map]
    cases hp[i]? <;> rfl
  have hS : Sim ⟨w, fun b => ∃ i, i < hp.length ∧ μ i = some b⟩ F (· < hp.length) μ F ((List.range hp.length).map fun i => placeV (μ i)) ⟨argEnv 0 args, objEnv 0 (hp.map some), hp.length, marks 0 hp⟩ n { tmps := vs ++ Array.replicate (fn.ntmps - vs.size) undef, defers := [] } w := by
    refine ⟨rfl, by simp [hvs, hn]; omega, fun s => ?_, by rw [hobj]; exact hH, fun i hi => hi, by simp [marks_length], fun i hi => ?_⟩
    · show Rep _ μ F w ((lk (argEnv 0 args) s).getD .junk) _
      rw [lk_argEnv]
      simp only [Nat.zero_le, if_true, Nat.sub_zero]
      by_cases hs : s < args.length
      · rw [List.getElem?_eq_getElem hs]
        simp only [Option.getD_some]
        have e : (vs ++ Array.replicate (fn.ntmps - vs.size) undef).getD s undef = vs.getD s undef := by
          simp only [Array.getD_eq_getD_getElem?]
          rw [Array.getElem?_append_left (by omega)]
        rw [e]
        exact hargs s hs
      · rw [List.getElem?_eq_none (by omega)]
        exact .junk _
    · simp only at hi
      have hi' : i < hp.length := by rwa [marks_length] at hi
      have e1 : (marks 0 hp)[i]'hi = .ob i (hp[i]).sz 0 0 := by
        have := marks_get hp 0 i
        rw [List.getElem?_eq_getElem hi, List.getElem?_eq_getElem hi'] at this
        simpa using this
      have e2 : ((List.range hp.length).map fun i => placeV (μ i)).getD i undef = placeV (μ i) := by simp [List.getD_eq_getElem?_getD, hi']
      rw [e1, e2]
      cases hm : μ i with
      | none => exact .obn i _ hi' hm
      | some b =>
        have := Rep.ob (D := (· < hp.length)) (μ := μ) (F := F) (w := w) i (hp[i]).sz 0 0 0 b hi' hm (Nat.le_refl _) (by unfold maxLen; omega) (by simp)
        simpa [placeV] using this
  refine wp_mono (h _ F _ μ F _ _ w hS) fun e a' w' ⟨S', D', μ', F', h1, h2⟩ => ?_
  have fin : ResPR P S' rv r hp hp' os → a'.defers = [] ∧ ∃ v, (results fn a'.tmps).run P w' = .ok v w' ∧ ∃ v', Ending.returned v = .returned v' ∧ ∃ (μ2 : Nat → Option Nat) (F2 : Nat → Prop), Rep (· < hp.length + os.length) μ2 F2 w' r v' ∧
      HeapSim ⟨w, fun b => ∃ i, i < hp.length ∧ μ i = some b⟩ F (· < hp.length + os.length) μ2 F2 (fun i => ((hp' ++ os.map some)[i]?).join) w' ∧ (∀ i, i < hp.length → μ2 i = μ i) := fun ⟨vs, hvs, L, k, hr1, hl0⟩ => by
    have hl : LeqS k L S' ⟨[], objEnv 0 (hp' ++ os.map some), hp'.length + os.length, marks 0 hp⟩ := ⟨fun p hp => (by cases hp), hl0.hp, hl0.nx, hl0.nodup, hl0.ghl, hl0.gh⟩
    have hr1 : sealed S'.obj (fun i => L.contains i) k (retV (resSt S' vs) (List.range vs.length)) = r.ren (rmap L S'.nx) := hr1
    obtain ⟨v, hv, hrep⟩ := run_resVs (P := P) (S := S') hr h2.heap h2.env hvs
    have h3 := h2.leq ⟨k, hl⟩
    have hD : ∀ i, D' (rmap L S'.nx i) → i < hp.length + os.length ∧ μ' (rmap L S'.nx i) = μ' (rmap L S'.nx i) := fun i hi => ⟨by
      have := h3.ids i hi
      have e : (St.mk [] (objEnv 0 (hp' ++ os.map some)) (hp'.length + os.length) (marks 0 hp)).nx = hp'.length + os.length := rfl
      rw [e] at this; omega, rfl⟩
    refine ⟨h2.defers, v, hv, v, rfl, fun i => μ' (rmap L S'.nx i), frz S' L μ' F', ?_, ?_, fun i hi => ?_⟩
    · have := Rep.sealed h2.heap (fun i => L.contains i) (frz S' L μ' F') (fun b h => .inl h) (fun i o b h1 h2 h3 => .inr ⟨i, o, h1, h2, h3⟩) k _ _ hrep
      rw [hr1] at this
      exact this.ren_inv hD _ rfl
    · have := h3.heap.widen (D' := (· < hp.length + os.length)) (fun i hi => (hD i hi).1)
      have e : (St.mk [] (objEnv 0 (hp' ++ os.map some)) (hp'.length + os.length) (marks 0 hp)).obj = fun i => ((hp' ++ os.map some)[i]?).join := by
        funext i
        show (lk (objEnv 0 (hp' ++ os.map some)) i).join = _
        rw [lk_objEnv]; simp
      rw [e] at this
      exact this
    · have hi2 : i < (marks 0 hp).length := by rw [marks_length]; exact hi
      have := h3.gh i hi2
      have e1 : (marks 0 hp)[i]'hi2 = .ob i (hp[i]).sz 0 0 := by
        have := marks_get hp 0 i
        rw [List.getElem?_eq_getElem hi2, List.getElem?_eq_getElem hi] at this
        simpa using this
      have e2 : ((List.range hp.length).map fun i => placeV (μ i)).getD i undef = placeV (μ i) := by simp [List.getD_eq_getElem?_getD, hi]
      simp only [e1, e2] at this
      generalize hpv : placeV (μ i) = pv at this
      cases this with
      | ob _ _ _ _ cap b g1 g2 g3 g4 g5 =>
        show μ' (rmap L S'.nx i) = μ i
        rw [g2]
        cases hm : μ i with
        | none => rw [hm] at hpv; cases hpv
        | some b2 => rw [hm] at hpv; simp only [placeV, Value.slice.injEq, Option.some.injEq, Addr.mk.injEq] at hpv; rw [hpv.1.1]
      | obn _ _ g1 g2 =>
        show μ' (rmap L S'.nx i) = μ i
        rw [g2]
        cases hm : μ i with
        | none => rfl
        | some b2 => rw [hm] at hpv; cases hpv
  cases e with
  | normal => exact fin h1
  | ret => exact fin h1
  | exit id => exact h1.elim
  | goto l => exact h1.elim
  | panic ch => exact h1.elim
  | outgrown => exact h1.elim
theorem Pure.introR {f : FuncId} {fn : Func} {c : Code} {args : List PV} {r : PV} {os : List AO} {rv : List ResultVar} (hf : P.funcs[f]? = some fn) (hname : (fn.name == "runtime.NumGoroutine") = false) (hb : fn.body = some c) (hr : fn.results = rv.toArray) (hn : fn.ntmps = n) (hla : args.length ≤ n) (hpure : args.all PV.pure = true)
    (h : Tri P n c ⟨argEnv 0 args, [], 0, []⟩ (retQR P rv r os)) : Pure P f args r os := ⟨Go.Proofs.enters_of hf hname hb, PureCall.introR hf hb hr hn hla hpure h⟩
theorem Proc.introR {f : FuncId} {fn : Func} {c : Code} {args : List PV} {hp : List AO} {r : PV} {hp' : List (Option AO)} {os : List AO} {rv : List ResultVar} (hf : P.funcs[f]? = some fn) (hname : (fn.name == "runtime.NumGoroutine") = false) (hb : fn.body = some c) (hr : fn.results = rv.toArray) (hn : fn.ntmps = n) (hla : args.length ≤ n)
    (hlen : hp'.length = hp.length) (h : Tri P n c ⟨argEnv 0 args, objEnv 0 (hp.map some), hp.length, marks 0 hp⟩ (retPR P rv r hp hp' os)) : Proc P f args hp r hp' os := ⟨Go.Proofs.enters_of hf hname hb, ProcCall.introR hf hb hr hn hla hlen h⟩
end
end Go.Proofs.Ytcdeilgijleoaaa
