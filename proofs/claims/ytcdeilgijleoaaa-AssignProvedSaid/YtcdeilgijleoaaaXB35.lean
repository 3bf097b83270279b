/-
  Plain: the search of package assign and that of the reference model are the same; what they find is least.
-/
import Derived.Test.YtcdeilgijleoaaaXV17
import Derived.Test.YtcdeilgijleoaaaXA1
import Derived.Test.YtcdeilgijleoaaaXB16
set_option linter.all false
namespace Go.Proofs.Ytcdeilgijleoaaa
open Go Go.RowKit
set_option maxRecDepth 20000
abbrev ExS := List (Int × Int) × Int
def exStep (f : List (Int × Int) → List Int → ExS → ExS) (c : CaseD) (i : Nat) (pre : List (Int × Int)) (loads : List Int) (st : ExS) (p : Int × Int) : ExS :=
  if st.2 ≤ li loads p.1.toNat + li c.sizes i ∨ st.2 ≤ li loads p.2.toNat + li c.sizes i then st else f (pre ++ [p]) (loadStep c loads i p) st
def exF (c : CaseD) : Nat → List (Int × Int) → List Int → ExS → ExS
  | 0, pre, loads, st => if greatest loads < st.2 then (pre, greatest loads) else st
  | k + 1, pre, loads, st => (pairsOf c (c.sizes.length - (k + 1) : Nat)).foldl (exStep (exF c k) c (c.sizes.length - (k + 1)) pre loads) st
theorem foldl_max_le : ∀ (l : List Int) (a m : Int), a ≤ m → (∀ x, x ∈ l → x ≤ m) → l.foldl max a ≤ m
  | [], a, m, h, _ => h
  | y :: l, a, m, h, hl => foldl_max_le l (max a y) m (by have := hl y (List.mem_cons_self ..); omega) fun x hx => hl x (List.mem_cons_of_mem _ hx)
theorem le_foldl_max : ∀ (l : List Int) (a : Int), a ≤ l.foldl max a ∧ ∀ x, x ∈ l → x ≤ l.foldl max a
  | [], a => ⟨Int.le_refl _, fun x hx => by cases hx⟩
  | y :: l, a => by
    obtain ⟨h1, h2⟩ := le_foldl_max l (max a y)
    have h1' : max a y ≤ List.foldl max a (y :: l) := h1
    refine ⟨by omega, fun x hx => ?_⟩
    rcases List.mem_cons.1 hx with rfl | hx
    · omega
    · exact h2 x hx
theorem greatest_le {l : List Int} {m : Int} (h0 : 0 ≤ m) (h : ∀ x, x ∈ l → x ≤ m) : greatest l ≤ m := foldl_max_le l 0 m h0 h
theorem le_greatest {l : List Int} {x : Int} (h : x ∈ l) : x ≤ greatest l := (le_foldl_max l 0).2 x h
theorem greatest_nonneg (l : List Int) : 0 ≤ greatest l := (le_foldl_max l 0).1
structure LoadOk (c : CaseD) (loads : List Int) : Prop where
  len : loads.length = c.people.toNat
  pos : ∀ x, x ∈ loads → 0 ≤ x
theorem li_addAt (l : List Int) (k v : Int) {j : Nat} (h : j < l.length) : li (addAt l k v) j = li l j + if j = k.toNat then v else 0 := by
  unfold addAt li
  rw [List.getD_eq_getElem?_getD, List.getElem?_set]
  by_cases hj : k.toNat = j
  · subst hj; simp [h, List.getD_eq_getElem?_getD]
  · rw [if_neg hj, if_neg (fun e => hj e.symm), Int.add_zero, List.getD_eq_getElem?_getD]
theorem mem_li {l : List Int} {x : Int} (h : x ∈ l) : ∃ j, j < l.length ∧ x = li l j := by
  obtain ⟨j, hj, rfl⟩ := List.getElem_of_mem h
  exact ⟨j, hj, by simp [li, List.getD_eq_getElem?_getD, hj]⟩
theorem loadStep_len (c : CaseD) (l : List Int) (i : Nat) (p : Int × Int) : (loadStep c l i p).length = l.length := by unfold loadStep; rw [addAt_len, addAt_len]
theorem li_loadStep (c : CaseD) (l : List Int) (i : Nat) (p : Int × Int) {j : Nat} (h : j < l.length) : li (loadStep c l i p) j = li l j + (if j = p.1.toNat then li c.sizes i else 0) + if j = p.2.toNat then li c.sizes i else 0 := by
  unfold loadStep
  rw [li_addAt _ _ _ (by rw [addAt_len]; exact h), li_addAt _ _ _ h]
theorem size_pos {c : CaseD} (hs : ∀ x, x ∈ c.sizes → 0 ≤ x) (i : Nat) : 0 ≤ li c.sizes i := by
  by_cases h : i < c.sizes.length
  · exact hs _ (li_mem h)
  · have : li c.sizes i = 0 := by unfold li; simp [List.getD_eq_getElem?_getD, h]
    omega
theorem LoadOk.step {c : CaseD} {loads : List Int} (h : LoadOk c loads) (hs : ∀ x, x ∈ c.sizes → 0 ≤ x) (i : Nat) (p : Int × Int) : LoadOk c (loadStep c loads i p) := by
  refine ⟨by rw [loadStep_len, h.len], fun x hx => ?_⟩
  obtain ⟨j, hj, rfl⟩ := mem_li hx
  rw [loadStep_len] at hj
  rw [li_loadStep c loads i p hj]
  have := h.pos _ (li_mem hj)
  have := size_pos hs i
  split <;> split <;> omega
theorem greatest_step {c : CaseD} {loads : List Int} (hs : ∀ x, x ∈ c.sizes → 0 ≤ x) (i : Nat) (p : Int × Int) : greatest loads ≤ greatest (loadStep c loads i p) := by
  refine greatest_le (greatest_nonneg _) fun x hx => ?_
  obtain ⟨j, hj, rfl⟩ := mem_li hx
  have h1 : li (loadStep c loads i p) j ≤ greatest (loadStep c loads i p) := le_greatest (li_mem (by rw [loadStep_len]; exact hj))
  rw [li_loadStep c loads i p hj] at h1
  have := size_pos hs i
  split at h1 <;> split at h1 <;> omega
theorem step_at {c : CaseD} {loads : List Int} (h : LoadOk c loads) (hs : ∀ x, x ∈ c.sizes → 0 ≤ x) (i : Nat) {p : Int × Int} (hp : 0 ≤ p.1 ∧ p.1 < p.2 ∧ p.2 < c.people) : li loads p.1.toNat + li c.sizes i ≤ greatest (loadStep c loads i p) ∧ li loads p.2.toNat + li c.sizes i ≤ greatest (loadStep c loads i p) := by
  have hl := h.len
  have h1 : li (loadStep c loads i p) p.1.toNat ≤ greatest (loadStep c loads i p) := le_greatest (li_mem (by rw [loadStep_len]; omega))
  have h2 : li (loadStep c loads i p) p.2.toNat ≤ greatest (loadStep c loads i p) := le_greatest (li_mem (by rw [loadStep_len]; omega))
  rw [li_loadStep c loads i p (by omega)] at h1 h2
  rw [if_pos rfl, if_neg (by omega)] at h1
  rw [if_neg (by omega), if_pos rfl] at h2
  omega
theorem pairsOf_mem {c : CaseD} (h2 : 0 ≤ c.people) {i : Int} {p : Int × Int} (h : p ∈ pairsOf c i) : 0 ≤ p.1 ∧ p.1 < p.2 ∧ p.2 < c.people ∧ openB c i p.1 = true ∧ openB c i p.2 = true := by
  have := allPr_mem h
  exact ⟨this.1, this.2.1, by omega, this.2.2.2⟩
theorem foldl_fix {α β : Type} {f : β → α → β} {b : β} : ∀ (l : List α), (∀ x, x ∈ l → f b x = b) → l.foldl f b = b
  | [], _ => rfl
  | x :: l, h => by rw [List.foldl_cons, h x (List.mem_cons_self ..)]; exact foldl_fix l fun y hy => h y (List.mem_cons_of_mem _ hy)
theorem searchF_cut {c : CaseD} (hs : ∀ x, x ∈ c.sizes → 0 ≤ x) : ∀ (k : Nat) (loads : List Int) (lim : Int), lim ≤ greatest loads → (searchF c k loads lim).2.2 = false
  | 0, loads, lim, h => decide_eq_false (by omega)
  | k + 1, loads, lim, h => by
    unfold searchF
    rw [foldl_fix _ fun p _ => ?_]
    unfold srchStep
    rw [if_pos]
    have := greatest_step (loads := loads) hs (c.sizes.length - (k + 1)) p
    show lim ≤ _
    omega
theorem exF_search {c : CaseD} (h2 : 0 ≤ c.people) (hs : ∀ x, x ∈ c.sizes → 0 ≤ x) : ∀ (k : Nat) (pre : List (Int × Int)) (loads : List Int) (best : List (Int × Int)) (least : Int), LoadOk c loads →
    exF c k pre loads (best, least) = if (searchF c k loads least).2.2 = true then (pre ++ (searchF c k loads least).1, (searchF c k loads least).2.1) else (best, least)
  | 0, pre, loads, best, least, hl => by
    unfold exF searchF
    by_cases h : greatest loads < least <;> simp [h]
  | k + 1, pre, loads, best, least, hl => by
    unfold exF searchF
    have hall : ∀ (l : List (Int × Int)) (st : ExS) (s : Srch), (∀ p, p ∈ l → 0 ≤ p.1 ∧ p.1 < p.2 ∧ p.2 < c.people) → (s.2.2 = false → s = ([], least, false)) → st = (if s.2.2 = true then (pre ++ s.1, s.2.1) else (best, least)) →
        l.foldl (exStep (exF c k) c (c.sizes.length - (k + 1)) pre loads) st = if (l.foldl (srchStep (searchF c k) c (c.sizes.length - (k + 1)) loads) s).2.2 = true then (pre ++ (l.foldl (srchStep (searchF c k) c (c.sizes.length - (k + 1)) loads) s).1, (l.foldl (srchStep (searchF c k) c (c.sizes.length - (k + 1)) loads) s).2.1) else (best, least) := by
      intro l
      induction l with
      | nil => intro st s _ _ hst; exact hst
      | cons p l ih =>
        intro st s hp hf hst
        have hlim : st.2 = s.2.1 := by
          cases hb : s.2.2 with
          | true => rw [hst, hb]; rfl
          | false => rw [hst, hb, hf hb]; rfl
        obtain ⟨g1, g2⟩ := step_at hl hs (c.sizes.length - (k + 1)) (hp p (List.mem_cons_self ..))
        have hx := hl.step hs (c.sizes.length - (k + 1)) p
        rw [List.foldl_cons, List.foldl_cons]
        have hstep : s.2.1 ≤ greatest (loadStep c loads (c.sizes.length - (k + 1)) p) → exStep (exF c k) c (c.sizes.length - (k + 1)) pre loads st p = st := fun hle => by
          unfold exStep
          split
          · rfl
          · have e := exF_search h2 hs k (pre ++ [p]) (loadStep c loads (c.sizes.length - (k + 1)) p) st.1 st.2 hx
            rw [show ((st.1, st.2) : ExS) = st from rfl] at e
            rw [e, searchF_cut hs k _ _ (by rw [hlim]; exact hle)]
            rfl
        by_cases hle : s.2.1 ≤ greatest (loadStep c loads (c.sizes.length - (k + 1)) p)
        · rw [hstep hle, show srchStep (searchF c k) c (c.sizes.length - (k + 1)) loads s p = s from if_pos hle]
          exact ih st s (fun q hq => hp q (List.mem_cons_of_mem _ hq)) hf hst
        · have e1 : exStep (exF c k) c (c.sizes.length - (k + 1)) pre loads st p = exF c k (pre ++ [p]) (loadStep c loads (c.sizes.length - (k + 1)) p) st := if_neg (by omega)
          have e := exF_search h2 hs k (pre ++ [p]) (loadStep c loads (c.sizes.length - (k + 1)) p) st.1 st.2 hx
          rw [show ((st.1, st.2) : ExS) = st from rfl] at e
          rw [e1, e, hlim]
          have e2 : srchStep (searchF c k) c (c.sizes.length - (k + 1)) loads s p = if (searchF c k (loadStep c loads (c.sizes.length - (k + 1)) p) s.2.1).2.2 = true then (p :: (searchF c k (loadStep c loads (c.sizes.length - (k + 1)) p) s.2.1).1, (searchF c k (loadStep c loads (c.sizes.length - (k + 1)) p) s.2.1).2.1, true) else s := if_neg hle
          rw [e2]
          by_cases hfd : (searchF c k (loadStep c loads (c.sizes.length - (k + 1)) p) s.2.1).2.2 = true
          · rw [if_pos hfd, if_pos hfd]
            exact ih _ _ (fun q hq => hp q (List.mem_cons_of_mem _ hq)) (fun h => by cases h) (by simp)
          · rw [if_neg hfd, if_neg hfd]
            exact ih _ _ (fun q hq => hp q (List.mem_cons_of_mem _ hq)) hf hst
    exact hall _ _ _ (fun p hp => by have := pairsOf_mem h2 hp; exact ⟨this.1, this.2.1, this.2.2.1⟩) (fun _ => rfl) rfl
def runL (c : CaseD) : Nat → List Int → List (Int × Int) → List Int
  | _, loads, [] => loads
  | i, loads, p :: r => runL c (i + 1) (loadStep c loads i p) r
def fitsL (c : CaseD) : Nat → List (Int × Int) → Prop
  | _, [] => True
  | i, p :: r => p ∈ pairsOf c (i : Nat) ∧ fitsL c (i + 1) r
theorem runL_ok {c : CaseD} (hs : ∀ x, x ∈ c.sizes → 0 ≤ x) : ∀ (l : List (Int × Int)) (i : Nat) (loads : List Int), LoadOk c loads → LoadOk c (runL c i loads l) ∧ greatest loads ≤ greatest (runL c i loads l)
  | [], _, _, h => ⟨h, Int.le_refl _⟩
  | p :: r, i, loads, h => by
    obtain ⟨h1, h2⟩ := runL_ok hs r (i + 1) (loadStep c loads i p) (h.step hs i p)
    have := greatest_step (loads := loads) hs i p
    exact ⟨h1, by show greatest loads ≤ greatest (runL c (i + 1) (loadStep c loads i p) r); omega⟩
theorem foldl_inv {α β : Type} {f : β → α → β} {I : β → Prop} : ∀ (l : List α) (b : β), I b → (∀ b x, x ∈ l → I b → I (f b x)) → I (l.foldl f b)
  | [], b, h, _ => h
  | x :: l, b, h, hf => foldl_inv l _ (hf b x (List.mem_cons_self ..) h) fun b y hy => hf b y (List.mem_cons_of_mem _ hy)
theorem searchF_le {c : CaseD} : ∀ (k : Nat) (loads : List Int) (lim : Int), (searchF c k loads lim).2.2 = true → (searchF c k loads lim).2.1 ≤ lim
  | 0, loads, lim, h => Int.le_of_lt (of_decide_eq_true h)
  | k + 1, loads, lim, _ => by
    unfold searchF
    refine foldl_inv (I := fun t : Srch => t.2.1 ≤ lim) _ _ (Int.le_refl _) fun t q _ hI => ?_
    unfold srchStep
    split
    · exact hI
    · split
      · rename_i h7 h8
        have := searchF_le k _ _ h8
        simp only; omega
      · exact hI
theorem searchF_found {c : CaseD} : ∀ (k : Nat) (loads : List Int) (lim : Int), k ≤ c.sizes.length → (searchF c k loads lim).2.2 = true →
    (searchF c k loads lim).1.length = k ∧ fitsL c (c.sizes.length - k) (searchF c k loads lim).1 ∧ (searchF c k loads lim).2.1 = greatest (runL c (c.sizes.length - k) loads (searchF c k loads lim).1) ∧ (searchF c k loads lim).2.1 < lim
  | 0, loads, lim, _, h => ⟨rfl, trivial, rfl, of_decide_eq_true h⟩
  | k + 1, loads, lim, hk, h => by
    have hinv : ∀ s, s = searchF c (k + 1) loads lim → (s.2.2 = false → s.2.1 = lim) ∧ s.2.1 ≤ lim ∧ (s.2.2 = true → s.1.length = k + 1 ∧ fitsL c (c.sizes.length - (k + 1)) s.1 ∧ s.2.1 = greatest (runL c (c.sizes.length - (k + 1)) loads s.1) ∧ s.2.1 < lim) := by
      rintro s rfl
      unfold searchF
      refine foldl_inv (I := fun s : Srch => (s.2.2 = false → s.2.1 = lim) ∧ s.2.1 ≤ lim ∧ (s.2.2 = true → s.1.length = k + 1 ∧ fitsL c (c.sizes.length - (k + 1)) s.1 ∧ s.2.1 = greatest (runL c (c.sizes.length - (k + 1)) loads s.1) ∧ s.2.1 < lim)) _ _ ⟨fun _ => rfl, Int.le_refl _, fun h => (by cases h)⟩ fun s p hp hI => ?_
      unfold srchStep
      split
      · exact hI
      · split
        · rename_i hlt hfd
          obtain ⟨g1, g2, g3, g4⟩ := searchF_found k _ _ (by omega) hfd
          have e : c.sizes.length - (k + 1) + 1 = c.sizes.length - k := by omega
          have := hI.2.1
          refine ⟨fun h => (by cases h), by simp only; omega, fun _ => ⟨by simp [g1], ⟨hp, by rw [e]; exact g2⟩, ?_, by simp only; omega⟩⟩
          show _ = greatest (runL c (c.sizes.length - (k + 1) + 1) (loadStep c loads (c.sizes.length - (k + 1)) p) _)
          rw [e]; exact g3
        · exact hI
    exact (hinv _ rfl).2.2 h
theorem searchF_min {c : CaseD} (h2 : 0 ≤ c.people) (hs : ∀ x, x ∈ c.sizes → 0 ≤ x) : ∀ (k : Nat) (loads : List Int) (lim : Int) (l : List (Int × Int)), LoadOk c loads → k ≤ c.sizes.length → l.length = k → fitsL c (c.sizes.length - k) l → greatest (runL c (c.sizes.length - k) loads l) < lim →
    (searchF c k loads lim).2.2 = true ∧ (searchF c k loads lim).2.1 ≤ greatest (runL c (c.sizes.length - k) loads l)
  | 0, loads, lim, l, hl, hk, hlen, hf, hg => by
    obtain rfl : l = [] := List.eq_nil_of_length_eq_zero hlen
    exact ⟨decide_eq_true hg, Int.le_refl _⟩
  | k + 1, loads, lim, [], hl, hk, hlen, hf, hg => by cases hlen
  | k + 1, loads, lim, p :: r, hl, hk, hlen, hf, hg => by
    have e : c.sizes.length - (k + 1) + 1 = c.sizes.length - k := by omega
    obtain ⟨hp, hf⟩ := hf
    rw [e] at hf
    have hg' : greatest (runL c (c.sizes.length - k) (loadStep c loads (c.sizes.length - (k + 1)) p) r) < lim := by rw [← e]; exact hg
    have hge : greatest (runL c (c.sizes.length - (k + 1)) loads (p :: r)) = greatest (runL c (c.sizes.length - k) (loadStep c loads (c.sizes.length - (k + 1)) p) r) := by rw [← e]; rfl
    rw [hge]
    generalize hG : greatest (runL c (c.sizes.length - k) (loadStep c loads (c.sizes.length - (k + 1)) p) r) = G at hg'
    have hx := hl.step hs (c.sizes.length - (k + 1)) p
    have hxg := (runL_ok hs r (c.sizes.length - k) _ hx).2
    rw [hG] at hxg
    have hall : ∀ (l : List (Int × Int)) (s : Srch), (p ∈ l ∧ (s.2.2 = false → s.2.1 = lim) ∧ s.2.1 ≤ lim) ∨ (s.2.2 = true ∧ s.2.1 ≤ G) → (l.foldl (srchStep (searchF c k) c (c.sizes.length - (k + 1)) loads) s).2.2 = true ∧ (l.foldl (srchStep (searchF c k) c (c.sizes.length - (k + 1)) loads) s).2.1 ≤ G := by
      intro l
      induction l with
      | nil => intro s h; exact h.elim (fun h => by cases h.1) id
      | cons q l ih =>
        intro s h
        rw [List.foldl_cons]
        refine ih _ ?_
        have hdown : (srchStep (searchF c k) c (c.sizes.length - (k + 1)) loads s q).2.1 ≤ s.2.1 ∧ (s.2.2 = true → (srchStep (searchF c k) c (c.sizes.length - (k + 1)) loads s q).2.2 = true) ∧ ((srchStep (searchF c k) c (c.sizes.length - (k + 1)) loads s q).2.2 = false → srchStep (searchF c k) c (c.sizes.length - (k + 1)) loads s q = s) := by
          unfold srchStep
          split
          · exact ⟨Int.le_refl _, id, fun _ => rfl⟩
          · split
            · rename_i h5 h6
              exact ⟨searchF_le k _ _ h6, fun _ => rfl, fun h => (by cases h)⟩
            · exact ⟨Int.le_refl _, id, fun _ => rfl⟩
        rcases h with ⟨hm, h1, h3⟩ | ⟨h1, h3⟩
        · rcases List.mem_cons.1 hm with rfl | hm
          · -- here the pair is met
            by_cases hlt : s.2.1 ≤ G
            · right
              cases hb : s.2.2 with
              | true => exact ⟨hdown.2.1 hb, by have := hdown.1; omega⟩
              | false => have := h1 hb; omega
            · obtain ⟨m1, m2⟩ := searchF_min h2 hs k (loadStep c loads (c.sizes.length - (k + 1)) p) s.2.1 r hx (by omega) (by simpa using hlen) hf (by rw [hG]; omega)
              rw [hG] at m2
              right
              have e2 : srchStep (searchF c k) c (c.sizes.length - (k + 1)) loads s p = (p :: (searchF c k (loadStep c loads (c.sizes.length - (k + 1)) p) s.2.1).1, (searchF c k (loadStep c loads (c.sizes.length - (k + 1)) p) s.2.1).2.1, true) := by
                unfold srchStep
                rw [if_neg (by omega), if_pos m1]
              rw [e2]
              exact ⟨rfl, m2⟩
          · left
            refine ⟨hm, fun hb => ?_, by have := hdown.1; omega⟩
            have e3 := hdown.2.2 hb
            rw [e3] at hb ⊢
            exact h1 hb
        · right
          exact ⟨hdown.2.1 h1, by have := hdown.1; omega⟩
    unfold searchF
    exact hall _ _ (.inl ⟨hp, fun _ => rfl, Int.le_refl _⟩)
theorem searchF_lim {c : CaseD} (hs : ∀ x, x ∈ c.sizes → 0 ≤ x ∧ x ≤ 1024) : ∀ (k : Nat) (loads : List Int) (L1 L2 M : Int), (∀ x, x ∈ loads → 0 ≤ x ∧ x ≤ M) → 0 ≤ M → M + 2048 * k < L1 → M + 2048 * k < L2 →
    (searchF c k loads L1).2.2 = (searchF c k loads L2).2.2 ∧ ((searchF c k loads L1).2.2 = true → searchF c k loads L1 = searchF c k loads L2)
  | 0, loads, L1, L2, M, hr, h0, h1, h2 => by
    have := greatest_le h0 fun x hx => (hr x hx).2
    unfold searchF
    rw [dec_yes (show greatest loads < L1 by omega), dec_yes (show greatest loads < L2 by omega)]
    exact ⟨rfl, fun _ => rfl⟩
  | k + 1, loads, L1, L2, M, hr, h0, h1, h2 => by
    have hz : 0 ≤ li c.sizes (c.sizes.length - (k + 1)) ∧ li c.sizes (c.sizes.length - (k + 1)) ≤ 1024 := li_rng (m := 0) (M := 1024) hs (by omega) _
    have hx : ∀ p, ∀ x, x ∈ loadStep c loads (c.sizes.length - (k + 1)) p → 0 ≤ x ∧ x ≤ M + 2048 := fun p => addAt_rng (addAt_rng hr (M := M + 1024) (by omega) (by omega)) (by omega) (by omega)
    have hall : ∀ (l : List (Int × Int)) (s t : Srch), (s.2.2 = t.2.2 ∧ (s.2.2 = true → s = t) ∧ (s.2.2 = false → s = ([], L1, false) ∧ t = ([], L2, false))) →
        (l.foldl (srchStep (searchF c k) c (c.sizes.length - (k + 1)) loads) s).2.2 = (l.foldl (srchStep (searchF c k) c (c.sizes.length - (k + 1)) loads) t).2.2 ∧ ((l.foldl (srchStep (searchF c k) c (c.sizes.length - (k + 1)) loads) s).2.2 = true → l.foldl (srchStep (searchF c k) c (c.sizes.length - (k + 1)) loads) s = l.foldl (srchStep (searchF c k) c (c.sizes.length - (k + 1)) loads) t) := by
      intro l
      induction l with
      | nil => intro s t h; exact ⟨h.1, h.2.1⟩
      | cons p l ih =>
        intro s t h
        rw [List.foldl_cons, List.foldl_cons]
        refine ih _ _ ?_
        cases hb : s.2.2 with
        | true =>
          rw [h.2.1 hb]
          exact ⟨rfl, fun _ => rfl, fun hf => by
            have ht : t.2.2 = true := by rw [← h.1]; exact hb
            exfalso
            have : (srchStep (searchF c k) c (c.sizes.length - (k + 1)) loads t p).2.2 = true := by
              unfold srchStep
              split
              · exact ht
              · split
                · rfl
                · exact ht
            rw [this] at hf; cases hf⟩
        | false =>
          obtain ⟨e1, e2⟩ := h.2.2 hb
          subst e1; subst e2
          have hg := greatest_le (l := loadStep c loads (c.sizes.length - (k + 1)) p) (m := M + 2048) (by omega) fun x hx' => (hx p x hx').2
          obtain ⟨i1, i2⟩ := searchF_lim hs k (loadStep c loads (c.sizes.length - (k + 1)) p) L1 L2 (M + 2048) (hx p) (by omega) (by omega) (by omega)
          have s1 : srchStep (searchF c k) c (c.sizes.length - (k + 1)) loads ([], L1, false) p = if (searchF c k (loadStep c loads (c.sizes.length - (k + 1)) p) L1).2.2 = true then (p :: (searchF c k (loadStep c loads (c.sizes.length - (k + 1)) p) L1).1, (searchF c k (loadStep c loads (c.sizes.length - (k + 1)) p) L1).2.1, true) else ([], L1, false) := if_neg (by show ¬ L1 ≤ _; omega)
          have s2 : srchStep (searchF c k) c (c.sizes.length - (k + 1)) loads ([], L2, false) p = if (searchF c k (loadStep c loads (c.sizes.length - (k + 1)) p) L2).2.2 = true then (p :: (searchF c k (loadStep c loads (c.sizes.length - (k + 1)) p) L2).1, (searchF c k (loadStep c loads (c.sizes.length - (k + 1)) p) L2).2.1, true) else ([], L2, false) := if_neg (by show ¬ L2 ≤ _; omega)
          rw [s1, s2, ← i1]
          by_cases hfd : (searchF c k (loadStep c loads (c.sizes.length - (k + 1)) p) L1).2.2 = true
          · rw [if_pos hfd, if_pos hfd, i2 hfd]
            exact ⟨rfl, fun _ => rfl, fun h => (by cases h)⟩
          · rw [if_neg hfd, if_neg hfd]
            exact ⟨rfl, fun h => (by cases h), fun _ => ⟨rfl, rfl⟩⟩
    unfold searchF
    exact hall _ _ _ ⟨rfl, fun h => (by cases h), fun _ => ⟨rfl, rfl⟩⟩
theorem rowPr_of {c : CaseD} {i : Int} {a : Nat} : ∀ {k b : Nat}, a < b → b < k → openB c i a = true → openB c i b = true → ((a : Int), (b : Int)) ∈ rowPr c i a k
  | 0, b, _, h, _, _ => absurd h (Nat.not_lt_zero _)
  | k + 1, b, hab, hb, h1, h2 => by
    rw [rowPr]
    rcases Nat.lt_succ_iff_lt_or_eq.1 hb with hb | rfl
    · exact List.mem_append_left _ (rowPr_of hab hb h1 h2)
    · refine List.mem_append_right _ ?_
      rw [if_pos ⟨hab, h1, h2⟩]; exact List.mem_singleton.2 rfl
theorem allPr_of {c : CaseD} {i : Int} {n : Nat} {p : Int × Int} (h : ((p.1.toNat : Int), (p.2.toNat : Int)) ∈ rowPr c i p.1.toNat n) : ∀ {a : Nat}, p.1.toNat < a → ((p.1.toNat : Int), (p.2.toNat : Int)) ∈ allPr c i n a
  | 0, ha => absurd ha (Nat.not_lt_zero _)
  | a + 1, ha => by
    rw [allPr]
    rcases Nat.lt_succ_iff_lt_or_eq.1 ha with ha | rfl
    · exact List.mem_append_left _ (allPr_of h ha)
    · exact List.mem_append_right _ h
theorem pairsOf_of {c : CaseD} {i : Int} {p : Int × Int} (h0 : 0 ≤ p.1) (h1 : p.1 < p.2) (h2 : p.2 < c.people) (o1 : openB c i p.1 = true) (o2 : openB c i p.2 = true) : p ∈ pairsOf c i := by
  have e : p = ((p.1.toNat : Int), (p.2.toNat : Int)) := by
    obtain ⟨a, b⟩ := p
    simp only at *
    rw [Int.toNat_of_nonneg h0, Int.toNat_of_nonneg (by omega)]
  rw [e]
  refine allPr_of (rowPr_of (by omega) (by omega) ?_ ?_) (by omega)
  · rw [Int.toNat_of_nonneg h0]; exact o1
  · rw [Int.toNat_of_nonneg (by omega)]; exact o2
theorem openN_two {c : CaseD} {i : Int} : ∀ {k : Nat}, 2 ≤ openN c i k → ∃ a b : Nat, a < b ∧ b < k ∧ openB c i a = true ∧ openB c i b = true
  | 0, h => by simp [openN] at h
  | k + 1, h => by
    rw [openN_succ] at h
    by_cases h2 : 2 ≤ openN c i k
    · obtain ⟨a, b, g1, g2, g3⟩ := openN_two h2
      exact ⟨a, b, g1, by omega, g3⟩
    · split at h
      · rename_i ho
        have h1 : 1 ≤ openN c i k := by omega
        have : ∃ a : Nat, a < k ∧ openB c i a = true := by
          have hne : (List.range k).filter (fun (p : Nat) => openB c i p) ≠ [] := fun e => by
            have : openN c i k = 0 := by unfold openN; rw [e]; rfl
            omega
          obtain ⟨a, ha⟩ := List.exists_mem_of_ne_nil _ hne
          obtain ⟨g1, g2⟩ := List.mem_filter.1 ha
          exact ⟨a, List.mem_range.1 g1, g2⟩
        obtain ⟨a, g1, g2⟩ := this
        exact ⟨a, k, g1, Nat.lt_succ_self k, g2, ho⟩
      · omega
theorem pairs_some {c : CaseD} (hG : Good c) {i : Nat} (hi : i < c.sizes.length) : ∃ p, p ∈ pairsOf c (i : Int) := by
  obtain ⟨a, b, g1, g2, g3, g4⟩ := openN_two (hG.some i hi)
  exact ⟨((a : Int), (b : Int)), pairsOf_of (by simp only; omega) (by simp only; omega) (by simp only; omega) g3 g4⟩
theorem fits_some {c : CaseD} (hG : Good c) : ∀ k, k ≤ c.sizes.length → ∃ l, l.length = k ∧ fitsL c (c.sizes.length - k) l
  | 0, _ => ⟨[], rfl, trivial⟩
  | k + 1, h => by
    obtain ⟨l, h1, h2⟩ := fits_some hG k (by omega)
    obtain ⟨p, hp⟩ := pairs_some hG (i := c.sizes.length - (k + 1)) (by omega)
    exact ⟨p :: l, by simp [h1], hp, by rw [show c.sizes.length - (k + 1) + 1 = c.sizes.length - k by omega]; exact h2⟩
theorem runL_rng {c : CaseD} (hs : ∀ x, x ∈ c.sizes → 0 ≤ x ∧ x ≤ 1024) : ∀ (l : List (Int × Int)) (i : Nat) (loads : List Int) (M : Int), 0 ≤ M → (∀ x, x ∈ loads → 0 ≤ x ∧ x ≤ M) → ∀ x, x ∈ runL c i loads l → 0 ≤ x ∧ x ≤ M + 2048 * l.length
  | [], _, loads, M, _, h, x, hx => by have := h x hx; simp only [List.length_nil]; omega
  | p :: r, i, loads, M, h0, h, x, hx => by
    have hz : 0 ≤ li c.sizes i ∧ li c.sizes i ≤ 1024 := li_rng (m := 0) (M := 1024) hs (by omega) _
    have h1 : ∀ x, x ∈ loadStep c loads i p → 0 ≤ x ∧ x ≤ M + 2048 := addAt_rng (addAt_rng h (M := M + 1024) (by omega) (by omega)) (by omega) (by omega)
    have := runL_rng hs r (i + 1) (loadStep c loads i p) (M + 2048) (by omega) h1 x hx
    simp only [List.length_cons]; omega
def zerosL (c : CaseD) : List Int := List.replicate c.people.toNat 0
theorem zeros_ok (c : CaseD) : LoadOk c (zerosL c) := ⟨by simp [zerosL], fun x hx => by rw [(List.mem_replicate.1 hx).2]; exact Int.le_refl _⟩
theorem zeros_rng (c : CaseD) : ∀ x, x ∈ zerosL c → 0 ≤ x ∧ x ≤ 0 := fun x hx => by rw [(List.mem_replicate.1 hx).2]; exact ⟨Int.le_refl _, Int.le_refl _⟩
theorem Good.pos {c : CaseD} (hG : Good c) : ∀ x, x ∈ c.sizes → 0 ≤ x := fun x hx => by have := hG.size x hx; omega
theorem Good.rng {c : CaseD} (hG : Good c) : ∀ x, x ∈ c.sizes → 0 ≤ x ∧ x ≤ 1024 := fun x hx => by have := hG.size x hx; omega
theorem search_good {c : CaseD} (hG : Good c) {L : Int} (hL : 2048 * (c.sizes.length : Int) < L) : (searchF c c.sizes.length (zerosL c) L).2.2 = true := by
  obtain ⟨l, h1, h2⟩ := fits_some hG c.sizes.length (Nat.le_refl _)
  refine (searchF_min (by have := hG.lo; omega) hG.pos c.sizes.length (zerosL c) L l (zeros_ok c) (Nat.le_refl _) h1 h2 ?_).1
  have := greatest_le (l := runL c (c.sizes.length - c.sizes.length) (zerosL c) l) (m := 2048 * c.sizes.length) (by omega) fun x hx => by
    have := runL_rng hG.rng l _ (zerosL c) 0 (Int.le_refl _) (zeros_rng c) x hx
    rw [h1] at this; omega
  omega
theorem exact_eq {c : CaseD} (hG : Good c) (b0 : List (Int × Int)) : exF c c.sizes.length [] (zerosL c) (b0, 9223372036854775807) = ((searchF c c.sizes.length (zerosL c) 1048576).1, (searchF c c.sizes.length (zerosL c) 1048576).2.1) := by
  have hm := hG.many
  have h1 := search_good hG (L := 9223372036854775807) (by omega)
  have h2 := search_good hG (L := 1048576) (by omega)
  rw [exF_search (by have := hG.lo; omega) hG.pos _ _ _ _ _ (zeros_ok c), if_pos h1, (searchF_lim hG.rng c.sizes.length (zerosL c) 9223372036854775807 1048576 0 (zeros_rng c) (Int.le_refl _) (by omega) (by omega)).2 h1]
  rfl
theorem runL_append (c : CaseD) : ∀ (l : List (Int × Int)) (i : Nat) (loads : List Int) (p : Int × Int), runL c i loads (l ++ [p]) = loadStep c (runL c i loads l) (i + l.length) p
  | [], i, loads, p => rfl
  | q :: r, i, loads, p => by
    show runL c (i + 1) (loadStep c loads i q) (r ++ [p]) = _
    rw [runL_append c r (i + 1) _ p, show i + 1 + r.length = i + (q :: r).length by simp; omega]; rfl
theorem loadsG_run (c : CaseD) (ps : List (Int × Int)) : ∀ i, i ≤ ps.length → loadsG c ps i = runL c 0 (zerosL c) (ps.take i)
  | 0, _ => rfl
  | i + 1, h => by
    rw [loadsG, loadsG_run c ps i (by omega), List.take_succ_eq_append_getElem (by omega), runL_append, ← lp_get (show i < ps.length by omega), List.length_take]
    congr 1
    omega
theorem fits_at {c : CaseD} : ∀ {l : List (Int × Int)} {i j : Nat}, fitsL c i l → j < l.length → lp l j ∈ pairsOf c ((i + j : Nat) : Int)
  | [], _, _, _, h => absurd h (Nat.not_lt_zero _)
  | p :: r, i, 0, h, _ => h.1
  | p :: r, i, j + 1, h, hj => by
    have := fits_at (j := j) h.2 (by simpa using hj)
    rw [show i + (j + 1) = i + 1 + j by omega]; exact this
theorem fits_mk {c : CaseD} : ∀ {l : List (Int × Int)} {i : Nat}, (∀ j, j < l.length → lp l j ∈ pairsOf c ((i + j : Nat) : Int)) → fitsL c i l
  | [], _, _ => trivial
  | p :: r, i, h => ⟨h 0 (Nat.zero_lt_succ _), fits_mk fun j hj => by
      have := h (j + 1) (by simpa using hj)
      rw [show i + 1 + j = i + (j + 1) by omega]; exact this⟩
theorem fits_loads {c : CaseD} (hG : Good c) (hv : validC c = 0) {l : List (Int × Int)} (hl : l.length = c.sizes.length) (hf : fitsL c 0 l) : loadsE c l = 0 ∧ loadsR c l = runL c 0 (zerosL c) l := by
  obtain ⟨h1, h2⟩ := loads_ok hv hl fun i hi => by
    have := pairsOf_mem (by have := hG.lo; omega) (fits_at hf hi)
    rw [Nat.zero_add] at this
    unfold badPair
    simp only [Bool.or_eq_false_iff, decide_eq_false_iff_not, Bool.not_eq_false']
    exact ⟨⟨⟨⟨by omega, by omega⟩, by omega⟩, this.2.2.2.1⟩, this.2.2.2.2⟩
  refine ⟨h1, ?_⟩
  rw [h2, loadsG_run c l _ (Nat.le_refl _), List.take_length]
theorem loads_fits {c : CaseD} {l : List (Int × Int)} (h : loadsE c l = 0) : validC c = 0 ∧ l.length = c.sizes.length ∧ fitsL c 0 l := by
  have hv : validC c = 0 := Classical.byContradiction fun g => g (by rw [(loads_bad g).1] at h; exact h)
  have hl : l.length = c.sizes.length := Classical.byContradiction fun g => by rw [(loads_len hv g).1] at h; cases h
  refine ⟨hv, hl, fits_mk fun j hj => ?_⟩
  have hb : badPair c j (lp l j) = false := by
    cases hb : badPair c j (lp l j) with
    | false => rfl
    | true => rw [(loads_pair hv hl hj hb).1] at h; cases h
  obtain ⟨g1, g2, g3, g4, g5⟩ := badPair_no hb
  rw [Nat.zero_add]
  exact pairsOf_of g1 g2 g3 g4 g5
set_option maxHeartbeats 1000000
def chosenX (c : CaseD) (m : List Int) (i : Nat) : Int × Int := lp (pairsOf c (i : Int)) (atI m (i : Int) (pairsOf c (i : Int)).length).toNat
def chosenP (c : CaseD) (m : List Int) : Nat → List (Int × Int)
  | 0 => []
  | i + 1 => chosenP c m i ++ [chosenX c m i]
theorem chosenP_len (c : CaseD) (m : List Int) : ∀ i, (chosenP c m i).length = i
  | 0 => rfl
  | i + 1 => by rw [chosenP, List.length_append, chosenP_len c m i]; rfl
theorem chosenP_at (c : CaseD) (m : List Int) : ∀ {i j : Nat}, j < i → lp (chosenP c m i) j = chosenX c m j
  | 0, j, h => absurd h (Nat.not_lt_zero _)
  | i + 1, j, h => by
    have hl := chosenP_len c m i
    rw [chosenP]
    rcases Nat.lt_succ_iff_lt_or_eq.1 h with h | rfl
    · rw [← chosenP_at c m h]
      unfold lp
      simp only [List.getD_eq_getElem?_getD]
      rw [List.getElem?_append_left (by omega)]
    · unfold lp
      simp only [List.getD_eq_getElem?_getD]
      rw [List.getElem?_append_right (by omega), hl, Nat.sub_self]; rfl
theorem chosenX_in {c : CaseD} {m : List Int} {i : Nat} (h : 0 < (pairsOf c (i : Int)).length) : (atI m (i : Int) (pairsOf c (i : Int)).length).toNat < (pairsOf c (i : Int)).length := by
  have h1 := atI_lo (l := m) (i := (i : Int)) (m := ((pairsOf c (i : Int)).length : Int)) (by omega)
  have h2 := atI_hi (l := m) (i := (i : Int)) (m := ((pairsOf c (i : Int)).length : Int)) (by omega)
  omega
theorem pairs_pos {c : CaseD} (hG : Good c) {i : Nat} (h : i < c.sizes.length) : 0 < (pairsOf c (i : Int)).length := by
  obtain ⟨p, hp⟩ := pairs_some hG h
  exact List.length_pos_of_mem hp
theorem chosen_fits {c : CaseD} (hG : Good c) (m : List Int) : fitsL c 0 (chosenP c m c.sizes.length) := by
  refine fits_mk fun j hj => ?_
  rw [chosenP_len] at hj
  rw [chosenP_at c m hj, Nat.zero_add]
  exact lp_mem (chosenX_in (pairs_pos hG hj))
theorem pairs_few {c : CaseD} (h : c.people ≤ 6) (i : Int) : (pairsOf c i).length ≤ 36 := by
  have h1 := allPr_len c i c.people.toNat c.people.toNat
  have h2 : c.people.toNat * c.people.toNat ≤ 6 * 6 := Nat.mul_le_mul (by omega) (by omega)
  unfold pairsOf; omega
theorem chosen_pure (c : CaseD) (m : List Int) (hc : Held c) (hG : Good c) (hm : Fits m) : Pure Try.prog 33 [encC c, ints m] (pairs (chosenP c m c.sizes.length)) [] := by
  have hhi := hG.hi
  have hmany := hG.many
  refine Pure.intro (ts := [4]) Try.func33 (by kernel_rfl) rfl rfl rfl (Nat.le_of_ble_eq_true rfl) ?_ ?_
  · simp [pure_case, pure_ints, encI, PV.pure, pureL]
  refine sZ [1, 2] (fun P S K => XvBox S.nx (S.get 0) (fun r0 ef0 => K ⟨[(1, S.get 1), (2, r0)], (Eff.hp ef0 S.nx S.hp), (S.nx + ef0.add.length), S.gh⟩)) fun K hK => ?_
  repeat' (first | (refine hK _ ?_; clear hK K) | refine And.intro ?_ ?_ | exact cl | exact one_encP _ | (refine st ?_; try simp only [encC, pairs, renL_encP]) | simp only [encC, pairs, renL_encP])
  all_goals
  refine sZ [1, 2, 5] (fun P S K => K ⟨[(1, S.get 1), (2, S.get 2), (5, (.atom (.slice none 0 0)))], S.hp, S.nx, S.gh⟩) fun K hK => ?_
  repeat' (first | (refine hK _ ?_; clear hK K) | refine And.intro ?_ ?_ | exact cl | exact one_encP _ | (refine st ?_; try simp only [encC, pairs, renL_encP]) | simp only [encC, pairs, renL_encP])
  refine Tri.born 5 2 rfl ?_
  all_goals
  refine Tri.seq ?_
  refine sZ [1, 2, 5, 6] (fun P S K => K ⟨[(1, S.get 1), (2, S.get 2), (5, S.get 5), (6, (.atom (.int .i64 0)))], S.hp, S.nx, S.gh⟩) fun K hK => ?_
  repeat' (first | (refine hK _ ?_; clear hK K) | refine And.intro ?_ ?_ | exact cl | exact one_encP _ | (refine st ?_; try simp only [encC, pairs, renL_encP]) | simp only [encC, pairs, renL_encP])
  all_goals
  refine Tri.block ?_
  refine Tri.loop (α := (out : List (Int × Int)) ×' (i : Nat) ×' (i ≤ c.sizes.length ∧ out = chosenP c m i)) (fun z => (fun (out : List (Int × Int)) (i : Nat) => (⟨[(1, ints m), (2, .ptr 0 3 0 0), (5, .ob 1 2 0 out.length), (6, encI i)], [(0, some ⟨3, [encC c]⟩), (1, some ⟨2, out.map encP⟩)], 2, []⟩ : St)) z.1 z.2.1) (fun z => (fun (out : List (Int × Int)) (i : Nat) => c.sizes.length - i) z.1 z.2.1) ⟨[], 0, ⟨Nat.zero_le _, rfl⟩⟩ [0, 1] ?_ ?_
  ·exact leqB5
  ·rintro ⟨out, i, ⟨hi, ho⟩⟩
   refine Tri.seq ?_
   refine sZ [1, 2, 5, 6, 12] (fun P S K => XvFieldAddr P 25 0 (S.get 2) (fun r1 _ => XvLoad P 22 (M S.hp S.nx) r1 (fun r2 _ => XvLen P 22 r2 (fun r3 _ => XvBinOV P .lss 3 (.tmp 11) (S.get 6) r3 (fun r4 _ => K ⟨[(1, S.get 1), (2, S.get 2), (5, S.get 5), (6, S.get 6), (12, r4)], S.hp, S.nx, S.gh⟩))))) fun K hK => ?_
   repeat' (first | (refine hK _ ?_; clear hK K) | refine And.intro ?_ ?_ | exact cl | exact one_encP _ | refine one_take ?_ _ | refine one_drop ?_ _ | (refine st ?_; try simp only [encC, pairs, renL_encP]) | simp only [encC, pairs, renL_encP])
   all_goals
   refine Tri.cond rfl (fun h12 => ?_) (fun h12 => ?_)
   ·try (cases h12; done)
    all_goals (try simp only [CQ] at h12)
    all_goals
    refine Tri.skip ?_
    refine Tri.seq ?_
    refine Tri.block ?_
    have hil : i < c.sizes.length := by omega
    have hpos := pairs_pos hG hil
    have hin := chosenX_in (m := m) hpos
    have hfew := pairs_few hhi (i : Int)
    have hol := chosenP_len c m i
    rw [← ho] at hol
    have hX : lp (pairsOf c (i : Int)) (atI m (i : Int) (pairsOf c (i : Int)).length).toNat = chosenX c m i := rfl
    have hlo := atI_lo (l := m) (i := (i : Int)) (m := ((pairsOf c (i : Int)).length : Int)) (by omega)
    have hat := atI_hi (l := m) (i := (i : Int)) (m := ((pairsOf c (i : Int)).length : Int)) (by omega)
    refine sZ [1, 2, 5, 6, 7] (fun P S K => XvLoad P 25 (M S.hp S.nx) (S.get 2) (fun r0 _ => XvFnIV P (M S.hp S.nx) (.fn 58 []) [r0, (S.get 6)] (fun r2 ef2 => K ⟨[(1, S.get 1), (2, S.get 2), (5, S.get 5), (6, S.get 6), (7, r2)], (Eff.hp ef2 S.nx S.hp), (S.nx + ef2.add.length), S.gh⟩))) fun K hK => ?_
    repeat' (first | (refine hK _ ?_; clear hK K) | refine And.intro ?_ ?_ | exact cl | exact one_encP _ | refine one_take ?_ _ | refine one_drop ?_ _ | refine .inl ⟨_, _, Pairs_pure c i hc (by omega), ?_⟩ | (refine st ?_; try simp only [encC, pairs, renL_encP]) | simp only [encC, pairs, renL_encP])
    all_goals
    refine sZ [1, 2, 5, 6, 7, 20] (fun P S K => XvLen P 23 (S.get 7) (fun r1 _ => XvBinOV P .gtr 3 (.const (.int .i64 0)) r1 (.atom (.int .i64 0)) (fun r2 _ => K ⟨[(1, S.get 1), (2, S.get 2), (5, S.get 5), (6, S.get 6), (7, S.get 7), (20, r2)], S.hp, S.nx, S.gh⟩))) fun K hK => ?_
    repeat' (first | (refine hK _ ?_; clear hK K) | refine And.intro ?_ ?_ | exact cl | exact one_encP _ | (refine st ?_; try simp only [encC, pairs, renL_encP]) | simp only [encC, pairs, renL_encP])
    all_goals
    refine Tri.cond rfl (fun h20 => ?_) (fun h20 => ?_)
    ·try (cases h20; done)
     all_goals (try simp only [CQ] at h20)
     all_goals
     refine rZ [1, 2, 5, 6] (fun P S K => XvLen P 23 (S.get 7) (fun r5 _ => XvFnIV P (M S.hp S.nx) (.fn 36 []) [(S.get 1), (S.get 6), r5] (fun r6 ef6 => XvIndexAddr P 23 (S.get 7) r6 (fun r7 _ => XvLoad P 67 (M (Eff.hp ef6 S.nx S.hp) (S.nx + ef6.add.length)) r7 (fun r8 _ => XvBuildS P 23 1 (S.nx + ef6.add.length) [(0, r8)] (fun r9 ef9 => (23 = 23 ∧ XvAppend P 23 (M (Eff.hp ef9 (S.nx + ef6.add.length) (Eff.hp ef6 S.nx S.hp)) ((S.nx + ef6.add.length) + ef9.add.length)) (S.get 5) r9 (fun r10 ef10 => K ⟨[(1, S.get 1), (2, S.get 2), (5, r10), (6, S.get 6)], (Eff.hp ef10 ((S.nx + ef6.add.length) + ef9.add.length) (Eff.hp ef9 (S.nx + ef6.add.length) (Eff.hp ef6 S.nx S.hp))), (((S.nx + ef6.add.length) + ef9.add.length) + ef10.add.length), S.gh⟩)))))))) fun K hK => ?_
     repeat' (first | (refine hK _ ?_; clear hK K) | ((first | refine xG_intro (fun hg => ?_) (fun hg => ?_) | refine fun (hg : (_ : Prop)) => ?_) <;> ((try simp only [BQ] at hg); try (exfalso; omega))) | refine And.intro ?_ ?_ | exact cl | exact one_encP _ | refine one_take ?_ _ | refine one_drop ?_ _ | refine .inl ⟨_, _, At_pure m i (pairsOf c i).length hm (by unfold I64; omega) (by omega), ?_⟩ | (refine st ?_; try simp only [encC, pairs, renL_encP, getD_encP hin, hX]; try simp only [encC, pairs, renL_encP, encP]) | simp only [encC, pairs, renL_encP, getD_encP hin, hX] | simp only [encC, pairs, renL_encP, encP])
     all_goals
     refine rZ [1, 2, 5, 6] (fun P S K => XvBinOV P .add 3 (.const (.int .i64 1)) (S.get 6) (.atom (.int .i64 1)) (fun r1 _ => K ⟨[(1, S.get 1), (2, S.get 2), (5, S.get 5), (6, r1)], S.hp, S.nx, S.gh⟩)) fun K hK => ?_
     repeat' (first | (refine hK _ ?_; clear hK K) | refine And.intro ?_ ?_ | exact cl | exact one_encP _ | (refine st ?_; try simp only [encC, pairs, renL_encP]) | simp only [encC, pairs, renL_encP])
     all_goals try simp (disch := omega) only [wrap_id, wrap8_id]
     all_goals
     first
     | (exfalso; simp only [List.length_map] at h20; omega)
     | (refine ⟨⟨out ++ [chosenX c m i], i + 1, by omega, by rw [ho]; rfl⟩, [0, 3], by dsimp only; omega, ?_⟩
        exact leqB5)
    ·try (cases h20; done)
     all_goals (try simp only [CQ] at h20)
     all_goals
     refine Tri.skip ?_
     refine rZ [1, 2, 5, 6] (fun P S K => XvBinOV P .add 3 (.const (.int .i64 1)) (S.get 6) (.atom (.int .i64 1)) (fun r1 _ => K ⟨[(1, S.get 1), (2, S.get 2), (5, S.get 5), (6, r1)], S.hp, S.nx, S.gh⟩)) fun K hK => ?_
     repeat' (first | (refine hK _ ?_; clear hK K) | refine And.intro ?_ ?_ | exact cl | exact one_encP _ | (refine st ?_; try simp only [encC, pairs, renL_encP]) | simp only [encC, pairs, renL_encP])
     all_goals try simp (disch := omega) only [wrap_id, wrap8_id]
     all_goals
     first
     | (exfalso; simp only [List.length_map] at h20; omega)
     | (refine ⟨⟨out ++ [chosenX c m i], i + 1, by omega, by rw [ho]; rfl⟩, [0, 3], by dsimp only; omega, ?_⟩
        exact leqB5)
   ·try (cases h12; done)
    all_goals (try simp only [CQ] at h12)
    all_goals
    refine Tri.exit ?_
    obtain rfl : i = c.sizes.length := by omega
    subst ho
    refine sZ [4] (fun P S K => K ⟨[(4, (S.get 5))], S.hp, S.nx, S.gh⟩) fun K hK => ?_
    repeat' (first | (refine hK _ ?_; clear hK K) | refine And.intro ?_ ?_ | exact cl | exact one_encP _ | (refine st ?_; try simp only [encC, pairs, renL_encP]) | simp only [encC, pairs, renL_encP])
    all_goals
    refine Tri.ret ?_
    show ResOk _ _ _ _
    exact ResOk.frz 5 lstB5 lpvB5
theorem xge_tt {run : (PV → Eff → Prop) → Prop} {k : PV → PV → Eff → Prop} : Xge (.atom (.bool true)) true run k = run (k (.atom (.bool true))) := by rw [Xge_eq]; exact xG_tt
theorem xge_ff {run : (PV → Eff → Prop) → Prop} {k : PV → PV → Eff → Prop} : Xge (.atom (.bool false)) false run k = run (k (.atom (.bool false))) := by rw [Xge_eq]; exact xG_ff
theorem xge_tf {run : (PV → Eff → Prop) → Prop} {k : PV → PV → Eff → Prop} : Xge (.atom (.bool true)) false run k = k (.atom (.bool true)) pvU e0 := by rw [Xge_eq]; exact xG_tf
theorem xge_ft {run : (PV → Eff → Prop) → Prop} {k : PV → PV → Eff → Prop} : Xge (.atom (.bool false)) true run k = k (.atom (.bool false)) pvU e0 := by rw [Xge_eq]; exact xG_ft
theorem xgq_tt {run : (PV → Prop) → Prop} {k : PV → PV → Prop} : Xgq (.atom (.bool true)) true run k = run (k (.atom (.bool true))) := by rw [Xgq_eq]; exact xG_tt
theorem xgq_ff {run : (PV → Prop) → Prop} {k : PV → PV → Prop} : Xgq (.atom (.bool false)) false run k = run (k (.atom (.bool false))) := by rw [Xgq_eq]; exact xG_ff
theorem xgq_tf {run : (PV → Prop) → Prop} {k : PV → PV → Prop} : Xgq (.atom (.bool true)) false run k = k (.atom (.bool true)) pvU := by rw [Xgq_eq]; exact xG_tf
theorem xgq_ft {run : (PV → Prop) → Prop} {k : PV → PV → Prop} : Xgq (.atom (.bool false)) true run k = k (.atom (.bool false)) pvU := by rw [Xgq_eq]; exact xG_ft
def SE := And.intro (And.intro (And.intro (And.intro @xge_tt @xge_ff) (And.intro @xge_tf @xge_ft)) (And.intro (And.intro @xgq_tt @xgq_ff) (And.intro @xgq_tf @xgq_ft))) (And.intro (And.intro @xG_tt @xG_ff) (And.intro @xG_tf @xG_ft))
section
variable {P : Program} {n : Nat} {S : St} {Q : Exit → St → Prop}
theorem sDa {id : Nat} {l : List Oper} {y : Code} (n0 : Nat) (live : List Nat) (T : Program → List (List Nat) → St → (St → Prop) → Prop) (h : ∀ K : St → Prop, (∀ S', Tri P n y S' Q → K S') → ∀ S1, S1 = S → T P (growDeps l) S1 K) (hm : P.follows .mixedOrders = true := by kernel_rfl) (hB : growB l.toArray (growDeps l) n0 = true := by kernel_rfl) (hd : dstOk n l = true := by kernel_rfl)
    (hT : ∀ K, yOpsT P l.toArray (l.take n0) S [] (fun S1 tr => trOk S.nx (growDeps l) tr = true ∧ yOps P l.toArray (l.drop n0) S1 (fun S1 => K (S1.pick live))) = T P (growDeps l) S K := by intro K; kernel_rfl) :
    Tri P n (.seq (.region id l.toArray true) y) S Q := sD n0 live T (fun K hK => h K hK S rfl) hm hB hd hT
end
def stepOk (l : List Int) (n : Int) (k : Nat) : Prop := 0 ≤ li l k ∧ li l k < n ∧ (0 < k → li l ((k : Int) - 1).toNat < li l k)
def IncP (l : List Int) (n : Int) : Prop := ∀ k, k < l.length → stepOk l n k
noncomputable def incB (l : List Int) (n : Int) : Bool := @decide (IncP l n) (Classical.propDecidable _)
theorem incB_yes {l : List Int} {n : Int} (h : IncP l n) : incB l n = true := @decide_eq_true _ (Classical.propDecidable _) h
theorem incB_no {l : List Int} {n : Int} (h : ¬ IncP l n) : incB l n = false := @decide_eq_false _ (Classical.propDecidable _) h
theorem incB_at {l : List Int} {n : Int} {k : Nat} (hk : k < l.length) (h : ¬ stepOk l n k) : incB l n = false := incB_no fun hp => h (hp k hk)
theorem incB_mem {l : List Int} {n : Int} (h : incB l n = true) : ∀ x, x ∈ l → 0 ≤ x ∧ x < n := fun x hx => by
  have hp : IncP l n := @of_decide_eq_true _ (Classical.propDecidable _) h
  obtain ⟨k, hk, rfl⟩ := List.getElem_of_mem hx
  have := hp k hk
  rw [stepOk, show li l k = l[k] by simp [li, List.getD_eq_getElem?_getD, hk]] at this
  exact ⟨this.1, this.2.1⟩
structure Sane (x : CertD) : Prop where
  some : x.some.length ≤ 1000
  people : x.people.length ≤ 1000
  least : I64 x.least
def valS (c : CaseD) (x : CertD) : Int := if x.people.length = 0 then li c.sizes (li x.some 0).toNat else countedS c x.some x.people
noncomputable def wrongX (c : CaseD) (x : CertD) : Bool := !incB x.some c.sizes.length || !incB x.people c.people || (decide (x.people.length = 0) && decide (x.some.length ≠ 1))
noncomputable def boundE (c : CaseD) (x : CertD) : Int := if validC c ≠ 0 then validC c else if wrongX c x = true then 17 else if valS c x ≠ x.least then 17 else 0
noncomputable def boundN (c : CaseD) (x : CertD) : Int := if boundE c x = 0 then valS c x else 0
theorem counted_rng {c : CaseD} (hG : Good c) (ts people : List Int) (hs : ts.length ≤ 1000) (hp : people.length ≤ 1000) : 0 ≤ countedS c ts people ∧ countedS c ts people ≤ 3000000 := by
  have h1 := sumK_rng hG ts people ts.length (Nat.le_refl _)
  rw [sumK_all] at h1
  unfold countedS
  rcases Nat.eq_zero_or_pos people.length with h0 | h0
  · rw [h0]; simp
  · have h2 : 0 ≤ (sumS c ts people + people.length - 1).tdiv people.length := Int.tdiv_nonneg (by omega) (by omega)
    have h3 : (sumS c ts people + people.length - 1).tdiv people.length ≤ sumS c ts people + people.length - 1 := Int.tdiv_le_self _ (by omega)
    omega
theorem val_rng {c : CaseD} (hG : Good c) (x : CertD) (hx : Sane x) : 0 ≤ valS c x ∧ valS c x ≤ 3000000 := by
  unfold valS
  split
  · have := li_rng (l := c.sizes) (m := 0) (M := 1024) (fun x hx => by have := hG.size x hx; omega) (by omega) (li x.some 0).toNat
    omega
  · exact counted_rng hG _ _ hx.some hx.people
theorem boundE_case {c : CaseD} {x : CertD} (h : validC c ≠ 0) : boundE c x = validC c := if_pos h
theorem boundE_wrong {c : CaseD} {x : CertD} (h : validC c = 0) (h2 : wrongX c x = true) : boundE c x = 17 := by unfold boundE; rw [if_neg (by omega), if_pos h2]
theorem boundE_least {c : CaseD} {x : CertD} (h : validC c = 0) (h3 : valS c x ≠ x.least) : boundE c x = 17 := by unfold boundE; rw [if_neg (by omega), if_pos h3]; split <;> rfl
theorem boundE_ok {c : CaseD} {x : CertD} (h : validC c = 0) (h2 : ¬ wrongX c x = true) (h3 : valS c x = x.least) : boundE c x = 0 := by unfold boundE; rw [if_neg (by omega), if_neg h2, if_neg (by omega)]
theorem boundN_no {c : CaseD} {x : CertD} (h : boundE c x ≠ 0) : boundN c x = 0 := if_neg h
theorem boundN_ok {c : CaseD} {x : CertD} (h : boundE c x = 0) : boundN c x = valS c x := if_pos h
theorem wrong_a {c : CaseD} {x : CertD} (h : incB x.some c.sizes.length = false) : wrongX c x = true := by unfold wrongX; rw [h]; rfl
theorem wrong_b {c : CaseD} {x : CertD} (h : incB x.people c.people = false) : wrongX c x = true := by unfold wrongX; rw [h]; cases incB x.some c.sizes.length <;> rfl
theorem wrong_c {c : CaseD} {x : CertD} (h : x.people.length = 0) (h1 : ¬ x.some.length = 1) : wrongX c x = true := by
  unfold wrongX; rw [dec_yes h, dec_yes h1]; cases incB x.some c.sizes.length <;> cases incB x.people c.people <;> rfl
theorem wrong_no {c : CaseD} {x : CertD} (hA : incB x.some c.sizes.length = true) (hB : incB x.people c.people = true) (h : ¬ x.people.length = 0 ∨ x.some.length = 1) : ¬ wrongX c x = true := by
  unfold wrongX; rw [hA, hB]
  rcases h with h | h
  · rw [dec_no h]; simp
  · rw [dec_no (show ¬ x.some.length ≠ 1 by omega)]; cases decide (x.people.length = 0) <;> decide
theorem bound_wrong {c : CaseD} {x : CertD} (h : validC c = 0) (h2 : wrongX c x = true) : boundN c x = 0 ∧ boundE c x = 17 := by
  have := boundE_wrong h h2
  exact ⟨boundN_no (by omega), this⟩
theorem bound_least {c : CaseD} {x : CertD} (h : validC c = 0) (h2 : valS c x ≠ x.least) : boundN c x = 0 ∧ boundE c x = 17 := by
  have := boundE_least h h2
  exact ⟨boundN_no (by omega), this⟩
theorem bound_ok {c : CaseD} {x : CertD} (h : validC c = 0) (h2 : ¬ wrongX c x = true) (h3 : valS c x = x.least) : boundN c x = valS c x ∧ boundE c x = 0 := by
  have := boundE_ok h h2 h3
  exact ⟨boundN_ok this, this⟩
theorem val_none {c : CaseD} {x : CertD} (h : x.people.length = 0) : valS c x = li c.sizes (li x.some 0).toNat := if_pos h
theorem val_some {c : CaseD} {x : CertD} (h : 0 < x.people.length) : valS c x = countedS c x.some x.people := if_neg (by omega)
theorem valid_rng (c : CaseD) : 0 ≤ validC c ∧ validC c ≤ 6 := by
  unfold validC
  repeat' split
  all_goals omega
theorem boundE_rng (c : CaseD) (x : CertD) : 0 ≤ boundE c x ∧ boundE c x ≤ 17 := by
  have := valid_rng c
  unfold boundE
  repeat' split
  all_goals omega
theorem boundN_rng (c : CaseD) (x : CertD) (hx : Sane x) : 0 ≤ boundN c x ∧ boundN c x ≤ 3000000 := by
  unfold boundN
  split
  · rename_i h
    have hv : validC c = 0 := Classical.byContradiction fun hv => hv (by rw [← boundE_case (x := x) hv]; exact h)
    exact val_rng (valid_good hv) x hx
  · omega
noncomputable def checkE (c : CaseD) (ps : List (Int × Int)) (x : CertD) : Int := if loadsE c ps ≠ 0 then loadsE c ps else boundE c x
noncomputable def checkN (c : CaseD) (ps : List (Int × Int)) (x : CertD) : Int := if checkE c ps x = 0 then greatest (loadsR c ps) - boundN c x else 0
theorem check_bad {c : CaseD} {ps : List (Int × Int)} {x : CertD} (h : loadsE c ps ≠ 0) : checkN c ps x = 0 ∧ checkE c ps x = loadsE c ps := by
  have e : checkE c ps x = loadsE c ps := if_pos h
  exact ⟨if_neg (by rw [e]; exact h), e⟩
theorem check_bound {c : CaseD} {ps : List (Int × Int)} {x : CertD} (h : loadsE c ps = 0) (h2 : boundE c x ≠ 0) : checkN c ps x = 0 ∧ checkE c ps x = boundE c x := by
  have e : checkE c ps x = boundE c x := if_neg (by omega)
  exact ⟨if_neg (by rw [e]; exact h2), e⟩
theorem check_ok {c : CaseD} {ps : List (Int × Int)} {x : CertD} (h : loadsE c ps = 0) (h2 : boundE c x = 0) : checkN c ps x = greatest (loadsR c ps) - boundN c x ∧ checkE c ps x = 0 := by
  have e : checkE c ps x = 0 := (if_neg (by omega)).trans h2
  exact ⟨if_pos e, e⟩
theorem loads_valid {c : CaseD} {ps : List (Int × Int)} (h : loadsE c ps = 0) : validC c = 0 := by
  refine Classical.byContradiction fun hv => ?_
  unfold loadsE at h
  rw [if_pos hv] at h; exact hv h
theorem loadsR_mem {c : CaseD} (hG : Good c) {ps : List (Int × Int)} (hp : ps.length ≤ 1000000) : ∀ x, x ∈ loadsR c ps → 0 ≤ x ∧ x ≤ 2048000000 := fun x hx => by
  unfold loadsR at hx
  split at hx
  · have := loadsG_rng (c := c) (fun x hx => by have := hG.size x hx; omega) ps ps.length x hx
    omega
  · cases hx
theorem greatest_rng {c : CaseD} (hG : Good c) {ps : List (Int × Int)} (hp : ps.length ≤ 1000000) : 0 ≤ greatest (loadsR c ps) ∧ greatest (loadsR c ps) ≤ 2048000000 :=
  ⟨greatest_nonneg _, greatest_le (by omega) fun x hx => (loadsR_mem hG hp x hx).2⟩
end Go.Proofs.Ytcdeilgijleoaaa
