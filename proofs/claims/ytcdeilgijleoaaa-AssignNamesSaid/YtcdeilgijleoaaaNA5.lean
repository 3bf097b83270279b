/-
  The clean machine: a nil cell of an element of an own row, seen as a frozen row that is empty.
-/
import Derived.Test.YtcdeilgijleoaaaNA2
import Derived.Test.YtcdeilgijleoaaaNA1
import Derived.Test.YtcdeilgijleoaaaNB53
import Derived.Test.YtcdeilgijleoaaaNB16
import Derived.Test.YtcdeilgijleoaaaNB22
import Derived.Test.YtcdeilgijleoaaaNVR
set_option linter.all false
namespace Go.Proofs.Ytcdeilgijleoaaa
open Go Go.RowKit
set_option maxRecDepth 20000
set_option maxHeartbeats 1000000
theorem pureL_encC (l : List CaseD) : pureL (l.map encC) = true := pureL_map encC pure_case l
theorem getD_in {α : Type} {l : List α} {k : Nat} {d : α} (h : k < l.length) : l.getD k d ∈ l := by simp [List.getD_eq_getElem?_getD, h]
theorem own_pure (c : CaseD) : Pure Try.prog 16 [encC c] (encC c) [] := by
  refine Pure.introR (rv := [.cell 2 38]) Try.func16 (by kernel_rfl) rfl rfl rfl (Nat.le_of_ble_eq_true rfl) ?_ ?_
  · simp [pure_case, PV.pure, pureL]
  refine sZ [1, 2] (fun P S K => XvBox S.nx (S.get 0) (fun r0 ef0 => XvAlloc P 38 (S.nx + ef0.add.length) (fun r1 ef1 => K ⟨[(1, r0), (2, r1)], (Eff.hp ef1 (S.nx + ef0.add.length) (Eff.hp ef0 S.nx S.hp)), ((S.nx + ef0.add.length) + ef1.add.length), S.gh⟩))) fun K hK => ?_
  repeat' (first | (refine hK _ ?_; clear hK K) | refine And.intro ?_ ?_ | exact cl | (refine st ?_; try simp only [encC, pairs]) | simp only [encC, pairs])
  all_goals
  refine sZ [2] (fun P S K => XvFieldAddr P 25 0 (S.get 1) (fun r0 _ => XvLoad P 22 (M S.hp S.nx) r0 (fun r1 _ => XvFieldAddr P 25 1 (S.get 1) (fun r2 _ => XvLoad P 3 (M S.hp S.nx) r2 (fun r3 _ => XvFieldAddr P 25 2 (S.get 1) (fun r4 _ => XvLoad P 23 (M S.hp S.nx) r4 (fun r5 _ => XvBuild P 38 [(0, r1), (1, r3), (2, r5)] (fun r6 _ => XvStore P 38 (M S.hp S.nx) (S.get 2) r6 (fun r7 ef7 => K ⟨[(2, S.get 2)], (Eff.hp ef7 S.nx S.hp), (S.nx + ef7.add.length), S.gh⟩))))))))) fun K hK => ?_
  repeat' (first | (refine hK _ ?_; clear hK K) | refine And.intro ?_ ?_ | exact cl | (refine st ?_; try simp only [encC, pairs]) | simp only [encC, pairs])
  all_goals
  refine Tri.ret ?_
  show ResR _ _ _ _ _
  refine ResR.cell1 (encC c) rfl ?_ (pure_case _)
  exact sealed_pure _ _ _ (pure_case _)
theorem renL_encC (ρ : Nat → Nat) (l : List CaseD) : renL ρ (l.map encC) = l.map encC := renL_pure ρ _ (pureL_encC l)
def swp (d : List Int) (j : Nat) : List Int := (d.set j (li d (j - 1))).set (j - 1) (li d j)
def sink (lt : Int → Int → Bool) (a : Nat) : Nat → List Int → List Int
  | 0, d => d
  | j + 1, d => if a < j + 1 ∧ lt (li d (j + 1)) (li d j) = true then sink lt a j (swp d (j + 1)) else d
def isort (lt : Int → Int → Bool) (a : Nat) : Nat → Nat → List Int → List Int
  | 0, _, d => d
  | n + 1, i, d => isort lt a n (i + 1) (sink lt a i d)
theorem swp_len (d : List Int) (j : Nat) : (swp d j).length = d.length := by simp [swp]
theorem swp_mem {d : List Int} {j : Nat} (hj : j < d.length) {x : Int} (h : x ∈ swp d j) : x ∈ d := by
  rcases List.mem_or_eq_of_mem_set h with h | rfl
  · rcases List.mem_or_eq_of_mem_set h with h | rfl
    · exact h
    · exact li_mem (by omega)
  · exact li_mem hj
structure SinkI (lt : Int → Int → Bool) (l : List Int) (a i : Nat) (d0 d : List Int) (j : Nat) : Prop where
  lo : a ≤ j
  hi : j ≤ i
  len : d.length = l.length
  mem : ∀ x, x ∈ d → x ∈ l
  core : sink lt a i d0 = sink lt a j d
theorem SinkI.step {lt : Int → Int → Bool} {l : List Int} {a i : Nat} {d0 d : List Int} {j : Nat} (h : SinkI lt l a i d0 d j) (hi : i < l.length) (hj : a < j) (hc : lt (li d j) (li d (j - 1)) = true) : SinkI lt l a i d0 (swp d j) (j - 1) := by
  obtain ⟨k, rfl⟩ : ∃ k, j = k + 1 := ⟨j - 1, by omega⟩
  have h1 := h.hi
  have h2 := h.len
  refine ⟨by omega, by omega, by rw [swp_len]; exact h.len, fun x hx => h.mem x (swp_mem (by omega) hx), ?_⟩
  rw [h.core, sink, if_pos ⟨hj, hc⟩]; rfl
theorem SinkI.stop {lt : Int → Int → Bool} {l : List Int} {a i : Nat} {d0 d : List Int} {j : Nat} (h : SinkI lt l a i d0 d j) (hc : ¬ (a < j ∧ lt (li d j) (li d (j - 1)) = true)) : sink lt a i d0 = d := by
  rw [h.core]
  cases j with
  | zero => rfl
  | succ k => rw [sink, if_neg (by simpa using hc)]
structure InsI (lt : Int → Int → Bool) (l : List Int) (a b : Nat) (d : List Int) (i : Nat) : Prop where
  lo : a + 1 ≤ i
  len : d.length = l.length
  mem : ∀ x, x ∈ d → x ∈ l
  core : isort lt a (b - (a + 1)) (a + 1) l = isort lt a (b - i) i d
theorem InsI.start (lt : Int → Int → Bool) (l : List Int) (a b : Nat) : InsI lt l a b l (a + 1) := ⟨Nat.le_refl _, rfl, fun _ h => h, rfl⟩
theorem InsI.sink {lt : Int → Int → Bool} {l : List Int} {a b : Nat} {d : List Int} {i : Nat} (h : InsI lt l a b d i) : SinkI lt l a i d d i := ⟨by have := h.lo; omega, Nat.le_refl _, h.len, h.mem, rfl⟩
theorem InsI.next {lt : Int → Int → Bool} {l : List Int} {a b : Nat} {d d' : List Int} {i j : Nat} (h : InsI lt l a b d i) (hi : i < b) (hs : SinkI lt l a i d d' j) (hc : ¬ (a < j ∧ lt (li d' j) (li d' (j - 1)) = true)) : InsI lt l a b d' (i + 1) := by
  refine ⟨by have := h.lo; omega, hs.len, hs.mem, ?_⟩
  have e : b - i = (b - (i + 1)) + 1 := by omega
  rw [h.core, e, isort, hs.stop hc]
theorem InsI.stop {lt : Int → Int → Bool} {l : List Int} {a b : Nat} {d : List Int} {i : Nat} (h : InsI lt l a b d i) (hi : b ≤ i) : isort lt a (b - (a + 1)) (a + 1) l = d := by
  rw [h.core, Nat.sub_eq_zero_of_le hi]; rfl
def ltc (c : Int → Int → Int) (x y : Int) : Bool := decide (c x y < 0)
def sortedL (c : Int → Int → Int) (l : List Int) : List Int := isort (ltc c) 0 (l.length - 1) 1 l
theorem sink_len {lt : Int → Int → Bool} (a : Nat) : ∀ (j : Nat) (d : List Int), (sink lt a j d).length = d.length
  | 0, _ => rfl
  | j + 1, d => by
    rw [sink]; split
    · rw [sink_len a j, swp_len]
    · rfl
theorem isort_len {lt : Int → Int → Bool} (a : Nat) : ∀ (n i : Nat) (d : List Int), (isort lt a n i d).length = d.length
  | 0, _, _ => rfl
  | n + 1, i, d => by rw [isort, isort_len a n, sink_len]
theorem sortedL_len (c : Int → Int → Int) (l : List Int) : (sortedL c l).length = l.length := isort_len ..
def insAt {α : Type} (l : List α) (k : Nat) (x : α) : List α := l.take k ++ x :: l.drop k
theorem insAt_len {α : Type} (l : List α) (k : Nat) (x : α) : (insAt l k x).length = l.length + 1 := by simp [insAt]; omega
def insC (lt : Int → Int → Bool) (A : List Int) (x : Int) : List Int := insAt A (down (fun j => lt x (li A j)) A.length) x
theorem down_congr {p q : Nat → Bool} : ∀ n, (∀ j, j < n → p j = q j) → down p n = down q n
  | 0, _ => rfl
  | n + 1, h => by rw [down, down, h n (Nat.lt_succ_self n), down_congr n fun j hj => h j (Nat.lt_succ_of_lt hj)]
theorem down_le (p : Nat → Bool) : ∀ n, down p n ≤ n
  | 0 => Nat.le_refl _
  | n + 1 => by
    rw [down]; split
    · exact Nat.le_succ_of_le (down_le p n)
    · exact Nat.le_refl _
theorem li_app_left {A B : List Int} {j : Nat} (h : j < A.length) : li (A ++ B) j = li A j := by simp [li, List.getD_eq_getElem?_getD, List.getElem?_append_left h]
theorem li_app_at (A : List Int) (x : Int) (B : List Int) : li (A ++ x :: B) A.length = x := by simp [li, List.getD_eq_getElem?_getD]
theorem insC_len (lt : Int → Int → Bool) (A : List Int) (x : Int) : (insC lt A x).length = A.length + 1 := insAt_len ..
theorem sink_ins (lt : Int → Int → Bool) : ∀ (n : Nat) (A : List Int) (x : Int) (B : List Int), A.length = n → sink lt 0 n (A ++ x :: B) = insC lt A x ++ B
  | 0, A, x, B, h => by
    obtain rfl := List.length_eq_zero_iff.1 h
    simp [sink, insC, insAt]
  | n + 1, A, x, B, h => by
    obtain ⟨A', y, rfl⟩ : ∃ A' y, A = A' ++ [y] := ⟨A.dropLast, A.getLast (by intro e; rw [e] at h; cases h), (List.dropLast_concat_getLast _).symm⟩
    have hn : A'.length = n := by simpa using h
    have e1 : li (A' ++ [y] ++ x :: B) (n + 1) = x := by
      have := li_app_at (A' ++ [y]) x B
      rwa [h] at this
    have e2 : li (A' ++ [y] ++ x :: B) n = y := by
      rw [List.append_assoc, ← hn]; exact li_app_at A' y (x :: B)
    have e3 : li (A' ++ [y]) n = y := by rw [← hn]; exact li_app_at A' y []
    rw [sink, e1, e2]
    unfold insC
    rw [h, down, e3]
    by_cases hc : lt x y = true
    · rw [if_pos ⟨by omega, hc⟩, if_pos hc]
      have e4 : swp (A' ++ [y] ++ x :: B) (n + 1) = A' ++ x :: (y :: B) := by
        unfold swp
        rw [Nat.add_sub_cancel, e1, e2]
        subst hn
        rw [List.append_assoc, List.singleton_append, List.set_append_right _ _ (by omega), show A'.length + 1 - A'.length = 1 by omega, List.set_append_right _ _ (by simp), Nat.sub_self]
        rfl
      rw [e4, sink_ins lt n A' x (y :: B) hn]
      unfold insC
      rw [hn, down_congr n (q := fun j => lt x (li (A' ++ [y]) j)) fun j hj => by show lt x _ = lt x _; rw [li_app_left (by omega)]]
      have hd := down_le (fun j => lt x (li (A' ++ [y]) j)) n
      generalize down (fun j => lt x (li (A' ++ [y]) j)) n = k at hd
      unfold insAt
      rw [List.take_append_of_le_length (by omega), List.drop_append_of_le_length (by omega)]
      simp
    · rw [if_neg (fun g => hc g.2), if_neg hc]
      unfold insAt
      rw [List.take_of_length_le (by omega), List.drop_of_length_le (by omega)]
      simp
theorem isort_ins (lt : Int → Int → Bool) : ∀ (B A : List Int), isort lt 0 B.length A.length (A ++ B) = B.foldl (insC lt) A
  | [], A => by simp [isort]
  | x :: B, A => by
    rw [List.length_cons, isort, sink_ins lt _ A x B rfl, List.foldl_cons, ← isort_ins lt B (insC lt A x), insC_len]
theorem sortedL_fold (c : Int → Int → Int) (l : List Int) : sortedL c l = l.foldl (insC (ltc c)) [] := by
  cases l with
  | nil => rfl
  | cons x l => exact isort_ins (ltc c) l [x]
theorem down_above {p : Nat → Bool} : ∀ n j, down p n ≤ j → j < n → p j = true
  | 0, j, _, h => absurd h (Nat.not_lt_zero _)
  | n + 1, j, h1, h2 => by
    rw [down] at h1
    by_cases hp : p n = true
    · rw [if_pos hp] at h1
      rcases Nat.lt_succ_iff_lt_or_eq.1 h2 with h | rfl
      · exact down_above n j h1 h
      · exact hp
    · rw [if_neg hp] at h1; omega
theorem down_below {p : Nat → Bool} : ∀ n, 0 < down p n → p (down p n - 1) = false
  | 0, h => absurd h (Nat.lt_irrefl _)
  | n + 1, h => by
    rw [down] at h ⊢
    by_cases hp : p n = true
    · rw [if_pos hp] at h ⊢; exact down_below n h
    · rw [if_neg hp]
      simpa using hp
theorem insAt_perm {α : Type} (l : List α) (k : Nat) (x : α) : (insAt l k x).Perm (x :: l) := by
  unfold insAt
  exact List.perm_middle.trans (by rw [List.take_append_drop])
theorem insC_perm (lt : Int → Int → Bool) (A : List Int) (x : Int) : (insC lt A x).Perm (x :: A) := insAt_perm ..
theorem foldl_insC_perm (lt : Int → Int → Bool) : ∀ xs A : List Int, (xs.foldl (insC lt) A).Perm (A ++ xs)
  | [], A => by simp
  | x :: xs, A => by
    rw [List.foldl_cons]
    refine (foldl_insC_perm lt xs _).trans ?_
    refine ((insC_perm lt A x).append_right xs).trans ?_
    exact List.perm_middle.symm
theorem sortedL_perm (c : Int → Int → Int) (l : List Int) : (sortedL c l).Perm l := by
  rw [sortedL_fold]; simpa using foldl_insC_perm (ltc c) l []
def lexK (key : Int → Int) (x y : Int) : Prop := key x < key y ∨ (key x = key y ∧ x < y)
theorem lexK_asym {key : Int → Int} {x y : Int} (h1 : lexK key x y) (h2 : lexK key y x) : False := by unfold lexK at *; omega
def Keyed (c : Int → Int → Int) (key : Int → Int) : Prop := ∀ x y, c x y < 0 ↔ key x < key y
theorem ins_parts {c : Int → Int → Int} {key : Int → Int} (hc : Keyed c key) {A : List Int} (hA : A.Pairwise fun a b => key a ≤ key b) (x : Int) :
    ∃ k, k ≤ A.length ∧ insC (ltc c) A x = A.take k ++ x :: A.drop k ∧ (∀ a, a ∈ A.take k → key a ≤ key x) ∧ ∀ b, b ∈ A.drop k → key x < key b := by
  generalize hk : down (fun j => ltc c x (li A j)) A.length = k
  have hkl : k ≤ A.length := by rw [← hk]; exact down_le _ _
  have hab : ∀ j, k ≤ j → j < A.length → key x < key (li A j) := fun j h1 h2 => (hc _ _).1 (of_decide_eq_true (down_above (p := fun j => ltc c x (li A j)) A.length j (by rw [hk]; exact h1) h2))
  have hbe : 0 < k → ¬ key x < key (li A (k - 1)) := fun h1 => by
    have := down_below (p := fun j => ltc c x (li A j)) A.length (by rw [hk]; exact h1)
    rw [hk] at this
    exact fun h => of_decide_eq_false this ((hc _ _).2 h)
  have hli : ∀ j (hj : j < A.length), li A j = A[j] := fun j hj => by simp [li, List.getD_eq_getElem?_getD, hj]
  refine ⟨k, hkl, by unfold insC insAt; rw [hk], fun a ha => ?_, fun b hb => ?_⟩
  · obtain ⟨j, hj, rfl⟩ := List.getElem_of_mem ha
    have hj2 : j < k := by rw [List.length_take] at hj; omega
    have h1 := hbe (by omega)
    rw [hli _ (by omega)] at h1
    rw [List.getElem_take]
    by_cases hjk : j = k - 1
    · subst hjk; omega
    · have := List.pairwise_iff_getElem.1 hA j (k - 1) (by omega) (by omega) (by omega)
      omega
  · obtain ⟨j, hj, rfl⟩ := List.getElem_of_mem hb
    have hj2 : k + j < A.length := by rw [List.length_drop] at hj; omega
    have := hab (k + j) (by omega) hj2
    rw [hli _ hj2] at this
    rw [List.getElem_drop]; exact this
theorem insC_mono {c : Int → Int → Int} {key : Int → Int} (hc : Keyed c key) {A : List Int} (hA : A.Pairwise fun a b => key a ≤ key b) (x : Int) : (insC (ltc c) A x).Pairwise fun a b => key a ≤ key b := by
  obtain ⟨k, h1, h2, h3, h4⟩ := ins_parts hc hA x
  rw [h2]
  have hA2 : (A.take k ++ A.drop k).Pairwise fun a b => key a ≤ key b := by rw [List.take_append_drop]; exact hA
  rw [List.pairwise_append] at hA2 ⊢
  obtain ⟨p1, p2, p3⟩ := hA2
  refine ⟨p1, List.pairwise_cons.2 ⟨fun b hb => Int.le_of_lt (h4 b hb), p2⟩, fun a ha b hb => ?_⟩
  rcases List.mem_cons.1 hb with rfl | hb
  · exact h3 a ha
  · exact p3 a ha b hb
theorem foldl_insC_mono {c : Int → Int → Int} {key : Int → Int} (hc : Keyed c key) : ∀ (xs A : List Int), (A.Pairwise fun a b => key a ≤ key b) → (xs.foldl (insC (ltc c)) A).Pairwise fun a b => key a ≤ key b
  | [], A, h => h
  | x :: xs, A, h => foldl_insC_mono hc xs _ (insC_mono hc h x)
theorem sortedL_mono {c : Int → Int → Int} {key : Int → Int} (hc : Keyed c key) (l : List Int) : (sortedL c l).Pairwise fun a b => key a ≤ key b := by
  rw [sortedL_fold]; exact foldl_insC_mono hc l [] List.Pairwise.nil
theorem insC_stab {c : Int → Int → Int} {key : Int → Int} (hc : Keyed c key) {A : List Int} (hA : A.Pairwise (lexK key)) {x : Int} (hx : ∀ y, y ∈ A → y < x) : (insC (ltc c) A x).Pairwise (lexK key) := by
  obtain ⟨k, h1, h2, h3, h4⟩ := ins_parts hc (hA.imp fun h => by unfold lexK at h; omega) x
  rw [h2]
  have hA2 : (A.take k ++ A.drop k).Pairwise (lexK key) := by rw [List.take_append_drop]; exact hA
  rw [List.pairwise_append] at hA2 ⊢
  obtain ⟨p1, p2, p3⟩ := hA2
  refine ⟨p1, List.pairwise_cons.2 ⟨fun b hb => .inl (h4 b hb), p2⟩, fun a ha b hb => ?_⟩
  rcases List.mem_cons.1 hb with rfl | hb
  · have := h3 a ha
    have := hx a (List.mem_of_mem_take ha)
    unfold lexK; omega
  · exact p3 a ha b hb
theorem foldl_insC_stab {c : Int → Int → Int} {key : Int → Int} (hc : Keyed c key) : ∀ (xs A : List Int), A.Pairwise (lexK key) → xs.Pairwise (· < ·) → (∀ y, y ∈ A → ∀ x, x ∈ xs → y < x) → (xs.foldl (insC (ltc c)) A).Pairwise (lexK key)
  | [], A, h, _, _ => h
  | x :: xs, A, h, hx, hA => by
    rw [List.foldl_cons]
    obtain ⟨g1, g2⟩ := List.pairwise_cons.1 hx
    refine foldl_insC_stab hc xs _ (insC_stab hc h fun y hy => hA y hy x (List.mem_cons_self ..)) g2 fun y hy z hz => ?_
    rcases List.mem_cons.1 ((insC_perm (ltc c) A x).mem_iff.1 hy) with rfl | hy
    · exact g1 z hz
    · exact hA y hy z (List.mem_cons_of_mem _ hz)
theorem sortedL_stab {c : Int → Int → Int} {key : Int → Int} (hc : Keyed c key) {l : List Int} (hl : l.Pairwise (· < ·)) : (sortedL c l).Pairwise (lexK key) := by
  rw [sortedL_fold]
  exact foldl_insC_stab hc l [] List.Pairwise.nil hl fun y hy => by cases hy
def NoInv (c : Int → Int → Int) (l : List Int) : Prop := ∀ i j, i < j → j < l.length → ¬ c (li l j) (li l i) < 0
theorem noInv_mono {c : Int → Int → Int} {key : Int → Int} (hc : Keyed c key) {l : List Int} (h : l.Pairwise fun a b => key a ≤ key b) : NoInv c l := fun i j hij hj => by
  have := List.pairwise_iff_getElem.1 h i j (by omega) hj hij
  rw [hc]
  have e1 : li l i = l[i] := by simp [li, List.getD_eq_getElem?_getD, show i < l.length by omega]
  have e2 : li l j = l[j] := by simp [li, List.getD_eq_getElem?_getD, hj]
  rw [e1, e2]; omega
theorem sink_idle {lt : Int → Int → Bool} {a : Nat} : ∀ {i : Nat} {d : List Int}, (∀ j, i = j + 1 → lt (li d (j + 1)) (li d j) = false) → sink lt a i d = d
  | 0, _, _ => rfl
  | i + 1, d, h => by rw [sink, if_neg (by rw [h i rfl]; simp)]
theorem isort_idle {c : Int → Int → Int} {d : List Int} (h : NoInv c d) (a : Nat) : ∀ n i, n + i ≤ d.length → isort (ltc c) a n i d = d
  | 0, _, _ => rfl
  | n + 1, i, hi => by
    rw [isort, sink_idle fun j hj => decide_eq_false (h j (j + 1) (Nat.lt_succ_self j) (by omega))]
    exact isort_idle h a n (i + 1) (by omega)
theorem isort_ins2 (lt : Int → Int → Bool) : ∀ (B A C : List Int), isort lt 0 B.length A.length (A ++ (B ++ C)) = B.foldl (insC lt) A ++ C
  | [], A, C => by simp [isort]
  | x :: B, A, C => by
    rw [List.length_cons, isort, List.cons_append, sink_ins lt _ A x (B ++ C) rfl, List.foldl_cons, ← isort_ins2 lt B (insC lt A x) C, insC_len]
theorem isort_two (lt : Int → Int → Bool) (a : Nat) : ∀ (m k i : Nat) (d : List Int), isort lt a (m + k) i d = isort lt a k (i + m) (isort lt a m i d)
  | 0, k, i, d => by rw [Nat.zero_add]; rfl
  | m + 1, k, i, d => by
    rw [show m + 1 + k = (m + k) + 1 by omega, isort, isort, isort_two lt a m k (i + 1) _, show i + 1 + m = i + (m + 1) by omega]
theorem block_sorted {c : Int → Int → Int} {key : Int → Int} (hc : Keyed c key) {l : List Int} (h20 : 20 ≤ l.length) (hq : ∀ j, 20 ≤ j → j < l.length → ∀ x, x ∈ l → ¬ c (li l j) x < 0) :
    NoInv c (isort (ltc c) 0 19 1 l) ∧ isort (ltc c) 0 19 1 l = sortedL c l := by
  have e : isort (ltc c) 0 19 1 l = sortedL c (l.take 20) ++ l.drop 20 := by
    obtain ⟨x, l', rfl⟩ : ∃ x l', l = x :: l' := by
      cases l with
      | nil => simp at h20
      | cons x l' => exact ⟨x, l', rfl⟩
    have h1 := isort_ins2 (ltc c) (l'.take 19) [x] (l'.drop 19)
    rw [List.take_append_drop] at h1
    have h2 : (l'.take 19).length = 19 := by rw [List.length_take]; simp at h20; omega
    rw [h2] at h1
    rw [sortedL_fold]
    exact h1
  have hno : NoInv c (isort (ltc c) 0 19 1 l) := by
    rw [e]
    refine noInv_mono hc ?_
    rw [List.pairwise_append]
    have hdrop : ∀ b, b ∈ l.drop 20 → ∀ x, x ∈ l → key x ≤ key b := fun b hb x hx => by
      obtain ⟨j, hj, rfl⟩ := List.getElem_of_mem hb
      have hj2 : 20 + j < l.length := by rw [List.length_drop] at hj; omega
      have := hq (20 + j) (by omega) hj2 x hx
      rw [hc] at this
      rw [List.getElem_drop]
      have e1 : li l (20 + j) = l[20 + j] := by simp [li, List.getD_eq_getElem?_getD, hj2]
      rw [e1] at this; omega
    refine ⟨sortedL_mono hc _, ?_, fun a ha b hb => hdrop b hb a (List.mem_of_mem_take ((sortedL_perm c _).mem_iff.1 ha))⟩
    refine List.pairwise_iff_getElem.2 fun i j hi hj hij => hdrop _ (List.getElem_mem hj) _ (List.mem_of_mem_drop (List.getElem_mem hi))
  refine ⟨hno, ?_⟩
  unfold sortedL
  have h2 := isort_two (ltc c) 0 19 (l.length - 20) 1 l
  rw [show 19 + (l.length - 20) = l.length - 1 by omega] at h2
  rw [h2, isort_idle hno 0 _ _ (by rw [isort_len]; omega)]
def cmpI (a b : Int) : Int := if a < b then -1 else if b < a then 1 else 0
theorem cmpI_neg (a b : Int) : cmpI a b < 0 ↔ a < b := by unfold cmpI; by_cases h1 : a < b <;> by_cases h2 : b < a <;> simp [h1, h2]
def szC (c : CaseD) (x y : Int) : Int := cmpI (li c.sizes y.toNat) (li c.sizes x.toNat)
def szK (c : CaseD) (x : Int) : Int := - li c.sizes x.toNat
theorem szC_key (c : CaseD) : Keyed (szC c) (szK c) := fun x y => by unfold szC szK; rw [cmpI_neg]; omega
def ldC (loads : List Int) (x y : Int) : Int := cmpI (li loads x.toNat) (li loads y.toNat)
def ldK (loads : List Int) (x : Int) : Int := li loads x.toNat
theorem ldC_key (loads : List Int) : Keyed (ldC loads) (ldK loads) := fun x y => cmpI_neg _ _
def ordL (c : CaseD) : List Int := sortedL (szC c) (nI (List.range c.sizes.length))
def openL (c : CaseD) (i : Int) : Nat → List Int
  | 0 => []
  | p + 1 => openL c i p ++ if openB c i p then [(p : Int)] else []
def sortP (c : CaseD) (loads : List Int) (i : Int) : List Int := sortedL (ldC loads) (openL c i c.people.toNat)
def stepA (c : CaseD) (s : List (Int × Int) × List Int) (i : Int) : List (Int × Int) × List Int :=
  (s.1.set i.toNat (min (li (sortP c s.2 i) 0) (li (sortP c s.2 i) 1), max (li (sortP c s.2 i) 0) (li (sortP c s.2 i) 1)), addAt (addAt s.2 (li (sortP c s.2 i) 0) (li c.sizes i.toNat)) (li (sortP c s.2 i) 1) (li c.sizes i.toNat))
def quickA (c : CaseD) (k : Nat) : List (Int × Int) × List Int := ((ordL c).take k).foldl (stepA c) (List.replicate c.sizes.length (0, 0), List.replicate c.people.toNat 0)
theorem openL_mem {c : CaseD} {i : Int} : ∀ {n : Nat} {x : Int}, x ∈ openL c i n ↔ 0 ≤ x ∧ x < n ∧ openB c i x = true
  | 0, x => ⟨fun h => (by cases h), fun h => (by omega)⟩
  | n + 1, x => by
    rw [openL, List.mem_append, openL_mem]
    constructor
    · rintro (h | h)
      · exact ⟨h.1, by omega, h.2.2⟩
      · split at h
        · rename_i ho
          rw [List.mem_singleton.1 h]
          exact ⟨by omega, by omega, ho⟩
        · cases h
    · rintro ⟨h1, h2, h3⟩
      by_cases hx : x = n
      · right; subst hx; rw [if_pos h3]; exact List.mem_singleton.2 rfl
      · left; exact ⟨h1, by omega, h3⟩
theorem openL_lt (c : CaseD) (i : Int) : ∀ n : Nat, (openL c i n).Pairwise (· < ·)
  | 0 => List.Pairwise.nil
  | n + 1 => by
    rw [openL, List.pairwise_append]
    refine ⟨openL_lt c i n, by split <;> simp, fun a ha b hb => ?_⟩
    have := openL_mem.1 ha
    split at hb
    · rw [List.mem_singleton.1 hb]; omega
    · cases hb
theorem openL_len (c : CaseD) (i : Int) : ∀ n : Nat, (openL c i n).length = openN c i n
  | 0 => rfl
  | n + 1 => by rw [openL, List.length_append, openL_len c i n, openN_succ]; split <;> rfl
theorem leastS_spec (c : CaseD) (i : Int) (loads : List Int) (but : Int) : ∀ n : Nat,
    (leastS c i loads but n < 0 → ∀ q : Int, 0 ≤ q → q < n → q ≠ but → openB c i q = false) ∧
    (0 ≤ leastS c i loads but n → leastS c i loads but n < n ∧ leastS c i loads but n ≠ but ∧ openB c i (leastS c i loads but n) = true ∧ ∀ q : Int, 0 ≤ q → q < n → q ≠ but → openB c i q = true → q = leastS c i loads but n ∨ lexK (ldK loads) (leastS c i loads but n) q)
  | 0 => ⟨fun _ q h0 h1 => by omega, fun h => absurd h (by show ¬ (0 : Int) ≤ -1; omega)⟩
  | n + 1 => by
    obtain ⟨g1, g2⟩ := leastS_spec c i loads but n
    have hst : leastS c i loads but (n + 1) = if (n : Int) ≠ but ∧ openB c i n = true ∧ (leastS c i loads but n < 0 ∨ li loads n < li loads (leastS c i loads but n).toNat) then (n : Int) else leastS c i loads but n := rfl
    rw [hst]
    generalize leastS c i loads but n = r at g1 g2
    split
    · rename_i h
      obtain ⟨h1, h2, h3⟩ := h
      refine ⟨fun h => by omega, fun _ => ⟨by omega, h1, h2, fun q q0 q1 q2 q3 => ?_⟩⟩
      by_cases hq : q = n
      · exact .inl hq
      · right
        rcases Int.lt_or_le r 0 with hr | hr
        · rw [g1 hr q q0 (by omega) q2] at q3; cases q3
        · have hlt := h3.resolve_left (by omega)
          have hl : ldK loads (n : Int) < ldK loads r := by unfold ldK; simpa using hlt
          rcases (g2 hr).2.2.2 q q0 (by omega) q2 q3 with rfl | hk
          · exact .inl hl
          · unfold lexK at *; omega
    · rename_i h
      refine ⟨fun hr q q0 q1 q2 => ?_, fun hr => ?_⟩
      · by_cases hq : q = n
        · subst hq
          cases ho : openB c i (n : Int) with
          | false => rfl
          | true => exact absurd ⟨q2, ho, .inl hr⟩ h
        · exact g1 hr q q0 (by omega) q2
      · obtain ⟨k1, k2, k3, k4⟩ := g2 hr
        refine ⟨by omega, k2, k3, fun q q0 q1 q2 q3 => ?_⟩
        by_cases hq : q = n
        · right
          subst hq
          have : ¬ li loads n < li loads r.toNat := fun hl => h ⟨q2, q3, .inr hl⟩
          have hl : ¬ ldK loads (n : Int) < ldK loads r := by unfold ldK; simpa using this
          unfold lexK; omega
        · exact k4 q q0 (by omega) q2 q3
theorem pickS_spec (c : CaseD) (done : List Bool) : ∀ n : Nat,
    (pickS c done n < 0 → ∀ q : Nat, q < n → done.getD q false = true) ∧
    (0 ≤ pickS c done n → pickS c done n < n ∧ done.getD (pickS c done n).toNat false = false ∧ ∀ q : Nat, q < n → done.getD q false = false → (q : Int) = pickS c done n ∨ lexK (szK c) (pickS c done n) q)
  | 0 => ⟨fun _ q h => absurd h (Nat.not_lt_zero _), fun h => absurd h (by show ¬ (0 : Int) ≤ -1; omega)⟩
  | n + 1 => by
    obtain ⟨g1, g2⟩ := pickS_spec c done n
    have hst : pickS c done (n + 1) = if done.getD n false = false ∧ (pickS c done n < 0 ∨ li c.sizes (pickS c done n).toNat < li c.sizes n) then (n : Int) else pickS c done n := rfl
    rw [hst]
    generalize pickS c done n = r at g1 g2
    split
    · rename_i h
      obtain ⟨h2, h3⟩ := h
      refine ⟨fun h => by omega, fun _ => ⟨by omega, by simpa using h2, fun q q1 q3 => ?_⟩⟩
      by_cases hq : q = n
      · exact .inl (by omega)
      · right
        rcases Int.lt_or_le r 0 with hr | hr
        · rw [g1 hr q (by omega)] at q3; cases q3
        · have hlt := h3.resolve_left (by omega)
          have hl : szK c (n : Int) < szK c r := by unfold szK; simp only [Int.toNat_natCast]; omega
          rcases (g2 hr).2.2 q (by omega) q3 with hk | hk
          · rw [hk]; exact .inl hl
          · unfold lexK at *; omega
    · rename_i h
      refine ⟨fun hr q q1 => ?_, fun hr => ?_⟩
      · by_cases hq : q = n
        · subst hq
          cases ho : done.getD q false with
          | true => rfl
          | false => exact absurd ⟨ho, .inl hr⟩ h
        · exact g1 hr q (by omega)
      · obtain ⟨k1, k2, k4⟩ := g2 hr
        refine ⟨by omega, k2, fun q q1 q3 => ?_⟩
        by_cases hq : q = n
        · right
          subst hq
          have : ¬ li c.sizes r.toNat < li c.sizes q := fun hl => h ⟨q3, .inr hl⟩
          have hl : ¬ szK c (q : Int) < szK c r := by unfold szK; simp only [Int.toNat_natCast]; omega
          unfold lexK; omega
        · exact k4 q (by omega) q3
theorem first_two {c : CaseD} (hG : Good c) (loads : List Int) {i : Nat} (hi : i < c.sizes.length) :
    li (sortP c loads i) 0 = leastC c i loads (-1) ∧ li (sortP c loads i) 1 = leastC c i loads (leastC c i loads (-1)) ∧ li (sortP c loads i) 0 ≠ li (sortP c loads i) 1 ∧
    (∀ x, x = li (sortP c loads i) 0 ∨ x = li (sortP c loads i) 1 → 0 ≤ x ∧ x < c.people ∧ openB c i x = true) ∧ 2 ≤ (sortP c loads i).length ∧ (sortP c loads i).length ≤ 6 := by
  have hlo := hG.lo
  have hhi := hG.hi
  have hperm := sortedL_perm (ldC loads) (openL c i c.people.toNat)
  have hst := sortedL_stab (ldC_key loads) (openL_lt c i c.people.toNat)
  have hlen : (sortP c loads i).length = openN c i c.people.toNat := by unfold sortP; rw [hperm.length_eq, openL_len]
  have h2 := hG.some i hi
  have h6 := openN_le c i c.people.toNat
  unfold sortP at hlen ⊢
  generalize sortedL (ldC loads) (openL c i c.people.toNat) = S at hperm hst hlen
  obtain ⟨s0, s1, rest, rfl⟩ : ∃ s0 s1 rest, S = s0 :: s1 :: rest := by
    rcases S with _ | ⟨a, _ | ⟨b, r⟩⟩
    · simp at hlen; omega
    · simp at hlen; omega
    · exact ⟨a, b, r, rfl⟩
  have hmem : ∀ x, x ∈ s0 :: s1 :: rest ↔ 0 ≤ x ∧ x < c.people ∧ openB c i x = true := fun x => by
    rw [hperm.mem_iff, openL_mem]
    constructor
    · rintro ⟨g1, g2, g3⟩; exact ⟨g1, by omega, g3⟩
    · rintro ⟨g1, g2, g3⟩; exact ⟨g1, by omega, g3⟩
  obtain ⟨p0, p12⟩ := List.pairwise_cons.1 hst
  obtain ⟨p1, _⟩ := List.pairwise_cons.1 p12
  have m0 := (hmem s0).1 (List.mem_cons_self ..)
  have m1 := (hmem s1).1 (List.mem_cons_of_mem _ (List.mem_cons_self ..))
  have hne : s0 ≠ s1 := fun e => by
    have := p0 s1 (List.mem_cons_self ..)
    rw [e] at this; exact lexK_asym this this
  have e0 : leastS c i loads (-1) c.people.toNat = s0 := by
    obtain ⟨g1, g2⟩ := leastS_spec c i loads (-1) c.people.toNat
    generalize leastS c i loads (-1) c.people.toNat = r at g1 g2
    have hr : 0 ≤ r := Int.not_lt.1 fun hr => by
      have := g1 hr s0 m0.1 (by omega) (by omega)
      rw [m0.2.2] at this; cases this
    obtain ⟨k1, k2, k3, k4⟩ := g2 hr
    have hrS : r ∈ s0 :: s1 :: rest := (hmem r).2 ⟨hr, by omega, k3⟩
    rcases k4 s0 m0.1 (by omega) (by omega) m0.2.2 with h | h
    · exact h.symm
    · rcases List.mem_cons.1 hrS with h' | h'
      · exact h'
      · exact (lexK_asym h (p0 r h')).elim
  have c0 : leastC c i loads (-1) = s0 := by unfold leastC; rw [e0]; omega
  have e1 : leastS c i loads s0 c.people.toNat = s1 := by
    obtain ⟨g1, g2⟩ := leastS_spec c i loads s0 c.people.toNat
    generalize leastS c i loads s0 c.people.toNat = r at g1 g2
    have hr : 0 ≤ r := Int.not_lt.1 fun hr => by
      have := g1 hr s1 m1.1 (by omega) (fun e => hne e.symm)
      rw [m1.2.2] at this; cases this
    obtain ⟨k1, k2, k3, k4⟩ := g2 hr
    have hrS : r ∈ s0 :: s1 :: rest := (hmem r).2 ⟨hr, by omega, k3⟩
    rcases k4 s1 m1.1 (by omega) (fun e => hne e.symm) m1.2.2 with h | h
    · exact h.symm
    · rcases List.mem_cons.1 hrS with h' | h'
      · exact absurd h' k2
      · rcases List.mem_cons.1 h' with h'' | h''
        · exact h''
        · exact (lexK_asym h (p1 r h'')).elim
  refine ⟨c0.symm, ?_, hne, fun x hx => ?_, by simp, by rw [hlen]; omega⟩
  · rw [c0]; unfold leastC; rw [e1]
    show s1 = _
    omega
  · rcases hx with rfl | rfl
    · exact m0
    · exact m1
theorem ordL_facts (c : CaseD) : (ordL c).Pairwise (lexK (szK c)) ∧ (ordL c).length = c.sizes.length ∧ ∀ x, x ∈ ordL c ↔ 0 ≤ x ∧ x < c.sizes.length := by
  have hperm := sortedL_perm (szC c) (nI (List.range c.sizes.length))
  refine ⟨sortedL_stab (szC_key c) ?_, by unfold ordL; rw [sortedL_len, nI_len, List.length_range], fun x => ?_⟩
  · unfold nI
    rw [List.pairwise_map]
    exact List.pairwise_lt_range.imp fun h => by omega
  · unfold ordL
    rw [hperm.mem_iff]
    unfold nI
    rw [List.mem_map]
    constructor
    · rintro ⟨a, h1, rfl⟩
      have := List.mem_range.1 h1; omega
    · rintro ⟨h1, h2⟩
      exact ⟨x.toNat, List.mem_range.2 (by omega), by omega⟩
structure SameQ (c : CaseD) (k : Nat) : Prop where
  out : (quickA c k).1 = (quickQ c k).out
  loads : (quickA c k).2 = (quickQ c k).loads
  done : ∀ i : Nat, i < c.sizes.length → ((quickQ c k).done.getD i false = true ↔ (i : Int) ∈ (ordL c).take k)
  fits : ∀ i : Nat, i < c.sizes.length → (quickQ c k).done.getD i false = true → lp (quickQ c k).out i ∈ pairsOf c (i : Int)
theorem quickA_succ {c : CaseD} {k : Nat} (h : k < (ordL c).length) : quickA c (k + 1) = stepA c (quickA c k) (li (ordL c) k) := by
  unfold quickA
  rw [List.take_succ_eq_append_getElem h, List.foldl_append]
  simp [li, List.getD_eq_getElem?_getD, h]
theorem ord_at {c : CaseD} (hG : Good c) {k : Nat} (hk : k < c.sizes.length) (hs : SameQ c k) : li (ordL c) k = qAt c (quickQ c k) := by
  obtain ⟨o1, o2, o3⟩ := ordL_facts c
  have hI := quickI hG k (by omega)
  obtain ⟨q1, q2, q3⟩ := quickI_at hI hk
  obtain ⟨g1, g2⟩ := pickS_spec c (quickQ c k).done c.sizes.length
  obtain ⟨_, _, k4⟩ := g2 q1
  have hko : k < (ordL c).length := by omega
  have hel : li (ordL c) k = (ordL c)[k] := by simp [li, List.getD_eq_getElem?_getD, hko]
  have hom := (o3 (li (ordL c) k)).1 (li_mem hko)
  have hdrop : (ordL c).drop k = li (ordL c) k :: (ordL c).drop (k + 1) := by rw [hel]; exact List.drop_eq_getElem_cons hko
  have hsplit : ((ordL c).take k ++ (ordL c).drop k).Pairwise (lexK (szK c)) := by rw [List.take_append_drop]; exact o1
  rw [List.pairwise_append] at hsplit
  obtain ⟨_, p2, p3⟩ := hsplit
  rw [hdrop] at p2 p3
  -- the next one is not done
  have hnd : (quickQ c k).done.getD (li (ordL c) k).toNat false = false := by
    cases hb : (quickQ c k).done.getD (li (ordL c) k).toNat false with
    | false => rfl
    | true =>
      have := (hs.done _ (by omega)).1 hb
      rw [Int.toNat_of_nonneg hom.1] at this
      have h := p3 _ this _ (List.mem_cons_self ..)
      exact (lexK_asym h h).elim
  have hqo : qAt c (quickQ c k) ∈ li (ordL c) k :: (ordL c).drop (k + 1) := by
    have hin := (o3 (qAt c (quickQ c k))).2 ⟨q1, q2⟩
    rw [← List.take_append_drop k (ordL c), List.mem_append] at hin
    rcases hin with h | h
    · have := (hs.done (qAt c (quickQ c k)).toNat (by omega)).2 (by rw [Int.toNat_of_nonneg q1]; exact h)
      rw [q3] at this; cases this
    · rwa [hdrop] at h
  rcases k4 (li (ordL c) k).toNat (by omega) hnd with h | h
  · rw [Int.toNat_of_nonneg hom.1] at h; exact h
  · rw [Int.toNat_of_nonneg hom.1] at h
    rcases List.mem_cons.1 hqo with h' | h'
    · exact h'.symm
    · exact (lexK_asym h ((List.pairwise_cons.1 p2).1 _ h')).elim
theorem sameQ {c : CaseD} (hG : Good c) : ∀ k, k ≤ c.sizes.length → SameQ c k
  | 0, _ => ⟨rfl, rfl, fun i hi => by simp [quickQ, List.getD_eq_getElem?_getD, List.getElem?_replicate, hi], fun i hi h => by simp [quickQ, List.getD_eq_getElem?_getD, List.getElem?_replicate, hi] at h⟩
  | k + 1, hk => by
    have ih := sameQ hG k (by omega)
    have hat := ord_at hG (by omega) ih
    obtain ⟨o1, o2, o3⟩ := ordL_facts c
    have hI := quickI hG k (by omega)
    obtain ⟨q1, q2, q3⟩ := quickI_at hI (by omega)
    obtain ⟨f1, f2, f3, f4, f5, f6⟩ := first_two hG (quickQ c k).loads (i := (qAt c (quickQ c k)).toNat) (by omega)
    rw [Int.toNat_of_nonneg q1] at f1 f2 f3 f4
    have hA : quickA c (k + 1) = stepA c (quickA c k) (qAt c (quickQ c k)) := by rw [quickA_succ (by omega), hat]
    have hQ : quickQ c (k + 1) = qStep c (quickQ c k) := rfl
    have ea : li (sortP c (quickA c k).2 (qAt c (quickQ c k))) 0 = qA c (quickQ c k) := by rw [ih.loads]; exact f1
    have eb : li (sortP c (quickA c k).2 (qAt c (quickQ c k))) 1 = qB c (quickQ c k) := by rw [ih.loads]; exact f2
    refine ⟨?_, ?_, fun i hi => ?_, fun i hi hd => ?_⟩
    · rw [hA, hQ]; unfold stepA qStep; simp only; rw [ea, eb, ih.out]
    · rw [hA, hQ]; unfold stepA qStep; simp only; rw [ea, eb, ih.loads]
    · rw [hQ]
      show ((quickQ c k).done.set (qAt c (quickQ c k)).toNat true).getD i false = true ↔ _
      rw [List.take_succ_eq_append_getElem (show k < (ordL c).length by omega), List.mem_append, List.mem_singleton]
      have hel : (ordL c)[k]'(by omega) = qAt c (quickQ c k) := by rw [← hat]; simp [li, List.getD_eq_getElem?_getD, show k < (ordL c).length by omega]
      rw [hel, ← ih.done i hi, List.getD_eq_getElem?_getD, List.getElem?_set]
      by_cases he : (qAt c (quickQ c k)).toNat = i
      · subst he
        have : (qAt c (quickQ c k)).toNat < (quickQ c k).done.length := by rw [hI.done]; omega
        simp [this]
        right; omega
      · rw [if_neg he, ← List.getD_eq_getElem?_getD]
        constructor
        · exact .inl
        · rintro (h | h)
          · exact h
          · omega
    · rw [hQ] at hd ⊢
      have hd : ((quickQ c k).done.set (qAt c (quickQ c k)).toNat true).getD i false = true := hd
      show lp ((quickQ c k).out.set (qAt c (quickQ c k)).toNat (min (qA c (quickQ c k)) (qB c (quickQ c k)), max (qA c (quickQ c k)) (qB c (quickQ c k)))) i ∈ _
      unfold lp
      rw [List.getD_eq_getElem?_getD, List.getElem?_set]
      by_cases he : (qAt c (quickQ c k)).toNat = i
      · subst he
        have hlt : (qAt c (quickQ c k)).toNat < (quickQ c k).out.length := by rw [hI.out]; omega
        simp only [if_true, hlt, Option.getD_some]
        have ha := f4 (qA c (quickQ c k)) (.inl f1.symm)
        have hb := f4 (qB c (quickQ c k)) (.inr f2.symm)
        have hne : qA c (quickQ c k) ≠ qB c (quickQ c k) := fun e => f3 (by rw [f1, f2]; exact e)
        rw [Int.toNat_of_nonneg q1]
        have hm : ∀ x, x = min (qA c (quickQ c k)) (qB c (quickQ c k)) ∨ x = max (qA c (quickQ c k)) (qB c (quickQ c k)) → x = qA c (quickQ c k) ∨ x = qB c (quickQ c k) := fun x hx => by omega
        refine pairsOf_of (by simp only; omega) (by simp only; omega) (by simp only; omega) ?_ ?_
        · rcases hm _ (.inl rfl) with h | h <;> simp only [h]
          · exact ha.2.2
          · exact hb.2.2
        · rcases hm _ (.inr rfl) with h | h <;> simp only [h]
          · exact ha.2.2
          · exact hb.2.2
      · rw [if_neg he, ← List.getD_eq_getElem?_getD]
        refine ih.fits i hi ?_
        rwa [List.getD_eq_getElem?_getD, List.getElem?_set, if_neg he, ← List.getD_eq_getElem?_getD] at hd
theorem quick_same {c : CaseD} (hG : Good c) : (quickA c c.sizes.length).1 = quickS c := (sameQ hG _ (Nat.le_refl _)).out
theorem quick_fits {c : CaseD} (hG : Good c) : (quickS c).length = c.sizes.length ∧ fitsL c 0 (quickS c) := by
  have hs := sameQ hG _ (Nat.le_refl _)
  have hI := quickI hG _ (Nat.le_refl _)
  obtain ⟨o1, o2, o3⟩ := ordL_facts c
  refine ⟨hI.out, fits_mk fun j hj => ?_⟩
  have hj2 : j < c.sizes.length := by rw [← hI.out]; exact hj
  rw [Nat.zero_add]
  refine hs.fits j hj2 ((hs.done j hj2).2 ?_)
  rw [← o2, List.take_length]
  exact (o3 _).2 ⟨by omega, by omega⟩
theorem leqpA5 {p : Prop} (h : p := by (refine ⟨4, ?_, ?_, rfl, by simp, rfl, fun i h _ => (match i, h with | 0, _ => by simp [sealed, PV.ren, rmap])⟩ <;> (simp only [List.forall_mem_cons]; repeat' (first | refine And.intro ?_ ?_ | (intro p hp; exact absurd hp List.not_mem_nil) | rfl | exact (sealed_pure _ _ _ (pure_ints _)).trans (ren_ints _ _).symm | exact (sealed_pure _ _ _ (pure_strs _)).trans (ren_strs _ _).symm | exact sp (by assumption) | (intro o ho; cases ho; refine ⟨by decide, ?_⟩; first | (refine LeqS.row rfl ?_ ?_; (next => (first | rfl | (simp only [List.map_append, List.map_cons, List.map_nil, List.append_nil, List.nil_append, List.append_assoc, List.cons_append, encI, encS, ints, strs]; done) | (simp [encI, encS, ints, strs, swp, List.map_set, swp, List.map_set]; done))); (next => (first | rfl | exact pureL_encI _ | exact pureL_encS _ | exact pureL_ints _ | exact pureL_strs _ | (simp [pureL_append, pureL_encI, pureL_encS, pureL_ints, pureL_strs, pureL, PV.pure, pure_ints, pure_strs]; done))); done) | refine ⟨_, rfl, rfl, ?_⟩) | (simp [St.born, St.known, retV, St.get, St.obj, lk, sealed, PV.ren, renL, rmap, AO.ren, ints, strs, encI, encS, map_sealed_encI, map_sealed_encS, map_sealed_ints, map_sealed_strs, map_ren_encI, map_ren_encS, map_ren_ints, map_ren_strs, renL_encI, renL_encS, renL_ints, renL_strs] <;> omega)))); first | done | fail) : p := h
theorem insertion_proc (f : FuncId) (c1 : PV) (c : Int → Int → Int) (l : List Int) (a b : Nat) (h1 : c1.pure = true) (ha : a ≤ l.length) (hb : b ≤ l.length) (hl : l.length ≤ 1000000000)
    (hc : ∀ x y, x ∈ l → y ∈ l → Pure Try.prog f [encI x, encI y, c1] (encI (c x y)) []) :
    Proc Try.prog 84 [.ob 0 1 0 l.length, encI a, encI b, .fn f [c1]] [⟨1, l.map encI⟩] (.tup []) [some ⟨1, (isort (ltc c) a (b - (a + 1)) (a + 1) l).map encI⟩] [] := by
  have hfp : (PV.fn f [c1]).pure = true := by simp [PV.pure, pureL, h1]
  have r1 : ∀ ρ, c1.ren ρ = c1 := fun ρ => ren_pure ρ _ h1
  have s1 : ∀ H keep n, sealed H keep n c1 = c1 := fun H k n => sealed_pure H k n h1
  have q1 : ∀ H n, reach H n c1 = [] := fun H n => pure_reach n _ h1
  have o1 : c1.noOb = true := pure_noOb _ h1
  refine Proc.intro (ts := []) Try.func84 (by kernel_rfl) rfl rfl rfl (Nat.le_of_ble_eq_true rfl) rfl ?_
  simp only [objEnv, marks, List.map_cons, List.map_nil, List.length_cons, List.length_nil, Nat.zero_add, Nat.reduceAdd]
  refine sZ [0, 1, 2, 3, 8] (fun P S K => XvBinOV P .add 3 (.const (.int .i64 1)) (S.get 1) (.atom (.int .i64 1)) (fun r1 _ => K ⟨[(0, S.get 0), (1, S.get 1), (2, S.get 2), (3, S.get 3), (8, r1)], S.hp, S.nx, S.gh⟩)) fun K hK => ?_
  repeat' (first | (refine hK _ ?_; clear hK K) | refine And.intro ?_ ?_ | exact cl | (refine st ?_; try simp only [List.length_set, wrap_id (x := ((a : Int) + 1)) (by omega) (by omega)]))
  all_goals try simp (disch := omega) only [wrap_id, wrap8_id]
  all_goals
  refine Tri.block ?_
  refine Tri.loop (α := (d : List Int) ×' (i : Nat) ×' (InsI (ltc c) l a b d i)) (fun z => (fun (d : List Int) (i : Nat) => (⟨[(0, .ob 0 1 0 l.length), (1, encI a), (2, encI b), (3, .fn f [c1]), (8, encI i)], [(0, some ⟨1, d.map encI⟩)], 1, [.ob 0 1 0 0]⟩ : St)) z.1 z.2.1) (fun z => (fun (d : List Int) (i : Nat) => b - i) z.1 z.2.1) ⟨l, a + 1, InsI.start _ _ _ _⟩ [0] ?_ ?_
  ·exact leqpA5
  ·rintro ⟨d, i, hI⟩
   have hlo := hI.lo
   have hdl := hI.len
   refine Tri.seq ?_
   refine sY [0, 1, 2, 3, 8, 14] (fun P S K => XvBinOV P .lss 3 (.tmp 13) (S.get 8) (S.get 2) (fun r2 _ => K ⟨[(0, S.get 0), (1, S.get 1), (2, S.get 2), (3, S.get 3), (8, S.get 8), (14, r2)], S.hp, S.nx, S.gh⟩)) ?_
   all_goals
   refine Tri.cond rfl (fun h14 => ?_) (fun h14 => ?_)
   ·try (cases h14; done)
    all_goals (try simp only [CQ] at h14)
    all_goals
    refine Tri.skip ?_
    refine Tri.seq ?_
    refine Tri.block ?_
    refine sY [0, 1, 2, 3, 8, 9] (fun P S K => K ⟨[(0, S.get 0), (1, S.get 1), (2, S.get 2), (3, S.get 3), (8, S.get 8), (9, (S.get 8))], S.hp, S.nx, S.gh⟩) ?_
    all_goals
    refine Tri.block ?_
    refine Tri.loop (α := (d' : List Int) ×' (j : Nat) ×' (SinkI (ltc c) l a i d d' j)) (fun z => (fun (d' : List Int) (j : Nat) => (⟨[(0, .ob 0 1 0 l.length), (1, encI a), (2, encI b), (3, .fn f [c1]), (8, encI i), (9, encI j)], [(0, some ⟨1, d'.map encI⟩)], 1, [.ob 0 1 0 0]⟩ : St)) z.1 z.2.1) (fun z => (fun (d' : List Int) (j : Nat) => j) z.1 z.2.1) ⟨d, i, hI.sink⟩ [0] ?_ ?_
    ·exact leqpA5
    ·rintro ⟨d', j, hS⟩
     have hjl := hS.lo
     have hji := hS.hi
     have hdl' := hS.len
     refine Tri.seq ?_
     rcases Nat.lt_or_ge a j with hja | hja
     all_goals
     refine sD 17 [0, 1, 2, 3, 8, 9, 34] (fun P GD S K => XvBinOV P .gtr 3 (.tmp 19) (S.get 9) (S.get 1) (fun r2 ef2 => Xge r2 true (fun k => k (S.get 3) e0) (fun g4 r4 ef4 => Xge g4 true (fun k => k (S.get 0) e0) (fun g5 r5 ef5 => Xge g5 true (fun k => k (S.get 9) e0) (fun g6 r6 ef6 => Xge g6 true (fun k => XvIndexAddr P 22 r5 r6 k) (fun g7 r7 ef7 => Xge g7 true (fun k => XvLoad P 3 (M S.hp S.nx) r7 k) (fun g8 r8 ef8 => Xge g8 true (fun k => k (S.get 0) e0) (fun g9 r9 ef9 => Xge g9 true (fun k => k (S.get 9) e0) (fun g10 r10 ef10 => Xge g10 true (fun k => XvBinOV P .sub 3 (.const (.int .i64 1)) r10 (.atom (.int .i64 1)) k) (fun g11 r11 ef11 => Xge g11 true (fun k => XvIndexAddr P 22 r9 r11 k) (fun g12 r12 ef12 => Xge g12 true (fun k => XvLoad P 3 (M S.hp S.nx) r12 k) (fun g13 r13 ef13 => Xge g13 true (fun k => XvFnV P (M S.hp S.nx) r4 [r8, r13] k) (fun g14 r14 ef14 => Xge g14 true (fun k => XvBinOV P .lss 3 (.const (.int .i64 0)) r14 (.atom (.int .i64 0)) k) (fun g15 r15 ef15 => XvPick g15 r15 (.atom (.bool false)) (fun r16 ef16 => (trOk S.nx GD [⟨S.nx, 0, [], [], []⟩, ⟨S.nx, 0, [], [], []⟩, ⟨S.nx, 0, ef2.rd, [], []⟩, ⟨S.nx, 0, [], [], []⟩, ⟨S.nx, 0, ef4.rd, [], []⟩, ⟨S.nx, 0, ef5.rd, [], []⟩, ⟨S.nx, 0, ef6.rd, [], []⟩, ⟨S.nx, 0, ef7.rd, [], []⟩, ⟨S.nx, 0, ef8.rd, [], []⟩, ⟨S.nx, 0, ef9.rd, [], []⟩, ⟨S.nx, 0, ef10.rd, [], []⟩, ⟨S.nx, 0, ef11.rd, [], []⟩, ⟨S.nx, 0, ef12.rd, [], []⟩, ⟨S.nx, 0, ef13.rd, [], []⟩, (Eff.tr ef14 S.nx), ⟨(S.nx + ef14.add.length), 0, ef15.rd, [], []⟩, ⟨(S.nx + ef14.add.length), 0, ef16.rd, [], []⟩] = true ∧ K ⟨[(0, S.get 0), (1, S.get 1), (2, S.get 2), (3, S.get 3), (8, S.get 8), (9, S.get 9), (34, r16)], (Eff.hp ef14 S.nx S.hp), (S.nx + ef14.add.length), S.gh⟩)))))))))))))))) fun K hK => ?_
     repeat' (first | (refine hK _ ?_; clear hK K) | (refine (?_ : trOk _ _ _ = true); (simp only [reach, List.flatMap_cons, List.flatMap_nil, List.append_nil, List.nil_append, q1]; kernel_rfl)) | ((first | refine xG_intro (fun hg => ?_) (fun hg => ?_) | refine fun (hg : (_ : Prop)) => ?_) <;> ((try simp only [BQ] at hg); try (exfalso; omega))) | refine And.intro ?_ ?_ | exact cl | refine one_take ?_ _ | refine one_drop ?_ _ | refine .inl ⟨_, _, hc (li d' j) (li d' (j - 1)) (hS.mem _ (li_mem (by omega))) (hS.mem _ (li_mem (by omega))), ?_⟩ | refine ⟨_, _, hc (li d' j) (li d' (j - 1)) (hS.mem _ (li_mem (by omega))) (hS.mem _ (li_mem (by omega))), ?_⟩ | simp (maxSteps := 2000000) only [↓SD, push_cast, Nat.reduceAdd, Nat.reduceSub, Nat.reduceMul, Nat.reduceLT, Nat.reduceLeDiff, Nat.reduceEqDiff, Int.reduceToNat, reduceIte, reduceCtorEq, Int.reduceLE, Int.reduceLT, Int.reduceNeg, ints, strs, encI, encS, List.length_set, dec_yes (show ((a : Nat) : Int) < (j : Int) by omega), wrap_id (x := ((j : Int) - 1)) (by omega) (by omega), toNat_pred (show 0 < j by omega), getD_encI (show j < d'.length by omega), getD_encI (show j - 1 < d'.length by omega), s1, r1, o1] | simp (maxSteps := 2000000) only [↓SD, push_cast, Nat.reduceAdd, Nat.reduceSub, Nat.reduceMul, Nat.reduceLT, Nat.reduceLeDiff, Nat.reduceEqDiff, Int.reduceToNat, reduceIte, reduceCtorEq, Int.reduceLE, Int.reduceLT, Int.reduceNeg, ints, strs, encI, encS, List.length_set, dec_no (show ¬ ((a : Nat) : Int) < (j : Int) by omega)])
     all_goals try simp (disch := omega) only [wrap_id, wrap8_id]
     all_goals
     refine Tri.cond rfl (fun h34 => ?_) (fun h34 => ?_)
     ·try (cases h34; done)
      all_goals (try simp only [CQ] at h34)
      all_goals
      refine Tri.skip ?_
      refine Tri.seq ?_
      refine Tri.block ?_
      refine rD 18 [0, 1, 2, 3, 8, 9] (fun P GD S K => XvBinOV P .sub 3 (.const (.int .i64 1)) (S.get 9) (.atom (.int .i64 1)) (fun r4 ef4 => XvBinOV P .sub 3 (.const (.int .i64 1)) (S.get 9) (.atom (.int .i64 1)) (fun r7 ef7 => XvIndexAddr P 22 (S.get 0) r7 (fun r8 ef8 => XvLoad P 3 (M S.hp S.nx) r8 (fun r9 ef9 => XvIndexAddr P 22 (S.get 0) (S.get 9) (fun r12 ef12 => XvLoad P 3 (M S.hp S.nx) r12 (fun r13 ef13 => XvIndexAddr P 22 (S.get 0) (S.get 9) (fun r14 ef14 => XvStore P 3 (M S.hp S.nx) r14 r9 (fun r15 ef15 => XvIndexAddr P 22 (S.get 0) r4 (fun r16 ef16 => XvStore P 3 (M (Eff.hp ef15 S.nx S.hp) (S.nx + ef15.add.length)) r16 r13 (fun r17 ef17 => (trOk S.nx GD [⟨S.nx, 0, [], [], []⟩, ⟨S.nx, 0, [], [], []⟩, ⟨S.nx, 0, [], [], []⟩, ⟨S.nx, 0, [], [], []⟩, ⟨S.nx, 0, ef4.rd, [], []⟩, ⟨S.nx, 0, [], [], []⟩, ⟨S.nx, 0, [], [], []⟩, ⟨S.nx, 0, ef7.rd, [], []⟩, ⟨S.nx, 0, ef8.rd, [], []⟩, ⟨S.nx, 0, ef9.rd, [], []⟩, ⟨S.nx, 0, [], [], []⟩, ⟨S.nx, 0, [], [], []⟩, ⟨S.nx, 0, ef12.rd, [], []⟩, ⟨S.nx, 0, ef13.rd, [], []⟩, ⟨S.nx, 0, ef14.rd, [], []⟩, (Eff.tr ef15 S.nx), ⟨(S.nx + ef15.add.length), 0, ef16.rd, [], []⟩, (Eff.tr ef17 (S.nx + ef15.add.length))] = true ∧ K ⟨[(0, S.get 0), (1, S.get 1), (2, S.get 2), (3, S.get 3), (8, S.get 8), (9, S.get 9)], (Eff.hp ef17 (S.nx + ef15.add.length) (Eff.hp ef15 S.nx S.hp)), ((S.nx + ef15.add.length) + ef17.add.length), S.gh⟩)))))))))))) fun K hK => ?_
      repeat' (first | (refine hK _ ?_; clear hK K) | (refine (?_ : trOk _ _ _ = true); kernel_rfl) | refine And.intro ?_ ?_ | exact cl | (refine st ?_; try simp only [List.length_set, getD_setne (show j ≠ j - 1 by omega), wrap_id (x := ((j : Int) - 1)) (by omega) (by omega), toNat_pred (show 0 < j by omega), getD_encI (show j < d'.length by omega), getD_encI (show j - 1 < d'.length by omega)]))
      all_goals try simp (disch := omega) only [wrap_id, wrap8_id]
      all_goals
      refine rZ [0, 1, 2, 3, 8, 9] (fun P S K => XvBinOV P .sub 3 (.const (.int .i64 1)) (S.get 9) (.atom (.int .i64 1)) (fun r1 _ => K ⟨[(0, S.get 0), (1, S.get 1), (2, S.get 2), (3, S.get 3), (8, S.get 8), (9, r1)], S.hp, S.nx, S.gh⟩)) fun K hK => ?_
      repeat' (first | (refine hK _ ?_; clear hK K) | refine And.intro ?_ ?_ | exact cl | (refine st ?_; try simp only [List.length_set, wrap_id (x := ((j : Int) - 1)) (by omega) (by omega)]))
      all_goals try simp (disch := omega) only [wrap_id, wrap8_id]
      all_goals
      refine ⟨⟨swp d' j, j - 1, hS.step (by omega) hja (dec_yes h34)⟩, [0], by dsimp only; omega, ?_⟩
      have ek : ((j - 1 : Nat) : Int) = (j : Int) - 1 := by omega
      dsimp only
      rw [ek]
      exact leqpA5
     ·try (cases h34; done)
      all_goals (try simp only [CQ] at h34)
      all_goals
      refine Tri.exit ?_
      refine rY [0, 1, 2, 3, 8] (fun P S K => XvBinOV P .add 3 (.const (.int .i64 1)) (S.get 8) (.atom (.int .i64 1)) (fun r1 _ => K ⟨[(0, S.get 0), (1, S.get 1), (2, S.get 2), (3, S.get 3), (8, r1)], S.hp, S.nx, S.gh⟩)) ?_
      all_goals try simp (disch := omega) only [wrap_id, wrap8_id]
      all_goals
      refine ⟨⟨d', i + 1, hI.next (by omega) hS (by first | exact fun h => absurd h.1 (by omega) | exact fun h => h34 (of_decide_eq_true h.2))⟩, [0], by dsimp only; omega, ?_⟩
      exact leqpA5
   ·try (cases h14; done)
    all_goals (try simp only [CQ] at h14)
    all_goals
    refine Tri.exit ?_
    rw [hI.stop (by omega)]
    exact ResP.row rfl rfl (pureL_encI _) rfl rfl
def SymI (a m b mid s r : Nat) : Prop := (mid < m ∧ s = mid + m - b ∧ r = mid) ∨ (m ≤ mid ∧ s = a ∧ r = m)
theorem symMerge_step (f : FuncId) (c1 : PV) (c : Int → Int → Int) (l : List Int) (a m b : Nat) (h1 : c1.pure = true) (ham : a < m) (hmb : m < b) (hb : b ≤ l.length) (hl : l.length ≤ 1000000000)
    (hc : ∀ x y, x ∈ l → y ∈ l → Pure Try.prog f [encI x, encI y, c1] (encI (c x y)) []) (hflat : NoInv c l)
    (ih : ∀ a' m' b' : Nat, b' - a' < b - a → a' < m' → m' < b' → b' ≤ l.length → Proc Try.prog 85 [.ob 0 1 0 l.length, encI a', encI m', encI b', .fn f [c1]] [⟨1, l.map encI⟩] (.tup []) [some ⟨1, l.map encI⟩] []) :
    Proc Try.prog 85 [.ob 0 1 0 l.length, encI a, encI m, encI b, .fn f [c1]] [⟨1, l.map encI⟩] (.tup []) [some ⟨1, l.map encI⟩] [] := by
  have hfp : (PV.fn f [c1]).pure = true := by simp [PV.pure, pureL, h1]
  have r1 : ∀ ρ, c1.ren ρ = c1 := fun ρ => ren_pure ρ _ h1
  have s1 : ∀ H keep n, sealed H keep n c1 = c1 := fun H k n => sealed_pure H k n h1
  have q1 : ∀ H n, reach H n c1 = [] := fun H n => pure_reach n _ h1
  have o1 : c1.noOb = true := pure_noOb _ h1
  obtain ⟨mid, hmid⟩ : ∃ mid, mid = (a + b) / 2 := ⟨_, rfl⟩
  refine Proc.intro (ts := []) Try.func85 (by kernel_rfl) rfl rfl rfl (Nat.le_of_ble_eq_true rfl) rfl ?_
  simp only [objEnv, marks, List.map_cons, List.map_nil, List.length_cons, List.length_nil, Nat.zero_add, Nat.reduceAdd]
  refine Tri.seq ?_
  refine sY [0, 1, 2, 3, 4, 28] (fun P S K => XvBinOV P .sub 3 (.tmp 26) (S.get 2) (S.get 1) (fun r2 _ => XvBinOV P .eql 3 (.const (.int .i64 1)) r2 (.atom (.int .i64 1)) (fun r3 _ => K ⟨[(0, S.get 0), (1, S.get 1), (2, S.get 2), (3, S.get 3), (4, S.get 4), (28, r3)], S.hp, S.nx, S.gh⟩))) ?_
  all_goals try simp (disch := omega) only [wrap_id, wrap8_id]
  all_goals
  refine Tri.cond rfl (fun h28 => ?_) (fun h28 => ?_)
  ·try (cases h28; done)
   all_goals (try simp only [CQ] at h28)
   all_goals
   refine sY [0, 1, 3, 4, 10] (fun P S K => K ⟨[(0, S.get 0), (1, S.get 1), (3, S.get 3), (4, S.get 4), (10, (S.get 2))], S.hp, S.nx, S.gh⟩) ?_
   all_goals
   refine sY [0, 1, 4, 10, 11] (fun P S K => K ⟨[(0, S.get 0), (1, S.get 1), (4, S.get 4), (10, S.get 10), (11, (S.get 3))], S.hp, S.nx, S.gh⟩) ?_
   all_goals
   refine Tri.seq ?_
   refine Tri.block ?_
   refine Tri.loop (α := (j : Nat) ×' (m ≤ j ∧ j ≤ b)) (fun z => (fun (j : Nat) => (⟨[(0, .ob 0 1 0 l.length), (1, encI a), (4, .fn f [c1]), (10, encI m), (11, encI j)], [(0, some ⟨1, l.map encI⟩)], 1, [.ob 0 1 0 0]⟩ : St)) z.1) (fun z => (fun (j : Nat) => j - m) z.1) ⟨b, ⟨by omega, by omega⟩⟩ [0] ?_ ?_
   ·exact leqpA5
   ·rintro ⟨j, ⟨hj1, hj2⟩⟩
    refine Tri.seq ?_
    refine sY [0, 1, 4, 10, 11, 33] (fun P S K => XvBinOV P .lss 3 (.tmp 32) (S.get 10) (S.get 11) (fun r2 _ => K ⟨[(0, S.get 0), (1, S.get 1), (4, S.get 4), (10, S.get 10), (11, S.get 11), (33, r2)], S.hp, S.nx, S.gh⟩)) ?_
    all_goals
    refine Tri.cond rfl (fun h33 => ?_) (fun h33 => ?_)
    ·try (cases h33; done)
     all_goals (try simp only [CQ] at h33)
     all_goals
     refine Tri.skip ?_
     refine Tri.block ?_
     obtain ⟨h, hh⟩ : ∃ h, h = (m + j) / 2 := ⟨_, rfl⟩
     refine sZ [0, 1, 4, 10, 11, 12] (fun P S K => XvBinOV P .add 3 (.tmp 35) (S.get 10) (S.get 11) (fun r2 _ => XvConvert P 3 83 (M S.hp S.nx) r2 (fun r3 ef3 => XvBinOV P .shr 83 (.const (.int .u64 1)) r3 (.atom (.int .u64 1)) (fun r4 _ => XvConvert P 83 3 (M (Eff.hp ef3 S.nx S.hp) (S.nx + ef3.add.length)) r4 (fun r5 ef5 => K ⟨[(0, S.get 0), (1, S.get 1), (4, S.get 4), (10, S.get 10), (11, S.get 11), (12, r5)], (Eff.hp ef5 (S.nx + ef3.add.length) (Eff.hp ef3 S.nx S.hp)), ((S.nx + ef3.add.length) + ef5.add.length), S.gh⟩))))) fun K hK => ?_
     repeat' (first | (refine hK _ ?_; clear hK K) | ((first | refine xG_intro (fun hg => ?_) (fun hg => ?_) | refine fun (hg : (_ : Prop)) => ?_) <;> ((try simp only [BQ] at hg); try (exfalso; omega))) | refine And.intro ?_ ?_ | exact cl | refine one_take ?_ _ | refine one_drop ?_ _ | (refine st ?_; try simp only [List.length_set, uhalf hh (by omega)]))
     all_goals try simp (disch := omega) only [wrap_id, wrap8_id]
     all_goals
     refine sD 11 [0, 1, 4, 10, 11, 12, 50] (fun P GD S K => XvIndexAddr P 22 (S.get 0) (S.get 12) (fun r3 ef3 => XvLoad P 3 (M S.hp S.nx) r3 (fun r4 ef4 => XvIndexAddr P 22 (S.get 0) (S.get 1) (fun r7 ef7 => XvLoad P 3 (M S.hp S.nx) r7 (fun r8 ef8 => XvFnV P (M S.hp S.nx) (S.get 4) [r4, r8] (fun r9 ef9 => XvBinOV P .lss 3 (.const (.int .i64 0)) r9 (.atom (.int .i64 0)) (fun r10 ef10 => (trOk S.nx GD [⟨S.nx, 0, [], [], []⟩, ⟨S.nx, 0, [], [], []⟩, ⟨S.nx, 0, [], [], []⟩, ⟨S.nx, 0, ef3.rd, [], []⟩, ⟨S.nx, 0, ef4.rd, [], []⟩, ⟨S.nx, 0, [], [], []⟩, ⟨S.nx, 0, [], [], []⟩, ⟨S.nx, 0, ef7.rd, [], []⟩, ⟨S.nx, 0, ef8.rd, [], []⟩, (Eff.tr ef9 S.nx), ⟨(S.nx + ef9.add.length), 0, ef10.rd, [], []⟩] = true ∧ K ⟨[(0, S.get 0), (1, S.get 1), (4, S.get 4), (10, S.get 10), (11, S.get 11), (12, S.get 12), (50, r10)], (Eff.hp ef9 S.nx S.hp), (S.nx + ef9.add.length), S.gh⟩)))))))) fun K hK => ?_
     repeat' (first | (refine hK _ ?_; clear hK K) | (refine (?_ : trOk _ _ _ = true); (simp only [reach, List.flatMap_cons, List.flatMap_nil, List.append_nil, List.nil_append, q1]; kernel_rfl)) | refine And.intro ?_ ?_ | exact cl | refine .inl ⟨_, _, hc (li l h) (li l a) (li_mem (by omega)) (li_mem (by omega)), ?_⟩ | refine ⟨_, _, hc (li l h) (li l a) (li_mem (by omega)) (li_mem (by omega)), ?_⟩ | refine .inl ⟨_, _, hc (li l m) (li l h) (li_mem (by omega)) (li_mem (by omega)), ?_⟩ | refine ⟨_, _, hc (li l m) (li l h) (li_mem (by omega)) (li_mem (by omega)), ?_⟩ | refine .inl ⟨_, _, hc (li l q) (li l h) (li_mem (by omega)) (li_mem (by omega)), ?_⟩ | refine ⟨_, _, hc (li l q) (li l h) (li_mem (by omega)) (li_mem (by omega)), ?_⟩ | refine .inr (vProc.row 0 1 (ih a s mid (by omega) (by omega) (by omega) (by omega)) rfl (pureL_encI _) (pureL_encI _) rfl (by simp [sealed, PV.ren, renL, rmap, s1, r1, encI]) rfl (flat_encI _) ?_) | refine .inr (vProc.row 0 1 (ih mid en b (by omega) (by omega) (by omega) (by omega)) rfl (pureL_encI _) (pureL_encI _) rfl (by simp [sealed, PV.ren, renL, rmap, s1, r1, encI]) rfl (flat_encI _) ?_) | simp (maxSteps := 2000000) only [↓SD, push_cast, Nat.reduceAdd, Nat.reduceSub, Nat.reduceMul, Nat.reduceLT, Nat.reduceLeDiff, Nat.reduceEqDiff, Int.reduceToNat, reduceIte, reduceCtorEq, Int.reduceLE, Int.reduceLT, Int.reduceNeg, ints, strs, encI, encS, List.length_set, getD_encI (show h < l.length by omega), getD_encI (show a < l.length by omega), s1, r1, o1, dec_no (hflat a h (by omega) (by omega))])
     all_goals
     refine Tri.cond rfl (fun h50 => ?_) (fun h50 => ?_)
     ·try (cases h50; done)
      all_goals (try simp only [CQ] at h50)
      all_goals
      refine rY [0, 1, 4, 10, 11] (fun P S K => XvBinOV P .add 3 (.const (.int .i64 1)) (S.get 12) (.atom (.int .i64 1)) (fun r1 _ => K ⟨[(0, S.get 0), (1, S.get 1), (4, S.get 4), (10, r1), (11, S.get 11)], S.hp, S.nx, S.gh⟩)) ?_
      all_goals try simp (disch := omega) only [wrap_id, wrap8_id]
      all_goals
      refine ⟨⟨h, by omega, by omega⟩, [0], by dsimp only; omega, ?_⟩
      exact leqpA5
     ·try (cases h50; done)
      all_goals (try simp only [CQ] at h50)
      all_goals
      refine rY [0, 1, 4, 10, 11] (fun P S K => K ⟨[(0, S.get 0), (1, S.get 1), (4, S.get 4), (10, S.get 10), (11, (S.get 12))], S.hp, S.nx, S.gh⟩) ?_
      all_goals
      refine ⟨⟨h, by omega, by omega⟩, [0], by dsimp only; omega, ?_⟩
      exact leqpA5
    ·try (cases h33; done)
     all_goals (try simp only [CQ] at h33)
     all_goals
     refine Tri.exit ?_
     refine Tri.seq ?_
     refine sY [0, 10, 13] (fun P S K => K ⟨[(0, S.get 0), (10, S.get 10), (13, (S.get 1))], S.hp, S.nx, S.gh⟩) ?_
     all_goals
     refine Tri.block ?_
     refine Tri.loop (α := (u : Unit) ×' (True)) (fun z => (fun (u : Unit) => (⟨[(0, .ob 0 1 0 l.length), (10, encI m), (13, encI a)], [(0, some ⟨1, l.map encI⟩)], 1, [.ob 0 1 0 0]⟩ : St)) z.1) (fun z => (fun (u : Unit) => 0) z.1) ⟨(), trivial⟩ [0] ?_ ?_
     ·exact leqpA5
     ·rintro ⟨u, _⟩
      refine Tri.seq ?_
      refine sZ [0, 10, 13, 58] (fun P S K => XvBinOV P .sub 3 (.const (.int .i64 1)) (S.get 10) (.atom (.int .i64 1)) (fun r2 _ => XvBinOV P .lss 3 (.tmp 57) (S.get 13) r2 (fun r3 _ => K ⟨[(0, S.get 0), (10, S.get 10), (13, S.get 13), (58, r3)], S.hp, S.nx, S.gh⟩))) fun K hK => ?_
      repeat' (first | (refine hK _ ?_; clear hK K) | refine And.intro ?_ ?_ | exact cl | (refine st ?_; try simp only [List.length_set, dec_no (show ¬ ((a : Nat) : Int) < (m : Int) - 1 by omega), wrap_id (x := ((m : Int) - 1)) (by omega) (by omega)]))
      all_goals try simp (disch := omega) only [wrap_id, wrap8_id]
      all_goals
      refine Tri.cond rfl (fun h58 => ?_) (fun h58 => ?_)
      ·try (cases h58; done)
       all_goals (try simp only [CQ] at h58)
       all_goals
       refine Tri.skip ?_
       refine Tri.seq ?_
       refine Tri.block ?_
       refine rD 15 [0, 10, 13] (fun P GD S K => XvBinOV P .add 3 (.const (.int .i64 1)) (S.get 13) (.atom (.int .i64 1)) (fun r4 ef4 => XvBinOV P .add 3 (.const (.int .i64 1)) (S.get 13) (.atom (.int .i64 1)) (fun r7 ef7 => XvIndexAddr P 22 (S.get 0) r7 (fun r8 ef8 => XvLoad P 3 (M S.hp S.nx) r8 (fun r9 ef9 => XvIndexAddr P 22 (S.get 0) (S.get 13) (fun r12 ef12 => XvLoad P 3 (M S.hp S.nx) r12 (fun r13 ef13 => XvIndexAddr P 22 (S.get 0) (S.get 13) (fun r14 ef14 => (trOk S.nx GD [⟨S.nx, 0, [], [], []⟩, ⟨S.nx, 0, [], [], []⟩, ⟨S.nx, 0, [], [], []⟩, ⟨S.nx, 0, [], [], []⟩, ⟨S.nx, 0, ef4.rd, [], []⟩, ⟨S.nx, 0, [], [], []⟩, ⟨S.nx, 0, [], [], []⟩, ⟨S.nx, 0, ef7.rd, [], []⟩, ⟨S.nx, 0, ef8.rd, [], []⟩, ⟨S.nx, 0, ef9.rd, [], []⟩, ⟨S.nx, 0, [], [], []⟩, ⟨S.nx, 0, [], [], []⟩, ⟨S.nx, 0, ef12.rd, [], []⟩, ⟨S.nx, 0, ef13.rd, [], []⟩, ⟨S.nx, 0, ef14.rd, [], []⟩] = true ∧ XvStore P 3 (M S.hp S.nx) r14 r9 (fun r15 ef15 => XvIndexAddr P 22 (S.get 0) r4 (fun r16 _ => XvStore P 3 (M (Eff.hp ef15 S.nx S.hp) (S.nx + ef15.add.length)) r16 r13 (fun r17 ef17 => K ⟨[(0, S.get 0), (10, S.get 10), (13, S.get 13)], (Eff.hp ef17 (S.nx + ef15.add.length) (Eff.hp ef15 S.nx S.hp)), ((S.nx + ef15.add.length) + ef17.add.length), S.gh⟩)))))))))))) fun K hK => ?_
       repeat' (first | (refine hK _ ?_; clear hK K) | (refine (?_ : trOk _ _ _ = true); kernel_rfl) | refine And.intro ?_ ?_ | exact cl | (refine st ?_; try simp only [List.length_set]))
       all_goals try simp (disch := omega) only [wrap_id, wrap8_id]
       all_goals
       refine rY [0, 10, 13] (fun P S K => XvBinOV P .add 3 (.const (.int .i64 1)) (S.get 13) (.atom (.int .i64 1)) (fun r1 _ => K ⟨[(0, S.get 0), (10, S.get 10), (13, r1)], S.hp, S.nx, S.gh⟩)) ?_
       all_goals try simp (disch := omega) only [wrap_id, wrap8_id]
       all_goals
       fail -- ROUND 2
      ·try (cases h58; done)
       all_goals (try simp only [CQ] at h58)
       all_goals
       refine Tri.exit ?_
       refine Tri.ret ?_
       show ResP _ _ _ _ _ _
       exact ResP.row rfl rfl (pureL_encI _) rfl rfl
  ·try (cases h28; done)
   all_goals (try simp only [CQ] at h28)
   all_goals
   refine Tri.skip ?_
   refine Tri.seq ?_
   refine sY [0, 1, 2, 3, 4, 80] (fun P S K => XvBinOV P .sub 3 (.tmp 78) (S.get 3) (S.get 2) (fun r2 _ => XvBinOV P .eql 3 (.const (.int .i64 1)) r2 (.atom (.int .i64 1)) (fun r3 _ => K ⟨[(0, S.get 0), (1, S.get 1), (2, S.get 2), (3, S.get 3), (4, S.get 4), (80, r3)], S.hp, S.nx, S.gh⟩))) ?_
   all_goals try simp (disch := omega) only [wrap_id, wrap8_id]
   all_goals
   refine Tri.cond rfl (fun h80 => ?_) (fun h80 => ?_)
   ·try (cases h80; done)
    all_goals (try simp only [CQ] at h80)
    all_goals
    refine sY [0, 2, 4, 14] (fun P S K => K ⟨[(0, S.get 0), (2, S.get 2), (4, S.get 4), (14, (S.get 1))], S.hp, S.nx, S.gh⟩) ?_
    all_goals
    refine sY [0, 2, 4, 14, 15] (fun P S K => K ⟨[(0, S.get 0), (2, S.get 2), (4, S.get 4), (14, S.get 14), (15, (S.get 2))], S.hp, S.nx, S.gh⟩) ?_
    all_goals
    refine Tri.seq ?_
    refine Tri.block ?_
    refine Tri.loop (α := (i : Nat) ×' (a ≤ i ∧ i ≤ m)) (fun z => (fun (i : Nat) => (⟨[(0, .ob 0 1 0 l.length), (2, encI m), (4, .fn f [c1]), (14, encI i), (15, encI m)], [(0, some ⟨1, l.map encI⟩)], 1, [.ob 0 1 0 0]⟩ : St)) z.1) (fun z => (fun (i : Nat) => m - i) z.1) ⟨a, ⟨by omega, by omega⟩⟩ [0] ?_ ?_
    ·exact leqpA5
    ·rintro ⟨i, ⟨hi1, hi2⟩⟩
     refine Tri.seq ?_
     refine sY [0, 2, 4, 14, 15, 85] (fun P S K => XvBinOV P .lss 3 (.tmp 84) (S.get 14) (S.get 15) (fun r2 _ => K ⟨[(0, S.get 0), (2, S.get 2), (4, S.get 4), (14, S.get 14), (15, S.get 15), (85, r2)], S.hp, S.nx, S.gh⟩)) ?_
     all_goals
     refine Tri.cond rfl (fun h85 => ?_) (fun h85 => ?_)
     ·try (cases h85; done)
      all_goals (try simp only [CQ] at h85)
      all_goals
      refine Tri.skip ?_
      refine Tri.block ?_
      obtain ⟨h, hh⟩ : ∃ h, h = (i + m) / 2 := ⟨_, rfl⟩
      refine sZ [0, 2, 4, 14, 15, 16] (fun P S K => XvBinOV P .add 3 (.tmp 87) (S.get 14) (S.get 15) (fun r2 _ => XvConvert P 3 83 (M S.hp S.nx) r2 (fun r3 ef3 => XvBinOV P .shr 83 (.const (.int .u64 1)) r3 (.atom (.int .u64 1)) (fun r4 _ => XvConvert P 83 3 (M (Eff.hp ef3 S.nx S.hp) (S.nx + ef3.add.length)) r4 (fun r5 ef5 => K ⟨[(0, S.get 0), (2, S.get 2), (4, S.get 4), (14, S.get 14), (15, S.get 15), (16, r5)], (Eff.hp ef5 (S.nx + ef3.add.length) (Eff.hp ef3 S.nx S.hp)), ((S.nx + ef3.add.length) + ef5.add.length), S.gh⟩))))) fun K hK => ?_
      repeat' (first | (refine hK _ ?_; clear hK K) | ((first | refine xG_intro (fun hg => ?_) (fun hg => ?_) | refine fun (hg : (_ : Prop)) => ?_) <;> ((try simp only [BQ] at hg); try (exfalso; omega))) | refine And.intro ?_ ?_ | exact cl | refine one_take ?_ _ | refine one_drop ?_ _ | (refine st ?_; try simp only [List.length_set, uhalf hh (by omega)]))
      all_goals try simp (disch := omega) only [wrap_id, wrap8_id]
      all_goals
      refine sD 12 [0, 2, 4, 14, 15, 16, 103] (fun P GD S K => XvIndexAddr P 22 (S.get 0) (S.get 2) (fun r3 ef3 => XvLoad P 3 (M S.hp S.nx) r3 (fun r4 ef4 => XvIndexAddr P 22 (S.get 0) (S.get 16) (fun r7 ef7 => XvLoad P 3 (M S.hp S.nx) r7 (fun r8 ef8 => XvFnV P (M S.hp S.nx) (S.get 4) [r4, r8] (fun r9 ef9 => XvBinOV P .lss 3 (.const (.int .i64 0)) r9 (.atom (.int .i64 0)) (fun r10 ef10 => XvUn .not r10 (fun r11 ef11 => (trOk S.nx GD [⟨S.nx, 0, [], [], []⟩, ⟨S.nx, 0, [], [], []⟩, ⟨S.nx, 0, [], [], []⟩, ⟨S.nx, 0, ef3.rd, [], []⟩, ⟨S.nx, 0, ef4.rd, [], []⟩, ⟨S.nx, 0, [], [], []⟩, ⟨S.nx, 0, [], [], []⟩, ⟨S.nx, 0, ef7.rd, [], []⟩, ⟨S.nx, 0, ef8.rd, [], []⟩, (Eff.tr ef9 S.nx), ⟨(S.nx + ef9.add.length), 0, ef10.rd, [], []⟩, ⟨(S.nx + ef9.add.length), 0, ef11.rd, [], []⟩] = true ∧ K ⟨[(0, S.get 0), (2, S.get 2), (4, S.get 4), (14, S.get 14), (15, S.get 15), (16, S.get 16), (103, r11)], (Eff.hp ef9 S.nx S.hp), (S.nx + ef9.add.length), S.gh⟩))))))))) fun K hK => ?_
      repeat' (first | (refine hK _ ?_; clear hK K) | (refine (?_ : trOk _ _ _ = true); (simp only [reach, List.flatMap_cons, List.flatMap_nil, List.append_nil, List.nil_append, q1]; kernel_rfl)) | refine And.intro ?_ ?_ | exact cl | refine .inl ⟨_, _, hc (li l h) (li l a) (li_mem (by omega)) (li_mem (by omega)), ?_⟩ | refine ⟨_, _, hc (li l h) (li l a) (li_mem (by omega)) (li_mem (by omega)), ?_⟩ | refine .inl ⟨_, _, hc (li l m) (li l h) (li_mem (by omega)) (li_mem (by omega)), ?_⟩ | refine ⟨_, _, hc (li l m) (li l h) (li_mem (by omega)) (li_mem (by omega)), ?_⟩ | refine .inl ⟨_, _, hc (li l q) (li l h) (li_mem (by omega)) (li_mem (by omega)), ?_⟩ | refine ⟨_, _, hc (li l q) (li l h) (li_mem (by omega)) (li_mem (by omega)), ?_⟩ | refine .inr (vProc.row 0 1 (ih a s mid (by omega) (by omega) (by omega) (by omega)) rfl (pureL_encI _) (pureL_encI _) rfl (by simp [sealed, PV.ren, renL, rmap, s1, r1, encI]) rfl (flat_encI _) ?_) | refine .inr (vProc.row 0 1 (ih mid en b (by omega) (by omega) (by omega) (by omega)) rfl (pureL_encI _) (pureL_encI _) rfl (by simp [sealed, PV.ren, renL, rmap, s1, r1, encI]) rfl (flat_encI _) ?_) | simp (maxSteps := 2000000) only [↓SD, push_cast, Nat.reduceAdd, Nat.reduceSub, Nat.reduceMul, Nat.reduceLT, Nat.reduceLeDiff, Nat.reduceEqDiff, Int.reduceToNat, reduceIte, reduceCtorEq, Int.reduceLE, Int.reduceLT, Int.reduceNeg, ints, strs, encI, encS, List.length_set, getD_encI (show h < l.length by omega), getD_encI (show m < l.length by omega), s1, r1, o1, dec_no (hflat h m (by omega) (by omega))])
      all_goals try simp (disch := omega) only [wrap_id, wrap8_id]
      all_goals
      refine Tri.cond rfl (fun h103 => ?_) (fun h103 => ?_)
      ·try (cases h103; done)
       all_goals (try simp only [CQ] at h103)
       all_goals
       refine rY [0, 2, 4, 14, 15] (fun P S K => XvBinOV P .add 3 (.const (.int .i64 1)) (S.get 16) (.atom (.int .i64 1)) (fun r1 _ => K ⟨[(0, S.get 0), (2, S.get 2), (4, S.get 4), (14, r1), (15, S.get 15)], S.hp, S.nx, S.gh⟩)) ?_
       all_goals try simp (disch := omega) only [wrap_id, wrap8_id]
       all_goals
       refine ⟨⟨h + 1, by omega, by omega⟩, [0], by dsimp only; omega, ?_⟩
       exact leqpA5
      ·try (cases h103; done)
       all_goals (try simp only [CQ] at h103)
       all_goals
       refine rY [0, 2, 4, 14, 15] (fun P S K => K ⟨[(0, S.get 0), (2, S.get 2), (4, S.get 4), (14, S.get 14), (15, (S.get 16))], S.hp, S.nx, S.gh⟩) ?_
       all_goals
       refine ⟨⟨h + 1, by omega, by omega⟩, [0], by dsimp only; omega, ?_⟩
       exact leqpA5
     ·try (cases h85; done)
      all_goals (try simp only [CQ] at h85)
      all_goals
      refine Tri.exit ?_
      refine Tri.seq ?_
      obtain rfl : i = m := by omega
      refine sY [0, 14, 17] (fun P S K => K ⟨[(0, S.get 0), (14, S.get 14), (17, (S.get 2))], S.hp, S.nx, S.gh⟩) ?_
      all_goals
      refine Tri.block ?_
      refine Tri.loop (α := (u : Unit) ×' (True)) (fun z => (fun (u : Unit) => (⟨[(0, .ob 0 1 0 l.length), (14, encI i), (17, encI i)], [(0, some ⟨1, l.map encI⟩)], 1, [.ob 0 1 0 0]⟩ : St)) z.1) (fun z => (fun (u : Unit) => 0) z.1) ⟨(), trivial⟩ [0] ?_ ?_
      ·exact leqpA5
      ·rintro ⟨u, _⟩
       refine Tri.seq ?_
       refine sZ [0, 14, 17, 110] (fun P S K => XvBinOV P .gtr 3 (.tmp 109) (S.get 17) (S.get 14) (fun r2 _ => K ⟨[(0, S.get 0), (14, S.get 14), (17, S.get 17), (110, r2)], S.hp, S.nx, S.gh⟩)) fun K hK => ?_
       repeat' (first | (refine hK _ ?_; clear hK K) | refine And.intro ?_ ?_ | exact cl | (refine st ?_; try simp only [List.length_set, dec_no (show ¬ ((i : Nat) : Int) < (i : Int) by omega)]))
       all_goals
       refine Tri.cond rfl (fun h110 => ?_) (fun h110 => ?_)
       ·try (cases h110; done)
        all_goals (try simp only [CQ] at h110)
        all_goals
        refine Tri.skip ?_
        refine Tri.seq ?_
        refine Tri.block ?_
        refine rD 15 [0, 14, 17] (fun P GD S K => XvBinOV P .sub 3 (.const (.int .i64 1)) (S.get 17) (.atom (.int .i64 1)) (fun r4 ef4 => XvBinOV P .sub 3 (.const (.int .i64 1)) (S.get 17) (.atom (.int .i64 1)) (fun r7 ef7 => XvIndexAddr P 22 (S.get 0) r7 (fun r8 ef8 => XvLoad P 3 (M S.hp S.nx) r8 (fun r9 ef9 => XvIndexAddr P 22 (S.get 0) (S.get 17) (fun r12 ef12 => XvLoad P 3 (M S.hp S.nx) r12 (fun r13 ef13 => XvIndexAddr P 22 (S.get 0) (S.get 17) (fun r14 ef14 => (trOk S.nx GD [⟨S.nx, 0, [], [], []⟩, ⟨S.nx, 0, [], [], []⟩, ⟨S.nx, 0, [], [], []⟩, ⟨S.nx, 0, [], [], []⟩, ⟨S.nx, 0, ef4.rd, [], []⟩, ⟨S.nx, 0, [], [], []⟩, ⟨S.nx, 0, [], [], []⟩, ⟨S.nx, 0, ef7.rd, [], []⟩, ⟨S.nx, 0, ef8.rd, [], []⟩, ⟨S.nx, 0, ef9.rd, [], []⟩, ⟨S.nx, 0, [], [], []⟩, ⟨S.nx, 0, [], [], []⟩, ⟨S.nx, 0, ef12.rd, [], []⟩, ⟨S.nx, 0, ef13.rd, [], []⟩, ⟨S.nx, 0, ef14.rd, [], []⟩] = true ∧ XvStore P 3 (M S.hp S.nx) r14 r9 (fun r15 ef15 => XvIndexAddr P 22 (S.get 0) r4 (fun r16 _ => XvStore P 3 (M (Eff.hp ef15 S.nx S.hp) (S.nx + ef15.add.length)) r16 r13 (fun r17 ef17 => K ⟨[(0, S.get 0), (14, S.get 14), (17, S.get 17)], (Eff.hp ef17 (S.nx + ef15.add.length) (Eff.hp ef15 S.nx S.hp)), ((S.nx + ef15.add.length) + ef17.add.length), S.gh⟩)))))))))))) fun K hK => ?_
        repeat' (first | (refine hK _ ?_; clear hK K) | (refine (?_ : trOk _ _ _ = true); kernel_rfl) | refine And.intro ?_ ?_ | exact cl | (refine st ?_; try simp only [List.length_set]))
        all_goals try simp (disch := omega) only [wrap_id, wrap8_id]
        all_goals
        refine rY [0, 14, 17] (fun P S K => XvBinOV P .sub 3 (.const (.int .i64 1)) (S.get 17) (.atom (.int .i64 1)) (fun r1 _ => K ⟨[(0, S.get 0), (14, S.get 14), (17, r1)], S.hp, S.nx, S.gh⟩)) ?_
        all_goals try simp (disch := omega) only [wrap_id, wrap8_id]
        all_goals
        fail -- ROUND 6
       ·try (cases h110; done)
        all_goals (try simp only [CQ] at h110)
        all_goals
        refine Tri.exit ?_
        refine Tri.ret ?_
        show ResP _ _ _ _ _ _
        exact ResP.row rfl rfl (pureL_encI _) rfl rfl
   ·try (cases h80; done)
    all_goals (try simp only [CQ] at h80)
    all_goals
    refine Tri.skip ?_
    refine sZ [0, 1, 2, 3, 4, 18] (fun P S K => XvBinOV P .add 3 (.tmp 130) (S.get 1) (S.get 3) (fun r2 _ => XvConvert P 3 83 (M S.hp S.nx) r2 (fun r3 ef3 => XvBinOV P .shr 83 (.const (.int .u64 1)) r3 (.atom (.int .u64 1)) (fun r4 _ => XvConvert P 83 3 (M (Eff.hp ef3 S.nx S.hp) (S.nx + ef3.add.length)) r4 (fun r5 ef5 => K ⟨[(0, S.get 0), (1, S.get 1), (2, S.get 2), (3, S.get 3), (4, S.get 4), (18, r5)], (Eff.hp ef5 (S.nx + ef3.add.length) (Eff.hp ef3 S.nx S.hp)), ((S.nx + ef3.add.length) + ef5.add.length), S.gh⟩))))) fun K hK => ?_
    repeat' (first | (refine hK _ ?_; clear hK K) | ((first | refine xG_intro (fun hg => ?_) (fun hg => ?_) | refine fun (hg : (_ : Prop)) => ?_) <;> ((try simp only [BQ] at hg); try (exfalso; omega))) | refine And.intro ?_ ?_ | exact cl | refine one_take ?_ _ | refine one_drop ?_ _ | (refine st ?_; try simp only [List.length_set, uhalf hmid (by omega)]))
    all_goals try simp (disch := omega) only [wrap_id, wrap8_id]
    all_goals
    obtain ⟨n2, hn2⟩ : ∃ n2, n2 = mid + m := ⟨_, rfl⟩
    refine sZ [0, 1, 2, 3, 4, 18, 19] (fun P S K => XvBinOV P .add 3 (.tmp 136) (S.get 18) (S.get 2) (fun r2 _ => K ⟨[(0, S.get 0), (1, S.get 1), (2, S.get 2), (3, S.get 3), (4, S.get 4), (18, S.get 18), (19, r2)], S.hp, S.nx, S.gh⟩)) fun K hK => ?_
    repeat' (first | (refine hK _ ?_; clear hK K) | refine And.intro ?_ ?_ | exact cl | (refine st ?_; try simp only [List.length_set, (show IntKind.i64.wrap ((mid : Int) + m) = (n2 : Int) by rw [wrap_id (by omega) (by omega)]; omega)]))
    all_goals try simp (disch := omega) only [wrap_id, wrap8_id]
    all_goals
    refine sY [0, 1, 2, 3, 4, 18, 19] (fun P S K => K ⟨[(0, S.get 0), (1, S.get 1), (2, S.get 2), (3, S.get 3), (4, S.get 4), (18, S.get 18), (19, S.get 19)], S.hp, S.nx, S.gh⟩) ?_
    all_goals
    refine Tri.cut (α := (s : Nat) ×' (r : Nat) ×' (SymI a m b mid s r)) (fun ⟨s0, r, hsy⟩ => ⟨[(0, .ob 0 1 0 l.length), (1, encI a), (2, encI m), (3, encI b), (4, .fn f [c1]), (18, encI mid), (19, encI n2), (20, encI s0), (21, encI r)], [(0, some ⟨1, l.map encI⟩)], 1, [.ob 0 1 0 0]⟩) ?_ ?_
    ·skip
     refine sY [0, 1, 2, 3, 4, 18, 19, 140] (fun P S K => XvBinOV P .gtr 3 (.tmp 139) (S.get 2) (S.get 18) (fun r2 _ => K ⟨[(0, S.get 0), (1, S.get 1), (2, S.get 2), (3, S.get 3), (4, S.get 4), (18, S.get 18), (19, S.get 19), (140, r2)], S.hp, S.nx, S.gh⟩)) ?_
     all_goals
     refine Tri.cond rfl (fun h140 => ?_) (fun h140 => ?_)
     ·try (cases h140; done)
      all_goals (try simp only [CQ] at h140)
      all_goals
      refine sZ [0, 1, 2, 3, 4, 18, 19, 20] (fun P S K => XvBinOV P .sub 3 (.tmp 142) (S.get 19) (S.get 3) (fun r2 _ => K ⟨[(0, S.get 0), (1, S.get 1), (2, S.get 2), (3, S.get 3), (4, S.get 4), (18, S.get 18), (19, S.get 19), (20, r2)], S.hp, S.nx, S.gh⟩)) fun K hK => ?_
      repeat' (first | (refine hK _ ?_; clear hK K) | refine And.intro ?_ ?_ | exact cl | (refine st ?_; try simp only [List.length_set, (show IntKind.i64.wrap ((n2 : Int) - b) = ((mid + m - b : Nat) : Int) by rw [wrap_id (by omega) (by omega)]; omega)]))
      all_goals try simp (disch := omega) only [wrap_id, wrap8_id]
      all_goals
      refine rY [0, 1, 2, 3, 4, 18, 19, 20, 21] (fun P S K => K ⟨[(0, S.get 0), (1, S.get 1), (2, S.get 2), (3, S.get 3), (4, S.get 4), (18, S.get 18), (19, S.get 19), (20, S.get 20), (21, (S.get 18))], S.hp, S.nx, S.gh⟩) ?_
      all_goals
      refine ⟨(by first | exact ⟨mid + m - b, mid, .inl ⟨by omega, rfl, rfl⟩⟩ | exact ⟨a, m, .inr ⟨by omega, rfl, rfl⟩⟩), [0], ?_⟩
      exact leqpA5
     ·try (cases h140; done)
      all_goals (try simp only [CQ] at h140)
      all_goals
      refine sY [0, 1, 2, 3, 4, 18, 19, 20] (fun P S K => K ⟨[(0, S.get 0), (1, S.get 1), (2, S.get 2), (3, S.get 3), (4, S.get 4), (18, S.get 18), (19, S.get 19), (20, (S.get 1))], S.hp, S.nx, S.gh⟩) ?_
      all_goals
      refine rY [0, 1, 2, 3, 4, 18, 19, 20, 21] (fun P S K => K ⟨[(0, S.get 0), (1, S.get 1), (2, S.get 2), (3, S.get 3), (4, S.get 4), (18, S.get 18), (19, S.get 19), (20, S.get 20), (21, (S.get 2))], S.hp, S.nx, S.gh⟩) ?_
      all_goals
      refine ⟨(by first | exact ⟨mid + m - b, mid, .inl ⟨by omega, rfl, rfl⟩⟩ | exact ⟨a, m, .inr ⟨by omega, rfl, rfl⟩⟩), [0], ?_⟩
      exact leqpA5
    ·rintro ⟨s0, r, hsy⟩
     obtain ⟨p, hp⟩ : ∃ p, p = n2 - 1 := ⟨_, rfl⟩
     have hs0 : s0 ≤ r ∧ r ≤ mid ∧ r ≤ m ∧ mid < b ∧ a + 2 ≤ mid ∧ mid + m - r ≤ b ∧ mid + m - s0 ≤ b ∧ m ≤ mid + m - r := by rcases hsy with ⟨g1, g2, g3⟩ | ⟨g1, g2, g3⟩ <;> omega
     refine sZ [0, 1, 2, 3, 4, 18, 19, 20, 21, 22] (fun P S K => XvBinOV P .sub 3 (.const (.int .i64 1)) (S.get 19) (.atom (.int .i64 1)) (fun r1 _ => K ⟨[(0, S.get 0), (1, S.get 1), (2, S.get 2), (3, S.get 3), (4, S.get 4), (18, S.get 18), (19, S.get 19), (20, S.get 20), (21, S.get 21), (22, r1)], S.hp, S.nx, S.gh⟩)) fun K hK => ?_
     repeat' (first | (refine hK _ ?_; clear hK K) | refine And.intro ?_ ?_ | exact cl | (refine st ?_; try simp only [List.length_set, (show IntKind.i64.wrap ((n2 : Int) - 1) = (p : Int) by rw [wrap_id (by omega) (by omega)]; omega)]))
     all_goals try simp (disch := omega) only [wrap_id, wrap8_id]
     all_goals
     refine Tri.seq ?_
     refine Tri.block ?_
     refine Tri.loop (α := (s : Nat) ×' (s0 ≤ s ∧ s ≤ r)) (fun z => (fun (s : Nat) => (⟨[(0, .ob 0 1 0 l.length), (1, encI a), (2, encI m), (3, encI b), (4, .fn f [c1]), (18, encI mid), (19, encI n2), (20, encI s), (21, encI r), (22, encI p)], [(0, some ⟨1, l.map encI⟩)], 1, [.ob 0 1 0 0]⟩ : St)) z.1) (fun z => (fun (s : Nat) => r - s) z.1) ⟨s0, ⟨by omega, by omega⟩⟩ [0] ?_ ?_
     ·exact leqpA5
     ·rintro ⟨s, ⟨hs1, hs2⟩⟩
      refine Tri.seq ?_
      refine sY [0, 1, 2, 3, 4, 18, 19, 20, 21, 22, 151] (fun P S K => XvBinOV P .lss 3 (.tmp 150) (S.get 20) (S.get 21) (fun r2 _ => K ⟨[(0, S.get 0), (1, S.get 1), (2, S.get 2), (3, S.get 3), (4, S.get 4), (18, S.get 18), (19, S.get 19), (20, S.get 20), (21, S.get 21), (22, S.get 22), (151, r2)], S.hp, S.nx, S.gh⟩)) ?_
      all_goals
      refine Tri.cond rfl (fun h151 => ?_) (fun h151 => ?_)
      ·try (cases h151; done)
       all_goals (try simp only [CQ] at h151)
       all_goals
       refine Tri.skip ?_
       refine Tri.block ?_
       obtain ⟨h, hh⟩ : ∃ h, h = (s + r) / 2 := ⟨_, rfl⟩
       obtain ⟨q, hq⟩ : ∃ q, q = p - h := ⟨_, rfl⟩
       refine sZ [0, 1, 2, 3, 4, 18, 19, 20, 21, 22, 23] (fun P S K => XvBinOV P .add 3 (.tmp 153) (S.get 20) (S.get 21) (fun r2 _ => XvConvert P 3 83 (M S.hp S.nx) r2 (fun r3 ef3 => XvBinOV P .shr 83 (.const (.int .u64 1)) r3 (.atom (.int .u64 1)) (fun r4 _ => XvConvert P 83 3 (M (Eff.hp ef3 S.nx S.hp) (S.nx + ef3.add.length)) r4 (fun r5 ef5 => K ⟨[(0, S.get 0), (1, S.get 1), (2, S.get 2), (3, S.get 3), (4, S.get 4), (18, S.get 18), (19, S.get 19), (20, S.get 20), (21, S.get 21), (22, S.get 22), (23, r5)], (Eff.hp ef5 (S.nx + ef3.add.length) (Eff.hp ef3 S.nx S.hp)), ((S.nx + ef3.add.length) + ef5.add.length), S.gh⟩))))) fun K hK => ?_
       repeat' (first | (refine hK _ ?_; clear hK K) | ((first | refine xG_intro (fun hg => ?_) (fun hg => ?_) | refine fun (hg : (_ : Prop)) => ?_) <;> ((try simp only [BQ] at hg); try (exfalso; omega))) | refine And.intro ?_ ?_ | exact cl | refine one_take ?_ _ | refine one_drop ?_ _ | (refine st ?_; try simp only [List.length_set, uhalf hh (by omega)]))
       all_goals try simp (disch := omega) only [wrap_id, wrap8_id]
       all_goals
       refine sD 14 [0, 1, 2, 3, 4, 18, 19, 20, 21, 22, 23, 171] (fun P GD S K => XvBinOV P .sub 3 (.tmp 161) (S.get 22) (S.get 23) (fun r4 ef4 => XvIndexAddr P 22 (S.get 0) r4 (fun r5 ef5 => XvLoad P 3 (M S.hp S.nx) r5 (fun r6 ef6 => XvIndexAddr P 22 (S.get 0) (S.get 23) (fun r9 ef9 => XvLoad P 3 (M S.hp S.nx) r9 (fun r10 ef10 => XvFnV P (M S.hp S.nx) (S.get 4) [r6, r10] (fun r11 ef11 => XvBinOV P .lss 3 (.const (.int .i64 0)) r11 (.atom (.int .i64 0)) (fun r12 ef12 => XvUn .not r12 (fun r13 ef13 => (trOk S.nx GD [⟨S.nx, 0, [], [], []⟩, ⟨S.nx, 0, [], [], []⟩, ⟨S.nx, 0, [], [], []⟩, ⟨S.nx, 0, [], [], []⟩, ⟨S.nx, 0, ef4.rd, [], []⟩, ⟨S.nx, 0, ef5.rd, [], []⟩, ⟨S.nx, 0, ef6.rd, [], []⟩, ⟨S.nx, 0, [], [], []⟩, ⟨S.nx, 0, [], [], []⟩, ⟨S.nx, 0, ef9.rd, [], []⟩, ⟨S.nx, 0, ef10.rd, [], []⟩, (Eff.tr ef11 S.nx), ⟨(S.nx + ef11.add.length), 0, ef12.rd, [], []⟩, ⟨(S.nx + ef11.add.length), 0, ef13.rd, [], []⟩] = true ∧ K ⟨[(0, S.get 0), (1, S.get 1), (2, S.get 2), (3, S.get 3), (4, S.get 4), (18, S.get 18), (19, S.get 19), (20, S.get 20), (21, S.get 21), (22, S.get 22), (23, S.get 23), (171, r13)], (Eff.hp ef11 S.nx S.hp), (S.nx + ef11.add.length), S.gh⟩)))))))))) fun K hK => ?_
       repeat' (first | (refine hK _ ?_; clear hK K) | (refine (?_ : trOk _ _ _ = true); (simp only [reach, List.flatMap_cons, List.flatMap_nil, List.append_nil, List.nil_append, q1]; kernel_rfl)) | refine And.intro ?_ ?_ | exact cl | refine .inl ⟨_, _, hc (li l h) (li l a) (li_mem (by omega)) (li_mem (by omega)), ?_⟩ | refine ⟨_, _, hc (li l h) (li l a) (li_mem (by omega)) (li_mem (by omega)), ?_⟩ | refine .inl ⟨_, _, hc (li l m) (li l h) (li_mem (by omega)) (li_mem (by omega)), ?_⟩ | refine ⟨_, _, hc (li l m) (li l h) (li_mem (by omega)) (li_mem (by omega)), ?_⟩ | refine .inl ⟨_, _, hc (li l q) (li l h) (li_mem (by omega)) (li_mem (by omega)), ?_⟩ | refine ⟨_, _, hc (li l q) (li l h) (li_mem (by omega)) (li_mem (by omega)), ?_⟩ | refine .inr (vProc.row 0 1 (ih a s mid (by omega) (by omega) (by omega) (by omega)) rfl (pureL_encI _) (pureL_encI _) rfl (by simp [sealed, PV.ren, renL, rmap, s1, r1, encI]) rfl (flat_encI _) ?_) | refine .inr (vProc.row 0 1 (ih mid en b (by omega) (by omega) (by omega) (by omega)) rfl (pureL_encI _) (pureL_encI _) rfl (by simp [sealed, PV.ren, renL, rmap, s1, r1, encI]) rfl (flat_encI _) ?_) | simp (maxSteps := 2000000) only [↓SD, push_cast, Nat.reduceAdd, Nat.reduceSub, Nat.reduceMul, Nat.reduceLT, Nat.reduceLeDiff, Nat.reduceEqDiff, Int.reduceToNat, reduceIte, reduceCtorEq, Int.reduceLE, Int.reduceLT, Int.reduceNeg, ints, strs, encI, encS, List.length_set, getD_encI (show h < l.length by omega), getD_encI (show q < l.length by omega), (show IntKind.i64.wrap ((p : Int) - (h : Int)) = (q : Int) by rw [wrap_id (by omega) (by omega)]; omega), s1, r1, o1, dec_no (hflat h q (by omega) (by omega))])
       all_goals try simp (disch := omega) only [wrap_id, wrap8_id]
       all_goals
       refine Tri.cond rfl (fun h171 => ?_) (fun h171 => ?_)
       ·try (cases h171; done)
        all_goals (try simp only [CQ] at h171)
        all_goals
        refine rY [0, 1, 2, 3, 4, 18, 19, 20, 21, 22] (fun P S K => XvBinOV P .add 3 (.const (.int .i64 1)) (S.get 23) (.atom (.int .i64 1)) (fun r1 _ => K ⟨[(0, S.get 0), (1, S.get 1), (2, S.get 2), (3, S.get 3), (4, S.get 4), (18, S.get 18), (19, S.get 19), (20, r1), (21, S.get 21), (22, S.get 22)], S.hp, S.nx, S.gh⟩)) ?_
        all_goals try simp (disch := omega) only [wrap_id, wrap8_id]
        all_goals
        refine ⟨⟨h + 1, by omega, by omega⟩, [0], by dsimp only; omega, ?_⟩
        exact leqpA5
       ·try (cases h171; done)
        all_goals (try simp only [CQ] at h171)
        all_goals
        refine rY [0, 1, 2, 3, 4, 18, 19, 20, 21, 22] (fun P S K => K ⟨[(0, S.get 0), (1, S.get 1), (2, S.get 2), (3, S.get 3), (4, S.get 4), (18, S.get 18), (19, S.get 19), (20, S.get 20), (21, (S.get 23)), (22, S.get 22)], S.hp, S.nx, S.gh⟩) ?_
        all_goals
        refine ⟨⟨h + 1, by omega, by omega⟩, [0], by dsimp only; omega, ?_⟩
        exact leqpA5
      ·try (cases h151; done)
       all_goals (try simp only [CQ] at h151)
       all_goals
       refine Tri.exit ?_
       obtain rfl : s = r := by omega
       obtain ⟨en, hen⟩ : ∃ en, en = n2 - s := ⟨_, rfl⟩
       refine sZ [0, 1, 2, 3, 4, 18, 20, 24] (fun P S K => XvBinOV P .sub 3 (.tmp 176) (S.get 19) (S.get 20) (fun r2 _ => K ⟨[(0, S.get 0), (1, S.get 1), (2, S.get 2), (3, S.get 3), (4, S.get 4), (18, S.get 18), (20, S.get 20), (24, r2)], S.hp, S.nx, S.gh⟩)) fun K hK => ?_
       repeat' (first | (refine hK _ ?_; clear hK K) | refine And.intro ?_ ?_ | exact cl | (refine st ?_; try simp only [List.length_set, (show IntKind.i64.wrap ((n2 : Int) - (s : Int)) = (en : Int) by rw [wrap_id (by omega) (by omega)]; omega)]))
       all_goals try simp (disch := omega) only [wrap_id, wrap8_id]
       all_goals
       refine Tri.seq ?_
       rcases hsy with ⟨g1, g2, g3⟩ | ⟨g1, g2, g3⟩
       all_goals
       refine sZ [0, 1, 2, 3, 4, 18, 20, 24, 185] (fun P S K => XvBinOV P .lss 3 (.tmp 179) (S.get 20) (S.get 2) (fun r2 _ => Xgq r2 true (fun k => k (S.get 2)) (fun g4 r4 => Xgq g4 true (fun k => k (S.get 24)) (fun g5 r5 => Xgq g5 true (fun k => XvBinOV P .lss 3 (.tmp 183) r4 r5 (fun r6 _ => k r6)) (fun g6 r6 => XvPick g6 r6 (.atom (.bool false)) (fun r7 _ => K ⟨[(0, S.get 0), (1, S.get 1), (2, S.get 2), (3, S.get 3), (4, S.get 4), (18, S.get 18), (20, S.get 20), (24, S.get 24), (185, r7)], S.hp, S.nx, S.gh⟩)))))) fun K hK => ?_
       repeat' (first | (refine hK _ ?_; clear hK K) | ((first | refine xG_intro (fun hg => ?_) (fun hg => ?_) | refine fun (hg : (_ : Prop)) => ?_) <;> ((try simp only [BQ] at hg); try (exfalso; omega))) | refine And.intro ?_ ?_ | exact cl | refine one_take ?_ _ | refine one_drop ?_ _ | (refine st ?_; try simp only [List.length_set]))
       all_goals
       refine Tri.cond rfl (fun h185 => ?_) (fun h185 => ?_)
       ·try (cases h185; done)
        all_goals (try simp only [CQ] at h185)
        all_goals
        refine rZ [0, 1, 3, 4, 18, 20, 24] (fun P S K => XvFnIV P (M S.hp S.nx) (.fn 96 []) [(S.get 0), (S.get 20), (S.get 2), (S.get 24), (S.get 4)] (fun r5 ef5 => K ⟨[(0, S.get 0), (1, S.get 1), (3, S.get 3), (4, S.get 4), (18, S.get 18), (20, S.get 20), (24, S.get 24)], (Eff.hp ef5 S.nx S.hp), (S.nx + ef5.add.length), S.gh⟩)) fun K hK => ?_
        repeat' (first | (refine hK _ ?_; clear hK K) | refine And.intro ?_ ?_ | exact cl | refine .inl ⟨_, _, hc (li l h) (li l a) (li_mem (by omega)) (li_mem (by omega)), ?_⟩ | refine .inl ⟨_, _, hc (li l m) (li l h) (li_mem (by omega)) (li_mem (by omega)), ?_⟩ | refine .inl ⟨_, _, hc (li l q) (li l h) (li_mem (by omega)) (li_mem (by omega)), ?_⟩ | refine .inr (vProc.row 0 1 (ih a s mid (by omega) (by omega) (by omega) (by omega)) rfl (pureL_encI _) (pureL_encI _) rfl (by simp [sealed, PV.ren, renL, rmap, s1, r1, encI]) rfl (flat_encI _) ?_) | refine .inr (vProc.row 0 1 (ih mid en b (by omega) (by omega) (by omega) (by omega)) rfl (pureL_encI _) (pureL_encI _) rfl (by simp [sealed, PV.ren, renL, rmap, s1, r1, encI]) rfl (flat_encI _) ?_) | (refine st ?_; try simp only [List.length_set]))
        all_goals
        refine Tri.seq ?_
        refine sZ [0, 1, 3, 4, 18, 20, 24, 199] (fun P S K => XvBinOV P .lss 3 (.tmp 193) (S.get 1) (S.get 20) (fun r2 _ => Xgq r2 true (fun k => k (S.get 20)) (fun g4 r4 => Xgq g4 true (fun k => k (S.get 18)) (fun g5 r5 => Xgq g5 true (fun k => XvBinOV P .lss 3 (.tmp 197) r4 r5 (fun r6 _ => k r6)) (fun g6 r6 => XvPick g6 r6 (.atom (.bool false)) (fun r7 _ => K ⟨[(0, S.get 0), (1, S.get 1), (3, S.get 3), (4, S.get 4), (18, S.get 18), (20, S.get 20), (24, S.get 24), (199, r7)], S.hp, S.nx, S.gh⟩)))))) fun K hK => ?_
        repeat' (first | (refine hK _ ?_; clear hK K) | ((first | refine xG_intro (fun hg => ?_) (fun hg => ?_) | refine fun (hg : (_ : Prop)) => ?_) <;> ((try simp only [BQ] at hg); try (exfalso; omega))) | refine And.intro ?_ ?_ | exact cl | refine one_take ?_ _ | refine one_drop ?_ _ | (refine st ?_; try simp only [List.length_set]))
        all_goals
        refine Tri.cond rfl (fun h199 => ?_) (fun h199 => ?_)
        ·try (cases h199; done)
         all_goals (try simp only [CQ] at h199)
         all_goals
         refine rZ [0, 3, 4, 18, 24] (fun P S K => XvFnIV P (M S.hp S.nx) (.fn 85 []) [(S.get 0), (S.get 1), (S.get 20), (S.get 18), (S.get 4)] (fun r5 ef5 => K ⟨[(0, S.get 0), (3, S.get 3), (4, S.get 4), (18, S.get 18), (24, S.get 24)], (Eff.hp ef5 S.nx S.hp), (S.nx + ef5.add.length), S.gh⟩)) fun K hK => ?_
         repeat' (first | (refine hK _ ?_; clear hK K) | refine And.intro ?_ ?_ | exact cl | refine .inl ⟨_, _, hc (li l h) (li l a) (li_mem (by omega)) (li_mem (by omega)), ?_⟩ | refine .inl ⟨_, _, hc (li l m) (li l h) (li_mem (by omega)) (li_mem (by omega)), ?_⟩ | refine .inl ⟨_, _, hc (li l q) (li l h) (li_mem (by omega)) (li_mem (by omega)), ?_⟩ | refine .inr (vProc.row 0 1 (ih a s mid (by omega) (by omega) (by omega) (by omega)) rfl (pureL_encI _) (pureL_encI _) rfl (by simp [sealed, PV.ren, renL, rmap, s1, r1, encI]) rfl (flat_encI _) ?_) | refine .inr (vProc.row 0 1 (ih mid en b (by omega) (by omega) (by omega) (by omega)) rfl (pureL_encI _) (pureL_encI _) rfl (by simp [sealed, PV.ren, renL, rmap, s1, r1, encI]) rfl (flat_encI _) ?_) | (refine st ?_; try simp only [List.length_set]))
         all_goals
         refine sZ [0, 3, 4, 18, 24, 213] (fun P S K => XvBinOV P .lss 3 (.tmp 207) (S.get 18) (S.get 24) (fun r2 _ => Xgq r2 true (fun k => k (S.get 24)) (fun g4 r4 => Xgq g4 true (fun k => k (S.get 3)) (fun g5 r5 => Xgq g5 true (fun k => XvBinOV P .lss 3 (.tmp 211) r4 r5 (fun r6 _ => k r6)) (fun g6 r6 => XvPick g6 r6 (.atom (.bool false)) (fun r7 _ => K ⟨[(0, S.get 0), (3, S.get 3), (4, S.get 4), (18, S.get 18), (24, S.get 24), (213, r7)], S.hp, S.nx, S.gh⟩)))))) fun K hK => ?_
         repeat' (first | (refine hK _ ?_; clear hK K) | ((first | refine xG_intro (fun hg => ?_) (fun hg => ?_) | refine fun (hg : (_ : Prop)) => ?_) <;> ((try simp only [BQ] at hg); try (exfalso; omega))) | refine And.intro ?_ ?_ | exact cl | refine one_take ?_ _ | refine one_drop ?_ _ | (refine st ?_; try simp only [List.length_set]))
         all_goals
         refine Tri.cond rfl (fun h213 => ?_) (fun h213 => ?_)
         ·try (cases h213; done)
          all_goals (try simp only [CQ] at h213)
          all_goals
          refine rZ [] (fun P S K => XvFnIV P (M S.hp S.nx) (.fn 85 []) [(S.get 0), (S.get 18), (S.get 24), (S.get 3), (S.get 4)] (fun r5 ef5 => K ⟨[], (Eff.hp ef5 S.nx S.hp), (S.nx + ef5.add.length), S.gh⟩)) fun K hK => ?_
          repeat' (first | (refine hK _ ?_; clear hK K) | refine And.intro ?_ ?_ | exact cl | refine .inl ⟨_, _, hc (li l h) (li l a) (li_mem (by omega)) (li_mem (by omega)), ?_⟩ | refine .inl ⟨_, _, hc (li l m) (li l h) (li_mem (by omega)) (li_mem (by omega)), ?_⟩ | refine .inl ⟨_, _, hc (li l q) (li l h) (li_mem (by omega)) (li_mem (by omega)), ?_⟩ | refine .inr (vProc.row 0 1 (ih a s mid (by omega) (by omega) (by omega) (by omega)) rfl (pureL_encI _) (pureL_encI _) rfl (by simp [sealed, PV.ren, renL, rmap, s1, r1, encI]) rfl (flat_encI _) ?_) | refine .inr (vProc.row 0 1 (ih mid en b (by omega) (by omega) (by omega) (by omega)) rfl (pureL_encI _) (pureL_encI _) rfl (by simp [sealed, PV.ren, renL, rmap, s1, r1, encI]) rfl (flat_encI _) ?_) | (refine st ?_; try simp only [List.length_set]))
          all_goals
          exact ResP.row rfl rfl (pureL_encI _) rfl rfl
         ·try (cases h213; done)
          all_goals (try simp only [CQ] at h213)
          all_goals
          refine Tri.skip ?_
          exact ResP.row rfl rfl (pureL_encI _) rfl rfl
        ·try (cases h199; done)
         all_goals (try simp only [CQ] at h199)
         all_goals
         refine Tri.skip ?_
         refine sZ [0, 3, 4, 18, 24, 213] (fun P S K => XvBinOV P .lss 3 (.tmp 207) (S.get 18) (S.get 24) (fun r2 _ => Xgq r2 true (fun k => k (S.get 24)) (fun g4 r4 => Xgq g4 true (fun k => k (S.get 3)) (fun g5 r5 => Xgq g5 true (fun k => XvBinOV P .lss 3 (.tmp 211) r4 r5 (fun r6 _ => k r6)) (fun g6 r6 => XvPick g6 r6 (.atom (.bool false)) (fun r7 _ => K ⟨[(0, S.get 0), (3, S.get 3), (4, S.get 4), (18, S.get 18), (24, S.get 24), (213, r7)], S.hp, S.nx, S.gh⟩)))))) fun K hK => ?_
         repeat' (first | (refine hK _ ?_; clear hK K) | ((first | refine xG_intro (fun hg => ?_) (fun hg => ?_) | refine fun (hg : (_ : Prop)) => ?_) <;> ((try simp only [BQ] at hg); try (exfalso; omega))) | refine And.intro ?_ ?_ | exact cl | refine one_take ?_ _ | refine one_drop ?_ _ | (refine st ?_; try simp only [List.length_set]))
         all_goals
         refine Tri.cond rfl (fun h213 => ?_) (fun h213 => ?_)
         ·try (cases h213; done)
          all_goals (try simp only [CQ] at h213)
          all_goals
          refine rZ [] (fun P S K => XvFnIV P (M S.hp S.nx) (.fn 85 []) [(S.get 0), (S.get 18), (S.get 24), (S.get 3), (S.get 4)] (fun r5 ef5 => K ⟨[], (Eff.hp ef5 S.nx S.hp), (S.nx + ef5.add.length), S.gh⟩)) fun K hK => ?_
          repeat' (first | (refine hK _ ?_; clear hK K) | refine And.intro ?_ ?_ | exact cl | refine .inl ⟨_, _, hc (li l h) (li l a) (li_mem (by omega)) (li_mem (by omega)), ?_⟩ | refine .inl ⟨_, _, hc (li l m) (li l h) (li_mem (by omega)) (li_mem (by omega)), ?_⟩ | refine .inl ⟨_, _, hc (li l q) (li l h) (li_mem (by omega)) (li_mem (by omega)), ?_⟩ | refine .inr (vProc.row 0 1 (ih a s mid (by omega) (by omega) (by omega) (by omega)) rfl (pureL_encI _) (pureL_encI _) rfl (by simp [sealed, PV.ren, renL, rmap, s1, r1, encI]) rfl (flat_encI _) ?_) | refine .inr (vProc.row 0 1 (ih mid en b (by omega) (by omega) (by omega) (by omega)) rfl (pureL_encI _) (pureL_encI _) rfl (by simp [sealed, PV.ren, renL, rmap, s1, r1, encI]) rfl (flat_encI _) ?_) | (refine st ?_; try simp only [List.length_set]))
          all_goals
          exact ResP.row rfl rfl (pureL_encI _) rfl rfl
         ·try (cases h213; done)
          all_goals (try simp only [CQ] at h213)
          all_goals
          refine Tri.skip ?_
          exact ResP.row rfl rfl (pureL_encI _) rfl rfl
       ·try (cases h185; done)
        all_goals (try simp only [CQ] at h185)
        all_goals
        refine Tri.skip ?_
        refine Tri.seq ?_
        refine sZ [0, 1, 3, 4, 18, 20, 24, 199] (fun P S K => XvBinOV P .lss 3 (.tmp 193) (S.get 1) (S.get 20) (fun r2 _ => Xgq r2 true (fun k => k (S.get 20)) (fun g4 r4 => Xgq g4 true (fun k => k (S.get 18)) (fun g5 r5 => Xgq g5 true (fun k => XvBinOV P .lss 3 (.tmp 197) r4 r5 (fun r6 _ => k r6)) (fun g6 r6 => XvPick g6 r6 (.atom (.bool false)) (fun r7 _ => K ⟨[(0, S.get 0), (1, S.get 1), (3, S.get 3), (4, S.get 4), (18, S.get 18), (20, S.get 20), (24, S.get 24), (199, r7)], S.hp, S.nx, S.gh⟩)))))) fun K hK => ?_
        repeat' (first | (refine hK _ ?_; clear hK K) | ((first | refine xG_intro (fun hg => ?_) (fun hg => ?_) | refine fun (hg : (_ : Prop)) => ?_) <;> ((try simp only [BQ] at hg); try (exfalso; omega))) | refine And.intro ?_ ?_ | exact cl | refine one_take ?_ _ | refine one_drop ?_ _ | (refine st ?_; try simp only [List.length_set]))
        all_goals
        refine Tri.cond rfl (fun h199 => ?_) (fun h199 => ?_)
        ·try (cases h199; done)
         all_goals (try simp only [CQ] at h199)
         all_goals
         refine rZ [0, 3, 4, 18, 24] (fun P S K => XvFnIV P (M S.hp S.nx) (.fn 85 []) [(S.get 0), (S.get 1), (S.get 20), (S.get 18), (S.get 4)] (fun r5 ef5 => K ⟨[(0, S.get 0), (3, S.get 3), (4, S.get 4), (18, S.get 18), (24, S.get 24)], (Eff.hp ef5 S.nx S.hp), (S.nx + ef5.add.length), S.gh⟩)) fun K hK => ?_
         repeat' (first | (refine hK _ ?_; clear hK K) | refine And.intro ?_ ?_ | exact cl | refine .inl ⟨_, _, hc (li l h) (li l a) (li_mem (by omega)) (li_mem (by omega)), ?_⟩ | refine .inl ⟨_, _, hc (li l m) (li l h) (li_mem (by omega)) (li_mem (by omega)), ?_⟩ | refine .inl ⟨_, _, hc (li l q) (li l h) (li_mem (by omega)) (li_mem (by omega)), ?_⟩ | refine .inr (vProc.row 0 1 (ih a s mid (by omega) (by omega) (by omega) (by omega)) rfl (pureL_encI _) (pureL_encI _) rfl (by simp [sealed, PV.ren, renL, rmap, s1, r1, encI]) rfl (flat_encI _) ?_) | refine .inr (vProc.row 0 1 (ih mid en b (by omega) (by omega) (by omega) (by omega)) rfl (pureL_encI _) (pureL_encI _) rfl (by simp [sealed, PV.ren, renL, rmap, s1, r1, encI]) rfl (flat_encI _) ?_) | (refine st ?_; try simp only [List.length_set]))
         all_goals
         refine sZ [0, 3, 4, 18, 24, 213] (fun P S K => XvBinOV P .lss 3 (.tmp 207) (S.get 18) (S.get 24) (fun r2 _ => Xgq r2 true (fun k => k (S.get 24)) (fun g4 r4 => Xgq g4 true (fun k => k (S.get 3)) (fun g5 r5 => Xgq g5 true (fun k => XvBinOV P .lss 3 (.tmp 211) r4 r5 (fun r6 _ => k r6)) (fun g6 r6 => XvPick g6 r6 (.atom (.bool false)) (fun r7 _ => K ⟨[(0, S.get 0), (3, S.get 3), (4, S.get 4), (18, S.get 18), (24, S.get 24), (213, r7)], S.hp, S.nx, S.gh⟩)))))) fun K hK => ?_
         repeat' (first | (refine hK _ ?_; clear hK K) | ((first | refine xG_intro (fun hg => ?_) (fun hg => ?_) | refine fun (hg : (_ : Prop)) => ?_) <;> ((try simp only [BQ] at hg); try (exfalso; omega))) | refine And.intro ?_ ?_ | exact cl | refine one_take ?_ _ | refine one_drop ?_ _ | (refine st ?_; try simp only [List.length_set]))
         all_goals
         refine Tri.cond rfl (fun h213 => ?_) (fun h213 => ?_)
         ·try (cases h213; done)
          all_goals (try simp only [CQ] at h213)
          all_goals
          refine rZ [] (fun P S K => XvFnIV P (M S.hp S.nx) (.fn 85 []) [(S.get 0), (S.get 18), (S.get 24), (S.get 3), (S.get 4)] (fun r5 ef5 => K ⟨[], (Eff.hp ef5 S.nx S.hp), (S.nx + ef5.add.length), S.gh⟩)) fun K hK => ?_
          repeat' (first | (refine hK _ ?_; clear hK K) | refine And.intro ?_ ?_ | exact cl | refine .inl ⟨_, _, hc (li l h) (li l a) (li_mem (by omega)) (li_mem (by omega)), ?_⟩ | refine .inl ⟨_, _, hc (li l m) (li l h) (li_mem (by omega)) (li_mem (by omega)), ?_⟩ | refine .inl ⟨_, _, hc (li l q) (li l h) (li_mem (by omega)) (li_mem (by omega)), ?_⟩ | refine .inr (vProc.row 0 1 (ih a s mid (by omega) (by omega) (by omega) (by omega)) rfl (pureL_encI _) (pureL_encI _) rfl (by simp [sealed, PV.ren, renL, rmap, s1, r1, encI]) rfl (flat_encI _) ?_) | refine .inr (vProc.row 0 1 (ih mid en b (by omega) (by omega) (by omega) (by omega)) rfl (pureL_encI _) (pureL_encI _) rfl (by simp [sealed, PV.ren, renL, rmap, s1, r1, encI]) rfl (flat_encI _) ?_) | (refine st ?_; try simp only [List.length_set]))
          all_goals
          exact ResP.row rfl rfl (pureL_encI _) rfl rfl
         ·try (cases h213; done)
          all_goals (try simp only [CQ] at h213)
          all_goals
          refine Tri.skip ?_
          exact ResP.row rfl rfl (pureL_encI _) rfl rfl
        ·try (cases h199; done)
         all_goals (try simp only [CQ] at h199)
         all_goals
         refine Tri.skip ?_
         refine sZ [0, 3, 4, 18, 24, 213] (fun P S K => XvBinOV P .lss 3 (.tmp 207) (S.get 18) (S.get 24) (fun r2 _ => Xgq r2 true (fun k => k (S.get 24)) (fun g4 r4 => Xgq g4 true (fun k => k (S.get 3)) (fun g5 r5 => Xgq g5 true (fun k => XvBinOV P .lss 3 (.tmp 211) r4 r5 (fun r6 _ => k r6)) (fun g6 r6 => XvPick g6 r6 (.atom (.bool false)) (fun r7 _ => K ⟨[(0, S.get 0), (3, S.get 3), (4, S.get 4), (18, S.get 18), (24, S.get 24), (213, r7)], S.hp, S.nx, S.gh⟩)))))) fun K hK => ?_
         repeat' (first | (refine hK _ ?_; clear hK K) | ((first | refine xG_intro (fun hg => ?_) (fun hg => ?_) | refine fun (hg : (_ : Prop)) => ?_) <;> ((try simp only [BQ] at hg); try (exfalso; omega))) | refine And.intro ?_ ?_ | exact cl | refine one_take ?_ _ | refine one_drop ?_ _ | (refine st ?_; try simp only [List.length_set]))
         all_goals
         refine Tri.cond rfl (fun h213 => ?_) (fun h213 => ?_)
         ·try (cases h213; done)
          all_goals (try simp only [CQ] at h213)
          all_goals
          refine rZ [] (fun P S K => XvFnIV P (M S.hp S.nx) (.fn 85 []) [(S.get 0), (S.get 18), (S.get 24), (S.get 3), (S.get 4)] (fun r5 ef5 => K ⟨[], (Eff.hp ef5 S.nx S.hp), (S.nx + ef5.add.length), S.gh⟩)) fun K hK => ?_
          repeat' (first | (refine hK _ ?_; clear hK K) | refine And.intro ?_ ?_ | exact cl | refine .inl ⟨_, _, hc (li l h) (li l a) (li_mem (by omega)) (li_mem (by omega)), ?_⟩ | refine .inl ⟨_, _, hc (li l m) (li l h) (li_mem (by omega)) (li_mem (by omega)), ?_⟩ | refine .inl ⟨_, _, hc (li l q) (li l h) (li_mem (by omega)) (li_mem (by omega)), ?_⟩ | refine .inr (vProc.row 0 1 (ih a s mid (by omega) (by omega) (by omega) (by omega)) rfl (pureL_encI _) (pureL_encI _) rfl (by simp [sealed, PV.ren, renL, rmap, s1, r1, encI]) rfl (flat_encI _) ?_) | refine .inr (vProc.row 0 1 (ih mid en b (by omega) (by omega) (by omega) (by omega)) rfl (pureL_encI _) (pureL_encI _) rfl (by simp [sealed, PV.ren, renL, rmap, s1, r1, encI]) rfl (flat_encI _) ?_) | (refine st ?_; try simp only [List.length_set]))
          all_goals
          exact ResP.row rfl rfl (pureL_encI _) rfl rfl
         ·try (cases h213; done)
          all_goals (try simp only [CQ] at h213)
          all_goals
          refine Tri.skip ?_
          exact ResP.row rfl rfl (pureL_encI _) rfl rfl
theorem symMerge_flat (f : FuncId) (c1 : PV) (c : Int → Int → Int) (l : List Int) (h1 : c1.pure = true) (hl : l.length ≤ 1000000000)
    (hc : ∀ x y, x ∈ l → y ∈ l → Pure Try.prog f [encI x, encI y, c1] (encI (c x y)) []) (hflat : NoInv c l) :
    ∀ (k a m b : Nat), b - a < k → a < m → m < b → b ≤ l.length → Proc Try.prog 85 [.ob 0 1 0 l.length, encI a, encI m, encI b, .fn f [c1]] [⟨1, l.map encI⟩] (.tup []) [some ⟨1, l.map encI⟩] []
  | 0, _, _, _, h, _, _, _ => absurd h (Nat.not_lt_zero _)
  | k + 1, a, m, b, h, ham, hmb, hb => symMerge_step f c1 c l a m b h1 ham hmb hb hl hc hflat fun a' m' b' g1 g2 g3 g4 => symMerge_flat f c1 c l h1 hl hc hflat k a' m' b' (by omega) g2 g3 g4
theorem stable_proc (f : FuncId) (c1 : PV) (c : Int → Int → Int) (key : Int → Int) (l : List Int) (h1 : c1.pure = true) (hl : l.length ≤ 1000000000)
    (hc : ∀ x y, x ∈ l → y ∈ l → Pure Try.prog f [encI x, encI y, c1] (encI (c x y)) []) (hk : Keyed c key) (hq : ∀ j, 20 ≤ j → j < l.length → ∀ x, x ∈ l → ¬ c (li l j) x < 0) :
    Proc Try.prog 80 [.ob 0 1 0 l.length, encI l.length, .fn f [c1]] [⟨1, l.map encI⟩] (.tup []) [some ⟨1, (sortedL c l).map encI⟩] [] := by
  have hfp : (PV.fn f [c1]).pure = true := by simp [PV.pure, pureL, h1]
  have r1 : ∀ ρ, c1.ren ρ = c1 := fun ρ => ren_pure ρ _ h1
  have s1 : ∀ H keep n, sealed H keep n c1 = c1 := fun H k n => sealed_pure H k n h1
  obtain ⟨R, hR⟩ : ∃ R, R = sortedL c l := ⟨_, rfl⟩
  have hRl : R.length = l.length := by rw [hR, sortedL_len]
  have hRm : ∀ x, x ∈ R → x ∈ l := fun x hx => by rw [hR] at hx; exact (sortedL_perm c l).mem_iff.1 hx
  have hRn : NoInv c R := by rw [hR]; exact noInv_mono hk (sortedL_mono hk l)
  have hRc : ∀ x y, x ∈ R → y ∈ R → Pure Try.prog f [encI x, encI y, c1] (encI (c x y)) [] := fun x y hx hy => hc x y (hRm x hx) (hRm y hy)
  rw [← hR]
  refine Proc.intro (ts := []) Try.func80 (by kernel_rfl) rfl rfl rfl (Nat.le_of_ble_eq_true rfl) rfl ?_
  simp only [objEnv, marks, List.map_cons, List.map_nil, List.length_cons, List.length_nil, Nat.zero_add, Nat.reduceAdd]
  refine sY [0, 1, 2, 6] (fun P S K => K ⟨[(0, S.get 0), (1, S.get 1), (2, S.get 2), (6, (.atom (.int .i64 20)))], S.hp, S.nx, S.gh⟩) ?_
  all_goals
  refine sY [0, 1, 2, 6, 7, 8] (fun P S K => K ⟨[(0, S.get 0), (1, S.get 1), (2, S.get 2), (6, S.get 6), (7, (.atom (.int .i64 0))), (8, (S.get 6))], S.hp, S.nx, S.gh⟩) ?_
  all_goals
  refine Tri.seq ?_
  refine Tri.block ?_
  refine Tri.loop (α := (d : List Int) ×' (a : Nat) ×' (a ≤ l.length ∧ ((a = 0 ∧ d = l) ∨ (20 ≤ a ∧ d = R)))) (fun z => (fun (d : List Int) (a : Nat) => (⟨[(0, .ob 0 1 0 l.length), (1, encI l.length), (2, .fn f [c1]), (6, encI 20), (7, encI a), (8, encI ((a : Int) + 20))], [(0, some ⟨1, d.map encI⟩)], 1, [.ob 0 1 0 0]⟩ : St)) z.1 z.2.1) (fun z => (fun (d : List Int) (a : Nat) => l.length - a) z.1 z.2.1) ⟨l, 0, ⟨Nat.zero_le _, .inl ⟨rfl, rfl⟩⟩⟩ [0] ?_ ?_
  ·exact leqpA5
  ·rintro ⟨d, a, ⟨ha1, ha2⟩⟩
   refine Tri.seq ?_
   refine sY [0, 1, 2, 6, 7, 8, 13] (fun P S K => XvBinOV P .leq 3 (.tmp 12) (S.get 8) (S.get 1) (fun r2 _ => K ⟨[(0, S.get 0), (1, S.get 1), (2, S.get 2), (6, S.get 6), (7, S.get 7), (8, S.get 8), (13, r2)], S.hp, S.nx, S.gh⟩)) ?_
   all_goals
   refine Tri.cond rfl (fun h13 => ?_) (fun h13 => ?_)
   ·try (cases h13; done)
    all_goals (try simp only [CQ] at h13)
    all_goals
    refine Tri.skip ?_
    refine Tri.block ?_
    have hdl : d.length = l.length := by rcases ha2 with ⟨_, e⟩ | ⟨_, e⟩ <;> rw [e]; exact hRl
    have hins : Proc Try.prog 84 [.ob 0 1 0 l.length, encI a, encI ((a : Int) + 20), .fn f [c1]] [⟨1, d.map encI⟩] (.tup []) [some ⟨1, R.map encI⟩] [] := by
      have := insertion_proc f c1 c d a (a + 20) h1 (by omega) (by omega) (by omega) (by rcases ha2 with ⟨_, e⟩ | ⟨_, e⟩ <;> rw [e]; exact hc; exact hRc)
      rw [hdl] at this
      rw [show isort (ltc c) a (a + 20 - (a + 1)) (a + 1) d = R by
        rw [show a + 20 - (a + 1) = 19 by omega]
        rcases ha2 with ⟨e0, e⟩ | ⟨e0, e⟩
        · subst e0; subst e; rw [hR]; exact (block_sorted hk (by omega) hq).2
        · rw [e]; exact isort_idle hRn _ _ _ (by omega)] at this
      exact this
    refine sZ [0, 1, 2, 6, 8] (fun P S K => XvFnIV P (M S.hp S.nx) (.fn 84 []) [(S.get 0), (S.get 7), (S.get 8), (S.get 2)] (fun r4 ef4 => K ⟨[(0, S.get 0), (1, S.get 1), (2, S.get 2), (6, S.get 6), (8, S.get 8)], (Eff.hp ef4 S.nx S.hp), (S.nx + ef4.add.length), S.gh⟩)) fun K hK => ?_
    repeat' (first | (refine hK _ ?_; clear hK K) | refine And.intro ?_ ?_ | exact cl | refine .inr (vProc.row 0 1 hins rfl (pureL_encI _) (pureL_encI _) rfl (by simp [sealed, PV.ren, renL, rmap, s1, r1, encI]) rfl (flat_encI _) ?_) | refine .inr (vProc.row 0 1 hsym rfl (pureL_encI _) (pureL_encI _) rfl (by simp [sealed, PV.ren, renL, rmap, s1, r1, encI]) rfl (flat_encI _) ?_) | refine st ?_)
    all_goals
    refine sY [0, 1, 2, 6, 7, 8] (fun P S K => K ⟨[(0, S.get 0), (1, S.get 1), (2, S.get 2), (6, S.get 6), (7, (S.get 8)), (8, S.get 8)], S.hp, S.nx, S.gh⟩) ?_
    all_goals
    refine rY [0, 1, 2, 6, 7, 8] (fun P S K => XvBinOV P .add 3 (.tmp 21) (S.get 8) (S.get 6) (fun r2 _ => K ⟨[(0, S.get 0), (1, S.get 1), (2, S.get 2), (6, S.get 6), (7, S.get 7), (8, r2)], S.hp, S.nx, S.gh⟩)) ?_
    all_goals try simp (disch := omega) only [wrap_id, wrap8_id]
    all_goals
    refine ⟨⟨R, a + 20, by omega, .inr ⟨by omega, rfl⟩⟩, [0], by dsimp only; omega, ?_⟩
    exact leqpA5
   ·try (cases h13; done)
    all_goals (try simp only [CQ] at h13)
    all_goals
    refine Tri.exit ?_
    have hdl : d.length = l.length := by rcases ha2 with ⟨_, e⟩ | ⟨_, e⟩ <;> rw [e]; exact hRl
    have hins : Proc Try.prog 84 [.ob 0 1 0 l.length, encI a, encI l.length, .fn f [c1]] [⟨1, d.map encI⟩] (.tup []) [some ⟨1, R.map encI⟩] [] := by
      have := insertion_proc f c1 c d a l.length h1 (by omega) (by omega) (by omega) (by rcases ha2 with ⟨_, e⟩ | ⟨_, e⟩ <;> rw [e]; exact hc; exact hRc)
      rw [hdl] at this
      have e : isort (ltc c) a (l.length - (a + 1)) (a + 1) d = R := by
        rcases ha2 with ⟨e0, e⟩ | ⟨e0, e⟩
        · subst e0; subst e; rw [hR]; rfl
        · rw [e]
          rcases Nat.lt_or_ge a l.length with h | h
          · exact isort_idle hRn _ _ _ (by omega)
          · rw [Nat.sub_eq_zero_of_le (by omega)]; rfl
      rw [e] at this
      exact this
    refine sZ [0, 1, 2, 6] (fun P S K => XvFnIV P (M S.hp S.nx) (.fn 84 []) [(S.get 0), (S.get 7), (S.get 1), (S.get 2)] (fun r4 ef4 => K ⟨[(0, S.get 0), (1, S.get 1), (2, S.get 2), (6, S.get 6)], (Eff.hp ef4 S.nx S.hp), (S.nx + ef4.add.length), S.gh⟩)) fun K hK => ?_
    repeat' (first | (refine hK _ ?_; clear hK K) | refine And.intro ?_ ?_ | exact cl | refine .inr (vProc.row 0 1 hins rfl (pureL_encI _) (pureL_encI _) rfl (by simp [sealed, PV.ren, renL, rmap, s1, r1, encI]) rfl (flat_encI _) ?_) | refine .inr (vProc.row 0 1 hsym rfl (pureL_encI _) (pureL_encI _) rfl (by simp [sealed, PV.ren, renL, rmap, s1, r1, encI]) rfl (flat_encI _) ?_) | refine st ?_)
    all_goals
    refine Tri.block ?_
    refine Tri.loop (α := (s : Nat) ×' (20 ≤ s ∧ s ≤ 2000000000)) (fun z => (fun (s : Nat) => (⟨[(0, .ob 0 1 0 l.length), (1, encI l.length), (2, .fn f [c1]), (6, encI s)], [(0, some ⟨1, R.map encI⟩)], 1, [.ob 0 1 0 0]⟩ : St)) z.1) (fun z => (fun (s : Nat) => l.length - s) z.1) ⟨20, ⟨by omega, by omega⟩⟩ [0] ?_ ?_
    ·exact leqpA5
    ·rintro ⟨s, ⟨hs1, hs2⟩⟩
     refine Tri.seq ?_
     refine sY [0, 1, 2, 6, 30] (fun P S K => XvBinOV P .lss 3 (.tmp 29) (S.get 6) (S.get 1) (fun r2 _ => K ⟨[(0, S.get 0), (1, S.get 1), (2, S.get 2), (6, S.get 6), (30, r2)], S.hp, S.nx, S.gh⟩)) ?_
     all_goals
     refine Tri.cond rfl (fun h30 => ?_) (fun h30 => ?_)
     ·try (cases h30; done)
      all_goals (try simp only [CQ] at h30)
      all_goals
      refine Tri.skip ?_
      refine Tri.block ?_
      refine sY [0, 1, 2, 6, 7, 8] (fun P S K => XvBinOV P .mul 3 (.tmp 31) (.atom (.int .i64 2)) (S.get 6) (fun r1 _ => K ⟨[(0, S.get 0), (1, S.get 1), (2, S.get 2), (6, S.get 6), (7, (.atom (.int .i64 0))), (8, r1)], S.hp, S.nx, S.gh⟩)) ?_
      all_goals try simp (disch := omega) only [wrap_id, wrap8_id]
      all_goals
      refine Tri.seq ?_
      refine Tri.block ?_
      refine Tri.loop (α := (a : Nat) ×' (a ≤ l.length)) (fun z => (fun (a : Nat) => (⟨[(0, .ob 0 1 0 l.length), (1, encI l.length), (2, .fn f [c1]), (6, encI s), (7, encI a), (8, encI ((a : Int) + 2 * s))], [(0, some ⟨1, R.map encI⟩)], 1, [.ob 0 1 0 0]⟩ : St)) z.1) (fun z => (fun (a : Nat) => l.length - a) z.1) ⟨0, Nat.zero_le _⟩ [0] ?_ ?_
      ·exact leqpA5
      ·rintro ⟨a, ha3⟩
       refine Tri.seq ?_
       refine sY [0, 1, 2, 6, 7, 8, 35] (fun P S K => XvBinOV P .leq 3 (.tmp 34) (S.get 8) (S.get 1) (fun r2 _ => K ⟨[(0, S.get 0), (1, S.get 1), (2, S.get 2), (6, S.get 6), (7, S.get 7), (8, S.get 8), (35, r2)], S.hp, S.nx, S.gh⟩)) ?_
       all_goals
       refine Tri.cond rfl (fun h35 => ?_) (fun h35 => ?_)
       ·try (cases h35; done)
        all_goals (try simp only [CQ] at h35)
        all_goals
        refine Tri.skip ?_
        refine Tri.block ?_
        have hsym : Proc Try.prog 85 [.ob 0 1 0 l.length, encI a, encI ((a : Int) + s), encI ((a : Int) + 2 * s), .fn f [c1]] [⟨1, R.map encI⟩] (.tup []) [some ⟨1, R.map encI⟩] [] := by
          have := symMerge_flat f c1 c R h1 (by omega) hRc hRn (2 * s + 1) a (a + s) (a + 2 * s) (by omega) (by omega) (by omega) (by omega)
          rw [hRl] at this
          simpa using this
        refine sZ [0, 1, 2, 6, 8] (fun P S K => XvBinOV P .add 3 (.tmp 39) (S.get 7) (S.get 6) (fun r4 _ => XvFnIV P (M S.hp S.nx) (.fn 85 []) [(S.get 0), (S.get 7), r4, (S.get 8), (S.get 2)] (fun r7 ef7 => K ⟨[(0, S.get 0), (1, S.get 1), (2, S.get 2), (6, S.get 6), (8, S.get 8)], (Eff.hp ef7 S.nx S.hp), (S.nx + ef7.add.length), S.gh⟩))) fun K hK => ?_
        repeat' (first | (refine hK _ ?_; clear hK K) | refine And.intro ?_ ?_ | exact cl | refine .inr (vProc.row 0 1 hins rfl (pureL_encI _) (pureL_encI _) rfl (by simp [sealed, PV.ren, renL, rmap, s1, r1, encI]) rfl (flat_encI _) ?_) | refine .inr (vProc.row 0 1 hsym rfl (pureL_encI _) (pureL_encI _) rfl (by simp [sealed, PV.ren, renL, rmap, s1, r1, encI]) rfl (flat_encI _) ?_) | (refine st ?_; try simp only [(show IntKind.i64.wrap ((a : Int) + s) = ((a + s : Nat) : Int) by rw [wrap_id (by omega) (by omega)]; omega)]))
        all_goals try simp (disch := omega) only [wrap_id, wrap8_id]
        all_goals
        refine sY [0, 1, 2, 6, 7, 8] (fun P S K => K ⟨[(0, S.get 0), (1, S.get 1), (2, S.get 2), (6, S.get 6), (7, (S.get 8)), (8, S.get 8)], S.hp, S.nx, S.gh⟩) ?_
        all_goals
        refine rY [0, 1, 2, 6, 7, 8] (fun P S K => XvBinOV P .mul 3 (.tmp 46) (.atom (.int .i64 2)) (S.get 6) (fun r2 _ => XvBinOV P .add 3 (.tmp 47) (S.get 8) r2 (fun r3 _ => K ⟨[(0, S.get 0), (1, S.get 1), (2, S.get 2), (6, S.get 6), (7, S.get 7), (8, r3)], S.hp, S.nx, S.gh⟩))) ?_
        all_goals try simp (disch := omega) only [wrap_id, wrap8_id]
        all_goals
        refine ⟨⟨a + 2 * s, by omega⟩, [0], by dsimp only; omega, ?_⟩
        exact leqpA5
       ·try (cases h35; done)
        all_goals (try simp only [CQ] at h35)
        all_goals
        refine Tri.exit ?_
        refine Tri.seq ?_
        refine sY [0, 1, 2, 6, 7, 9] (fun P S K => XvBinOV P .add 3 (.tmp 50) (S.get 7) (S.get 6) (fun r2 _ => K ⟨[(0, S.get 0), (1, S.get 1), (2, S.get 2), (6, S.get 6), (7, S.get 7), (9, r2)], S.hp, S.nx, S.gh⟩)) ?_
        all_goals try simp (disch := omega) only [wrap_id, wrap8_id]
        all_goals
        refine sY [0, 1, 2, 6, 7, 9, 54] (fun P S K => XvBinOV P .lss 3 (.tmp 53) (S.get 9) (S.get 1) (fun r2 _ => K ⟨[(0, S.get 0), (1, S.get 1), (2, S.get 2), (6, S.get 6), (7, S.get 7), (9, S.get 9), (54, r2)], S.hp, S.nx, S.gh⟩)) ?_
        all_goals
        refine Tri.cond rfl (fun h54 => ?_) (fun h54 => ?_)
        ·try (cases h54; done)
         all_goals (try simp only [CQ] at h54)
         all_goals
         have hsym : Proc Try.prog 85 [.ob 0 1 0 l.length, encI a, encI ((a : Int) + s), encI l.length, .fn f [c1]] [⟨1, R.map encI⟩] (.tup []) [some ⟨1, R.map encI⟩] [] := by
           have := symMerge_flat f c1 c R h1 (by omega) hRc hRn (R.length + 1) a (a + s) R.length (by omega) (by omega) (by omega) (by omega)
           rw [hRl] at this
           simpa using this
         refine rZ [0, 1, 2, 6] (fun P S K => XvFnIV P (M S.hp S.nx) (.fn 85 []) [(S.get 0), (S.get 7), (S.get 9), (S.get 1), (S.get 2)] (fun r5 ef5 => K ⟨[(0, S.get 0), (1, S.get 1), (2, S.get 2), (6, S.get 6)], (Eff.hp ef5 S.nx S.hp), (S.nx + ef5.add.length), S.gh⟩)) fun K hK => ?_
         repeat' (first | (refine hK _ ?_; clear hK K) | refine And.intro ?_ ?_ | exact cl | refine .inr (vProc.row 0 1 hins rfl (pureL_encI _) (pureL_encI _) rfl (by simp [sealed, PV.ren, renL, rmap, s1, r1, encI]) rfl (flat_encI _) ?_) | refine .inr (vProc.row 0 1 hsym rfl (pureL_encI _) (pureL_encI _) rfl (by simp [sealed, PV.ren, renL, rmap, s1, r1, encI]) rfl (flat_encI _) ?_) | refine st ?_)
         all_goals
         refine rY [0, 1, 2, 6] (fun P S K => XvBinOV P .mul 3 (.const (.int .i64 2)) (S.get 6) (.atom (.int .i64 2)) (fun r1 _ => K ⟨[(0, S.get 0), (1, S.get 1), (2, S.get 2), (6, r1)], S.hp, S.nx, S.gh⟩)) ?_
         all_goals try simp (disch := omega) only [wrap_id, wrap8_id]
         all_goals
         refine ⟨⟨s * 2, by omega, by omega⟩, [0], by dsimp only; omega, ?_⟩
         exact leqpA5
        ·try (cases h54; done)
         all_goals (try simp only [CQ] at h54)
         all_goals
         refine Tri.skip ?_
         refine rY [0, 1, 2, 6] (fun P S K => XvBinOV P .mul 3 (.const (.int .i64 2)) (S.get 6) (.atom (.int .i64 2)) (fun r1 _ => K ⟨[(0, S.get 0), (1, S.get 1), (2, S.get 2), (6, r1)], S.hp, S.nx, S.gh⟩)) ?_
         all_goals try simp (disch := omega) only [wrap_id, wrap8_id]
         all_goals
         refine ⟨⟨s * 2, by omega, by omega⟩, [0], by dsimp only; omega, ?_⟩
         exact leqpA5
     ·try (cases h30; done)
      all_goals (try simp only [CQ] at h30)
      all_goals
      refine Tri.exit ?_
      exact ResP.row rfl rfl (pureL_encI _) rfl rfl
theorem sortStable_proc (f : FuncId) (c1 : PV) (c : Int → Int → Int) (key : Int → Int) (l : List Int) (h1 : c1.pure = true) (hl : l.length ≤ 1000000000)
    (hc : ∀ x y, x ∈ l → y ∈ l → Pure Try.prog f [encI x, encI y, c1] (encI (c x y)) []) (hk : Keyed c key) (hq : ∀ j, 20 ≤ j → j < l.length → ∀ x, x ∈ l → ¬ c (li l j) x < 0) :
    Proc Try.prog 67 [.ob 0 1 0 l.length, .fn f [c1]] [⟨1, l.map encI⟩] (.tup []) [some ⟨1, (sortedL c l).map encI⟩] [] := by
  have r1 : ∀ ρ, c1.ren ρ = c1 := fun ρ => ren_pure ρ _ h1
  have s1 : ∀ H keep n, sealed H keep n c1 = c1 := fun H k n => sealed_pure H k n h1
  refine Proc.intro (ts := []) Try.func67 (by kernel_rfl) rfl rfl rfl (Nat.le_of_ble_eq_true rfl) rfl ?_
  simp only [objEnv, marks, List.map_cons, List.map_nil, List.length_cons, List.length_nil, Nat.zero_add, Nat.reduceAdd]
  refine rZ [] (fun P S K => XvLen P 22 (S.get 0) (fun r2 _ => XvFnIV P (M S.hp S.nx) (.fn 80 []) [(S.get 0), r2, (S.get 1)] (fun r4 ef4 => K ⟨[], (Eff.hp ef4 S.nx S.hp), (S.nx + ef4.add.length), S.gh⟩))) fun K hK => ?_
  repeat' (first | (refine hK _ ?_; clear hK K) | refine And.intro ?_ ?_ | exact cl | refine .inr (vProc.row 0 1 (stable_proc f c1 c key l h1 hl hc hk hq) rfl (pureL_encI _) (pureL_encI _) rfl (by simp [sealed, PV.ren, renL, rmap, s1, r1, encI]) rfl (flat_encI _) ?_) | refine st ?_)
  all_goals
  exact ResP.row rfl rfl (pureL_encI _) rfl rfl
end Go.Proofs.Ytcdeilgijleoaaa
