/-
  Walks: the reference model of collations: relations.
-/
import Derived.Test.YtfnkciboencifaaDoorUW1
import Derived.Test.YtfnkciboencifaaDoorUW18
set_option linter.all false
namespace Go.Proofs.YtfnkciboencifaaDoor
open Go Go.RowKit
set_option linter.unusedSimpArgs false
set_option linter.unusedVariables false
set_option maxRecDepth 20000
set_option maxHeartbeats 2000000
def encO (b : Bool) : PV := .atom (.bool b)
def bools (l : List Bool) : PV := .sl 1 (l.map encO)
def rows (l : List (List Bool)) : PV := .sl 1 (l.map bools)
def encP (p : Int × Int) : PV := .agg [encI p.1, encI p.2]
def pairs (l : List (Int × Int)) : PV := .sl 2 (l.map encP)
theorem pureL_encO (l : List Bool) : pureL (l.map encO) = true := pureL_map encO (fun _ => rfl) l
theorem pure_bools (l : List Bool) : (bools l).pure = true := pureL_encO l
theorem pureL_bools (l : List (List Bool)) : pureL (l.map bools) = true := pureL_map bools pure_bools l
theorem pure_rows (l : List (List Bool)) : (rows l).pure = true := pureL_bools l
theorem pureL_encP (l : List (Int × Int)) : pureL (l.map encP) = true := pureL_map encP (fun _ => rfl) l
theorem pure_pairs (l : List (Int × Int)) : (pairs l).pure = true := pureL_encP l
theorem ren_bools (ρ : Nat → Nat) (l : List Bool) : (bools l).ren ρ = bools l := ren_pure ρ _ (pure_bools l)
theorem ren_rows (ρ : Nat → Nat) (l : List (List Bool)) : (rows l).ren ρ = rows l := ren_pure ρ _ (pure_rows l)
theorem ren_pairs (ρ : Nat → Nat) (l : List (Int × Int)) : (pairs l).ren ρ = pairs l := ren_pure ρ _ (pure_pairs l)
def lp (l : List (Int × Int)) (k : Nat) : Int × Int := l.getD k (0, 0)
theorem getD_encP {l : List (Int × Int)} {k : Nat} (h : k < l.length) : (l.map encP).getD k .junk = encP (lp l k) := by
  simp [lp, List.getD_eq_getElem?_getD, h]
theorem lp_get {l : List (Int × Int)} {k : Nat} (h : k < l.length) : lp l k = l[k] := by simp [lp, List.getD_eq_getElem?_getD, h]
theorem lp_mem {l : List (Int × Int)} {k : Nat} (h : k < l.length) : lp l k ∈ l := by rw [lp_get h]; exact List.getElem_mem h
theorem getD_encO {l : List Bool} {k : Nat} (h : k < l.length) : (l.map encO).getD k .junk = encO (l.getD k false) := by
  simp [List.getD_eq_getElem?_getD, h]
def OutP (n : Int) (p : Int × Int) : Prop := p.1 < 0 ∨ n ≤ p.1 ∨ p.2 < 0 ∨ n ≤ p.2
noncomputable def relE (n : Int) (ps : List (Int × Int)) : Int := if 64 < n ∨ 4096 < ps.length then 4 else if n < 0 then 1 else tI (∃ p, p ∈ ps ∧ OutP n p) 1 0
def tab (h w : Nat) (f : Nat → Nat → Bool) : List (List Bool) := (List.range h).map fun a => (List.range w).map fun b => f a b
theorem tab_len (h w : Nat) (f : Nat → Nat → Bool) : (tab h w f).length = h := by simp [tab]
theorem tab_row {h w : Nat} {f : Nat → Nat → Bool} {a : Nat} (ha : a < h) : (tab h w f).getD a [] = (List.range w).map fun b => f a b := by
  simp [tab, List.getD_eq_getElem?_getD, ha]
def famP (n w : Nat) : List PV := (List.range n).map fun i => .ob (i + 1) 1 0 w
def famO (r : List (List Bool)) : List (Option AO) := r.map fun x => some ⟨1, x.map encO⟩
theorem famP_len (n w : Nat) : (famP n w).length = n := by simp [famP]
theorem getD_famP {n w j : Nat} (h : j < n) : (famP n w).getD j .junk = .ob (j + 1) 1 0 w := by simp [famP, List.getD_eq_getElem?_getD, h]
theorem famP_succ (n w : Nat) : famP (n + 1) w = famP n w ++ [.ob (n + 1) 1 0 w] := by simp [famP, List.range_succ]
theorem lk_fam {r : List (List Bool)} {j : Nat} (h : j < r.length) : lk (objEnv 1 (famO r)) (j + 1) = some (some ⟨1, (r.getD j []).map encO⟩) := by
  rw [lk_objEnv, if_pos (by omega)]
  simp [famO, List.getD_eq_getElem?_getD, h]
theorem objEnv_mem : ∀ {l : List (Option AO)} {k : Nat} {p : Nat × Option AO}, p ∈ objEnv k l → ∃ i, l[i]? = some p.2 ∧ p.1 = k + i
  | [], _, _, h => by cases h
  | o :: l, k, p, h => by
    rw [objEnv, List.mem_cons] at h
    rcases h with rfl | h
    · exact ⟨0, rfl, rfl⟩
    · obtain ⟨i, h1, h2⟩ := objEnv_mem h
      exact ⟨i + 1, by simpa using h1, by omega⟩
def famL (j n : Nat) : List Nat := j :: (List.range n).map (· + 1)
theorem famL_zero {j n nx : Nat} : rmap (famL j n) nx 0 = j := rfl
theorem famL_succ {j n nx i : Nat} (h : i < n) : rmap (famL j n) nx (i + 1) = i + 1 := by simp [rmap, famL, h]
theorem famL_has {j n i : Nat} (h : i < n) : (famL j n).contains (i + 1) = true := by
  rw [List.contains_iff_mem]; exact List.mem_cons_of_mem _ (List.mem_map.2 ⟨i, List.mem_range.2 h, rfl⟩)
theorem famP_keep {H : Nat → Option AO} {j n k w nx : Nat} : (famP n w).map (sealed H (fun i => (famL j n).contains i) k) = (famP n w).map (PV.ren (rmap (famL j n) nx)) := by
  refine List.map_congr_left fun q hq => ?_
  obtain ⟨i, hi, rfl⟩ := List.mem_map.1 hq
  have hi' := List.mem_range.1 hi
  have e : PV.ren (rmap (famL j n) nx) (.ob (i + 1) 1 0 w) = .ob (i + 1) 1 0 w := by simp only [PV.ren, famL_succ hi']
  rw [e]
  cases k with
  | zero => rfl
  | succ k => simp only [sealed, famL_has hi', if_true]
theorem leq_fam {S : St} {env : List (Nat × PV)} {j n w m : Nat} {r : List (List Bool)} (hn : r.length = n) (h0 : S.obj j = some ⟨1, famP n w⟩) (hr : ∀ i, i < n → S.obj (i + 1) = some ⟨1, (r.getD i []).map encO⟩) (hj : j = 0 ∨ n < j)
    (he : ∀ p, p ∈ env → (p.2.pure = true ∧ S.get p.1 = p.2) ∨ (p.2 = .ob 0 1 0 m ∧ S.get p.1 = .ob j 1 0 m)) (hg : S.gh = []) : Leq (famL j n) S ⟨env, (0, some ⟨1, famP n w⟩) :: objEnv 1 (famO r), n + 1, []⟩ := by
  subst hn
  refine ⟨4, fun p hp => ?_, fun p hp o ho => ?_, by simp [famL], ?_, by rw [hg], fun i h => absurd h (Nat.not_lt_zero _)⟩
  · rcases he p hp with ⟨h1, h2⟩ | ⟨h1, h2⟩
    · rw [h2]; exact sp h1
    · rw [h2, h1]
      have : (famL j r.length).contains j = true := by rw [List.contains_iff_mem]; exact List.mem_cons_self ..
      simp only [sealed, this, if_true, PV.ren, famL_zero]
  · rcases List.mem_cons.1 hp with rfl | hp
    · cases ho
      refine ⟨by simp [famL], _, by rw [famL_zero]; exact h0, rfl, famP_keep⟩
    · obtain ⟨i, h1, h2⟩ := objEnv_mem hp
      have hi : i < r.length := by
        have := (List.getElem?_eq_some_iff.1 h1).1
        simpa [famO] using this
      rw [ho] at h1
      simp only [famO, List.getElem?_map, List.getElem?_eq_getElem hi, Option.map_some, Option.some.injEq] at h1
      subst h1
      have e : p.1 = i + 1 := by omega
      rw [e]
      have e2 : r.getD i [] = r[i] := by simp [List.getD_eq_getElem?_getD, hi]
      have hri := hr i hi
      rw [e2] at hri
      refine ⟨by simp [famL, hi], _, by rw [famL_succ hi]; exact hri, rfl, ?_⟩
      rw [map_sealed_pure _ _ _ (pureL_encO _), map_ren_pure _ (pureL_encO _)]
  · unfold famL
    rw [List.nodup_cons]
    refine ⟨fun h => ?_, ?_⟩
    · obtain ⟨i, hi, he⟩ := List.mem_map.1 h
      have := List.mem_range.1 hi
      omega
    · exact List.Pairwise.map _ (fun a b h => by simpa using h) List.nodup_range
theorem fam_sealed {H : Nat → Option AO} {n w k : Nat} {r : List (List Bool)} (hn : r.length = n) (hw : ∀ i, i < n → (r.getD i []).length = w) (h0 : H 0 = some ⟨1, famP n w⟩) (hr : ∀ i, i < n → H (i + 1) = some ⟨1, (r.getD i []).map encO⟩) :
    sealed H (fun _ => false) (k + 2) (.ob 0 1 0 n) = rows r := by
  simp only [sealed, h0, famP_len]
  simp only [Bool.false_eq_true, if_false, Nat.zero_add, Nat.le_refl, and_self, if_true, List.drop_zero]
  unfold rows
  congr 1
  rw [List.take_of_length_le (by rw [famP_len]; exact Nat.le_refl _)]
  refine List.ext_getElem (by simp [famP_len, hn]) fun i h1 h2 => ?_
  have hi : i < n := by simpa [famP_len] using h1
  have e2 : r.getD i [] = r[i]'(by omega) := by simp [List.getD_eq_getElem?_getD, hn, hi]
  have hl := hw i hi
  have ho := hr i hi
  rw [e2] at hl ho
  have e3 : (famP n w)[i]'(by rw [famP_len]; exact hi) = .ob (i + 1) 1 0 w := by simp [famP]
  rw [List.getElem_map, List.getElem_map, e3]
  simp only [sealed, ho]
  simp only [Bool.false_eq_true, if_false, Nat.zero_add, List.length_map, hl, Nat.le_refl, and_self, if_true, List.drop_zero]
  rw [List.take_of_length_le (by simp [hl]), map_sealed_pure _ _ _ (pureL_encO _)]
  rfl
def relB (l : List (Int × Int)) (a b : Nat) : Bool := l.any fun p => decide (p.1 = a) && decide (p.2 = b)
theorem relB_snoc {l : List (Int × Int)} {k : Nat} (h : k < l.length) (a b : Nat) : relB (l.take (k + 1)) a b = (relB (l.take k) a b || (decide ((lp l k).1 = a) && decide ((lp l k).2 = b))) := by
  unfold relB
  rw [List.take_succ_eq_append_getElem h, List.any_append, lp_get h]
  simp
theorem tab_set {h w : Nat} {f g : Nat → Nat → Bool} {a b : Nat} (ha : a < h) (hb : b < w) (hg : ∀ x y, g x y = (f x y || (decide (a = x) && decide (b = y)))) : ∀ i, i < h → (tab h w g).getD i [] = if i = a then ((tab h w f).getD i []).set b true else (tab h w f).getD i [] := fun i hi => by
  rw [tab_row hi, tab_row hi]
  by_cases e : i = a
  · subst e
    rw [if_pos rfl]
    refine List.ext_getElem (by simp) fun y h1 h2 => ?_
    simp only [List.getElem_map, List.getElem_range, List.getElem_set, hg]
    by_cases e2 : b = y
    · simp [e2]
    · simp [e2]
  · rw [if_neg e]
    refine List.map_congr_left fun y _ => ?_
    rw [hg]; simp [Ne.symm e]
theorem zeros_eq (w : Nat) : (List.replicate w (.atom (.bool false)) : List PV) = ((List.range w).map fun _ => false).map encO := by
  refine List.ext_getElem (by simp) fun i h1 h2 => by simp [encO]
end Go.Proofs.YtfnkciboencifaaDoor
set_option linter.all false
namespace Go.Proofs.YtfnkciboencifaaDoor
open Go Go.RowKit
set_option linter.unusedSimpArgs false
set_option linter.unusedVariables false
set_option maxRecDepth 20000
set_option maxHeartbeats 2000000
def Bad2 (f : Nat → Nat → Bool) (a b : Nat) : Prop := f a b = false ∧ f b a = false
def Bad3 (f : Nat → Nat → Bool) (a b c : Nat) : Prop := f a b = true ∧ f b c = true ∧ f a c = false
def lt2 (a b a2 b2 : Nat) : Prop := a < a2 ∨ (a = a2 ∧ b < b2)
def lt3 (a b c a2 b2 c2 : Nat) : Prop := a < a2 ∨ (a = a2 ∧ (b < b2 ∨ (b = b2 ∧ c < c2)))
def All2 (w : Nat) (f : Nat → Nat → Bool) : Prop := ∀ a b, a ≤ b → b < w → ¬ Bad2 f a b
def All3 (w : Nat) (f : Nat → Nat → Bool) : Prop := ∀ a b c, a < w → b < w → c < w → ¬ Bad3 f a b c
structure First2 (w : Nat) (f : Nat → Nat → Bool) (a b : Nat) : Prop where
  le : a ≤ b
  lt : b < w
  bad : Bad2 f a b
  first : ∀ x y, lt2 x y a b → x ≤ y → y < w → ¬ Bad2 f x y
structure First3 (w : Nat) (f : Nat → Nat → Bool) (a b c : Nat) : Prop where
  la : a < w
  lb : b < w
  lc : c < w
  bad : Bad3 f a b c
  first : ∀ x y z, lt3 x y z a b c → x < w → y < w → z < w → ¬ Bad3 f x y z
inductive FlawIs (w : Nat) (f : Nat → Nat → Bool) : List Int → Prop
  | none : All2 w f → All3 w f → FlawIs w f []
  | two (a b : Nat) : First2 w f a b → FlawIs w f [(a : Int), (b : Int)]
  | three (a b c : Nat) : All2 w f → First3 w f a b c → FlawIs w f [(a : Int), (b : Int), (c : Int)]
theorem FlawIs.uniq {w : Nat} {f : Nat → Nat → Bool} {l l' : List Int} (h : FlawIs w f l) (h' : FlawIs w f l') : l = l' := by
  cases h with
  | none h2 h3 =>
    cases h' with
    | none => rfl
    | two a b q => exact absurd q.bad (h2 a b q.le q.lt)
    | three a b c _ q => exact absurd q.bad (h3 a b c q.la q.lb q.lc)
  | two a b q =>
    cases h' with
    | none h2 h3 => exact absurd q.bad (h2 a b q.le q.lt)
    | two a' b' q' =>
      have e : a = a' ∧ b = b' := by
        have n1 : ¬ lt2 a b a' b' := fun hl => q'.first a b hl q.le q.lt q.bad
        have n2 : ¬ lt2 a' b' a b := fun hl => q.first a' b' hl q'.le q'.lt q'.bad
        unfold lt2 at n1 n2; omega
      rw [e.1, e.2]
    | three a' b' c' h2 q' => exact absurd q.bad (h2 a b q.le q.lt)
  | three a b c h2 q =>
    cases h' with
    | none _ h3 => exact absurd q.bad (h3 a b c q.la q.lb q.lc)
    | two a' b' q' => exact absurd q'.bad (h2 a' b' q'.le q'.lt)
    | three a' b' c' _ q' =>
      have e : a = a' ∧ b = b' ∧ c = c' := by
        have n1 : ¬ lt3 a b c a' b' c' := fun hl => q'.first a b c hl q.la q.lb q.lc q.bad
        have n2 : ¬ lt3 a' b' c' a b c := fun hl => q.first a' b' c' hl q'.la q'.lb q'.lc q'.bad
        unfold lt3 at n1 n2; omega
      rw [e.1, e.2.1, e.2.2]
noncomputable def flawS (w : Nat) (f : Nat → Nat → Bool) : List Int := by
  classical exact if h : ∃ l, FlawIs w f l then h.choose else []
theorem flawS_eq {w : Nat} {f : Nat → Nat → Bool} {l : List Int} (h : FlawIs w f l) : flawS w f = l := by
  unfold flawS
  have hx : ∃ l, FlawIs w f l := ⟨l, h⟩
  rw [dif_pos hx]
  exact hx.choose_spec.uniq h
theorem renL_bools (ρ : Nat → Nat) (l : List (List Bool)) : renL ρ (l.map bools) = l.map bools := renL_pure ρ _ (pureL_bools l)
theorem renL_encP (ρ : Nat → Nat) (l : List (Int × Int)) : renL ρ (l.map encP) = l.map encP := renL_pure ρ _ (pureL_encP l)
theorem getD_bools {l : List (List Bool)} {k : Nat} (h : k < l.length) : (l.map bools).getD k .junk = bools (l.getD k []) := by
  simp [List.getD_eq_getElem?_getD, h]
theorem getD_range {w b : Nat} {g : Nat → Bool} (h : b < w) : ((List.range w).map g).getD b false = g b := by
  simp [List.getD_eq_getElem?_getD, h]
theorem getD_rowO {w b : Nat} {g : Nat → Bool} (h : b < w) : (((List.range w).map g).map encO).getD b .junk = encO (g b) := by
  rw [getD_encO (by simpa using h), getD_range h]
theorem getD_tab {h w : Nat} {f : Nat → Nat → Bool} {a : Nat} (ha : a < h) : ((tab h w f).map bools).getD a .junk = .sl 1 (((List.range w).map fun b => f a b).map encO) := by
  rw [getD_bools (by rw [tab_len]; exact ha), tab_row ha]; rfl
noncomputable def totR (n : Int) (ps : List (Int × Int)) : List Int := if relE n ps = 0 then flawS n.toNat (relB ps) else []
noncomputable def totB (n : Int) (ps : List (Int × Int)) : Bool := tB (relE n ps = 0 ∧ flawS n.toNat (relB ps) = [])
theorem relE_zero {n : Int} {ps : List (Int × Int)} (h : relE n ps = 0) : n ≤ 64 ∧ ps.length ≤ 4096 ∧ 0 ≤ n ∧ ∀ p, p ∈ ps → ¬ OutP n p := by
  unfold relE at h
  split at h
  · cases h
  · split at h
    · cases h
    · refine ⟨by omega, by omega, by omega, fun p hp ho => ?_⟩
      rw [tI_yes ⟨p, hp, ho⟩] at h
      cases h
theorem tot_bad {n : Int} {ps : List (Int × Int)} (h : relE n ps ≠ 0) : totR n ps = [] ∧ totB n ps = false := ⟨if_neg h, tB_no fun hx => h hx.1⟩
def SoFar2 (w : Nat) (f : Nat → Nat → Bool) (a b : Nat) : Prop := ∀ x y, lt2 x y a b → x ≤ y → y < w → ¬ Bad2 f x y
def SoFar3 (w : Nat) (f : Nat → Nat → Bool) (a b c : Nat) : Prop := ∀ x y z, lt3 x y z a b c → x < w → y < w → z < w → ¬ Bad3 f x y z
theorem SoFar2.start (w : Nat) (f : Nat → Nat → Bool) : SoFar2 w f 0 0 := fun x y h => by unfold lt2 at h; omega
theorem SoFar2.next {w : Nat} {f : Nat → Nat → Bool} {a b : Nat} (h : SoFar2 w f a b) (hb : ¬ Bad2 f a b) : SoFar2 w f a (b + 1) := fun x y hl h1 h2 hx => by
  by_cases e : x = a ∧ y = b
  · rw [e.1, e.2] at hx; exact hb hx
  · exact h x y (by unfold lt2 at hl ⊢; omega) h1 h2 hx
theorem SoFar2.row {w : Nat} {f : Nat → Nat → Bool} {a b : Nat} (h : SoFar2 w f a b) (hb : w ≤ b) : SoFar2 w f (a + 1) (a + 1) := fun x y hl h1 h2 hx =>
  h x y (by unfold lt2 at hl ⊢; omega) h1 h2 hx
theorem SoFar2.col {w : Nat} {f : Nat → Nat → Bool} {a : Nat} (h : SoFar2 w f a a) (k : Nat) (hk : k ≤ a) : SoFar2 w f a k := fun x y hl h1 h2 hx =>
  h x y (by unfold lt2 at hl ⊢; omega) h1 h2 hx
theorem SoFar2.done {w : Nat} {f : Nat → Nat → Bool} {a : Nat} (h : SoFar2 w f a a) (ha : w ≤ a) : All2 w f := fun x y h1 h2 hx => h x y (by unfold lt2; omega) h1 h2 hx
theorem SoFar3.start (w : Nat) (f : Nat → Nat → Bool) : SoFar3 w f 0 0 0 := fun x y z h => by unfold lt3 at h; omega
theorem SoFar3.next {w : Nat} {f : Nat → Nat → Bool} {a b c : Nat} (h : SoFar3 w f a b c) (hb : ¬ Bad3 f a b c) : SoFar3 w f a b (c + 1) := fun x y z hl h1 h2 h3 hx => by
  by_cases e : x = a ∧ y = b ∧ z = c
  · rw [e.1, e.2.1, e.2.2] at hx; exact hb hx
  · exact h x y z (by unfold lt3 at hl ⊢; omega) h1 h2 h3 hx
theorem SoFar3.col {w : Nat} {f : Nat → Nat → Bool} {a b c : Nat} (h : SoFar3 w f a b c) (hb : w ≤ c) : SoFar3 w f a (b + 1) 0 := fun x y z hl h1 h2 h3 hx =>
  h x y z (by unfold lt3 at hl ⊢; omega) h1 h2 h3 hx
theorem SoFar3.row {w : Nat} {f : Nat → Nat → Bool} {a b : Nat} (h : SoFar3 w f a b 0) (hb : w ≤ b) : SoFar3 w f (a + 1) 0 0 := fun x y z hl h1 h2 h3 hx =>
  h x y z (by unfold lt3 at hl ⊢; omega) h1 h2 h3 hx
theorem SoFar3.done {w : Nat} {f : Nat → Nat → Bool} {a : Nat} (h : SoFar3 w f a 0 0) (ha : w ≤ a) : All3 w f := fun x y z h1 h2 h3 hx => h x y z (by unfold lt3; omega) h1 h2 h3 hx
def lessR (w : Nat) (f : Nat → Nat → Bool) (a : Nat) : Nat := ((List.range w).filter fun b => f b a && !f a b).length
theorem less_step (w : Nat) (f : Nat → Nat → Bool) (a k : Nat) : ((List.range (k + 1)).filter fun b => f b a && !f a b).length = ((List.range k).filter fun b => f b a && !f a b).length + (if f k a && !f a k then 1 else 0) := by
  rw [List.range_succ, List.filter_append, List.length_append]
  congr 1
  by_cases h : (f k a && !f a k) = true <;> simp [h]
def ranks (w : Nat) (f : Nat → Nat → Bool) (k : Nat) : List Int := (List.range k).map fun a => (lessR w f a : Int)
theorem ranks_succ (w : Nat) (f : Nat → Nat → Bool) (k : Nat) : ranks w f (k + 1) = ranks w f k ++ [(lessR w f k : Int)] := by simp [ranks, List.range_succ]
theorem ranks_len (w : Nat) (f : Nat → Nat → Bool) (k : Nat) : (ranks w f k).length = k := by simp [ranks]
noncomputable def rankE (n : Int) (ps : List (Int × Int)) : Int := if relE n ps ≠ 0 then relE n ps else if totB n ps = true then 0 else 15
noncomputable def rankR (n : Int) (ps : List (Int × Int)) : List Int := if rankE n ps = 0 then ranks n.toNat (relB ps) n.toNat else []
theorem rank_bad {n : Int} {ps : List (Int × Int)} (h : relE n ps ≠ 0) : rankE n ps = relE n ps ∧ rankR n ps = [] := by
  have e : rankE n ps = relE n ps := if_pos h
  exact ⟨e, if_neg (by rw [e]; exact h)⟩
theorem rank_rule {n : Int} {ps : List (Int × Int)} (h : relE n ps = 0) (hb : totB n ps = false) : rankE n ps = 15 ∧ rankR n ps = [] := by
  have e : rankE n ps = 15 := by unfold rankE; rw [if_neg (by rw [h]; decide), if_neg (by rw [hb]; decide)]
  exact ⟨e, if_neg (by rw [e]; decide)⟩
theorem rank_ok {n : Int} {ps : List (Int × Int)} (h : relE n ps = 0) (hb : totB n ps = true) : rankE n ps = 0 ∧ rankR n ps = ranks n.toNat (relB ps) n.toNat := by
  have e : rankE n ps = 0 := by unfold rankE; rw [if_neg (by rw [h]; decide), if_pos hb]
  exact ⟨e, if_pos e⟩
end Go.Proofs.YtfnkciboencifaaDoor
set_option linter.all false
namespace Go.Proofs.YtfnkciboencifaaDoor
open Go Go.RowKit
set_option linter.unusedSimpArgs false
set_option linter.unusedVariables false
set_option maxRecDepth 20000
set_option maxHeartbeats 2000000
theorem leqW13 {p : Prop} (h : p := by (refine ⟨4, ?_, ?_, rfl, by simp, rfl, fun _ h _ => absurd h (Nat.not_lt_zero _)⟩ <;> (simp only [List.forall_mem_cons]; repeat' (first | refine And.intro ?_ ?_ | (intro p hp; exact absurd hp List.not_mem_nil) | rfl | exact sp (pure_pairs _) | exact sp (pure_bools _) | exact sp (pure_rows _) | exact (sealed_pure _ _ _ (pure_ints _)).trans (ren_ints _ _).symm | exact (sealed_pure _ _ _ (pure_strs _)).trans (ren_strs _ _).symm | exact sp (by assumption) | (intro o ho; cases ho; refine ⟨by decide, ?_⟩; first | (refine LeqS.row rfl ?_ ?_; (next => (first | rfl | (simp only [List.map_append, List.map_cons, List.map_nil, List.append_nil, List.nil_append, List.append_assoc, List.cons_append, encI, encS, ints, strs]; done) | (simp [encI, encS, ints, strs]; done))); (next => (first | rfl | exact pureL_encI _ | exact pureL_encS _ | exact pureL_ints _ | exact pureL_strs _ | (simp [pureL_append, pureL_encI, pureL_encS, pureL_ints, pureL_strs, pureL, PV.pure, pure_ints, pure_strs, pure_pairs, pure_bools, pure_rows, pureL_encP, pureL_bools, pureL_encO]; done))); done) | refine ⟨_, rfl, rfl, ?_⟩) | (simp [St.born, St.known, retV, St.get, St.obj, lk, sealed, PV.ren, renL, rmap, AO.ren, ints, strs, encI, encS, map_sealed_encI, map_sealed_encS, map_sealed_ints, map_sealed_strs, map_ren_encI, map_ren_encS, map_ren_ints, map_ren_strs, renL_encI, renL_encS, renL_ints, renL_strs, ren_pairs, ren_bools, ren_rows] <;> omega))))) : p := h
theorem famW13 {p : Prop} (h : p := by (repeat' (first | refine List.forall_mem_cons.2 ⟨?_, ?_⟩ | (intro p hp; exact absurd hp List.not_mem_nil) | exact .inr ⟨rfl, rfl⟩ | exact .inl ⟨by first | rfl | (simp [PV.pure, pureL, pureL_encI, pureL_encS, pureL_ints, pureL_strs, pure_pairs, pure_bools, pure_rows, pureL_encP, pureL_bools, pureL_encO]; done), rfl⟩))) : p := h
theorem lstW13 {p : Prop} (h : p := by (first | rfl | (simp [St.born, St.known, retV, St.get, St.obj, lk, sealed, PV.ren, renL, rmap, AO.ren, ints, strs, encI, encS, map_sealed_encI, map_sealed_encS, map_sealed_ints, map_sealed_strs, map_ren_encI, map_ren_encS, map_ren_ints, map_ren_strs, renL_encI, renL_encS, renL_ints, renL_strs, ren_pairs, ren_bools, ren_rows, take_map_len, List.take_length]; done))) : p := h
theorem lpvW13 {p : Prop} (h : p := by (first | rfl | (simp [pure_ints, pure_strs, PV.pure, pureL, pureL_encI, pureL_encS, pureL_ints, pureL_strs, pure_pairs, pure_bools, pure_rows, pureL_encP, pureL_bools, pureL_encO]; done))) : p := h
theorem trOk_rd {nx0 : Nat} {Dl : List (List Nat)} {tr : List Tr} (h : ∀ x, x ∈ tr → x.del = [] ∧ x.st = [] ∧ ∀ i, i ∈ x.rd → i < nx0) : trOk nx0 Dl tr = true := by
  unfold trOk
  rw [List.all_eq_true]
  intro k _
  split
  · rename_i x hx
    have hxm := List.mem_of_getElem? hx
    obtain ⟨h1, h2, h3⟩ := h x hxm
    rw [Bool.and_eq_true]
    constructor
    · rw [List.all_eq_true]
      intro i hi
      rw [h1, h2, List.append_nil, List.append_nil] at hi
      rw [Bool.or_eq_true]
      exact .inl (decide_eq_true (h3 i hi))
    · rw [List.all_eq_true]
      intro m _
      split
      · rename_i y hy
        obtain ⟨g1, g2, _⟩ := h y (List.mem_of_getElem? hy)
        rw [g1, g2]; simp
      · rfl
  · rfl
def nilV : PV := .atom (.slice none 0 0)
theorem leq_fam2 {S : St} {env : List (Nat × PV)} {j n w m : Nat} {r : List (List Bool)} {tl : List PV} (hn : r.length = n) (htl : pureL tl = true) (h0 : S.obj j = some ⟨1, famP n w ++ tl⟩) (hr : ∀ i, i < n → S.obj (i + 1) = some ⟨1, (r.getD i []).map encO⟩) (hj : j = 0 ∨ n < j)
    (he : ∀ p, p ∈ env → (p.2.pure = true ∧ S.get p.1 = p.2) ∨ (p.2 = .ob 0 1 0 m ∧ S.get p.1 = .ob j 1 0 m)) (hg : S.gh = []) : Leq (famL j n) S ⟨env, (0, some ⟨1, famP n w ++ tl⟩) :: objEnv 1 (famO r), n + 1, []⟩ := by
  subst hn
  refine ⟨4, fun p hp => ?_, fun p hp o ho => ?_, by simp [famL], ?_, by rw [hg], fun i h => absurd h (Nat.not_lt_zero _)⟩
  · rcases he p hp with ⟨h1, h2⟩ | ⟨h1, h2⟩
    · rw [h2]; exact sp h1
    · rw [h2, h1]
      have : (famL j r.length).contains j = true := by rw [List.contains_iff_mem]; exact List.mem_cons_self ..
      simp only [sealed, this, if_true, PV.ren, famL_zero]
  · rcases List.mem_cons.1 hp with rfl | hp
    · cases ho
      refine ⟨by simp [famL], _, by rw [famL_zero]; exact h0, rfl, ?_⟩
      show (famP _ _ ++ tl).map _ = (famP _ _ ++ tl).map _
      rw [List.map_append, List.map_append, famP_keep, map_sealed_pure _ _ _ htl, map_ren_pure _ htl]
    · obtain ⟨i, h1, h2⟩ := objEnv_mem hp
      have hi : i < r.length := by
        have := (List.getElem?_eq_some_iff.1 h1).1
        simpa [famO] using this
      rw [ho] at h1
      simp only [famO, List.getElem?_map, List.getElem?_eq_getElem hi, Option.map_some, Option.some.injEq] at h1
      subst h1
      have e : p.1 = i + 1 := by omega
      rw [e]
      have e2 : r.getD i [] = r[i] := by simp [List.getD_eq_getElem?_getD, hi]
      have hri := hr i hi
      rw [e2] at hri
      refine ⟨by simp [famL, hi], _, by rw [famL_succ hi]; exact hri, rfl, ?_⟩
      rw [map_sealed_pure _ _ _ (pureL_encO _), map_ren_pure _ (pureL_encO _)]
  · unfold famL
    rw [List.nodup_cons]
    refine ⟨fun h => ?_, ?_⟩
    · obtain ⟨i, hi, he⟩ := List.mem_map.1 h
      have := List.mem_range.1 hi
      omega
    · exact List.Pairwise.map _ (fun a b h => by simpa using h) List.nodup_range
theorem pureL_rep (m : Nat) : pureL (List.replicate m nilV) = true := by
  rw [pureL_all, List.all_eq_true]
  intro x hx
  rw [(List.mem_replicate.1 hx).2]; rfl
theorem fam_set {k w m : Nat} (h : k < m) : (famP k w ++ List.replicate (m - k) nilV).set k (.ob (k + 1) 1 0 w) = famP (k + 1) w ++ List.replicate (m - (k + 1)) nilV := by
  have e : m - k = (m - (k + 1)) + 1 := by omega
  rw [famP_succ, e, List.replicate_succ, List.append_assoc, List.set_append_right _ _ (by rw [famP_len]; exact Nat.le_refl _), famP_len, Nat.sub_self]
  rfl
theorem getD_fam {k w m : Nat} (h : k < m) : (famP k w ++ List.replicate (m - k) nilV).getD k .junk = .atom (.slice none 0 0) := by
  have e : m - k = (m - (k + 1)) + 1 := by omega
  rw [e, List.replicate_succ, List.getD_eq_getElem?_getD, List.getElem?_append_right (by rw [famP_len]; exact Nat.le_refl _), famP_len, Nat.sub_self]
  rfl
noncomputable def relRows (n : Int) (ps : List (Int × Int)) : List (List Bool) := if relE n ps = 0 then tab n.toNat n.toNat (relB ps) else []
theorem relE_many {n : Int} {ps : List (Int × Int)} (h : 64 < n ∨ 4096 < ps.length) : relE n ps = 4 ∧ relRows n ps = [] := by
  have e : relE n ps = 4 := if_pos h
  exact ⟨e, if_neg (by rw [e]; decide)⟩
theorem relE_neg {n : Int} {ps : List (Int × Int)} (h : ¬ (64 < n ∨ 4096 < ps.length)) (h0 : n < 0) : relE n ps = 1 ∧ relRows n ps = [] := by
  have e : relE n ps = 1 := by unfold relE; rw [if_neg h, if_pos h0]
  exact ⟨e, if_neg (by rw [e]; decide)⟩
theorem relE_out {n : Int} {ps : List (Int × Int)} (h : ¬ (64 < n ∨ 4096 < ps.length)) (h0 : ¬ n < 0) (ho : ∃ p, p ∈ ps ∧ OutP n p) : relE n ps = 1 ∧ relRows n ps = [] := by
  have e : relE n ps = 1 := by unfold relE; rw [if_neg h, if_neg h0, tI_yes ho]
  exact ⟨e, if_neg (by rw [e]; decide)⟩
theorem relE_ok {n : Int} {ps : List (Int × Int)} (h : ¬ (64 < n ∨ 4096 < ps.length)) (h0 : ¬ n < 0) (ho : ¬ ∃ p, p ∈ ps ∧ OutP n p) : relE n ps = 0 ∧ relRows n ps = tab n.toNat n.toNat (relB ps) := by
  have e : relE n ps = 0 := by unfold relE; rw [if_neg h, if_neg h0, tI_no ho]
  exact ⟨e, if_pos e⟩
theorem relation_pure (n : Int) (ps : List (Int × Int)) (hp : ps.length ≤ 1000000000) : Pure Tryd.prog 56 [encI n, pairs ps] (.tup [rows (relRows n ps), encI (relE n ps)]) [] := by
  refine Pure.intro (ts := [4, 5]) Tryd.func56 (by kernel_rfl) rfl rfl rfl (Nat.le_of_ble_eq_true rfl) ?_ ?_
  · simp [encI, PV.pure, pure_pairs, pureL]
  refine sY [0, 1] (fun P S K => K ⟨[(0, S.get 0), (1, S.get 1)], S.hp, S.nx, S.gh⟩) ?_
  all_goals
  refine Tri.seq ?_
  refine sZ [0, 1, 16] (fun P S K => XvBinOV P .gtr 3 (.const (.int .i64 64)) (S.get 0) (.atom (.int .i64 64)) (fun r1 _ => Xgq r1 false (fun k => k (S.get 1)) (fun g3 r3 => Xgq g3 false (fun k => XvLen P 57 r3 (fun r4 _ => k r4)) (fun g4 r4 => Xgq g4 false (fun k => XvBinOV P .gtr 3 (.const (.int .i64 4096)) r4 (.atom (.int .i64 4096)) (fun r5 _ => k r5)) (fun g5 r5 => XvPick g5 (.atom (.bool true)) r5 (fun r6 _ => K ⟨[(0, S.get 0), (1, S.get 1), (16, r6)], S.hp, S.nx, S.gh⟩)))))) fun K hK => ?_
  repeat' (first | (refine hK _ ?_; clear hK K) | ((first | refine xG_intro (fun hg => ?_) (fun hg => ?_) | refine fun (hg : (_ : Prop)) => ?_) <;> ((try simp only [BQ] at hg); try (exfalso; omega))) | refine And.intro ?_ ?_ | exact cl | refine one_take ?_ _ | refine one_drop ?_ _ | (refine st ?_; try simp only [pairs, encO]) | simp only [pairs, encO])
  all_goals
  refine Tri.cond rfl (fun h16 => ?_) (fun h16 => ?_)
  ·try (cases h16; done)
   all_goals (try simp only [CQ] at h16)
   all_goals
   refine sY [4, 5] (fun P S K => K ⟨[(4, (.atom (.slice none 0 0))), (5, (.atom (.int .i64 4)))], S.hp, S.nx, S.gh⟩) ?_
   refine Tri.asSl 4 1 rfl ?_
   all_goals
   refine Tri.ret ?_
   show ResOk _ _ _ _
   rw [(relE_many (by omega)).1, (relE_many (by omega)).2]
   exact ResOk.frz 5 lstW13 lpvW13
  ·try (cases h16; done)
   all_goals (try simp only [CQ] at h16)
   all_goals
   refine Tri.skip ?_
   refine Tri.seq ?_
   refine sY [0, 1, 18] (fun P S K => XvBinOV P .lss 3 (.const (.int .i64 0)) (S.get 0) (.atom (.int .i64 0)) (fun r1 _ => K ⟨[(0, S.get 0), (1, S.get 1), (18, r1)], S.hp, S.nx, S.gh⟩)) ?_
   all_goals
   refine Tri.cond rfl (fun h18 => ?_) (fun h18 => ?_)
   ·try (cases h18; done)
    all_goals (try simp only [CQ] at h18)
    all_goals
    refine sY [4, 5] (fun P S K => K ⟨[(4, (.atom (.slice none 0 0))), (5, (.atom (.int .i64 1)))], S.hp, S.nx, S.gh⟩) ?_
    refine Tri.asSl 4 1 rfl ?_
    all_goals
    refine Tri.ret ?_
    show ResOk _ _ _ _
    rw [(relE_neg (by omega) (by omega)).1, (relE_neg (by omega) (by omega)).2]
    exact ResOk.frz 5 lstW13 lpvW13
   ·try (cases h18; done)
    all_goals (try simp only [CQ] at h18)
    all_goals
    refine Tri.skip ?_
    refine sZ [0, 1, 6] (fun P S K => XvMake P 91 (M S.hp S.nx) (S.get 0) (S.get 0) (fun r1 e1 => K ⟨[(0, S.get 0), (1, S.get 1), (6, r1)], (Eff.hp e1 S.nx S.hp), (S.nx + e1.add.length), S.gh⟩)) fun K hK => ?_
    repeat' (first | (refine hK _ ?_; clear hK K) | ((first | refine xG_intro (fun hg => ?_) (fun hg => ?_) | refine fun (hg : (_ : Prop)) => ?_) <;> ((try simp only [BQ] at hg); try (exfalso; omega))) | refine And.intro ?_ ?_ | exact cl | refine one_take ?_ _ | refine one_drop ?_ _ | (refine st ?_; try simp only [pairs, encO]) | simp only [pairs, encO])
    all_goals
    refine Tri.seq ?_
    refine sZ [0, 1, 6, 22, 23] (fun P S K => XvLen P 91 (S.get 6) (fun r1 _ => K ⟨[(0, S.get 0), (1, S.get 1), (6, S.get 6), (22, r1), (23, (.atom (.int .i64 0)))], S.hp, S.nx, S.gh⟩)) fun K hK => ?_
    repeat' (first | (refine hK _ ?_; clear hK K) | ((first | refine xG_intro (fun hg => ?_) (fun hg => ?_) | refine fun (hg : (_ : Prop)) => ?_) <;> ((try simp only [BQ] at hg); try (exfalso; omega))) | refine And.intro ?_ ?_ | exact cl | refine one_take ?_ _ | refine one_drop ?_ _ | (refine st ?_; try simp only [pairs, encO]) | simp only [pairs, encO])
    all_goals
    refine Tri.block ?_
    refine Tri.loop (α := (k : Nat) ×' (k ≤ n.toNat)) (fun z => (fun (k : Nat) => (⟨[(0, encI n), (1, pairs ps), (6, .ob 0 1 0 n.toNat), (22, encI (n.toNat : Nat)), (23, encI k)], ((0, some ⟨1, famP k n.toNat ++ List.replicate (n.toNat - k) nilV⟩) :: objEnv 1 (famO (tab k n.toNat fun _ _ => false))), k + 1, []⟩ : St)) z.1) (fun z => (fun (k : Nat) => n.toNat - k) z.1) ⟨0, Nat.zero_le _⟩ (famL 0 0) ?_ ?_
    ·exact leq_fam2 (m := n.toNat) (n := 0) (w := n.toNat) (r := tab 0 n.toNat fun _ _ => false) (tl := List.replicate (n.toNat - 0) nilV) rfl (pureL_rep _) rfl (fun i hi => absurd hi (Nat.not_lt_zero _)) (.inl rfl) famW13 rfl
    ·rintro ⟨k, hk⟩
     refine sY [0, 1, 6, 22, 23, 24] (fun P S K => XvBinOV P .lss 3 (.tmp 22) (S.get 23) (S.get 22) (fun r0 _ => K ⟨[(0, S.get 0), (1, S.get 1), (6, S.get 6), (22, S.get 22), (23, S.get 23), (24, r0)], S.hp, S.nx, S.gh⟩)) ?_
     all_goals
     refine Tri.seq ?_
     refine Tri.cond rfl (fun h24 => ?_) (fun h24 => ?_)
     ·try (cases h24; done)
      all_goals (try simp only [CQ] at h24)
      all_goals
      refine Tri.skip ?_
      refine Tri.seq ?_
      refine Tri.block ?_
      refine sY [0, 1, 6, 7, 22, 23] (fun P S K => K ⟨[(0, S.get 0), (1, S.get 1), (6, S.get 6), (7, (S.get 23)), (22, S.get 22), (23, S.get 23)], S.hp, S.nx, S.gh⟩) ?_
      all_goals
      have hkw : k < n.toNat := by omega
      refine rZ [0, 1, 6, 22, 23] (fun P S K => XvMake P 65 (M S.hp S.nx) (S.get 0) (S.get 0) (fun r3 e3 => XvIndexAddr P 91 (S.get 6) (S.get 7) (fun r4 _ => XvStore P 65 (M (Eff.hp e3 S.nx S.hp) (S.nx + e3.add.length)) r4 r3 (fun r5 e5 => K ⟨[(0, S.get 0), (1, S.get 1), (6, S.get 6), (22, S.get 22), (23, S.get 23)], (Eff.hp e5 (S.nx + e3.add.length) (Eff.hp e3 S.nx S.hp)), ((S.nx + e3.add.length) + e5.add.length), S.gh⟩)))) fun K hK => ?_
      repeat' (first | (refine hK _ ?_; clear hK K) | ((first | refine xG_intro (fun hg => ?_) (fun hg => ?_) | refine fun (hg : (_ : Prop)) => ?_) <;> ((try simp only [BQ] at hg); try (exfalso; omega))) | refine And.intro ?_ ?_ | exact cl | refine one_take ?_ _ | refine one_drop ?_ _ | (refine st ?_; try simp only [pairs, encO, famP_len, getD_fam hkw]) | simp only [pairs, encO, famP_len, getD_fam hkw])
      all_goals
      refine rY [0, 1, 6, 22, 23] (fun P S K => XvBinOV P .add 3 (.const (.int .i64 1)) (S.get 23) (.atom (.int .i64 1)) (fun r0 _ => K ⟨[(0, S.get 0), (1, S.get 1), (6, S.get 6), (22, S.get 22), (23, r0)], S.hp, S.nx, S.gh⟩)) ?_
      all_goals try simp (disch := omega) only [wrap_id, wrap8_id]
      all_goals
      refine ⟨⟨k + 1, by omega⟩, famL 0 (k + 1), by dsimp only; omega, ?_⟩
      refine leq_fam2 (m := n.toNat) (tab_len _ _ _) (pureL_rep _) ?_ (fun i hi => ?_) (.inl rfl) famW13 rfl
      · show some (AO.mk 1 ((famP k n.toNat ++ List.replicate (n.toNat - k) nilV).set k (.ob (k + 1) 1 0 n.toNat))) = _
        rw [fam_set (by omega)]
      · have a4 : ¬ 0 = i + 1 := by omega
        rcases Nat.lt_succ_iff_lt_or_eq.1 hi with hi | rfl
        · have a3 : ¬ k + 1 = i + 1 := by omega
          simp only [St.obj, lk, a3, a4, if_false]
          rw [lk_fam (by rw [tab_len]; exact hi), tab_row hi, tab_row (by omega)]
          rfl
        · simp only [St.obj, lk, a4, if_false, if_true]
          rw [tab_row (by omega), zeros_eq]
          rfl
     ·try (cases h24; done)
      all_goals (try simp only [CQ] at h24)
      all_goals
      refine Tri.exit ?_
      refine Tri.seq ?_
      have hkn : k = n.toNat := by omega
      subst hkn
      refine sZ [0, 6, 32, 33, 34] (fun P S K => XvLen P 57 (S.get 1) (fun r1 _ => K ⟨[(0, S.get 0), (6, S.get 6), (32, (S.get 1)), (33, r1), (34, (.atom (.int .i64 0)))], S.hp, S.nx, S.gh⟩)) fun K hK => ?_
      repeat' (first | (refine hK _ ?_; clear hK K) | ((first | refine xG_intro (fun hg => ?_) (fun hg => ?_) | refine fun (hg : (_ : Prop)) => ?_) <;> ((try simp only [BQ] at hg); try (exfalso; omega))) | refine And.intro ?_ ?_ | exact cl | refine one_take ?_ _ | refine one_drop ?_ _ | (refine st ?_; try simp only [pairs, encO]) | simp only [pairs, encO])
      all_goals
      refine Tri.block ?_
      refine Tri.loop (α := (k : Nat) ×' (k ≤ ps.length ∧ ∀ j, j < k → ¬ OutP n (lp ps j))) (fun z => (fun (k : Nat) => (⟨[(0, encI n), (6, .ob 0 1 0 n.toNat), (32, pairs ps), (33, encI (ps.length : Nat)), (34, encI k)], ((0, some ⟨1, famP n.toNat n.toNat⟩) :: objEnv 1 (famO (tab n.toNat n.toNat (relB (ps.take k))))), n.toNat + 1, []⟩ : St)) z.1) (fun z => (fun (k : Nat) => ps.length - k) z.1) ⟨0, ⟨Nat.zero_le _, fun j hj => absurd hj (Nat.not_lt_zero _)⟩⟩ (famL 0 n.toNat) ?_ ?_
      ·refine leq_fam (m := n.toNat) (tab_len _ _ _) (by simp [St.obj, lk]) (fun i hi => ?_) (.inl rfl) famW13 rfl
       have a4 : ¬ 0 = i + 1 := by omega
       simp only [St.obj, lk, a4, if_false]
       rw [lk_fam (by rw [tab_len]; exact hi), tab_row hi, tab_row hi]
       rfl
      ·rintro ⟨k, ⟨hk2, hno⟩⟩
       refine sY [0, 6, 32, 33, 34, 35] (fun P S K => XvBinOV P .lss 3 (.tmp 33) (S.get 34) (S.get 33) (fun r0 _ => K ⟨[(0, S.get 0), (6, S.get 6), (32, S.get 32), (33, S.get 33), (34, S.get 34), (35, r0)], S.hp, S.nx, S.gh⟩)) ?_
       all_goals
       refine Tri.seq ?_
       refine Tri.cond rfl (fun h35 => ?_) (fun h35 => ?_)
       ·try (cases h35; done)
        all_goals (try simp only [CQ] at h35)
        all_goals
        refine Tri.skip ?_
        refine Tri.seq ?_
        refine Tri.block ?_
        have hkl : k < ps.length := by omega
        refine sZ [0, 6, 9, 32, 33, 34] (fun P S K => XvIndexAddr P 57 (S.get 32) (S.get 34) (fun r0 _ => XvLoad P 58 (M S.hp S.nx) r0 (fun r1 _ => XvAlloc P 58 S.nx (fun r2 e2 => XvStore P 58 (M (Eff.hp e2 S.nx S.hp) (S.nx + e2.add.length)) r2 r1 (fun r3 e3 => K ⟨[(0, S.get 0), (6, S.get 6), (9, r2), (32, S.get 32), (33, S.get 33), (34, S.get 34)], (Eff.hp e3 (S.nx + e2.add.length) (Eff.hp e2 S.nx S.hp)), ((S.nx + e2.add.length) + e3.add.length), S.gh⟩))))) fun K hK => ?_
        repeat' (first | (refine hK _ ?_; clear hK K) | ((first | refine xG_intro (fun hg => ?_) (fun hg => ?_) | refine fun (hg : (_ : Prop)) => ?_) <;> ((try simp only [BQ] at hg); try (exfalso; omega))) | refine And.intro ?_ ?_ | exact cl | refine one_take ?_ _ | refine one_drop ?_ _ | (refine st ?_; try simp only [pairs, encO, getD_encP hkl, encP]) | simp only [pairs, encO, getD_encP hkl, encP])
        all_goals
        refine Tri.seq ?_
        refine sZ [0, 6, 9, 32, 33, 34, 57] (fun P S K => XvIndexAddr P 58 (S.get 9) (.atom (.int .i64 0)) (fun r0 _ => XvLoad P 3 (M S.hp S.nx) r0 (fun r1 _ => XvBinOV P .lss 3 (.const (.int .i64 0)) r1 (.atom (.int .i64 0)) (fun r2 _ => Xgq r2 false (fun k => XvIndexAddr P 58 (S.get 9) (.atom (.int .i64 0)) (fun r4 _ => k r4)) (fun g4 r4 => Xgq g4 false (fun k => XvLoad P 3 (M S.hp S.nx) r4 (fun r5 _ => k r5)) (fun g5 r5 => Xgq g5 false (fun k => k (S.get 0)) (fun g6 r6 => Xgq g6 false (fun k => XvBinOV P .geq 3 (.tmp 44) r5 r6 (fun r7 _ => k r7)) (fun g7 r7 => XvPick g7 (.atom (.bool true)) r7 (fun r8 _ => Xgq r8 false (fun k => XvIndexAddr P 58 (S.get 9) (.atom (.int .i64 1)) (fun r10 _ => k r10)) (fun g10 r10 => Xgq g10 false (fun k => XvLoad P 3 (M S.hp S.nx) r10 (fun r11 _ => k r11)) (fun g11 r11 => Xgq g11 false (fun k => XvBinOV P .lss 3 (.const (.int .i64 0)) r11 (.atom (.int .i64 0)) (fun r12 _ => k r12)) (fun g12 r12 => XvPick g12 (.atom (.bool true)) r12 (fun r13 _ => Xgq r13 false (fun k => XvIndexAddr P 58 (S.get 9) (.atom (.int .i64 1)) (fun r15 _ => k r15)) (fun g15 r15 => Xgq g15 false (fun k => XvLoad P 3 (M S.hp S.nx) r15 (fun r16 _ => k r16)) (fun g16 r16 => Xgq g16 false (fun k => k (S.get 0)) (fun g17 r17 => Xgq g17 false (fun k => XvBinOV P .geq 3 (.tmp 55) r16 r17 (fun r18 _ => k r18)) (fun g18 r18 => XvPick g18 (.atom (.bool true)) r18 (fun r19 _ => K ⟨[(0, S.get 0), (6, S.get 6), (9, S.get 9), (32, S.get 32), (33, S.get 33), (34, S.get 34), (57, r19)], S.hp, S.nx, S.gh⟩)))))))))))))))))) fun K hK => ?_
        repeat' (first | (refine hK _ ?_; clear hK K) | ((first | refine xG_intro (fun hg => ?_) (fun hg => ?_) | refine fun (hg : (_ : Prop)) => ?_) <;> ((try simp only [BQ] at hg); try (exfalso; omega))) | refine And.intro ?_ ?_ | exact cl | refine one_take ?_ _ | refine one_drop ?_ _ | (refine st ?_; try simp only [pairs, encO]) | simp only [pairs, encO])
        all_goals
        refine Tri.cond rfl (fun h57 => ?_) (fun h57 => ?_)
        ·try (cases h57; done)
         all_goals (try simp only [CQ] at h57)
         all_goals
         refine sY [4, 5] (fun P S K => K ⟨[(4, (.atom (.slice none 0 0))), (5, (.atom (.int .i64 1)))], S.hp, S.nx, S.gh⟩) ?_
         refine Tri.asSl 4 1 rfl ?_
         all_goals
         refine Tri.ret ?_
         show ResOk _ _ _ _
         have ho : ∃ p, p ∈ ps ∧ OutP n p := ⟨_, lp_mem hkl, by unfold OutP; omega⟩
         rw [(relE_out (by omega) (by omega) ho).1, (relE_out (by omega) (by omega) ho).2]
         exact ResOk.frz 5 lstW13 lpvW13
        ·try (cases h57; done)
         all_goals (try simp only [CQ] at h57)
         all_goals
         refine Tri.skip ?_
         have hpo : ¬ OutP n (lp ps k) := by unfold OutP; omega
         have ha : (lp ps k).1.toNat < n.toNat := by omega
         have hb : (lp ps k).2.toNat < n.toNat := by omega
         have hz : (0 = (lp ps k).1.toNat + 1) = False := by simp
         have hw : (n.toNat + 1 = 0) = False := by simp
         have hwa : (n.toNat + 1 = (lp ps k).1.toNat + 1) = False := by simp; omega
         refine rD 8 [0, 6, 32, 33, 34] (fun P GD S K => XvIndexAddr P 58 (S.get 9) (.atom (.int .i64 0)) (fun r1 e1 => XvLoad P 3 (M S.hp S.nx) r1 (fun r2 e2 => XvIndexAddr P 91 (S.get 6) r2 (fun r3 e3 => XvLoad P 65 (M S.hp S.nx) r3 (fun r4 e4 => XvIndexAddr P 58 (S.get 9) (.atom (.int .i64 1)) (fun r5 e5 => XvLoad P 3 (M S.hp S.nx) r5 (fun r6 e6 => XvIndexAddr P 65 r4 r6 (fun r7 e7 => (trOk S.nx GD [⟨S.nx, 0, [], [], []⟩, ⟨S.nx, 0, e1.rd, [], []⟩, ⟨S.nx, 0, e2.rd, [], []⟩, ⟨S.nx, 0, e3.rd, [], []⟩, ⟨S.nx, 0, e4.rd, [], []⟩, ⟨S.nx, 0, e5.rd, [], []⟩, ⟨S.nx, 0, e6.rd, [], []⟩, ⟨S.nx, 0, e7.rd, [], []⟩] = true ∧ XvStore P 4 (M S.hp S.nx) r7 (.atom (.bool true)) (fun r8 e8 => K ⟨[(0, S.get 0), (6, S.get 6), (32, S.get 32), (33, S.get 33), (34, S.get 34)], (Eff.hp e8 S.nx S.hp), (S.nx + e8.add.length), S.gh⟩)))))))))) fun K hK => ?_
         repeat' (first | (refine hK _ ?_; clear hK K) | (refine (?_ : trOk _ _ _ = true); (refine trOk_rd ?_; simp)) | ((first | refine xG_intro (fun hg => ?_) (fun hg => ?_) | refine fun (hg : (_ : Prop)) => ?_) <;> ((try simp only [BQ] at hg); try (exfalso; omega))) | refine And.intro ?_ ?_ | exact cl | refine one_take ?_ _ | refine one_drop ?_ _ | simp (maxSteps := 2000000) only [↓SD, push_cast, Nat.reduceAdd, Nat.reduceSub, Nat.reduceMul, Nat.reduceLT, Nat.reduceLeDiff, Nat.reduceEqDiff, Int.reduceToNat, reduceIte, reduceCtorEq, Int.reduceLE, Int.reduceLT, Int.reduceNeg, ints, strs, encI, encS, pairs, encO, famP_len, getD_famP ha, lk_fam (r := tab n.toNat n.toNat (relB (ps.take k))) (by rw [tab_len]; exact ha), hz, hw, hwa, tab_row ha, List.length_range, getD_encO (l := (List.range n.toNat).map fun b => relB (ps.take k) (lp ps k).1.toNat b) (k := (lp ps k).2.toNat) (by rw [List.length_map, List.length_range]; exact hb), encO])
         all_goals
         refine rY [0, 6, 32, 33, 34] (fun P S K => XvBinOV P .add 3 (.const (.int .i64 1)) (S.get 34) (.atom (.int .i64 1)) (fun r0 _ => K ⟨[(0, S.get 0), (6, S.get 6), (32, S.get 32), (33, S.get 33), (34, r0)], S.hp, S.nx, S.gh⟩)) ?_
         all_goals try simp (disch := omega) only [wrap_id, wrap8_id]
         all_goals
         refine ⟨⟨k + 1, by omega, fun j hj => ?_⟩, famL 0 n.toNat, by dsimp only; omega, ?_⟩
         · rcases Nat.lt_succ_iff_lt_or_eq.1 hj with hj | rfl
           · exact hno j hj
           · exact hpo
         have hset := tab_set (h := n.toNat) (w := n.toNat) (f := relB (ps.take k)) (g := relB (ps.take (k + 1))) ha hb (fun x y => by
           rw [relB_snoc hkl]
           congr 2
           · rw [decide_eq_decide]; unfold OutP at hpo; omega
           · rw [decide_eq_decide]; unfold OutP at hpo; omega)
         refine leq_fam (m := n.toNat) (tab_len _ _ _) ?_ (fun i hi => ?_) (.inl rfl) famW13 rfl
         · have a1 : ¬ (lp ps k).1.toNat + 1 = 0 := by omega
           have a2 : ¬ n.toNat + 1 = 0 := by omega
           simp only [St.obj, lk, a1, a2, if_false, if_true]; rfl
         · have a4 : ¬ 0 = i + 1 := by omega
           have a2 : ¬ n.toNat + 1 = i + 1 := by omega
           by_cases hia : i = (lp ps k).1.toNat
           · subst hia
             simp only [St.obj, lk, if_true]
             rw [hset _ hi, if_pos rfl, tab_row hi, List.map_set]
             rfl
           · have a1 : ¬ (lp ps k).1.toNat + 1 = i + 1 := by omega
             simp only [St.obj, lk, a1, a2, a4, if_false]
             rw [lk_fam (by rw [tab_len]; exact hi), hset _ hi, if_neg hia]
             rfl
       ·try (cases h35; done)
        all_goals (try simp only [CQ] at h35)
        all_goals
        refine Tri.exit ?_
        refine sY [4, 5] (fun P S K => K ⟨[(4, (S.get 6)), (5, (.atom (.int .i64 0)))], S.hp, S.nx, S.gh⟩) ?_
        all_goals
        refine Tri.ret ?_
        show ResOk _ _ _ _
        have hkp : k = ps.length := by omega
        subst hkp
        rw [List.take_length]
        have ho : ¬ ∃ p, p ∈ ps ∧ OutP n p := fun ⟨p, hp, ho⟩ => by
          obtain ⟨j, hj, rfl⟩ := List.getElem_of_mem hp
          exact hno j hj (by rw [lp_get hj]; exact ho)
        rw [(relE_ok (by omega) (by omega) ho).1, (relE_ok (by omega) (by omega) ho).2]
        refine ResOk.frz 5 ?_ (by simp [PV.pure, pureL, pure_rows, encI])
        have hs := fam_sealed (k := 2) (H := St.obj ⟨[], (0, some ⟨1, famP n.toNat n.toNat⟩) :: objEnv 1 (famO (tab n.toNat n.toNat (relB ps))), n.toNat + 1, []⟩) (n := n.toNat) (w := n.toNat) (r := tab n.toNat n.toNat (relB ps)) (tab_len _ _ _) (fun i hi => by rw [tab_row hi]; simp) rfl (fun i hi => by
          have a4 : ¬ 0 = i + 1 := by omega
          simp only [St.obj, lk, a4, if_false]
          rw [lk_fam (by rw [tab_len]; exact hi)]
          rfl)
        show PV.tup [sealed _ _ 4 (.ob 0 1 0 n.toNat), _] = _
        exact congrArg (fun x => PV.tup [x, encI 0]) hs
noncomputable def flawV (w : Nat) (f : Nat → Nat → Bool) : PV := if flawS w f = [] then .atom (.slice none 0 0) else ints (flawS w f)
theorem flawV_nil {w : Nat} {f : Nat → Nat → Bool} (h : FlawIs w f []) : flawV w f = .atom (.slice none 0 0) := if_pos (flawS_eq h)
theorem flawV_cons {w : Nat} {f : Nat → Nat → Bool} {x : Int} {l : List Int} (h : FlawIs w f (x :: l)) : flawV w f = ints (x :: l) := by
  unfold flawV; rw [flawS_eq h, if_neg (by simp)]
theorem flaw_pure (w : Nat) (f : Nat → Nat → Bool) (hw : w ≤ 1000000) : Pure Tryd.prog 57 [rows (tab w w f)] (flawV w f) [] := by
  refine Pure.intro (ts := [2]) Tryd.func57 (by kernel_rfl) rfl rfl rfl (Nat.le_of_ble_eq_true rfl) ?_ ?_
  · simp [encI, PV.pure, pure_rows, pureL]
  refine sY [0] (fun P S K => K ⟨[(0, S.get 0)], S.hp, S.nx, S.gh⟩) ?_
  all_goals
  refine Tri.seq ?_
  refine sZ [0, 9, 10] (fun P S K => XvLen P 91 (S.get 0) (fun r1 _ => K ⟨[(0, S.get 0), (9, r1), (10, (.atom (.int .i64 0)))], S.hp, S.nx, S.gh⟩)) fun K hK => ?_
  repeat' (first | (refine hK _ ?_; clear hK K) | ((first | refine xG_intro (fun hg => ?_) (fun hg => ?_) | refine fun (hg : (_ : Prop)) => ?_) <;> ((try simp only [BQ] at hg); try (exfalso; omega))) | refine And.intro ?_ ?_ | exact cl | refine one_take ?_ _ | refine one_drop ?_ _ | (refine st ?_; try simp only [rows, encO, renL_bools, List.length_map, tab_len]) | simp only [rows, encO, renL_bools, List.length_map, tab_len])
  all_goals
  refine Tri.block ?_
  refine Tri.loop (α := (a : Nat) ×' (SoFar2 w f a a)) (fun z => (fun (a : Nat) => (⟨[(0, rows (tab w w f)), (9, encI w), (10, encI a)], [], 0, []⟩ : St)) z.1) (fun z => (fun (a : Nat) => w - a) z.1) ⟨0, SoFar2.start _ _⟩ [] ?_ ?_
  ·exact leqW13
  ·rintro ⟨a, hS⟩
   refine sY [0, 9, 10, 11] (fun P S K => XvBinOV P .lss 3 (.tmp 9) (S.get 10) (S.get 9) (fun r0 _ => K ⟨[(0, S.get 0), (9, S.get 9), (10, S.get 10), (11, r0)], S.hp, S.nx, S.gh⟩)) ?_
   all_goals
   refine Tri.seq ?_
   refine Tri.cond rfl (fun h11 => ?_) (fun h11 => ?_)
   ·try (cases h11; done)
    all_goals (try simp only [CQ] at h11)
    all_goals
    refine Tri.skip ?_
    refine Tri.seq ?_
    refine Tri.block ?_
    refine sY [0, 3, 9, 10] (fun P S K => K ⟨[(0, S.get 0), (3, (S.get 10)), (9, S.get 9), (10, S.get 10)], S.hp, S.nx, S.gh⟩) ?_
    all_goals
    refine sY [0, 3, 4, 9, 10] (fun P S K => K ⟨[(0, S.get 0), (3, S.get 3), (4, (S.get 3)), (9, S.get 9), (10, S.get 10)], S.hp, S.nx, S.gh⟩) ?_
    all_goals
    refine Tri.block ?_
    refine Tri.loop (α := (b : Nat) ×' (a ≤ b ∧ SoFar2 w f a b)) (fun z => (fun (b : Nat) => (⟨[(0, rows (tab w w f)), (3, encI a), (4, encI b), (9, encI w), (10, encI a)], [], 0, []⟩ : St)) z.1) (fun z => (fun (b : Nat) => w - b) z.1) ⟨a, ⟨Nat.le_refl _, hS⟩⟩ [] ?_ ?_
    ·exact leqW13
    ·rintro ⟨b, ⟨hab, hS2⟩⟩
     refine Tri.seq ?_
     refine sZ [0, 3, 4, 9, 10, 17] (fun P S K => XvLen P 91 (S.get 0) (fun r2 _ => XvBinOV P .lss 3 (.tmp 16) (S.get 4) r2 (fun r3 _ => K ⟨[(0, S.get 0), (3, S.get 3), (4, S.get 4), (9, S.get 9), (10, S.get 10), (17, r3)], S.hp, S.nx, S.gh⟩))) fun K hK => ?_
     repeat' (first | (refine hK _ ?_; clear hK K) | ((first | refine xG_intro (fun hg => ?_) (fun hg => ?_) | refine fun (hg : (_ : Prop)) => ?_) <;> ((try simp only [BQ] at hg); try (exfalso; omega))) | refine And.intro ?_ ?_ | exact cl | refine one_take ?_ _ | refine one_drop ?_ _ | (refine st ?_; try simp only [rows, encO, renL_bools, List.length_map, tab_len]) | simp only [rows, encO, renL_bools, List.length_map, tab_len])
     all_goals
     refine Tri.cond rfl (fun h17 => ?_) (fun h17 => ?_)
     ·try (cases h17; done)
      all_goals (try simp only [CQ] at h17)
      all_goals
      refine Tri.skip ?_
      refine Tri.seq ?_
      refine Tri.block ?_
      have hbw : b < w := by omega
      have haw : a < w := by omega
      refine sZ [0, 3, 4, 9, 10, 37] (fun P S K => XvIndexAddr P 91 (S.get 0) (S.get 3) (fun r2 _ => XvLoad P 65 (M S.hp S.nx) r2 (fun r3 _ => XvIndexAddr P 65 r3 (S.get 4) (fun r5 _ => XvLoad P 4 (M S.hp S.nx) r5 (fun r6 _ => XvUn .not r6 (fun r7 _ => Xgq r7 true (fun k => k (S.get 0)) (fun g9 r9 => Xgq g9 true (fun k => k (S.get 4)) (fun g10 r10 => Xgq g10 true (fun k => XvIndexAddr P 91 r9 r10 (fun r11 _ => k r11)) (fun g11 r11 => Xgq g11 true (fun k => XvLoad P 65 (M S.hp S.nx) r11 (fun r12 _ => k r12)) (fun g12 r12 => Xgq g12 true (fun k => k (S.get 3)) (fun g13 r13 => Xgq g13 true (fun k => XvIndexAddr P 65 r12 r13 (fun r14 _ => k r14)) (fun g14 r14 => Xgq g14 true (fun k => XvLoad P 4 (M S.hp S.nx) r14 (fun r15 _ => k r15)) (fun g15 r15 => Xgq g15 true (fun k => XvUn .not r15 (fun r16 _ => k r16)) (fun g16 r16 => XvPick g16 r16 (.atom (.bool false)) (fun r17 _ => K ⟨[(0, S.get 0), (3, S.get 3), (4, S.get 4), (9, S.get 9), (10, S.get 10), (37, r17)], S.hp, S.nx, S.gh⟩))))))))))))))) fun K hK => ?_
      repeat' (first | (refine hK _ ?_; clear hK K) | ((first | refine xG_intro (fun hg => ?_) (fun hg => ?_) | refine fun (hg : (_ : Prop)) => ?_) <;> ((try simp only [BQ] at hg); try (exfalso; omega))) | refine And.intro ?_ ?_ | exact cl | refine one_take ?_ _ | refine one_drop ?_ _ | (refine st ?_; try simp only [rows, encO, renL_bools, tab_len, getD_tab haw, getD_tab hbw, List.length_map, List.length_range, getD_rowO hbw, getD_rowO haw]) | simp only [rows, encO, renL_bools, tab_len, getD_tab haw, getD_tab hbw, List.length_map, List.length_range, getD_rowO hbw, getD_rowO haw])
      all_goals try simp (disch := omega) only [wrap_id, wrap8_id]
      all_goals
      refine Tri.cond rfl (fun h37 => ?_) (fun h37 => ?_)
      ·try (cases h37; done)
       all_goals (try simp only [CQ] at h37)
       all_goals
       refine sZ [2] (fun P S K => XvBuildS P 22 2 S.nx [(0, (S.get 3)), (1, (S.get 4))] (fun r2 e2 => K ⟨[(2, r2)], (Eff.hp e2 S.nx S.hp), (S.nx + e2.add.length), S.gh⟩)) fun K hK => ?_
       repeat' (first | (refine hK _ ?_; clear hK K) | ((first | refine xG_intro (fun hg => ?_) (fun hg => ?_) | refine fun (hg : (_ : Prop)) => ?_) <;> ((try simp only [BQ] at hg); try (exfalso; omega))) | refine And.intro ?_ ?_ | exact cl | refine one_take ?_ _ | refine one_drop ?_ _ | (refine st ?_; try simp only [rows, encO, renL_bools]) | simp only [rows, encO, renL_bools])
       all_goals
       refine Tri.ret ?_
       show ResOk _ _ _ _
       rw [flawV_cons (.two a b ⟨hab, hbw, ⟨by simpa using hg, by simpa using h37⟩, hS2⟩)]
       exact ResOk.frz 5 lstW13 lpvW13
      ·try (cases h37; done)
       all_goals (try simp only [CQ] at h37)
       all_goals
       refine Tri.skip ?_
       refine rY [0, 3, 4, 9, 10] (fun P S K => XvBinOV P .add 3 (.const (.int .i64 1)) (S.get 4) (.atom (.int .i64 1)) (fun r1 _ => K ⟨[(0, S.get 0), (3, S.get 3), (4, r1), (9, S.get 9), (10, S.get 10)], S.hp, S.nx, S.gh⟩)) ?_
       all_goals try simp (disch := omega) only [wrap_id, wrap8_id]
       all_goals
       refine ⟨⟨b + 1, by omega, hS2.next (fun hx => by first | (rw [hx.2] at h37; cases h37; done) | (rw [hx.1] at hg; cases hg; done))⟩, [], by dsimp only; omega, ?_⟩
       exact leqW13
     ·try (cases h17; done)
      all_goals (try simp only [CQ] at h17)
      all_goals
      refine Tri.exit ?_
      refine rY [0, 9, 10] (fun P S K => XvBinOV P .add 3 (.const (.int .i64 1)) (S.get 10) (.atom (.int .i64 1)) (fun r0 _ => K ⟨[(0, S.get 0), (9, S.get 9), (10, r0)], S.hp, S.nx, S.gh⟩)) ?_
      all_goals try simp (disch := omega) only [wrap_id, wrap8_id]
      all_goals
      refine ⟨⟨a + 1, hS2.row (by omega)⟩, [], by dsimp only; omega, ?_⟩
      exact leqW13
   ·try (cases h11; done)
    all_goals (try simp only [CQ] at h11)
    all_goals
    refine Tri.exit ?_
    refine Tri.seq ?_
    have hA2 := hS.done (by omega)
    refine sZ [0, 43, 44] (fun P S K => XvLen P 91 (S.get 0) (fun r1 _ => K ⟨[(0, S.get 0), (43, r1), (44, (.atom (.int .i64 0)))], S.hp, S.nx, S.gh⟩)) fun K hK => ?_
    repeat' (first | (refine hK _ ?_; clear hK K) | ((first | refine xG_intro (fun hg => ?_) (fun hg => ?_) | refine fun (hg : (_ : Prop)) => ?_) <;> ((try simp only [BQ] at hg); try (exfalso; omega))) | refine And.intro ?_ ?_ | exact cl | refine one_take ?_ _ | refine one_drop ?_ _ | (refine st ?_; try simp only [rows, encO, renL_bools, List.length_map, tab_len]) | simp only [rows, encO, renL_bools, List.length_map, tab_len])
    all_goals
    refine Tri.block ?_
    refine Tri.loop (α := (a : Nat) ×' (SoFar3 w f a 0 0)) (fun z => (fun (a : Nat) => (⟨[(0, rows (tab w w f)), (43, encI w), (44, encI a)], [], 0, []⟩ : St)) z.1) (fun z => (fun (a : Nat) => w - a) z.1) ⟨0, SoFar3.start _ _⟩ [] ?_ ?_
    ·exact leqW13
    ·rintro ⟨a, hT⟩
     refine sY [0, 43, 44, 45] (fun P S K => XvBinOV P .lss 3 (.tmp 43) (S.get 44) (S.get 43) (fun r0 _ => K ⟨[(0, S.get 0), (43, S.get 43), (44, S.get 44), (45, r0)], S.hp, S.nx, S.gh⟩)) ?_
     all_goals
     refine Tri.seq ?_
     refine Tri.cond rfl (fun h45 => ?_) (fun h45 => ?_)
     ·try (cases h45; done)
      all_goals (try simp only [CQ] at h45)
      all_goals
      refine Tri.skip ?_
      refine Tri.seq ?_
      refine Tri.block ?_
      refine sY [0, 5, 43, 44] (fun P S K => K ⟨[(0, S.get 0), (5, (S.get 44)), (43, S.get 43), (44, S.get 44)], S.hp, S.nx, S.gh⟩) ?_
      all_goals
      refine sZ [0, 5, 43, 44, 48, 49] (fun P S K => XvLen P 91 (S.get 0) (fun r1 _ => K ⟨[(0, S.get 0), (5, S.get 5), (43, S.get 43), (44, S.get 44), (48, r1), (49, (.atom (.int .i64 0)))], S.hp, S.nx, S.gh⟩)) fun K hK => ?_
      repeat' (first | (refine hK _ ?_; clear hK K) | ((first | refine xG_intro (fun hg => ?_) (fun hg => ?_) | refine fun (hg : (_ : Prop)) => ?_) <;> ((try simp only [BQ] at hg); try (exfalso; omega))) | refine And.intro ?_ ?_ | exact cl | refine one_take ?_ _ | refine one_drop ?_ _ | (refine st ?_; try simp only [rows, encO, renL_bools, List.length_map, tab_len]) | simp only [rows, encO, renL_bools, List.length_map, tab_len])
      all_goals
      refine Tri.block ?_
      refine Tri.loop (α := (b : Nat) ×' (SoFar3 w f a b 0)) (fun z => (fun (b : Nat) => (⟨[(0, rows (tab w w f)), (5, encI a), (43, encI w), (44, encI a), (48, encI w), (49, encI b)], [], 0, []⟩ : St)) z.1) (fun z => (fun (b : Nat) => w - b) z.1) ⟨0, hT⟩ [] ?_ ?_
      ·exact leqW13
      ·rintro ⟨b, hT2⟩
       refine sY [0, 5, 43, 44, 48, 49, 50] (fun P S K => XvBinOV P .lss 3 (.tmp 48) (S.get 49) (S.get 48) (fun r0 _ => K ⟨[(0, S.get 0), (5, S.get 5), (43, S.get 43), (44, S.get 44), (48, S.get 48), (49, S.get 49), (50, r0)], S.hp, S.nx, S.gh⟩)) ?_
       all_goals
       refine Tri.seq ?_
       refine Tri.cond rfl (fun h50 => ?_) (fun h50 => ?_)
       ·try (cases h50; done)
        all_goals (try simp only [CQ] at h50)
        all_goals
        refine Tri.skip ?_
        refine Tri.seq ?_
        refine Tri.block ?_
        refine sY [0, 5, 6, 43, 44, 48, 49] (fun P S K => K ⟨[(0, S.get 0), (5, S.get 5), (6, (S.get 49)), (43, S.get 43), (44, S.get 44), (48, S.get 48), (49, S.get 49)], S.hp, S.nx, S.gh⟩) ?_
        all_goals
        refine sZ [0, 5, 6, 43, 44, 48, 49, 53, 54] (fun P S K => XvLen P 91 (S.get 0) (fun r1 _ => K ⟨[(0, S.get 0), (5, S.get 5), (6, S.get 6), (43, S.get 43), (44, S.get 44), (48, S.get 48), (49, S.get 49), (53, r1), (54, (.atom (.int .i64 0)))], S.hp, S.nx, S.gh⟩)) fun K hK => ?_
        repeat' (first | (refine hK _ ?_; clear hK K) | ((first | refine xG_intro (fun hg => ?_) (fun hg => ?_) | refine fun (hg : (_ : Prop)) => ?_) <;> ((try simp only [BQ] at hg); try (exfalso; omega))) | refine And.intro ?_ ?_ | exact cl | refine one_take ?_ _ | refine one_drop ?_ _ | (refine st ?_; try simp only [rows, encO, renL_bools, List.length_map, tab_len]) | simp only [rows, encO, renL_bools, List.length_map, tab_len])
        all_goals
        refine Tri.block ?_
        refine Tri.loop (α := (c : Nat) ×' (SoFar3 w f a b c)) (fun z => (fun (c : Nat) => (⟨[(0, rows (tab w w f)), (5, encI a), (6, encI b), (43, encI w), (44, encI a), (48, encI w), (49, encI b), (53, encI w), (54, encI c)], [], 0, []⟩ : St)) z.1) (fun z => (fun (c : Nat) => w - c) z.1) ⟨0, hT2⟩ [] ?_ ?_
        ·exact leqW13
        ·rintro ⟨c, hT3⟩
         refine sY [0, 5, 6, 43, 44, 48, 49, 53, 54, 55] (fun P S K => XvBinOV P .lss 3 (.tmp 53) (S.get 54) (S.get 53) (fun r0 _ => K ⟨[(0, S.get 0), (5, S.get 5), (6, S.get 6), (43, S.get 43), (44, S.get 44), (48, S.get 48), (49, S.get 49), (53, S.get 53), (54, S.get 54), (55, r0)], S.hp, S.nx, S.gh⟩)) ?_
         all_goals
         refine Tri.seq ?_
         refine Tri.cond rfl (fun h55 => ?_) (fun h55 => ?_)
         ·try (cases h55; done)
          all_goals (try simp only [CQ] at h55)
          all_goals
          refine Tri.skip ?_
          refine Tri.seq ?_
          refine Tri.block ?_
          refine sY [0, 5, 6, 7, 43, 44, 48, 49, 53, 54] (fun P S K => K ⟨[(0, S.get 0), (5, S.get 5), (6, S.get 6), (7, (S.get 54)), (43, S.get 43), (44, S.get 44), (48, S.get 48), (49, S.get 49), (53, S.get 53), (54, S.get 54)], S.hp, S.nx, S.gh⟩) ?_
          all_goals
          have haw : a < w := by omega
          have hbw : b < w := by omega
          have hcw : c < w := by omega
          refine sZ [0, 5, 6, 7, 43, 44, 48, 49, 53, 54, 82] (fun P S K => XvIndexAddr P 91 (S.get 0) (S.get 5) (fun r2 _ => XvLoad P 65 (M S.hp S.nx) r2 (fun r3 _ => XvIndexAddr P 65 r3 (S.get 6) (fun r5 _ => XvLoad P 4 (M S.hp S.nx) r5 (fun r6 _ => Xgq r6 true (fun k => k (S.get 0)) (fun g8 r8 => Xgq g8 true (fun k => k (S.get 6)) (fun g9 r9 => Xgq g9 true (fun k => XvIndexAddr P 91 r8 r9 (fun r10 _ => k r10)) (fun g10 r10 => Xgq g10 true (fun k => XvLoad P 65 (M S.hp S.nx) r10 (fun r11 _ => k r11)) (fun g11 r11 => Xgq g11 true (fun k => k (S.get 7)) (fun g12 r12 => Xgq g12 true (fun k => XvIndexAddr P 65 r11 r12 (fun r13 _ => k r13)) (fun g13 r13 => Xgq g13 true (fun k => XvLoad P 4 (M S.hp S.nx) r13 (fun r14 _ => k r14)) (fun g14 r14 => XvPick g14 r14 (.atom (.bool false)) (fun r15 _ => Xgq r15 true (fun k => k (S.get 0)) (fun g17 r17 => Xgq g17 true (fun k => k (S.get 5)) (fun g18 r18 => Xgq g18 true (fun k => XvIndexAddr P 91 r17 r18 (fun r19 _ => k r19)) (fun g19 r19 => Xgq g19 true (fun k => XvLoad P 65 (M S.hp S.nx) r19 (fun r20 _ => k r20)) (fun g20 r20 => Xgq g20 true (fun k => k (S.get 7)) (fun g21 r21 => Xgq g21 true (fun k => XvIndexAddr P 65 r20 r21 (fun r22 _ => k r22)) (fun g22 r22 => Xgq g22 true (fun k => XvLoad P 4 (M S.hp S.nx) r22 (fun r23 _ => k r23)) (fun g23 r23 => Xgq g23 true (fun k => XvUn .not r23 (fun r24 _ => k r24)) (fun g24 r24 => XvPick g24 r24 (.atom (.bool false)) (fun r25 _ => K ⟨[(0, S.get 0), (5, S.get 5), (6, S.get 6), (7, S.get 7), (43, S.get 43), (44, S.get 44), (48, S.get 48), (49, S.get 49), (53, S.get 53), (54, S.get 54), (82, r25)], S.hp, S.nx, S.gh⟩)))))))))))))))))))))) fun K hK => ?_
          repeat' (first | (refine hK _ ?_; clear hK K) | ((first | refine xG_intro (fun hg => ?_) (fun hg => ?_) | refine fun (hg : (_ : Prop)) => ?_) <;> ((try simp only [BQ] at hg); try (exfalso; omega))) | refine And.intro ?_ ?_ | exact cl | refine one_take ?_ _ | refine one_drop ?_ _ | (refine st ?_; try simp only [rows, encO, renL_bools, tab_len, getD_tab haw, getD_tab hbw, List.length_map, List.length_range, getD_rowO hbw, getD_rowO haw, getD_rowO hcw]) | simp only [rows, encO, renL_bools, tab_len, getD_tab haw, getD_tab hbw, List.length_map, List.length_range, getD_rowO hbw, getD_rowO haw, getD_rowO hcw])
          all_goals try simp (disch := omega) only [wrap_id, wrap8_id]
          all_goals
          refine Tri.cond rfl (fun h82 => ?_) (fun h82 => ?_)
          ·try (cases h82; done)
           all_goals (try simp only [CQ] at h82)
           all_goals
           refine sZ [2] (fun P S K => XvBuildS P 22 3 S.nx [(0, (S.get 5)), (1, (S.get 6)), (2, (S.get 7))] (fun r3 e3 => K ⟨[(2, r3)], (Eff.hp e3 S.nx S.hp), (S.nx + e3.add.length), S.gh⟩)) fun K hK => ?_
           repeat' (first | (refine hK _ ?_; clear hK K) | ((first | refine xG_intro (fun hg => ?_) (fun hg => ?_) | refine fun (hg : (_ : Prop)) => ?_) <;> ((try simp only [BQ] at hg); try (exfalso; omega))) | refine And.intro ?_ ?_ | exact cl | refine one_take ?_ _ | refine one_drop ?_ _ | (refine st ?_; try simp only [rows, encO, renL_bools]) | simp only [rows, encO, renL_bools])
           all_goals
           refine Tri.ret ?_
           show ResOk _ _ _ _
           have hb3 : Bad3 f a b c := by simp_all [Bad3]
           rw [flawV_cons (.three a b c hA2 ⟨haw, hbw, hcw, hb3, hT3⟩)]
           exact ResOk.frz 5 lstW13 lpvW13
          ·try (cases h82; done)
           all_goals (try simp only [CQ] at h82)
           all_goals
           refine Tri.skip ?_
           refine rY [0, 5, 6, 43, 44, 48, 49, 53, 54] (fun P S K => XvBinOV P .add 3 (.const (.int .i64 1)) (S.get 54) (.atom (.int .i64 1)) (fun r0 _ => K ⟨[(0, S.get 0), (5, S.get 5), (6, S.get 6), (43, S.get 43), (44, S.get 44), (48, S.get 48), (49, S.get 49), (53, S.get 53), (54, r0)], S.hp, S.nx, S.gh⟩)) ?_
           all_goals try simp (disch := omega) only [wrap_id, wrap8_id]
           all_goals
           refine ⟨⟨c + 1, hT3.next (fun hx => by simp_all [Bad3])⟩, [], by dsimp only; omega, ?_⟩
           exact leqW13
         ·try (cases h55; done)
          all_goals (try simp only [CQ] at h55)
          all_goals
          refine Tri.exit ?_
          refine rY [0, 5, 43, 44, 48, 49] (fun P S K => XvBinOV P .add 3 (.const (.int .i64 1)) (S.get 49) (.atom (.int .i64 1)) (fun r0 _ => K ⟨[(0, S.get 0), (5, S.get 5), (43, S.get 43), (44, S.get 44), (48, S.get 48), (49, r0)], S.hp, S.nx, S.gh⟩)) ?_
          all_goals try simp (disch := omega) only [wrap_id, wrap8_id]
          all_goals
          refine ⟨⟨b + 1, hT3.col (by omega)⟩, [], by dsimp only; omega, ?_⟩
          exact leqW13
       ·try (cases h50; done)
        all_goals (try simp only [CQ] at h50)
        all_goals
        refine Tri.exit ?_
        refine rY [0, 43, 44] (fun P S K => XvBinOV P .add 3 (.const (.int .i64 1)) (S.get 44) (.atom (.int .i64 1)) (fun r0 _ => K ⟨[(0, S.get 0), (43, S.get 43), (44, r0)], S.hp, S.nx, S.gh⟩)) ?_
        all_goals try simp (disch := omega) only [wrap_id, wrap8_id]
        all_goals
        refine ⟨⟨a + 1, hT2.row (by omega)⟩, [], by dsimp only; omega, ?_⟩
        exact leqW13
     ·try (cases h45; done)
      all_goals (try simp only [CQ] at h45)
      all_goals
      refine Tri.exit ?_
      refine sY [2] (fun P S K => K ⟨[(2, (.atom (.slice none 0 0)))], S.hp, S.nx, S.gh⟩) ?_
      all_goals
      refine Tri.ret ?_
      show ResOk _ _ _ _
      rw [flawV_nil (.none hA2 (hT.done (by omega)))]
      exact ResOk.val rfl rfl
end Go.Proofs.YtfnkciboencifaaDoor
