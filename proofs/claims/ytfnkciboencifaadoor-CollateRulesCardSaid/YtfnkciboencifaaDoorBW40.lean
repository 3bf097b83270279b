/-
  Walks: Spoilt of the reference model.
-/
import Derived.Test.YtfnkciboencifaaDoorBW4
import Derived.Test.YtfnkciboencifaaDoorBW21
import Derived.Test.YtfnkciboencifaaDoorBL4
set_option linter.all false
namespace Go.Proofs.YtfnkciboencifaaDoor
open Go Go.RowKit
set_option linter.unusedSimpArgs false
set_option linter.unusedVariables false
set_option maxRecDepth 20000
set_option maxHeartbeats 400000
end Go.Proofs.YtfnkciboencifaaDoor
set_option linter.all false
namespace Go.Proofs.YtfnkciboencifaaDoor
open Go Go.RowKit
set_option linter.unusedSimpArgs false
set_option linter.unusedVariables false
set_option maxRecDepth 20000
set_option maxHeartbeats 400000
structure Fit (n : Nat) (s : SpecD) : Prop where
  skip : s.skip.length ≤ n
  order : s.order.length ≤ n
  skips : ∀ x, x ∈ s.skip → x.size ≤ 64
  orders : ∀ x, x ∈ s.order → x.size ≤ 64
theorem Fit.sane {n : Nat} {s : SpecD} (h : Fit n s) (hn : n ≤ 1000) : Sane s :=
  ⟨by have := h.skip; omega, by have := h.order; omega, fun x hx => by have := h.skips x hx; omega, fun x hx => by have := h.orders x hx; omega⟩
theorem orderN_size (kind : Int) : ∀ i x, x ∈ orderN kind i → x.size ≤ 64
  | 0, x, h => by simp [orderN] at h
  | i + 1, x, h => by
    rw [orderN] at h
    rcases List.mem_append.1 h with h | h
    · exact orderN_size kind i x h
    · split at h
      · rw [List.mem_singleton.1 h, ByteArray.size_append, oneB_size, oneB_size]; omega
      · rcases List.mem_cons.1 h with rfl | h
        · rw [oneB_size]; omega
        · rw [List.mem_singleton.1 h, oneB_size]; omega
theorem dig3_size : ∀ x, x ∈ dig3 → x.size ≤ 64 := by decide
theorem madeSk_fit (k : Int) : (madeSk k).length ≤ 60 ∧ ∀ x, x ∈ madeSk k → x.size ≤ 64 := by
  unfold madeSk
  split
  · exact ⟨by decide, by decide⟩
  · split
    · exact ⟨by decide, by decide⟩
    · split
      · exact ⟨by decide, by decide⟩
      · exact ⟨by decide, by decide⟩
theorem made_fit (l : List Int) : Fit 60 (madeS l) := by
  have ho := orderN_len (atI l 3 4) 26
  have hs := orderN_size (atI l 3 4) 26
  refine ⟨(madeSk_fit _).1, ?_, (madeSk_fit _).2, ?_⟩
  · show (madeO (atI l 3 4) (atI l 4 3)).length ≤ 60
    unfold madeO
    split
    · simp <;> omega
    · split
      · simp [dig3] <;> omega
      · omega
  · show ∀ x, x ∈ madeO (atI l 3 4) (atI l 4 3) → x.size ≤ 64
    unfold madeO
    split
    · intro x hx
      rcases List.mem_cons.1 hx with rfl | hx
      · decide
      · exact hs x hx
    · split
      · intro x hx
        rcases List.mem_append.1 hx with hx | hx
        · exact hs x hx
        · exact dig3_size x hx
      · exact hs
theorem own_pure (s : SpecD) : Pure Tryd.prog 14 [encSpec s] (encSpec s) [] := by
  refine Pure.introR (rv := [.cell 2 33]) Tryd.func14 (by kernel_rfl) rfl rfl rfl (Nat.le_of_ble_eq_true rfl) ?_ ?_
  · simp [encB, encS, encSpec, PV.pure, pureL, pure_strs]
  refine sZ [1, 2] (fun P S K => XvBox S.nx (S.get 0) (fun r0 e0 => XvAlloc P 33 (S.nx + e0.add.length) (fun r1 e1 => K ⟨[(1, r0), (2, r1)], (Eff.hp e1 (S.nx + e0.add.length) (Eff.hp e0 S.nx S.hp)), ((S.nx + e0.add.length) + e1.add.length), S.gh⟩))) fun K hK => ?_
  repeat' (first | (refine hK _ ?_; clear hK K) | ((first | refine xG_intro (fun hg => ?_) (fun hg => ?_) | refine fun (hg : (_ : Prop)) => ?_) <;> ((try simp only [BQ] at hg); try (exfalso; omega))) | refine And.intro ?_ ?_ | exact cl | refine one_take ?_ _ | refine one_drop ?_ _ | (refine st ?_; try simp only [encSpec]) | simp only [encSpec])
  all_goals
  refine sZ [2] (fun P S K => XvFieldAddr P 35 0 (S.get 1) (fun r0 _ => XvLoad P 4 (M S.hp S.nx) r0 (fun r1 _ => XvFieldAddr P 35 1 (S.get 1) (fun r2 _ => XvLoad P 25 (M S.hp S.nx) r2 (fun r3 _ => XvFieldAddr P 35 2 (S.get 1) (fun r4 _ => XvLoad P 4 (M S.hp S.nx) r4 (fun r5 _ => XvFieldAddr P 35 3 (S.get 1) (fun r6 _ => XvLoad P 25 (M S.hp S.nx) r6 (fun r7 _ => XvBuild P 33 [(0, r1), (1, r3), (2, r5), (3, r7)] (fun r8 _ => XvStore P 33 (M S.hp S.nx) (S.get 2) r8 (fun r9 e9 => K ⟨[(2, S.get 2)], (Eff.hp e9 S.nx S.hp), (S.nx + e9.add.length), S.gh⟩))))))))))) fun K hK => ?_
  repeat' (first | (refine hK _ ?_; clear hK K) | ((first | refine xG_intro (fun hg => ?_) (fun hg => ?_) | refine fun (hg : (_ : Prop)) => ?_) <;> ((try simp only [BQ] at hg); try (exfalso; omega))) | refine And.intro ?_ ?_ | exact cl | refine one_take ?_ _ | refine one_drop ?_ _ | (refine st ?_; try simp only [encSpec]) | simp only [encSpec])
  all_goals
  refine Tri.ret ?_
  show ResR _ _ _ _ _
  exact ResR.cell1 (encSpec s) rfl (sealed_pure _ _ _ (pure_spec _)) (pure_spec _)
theorem noOb_madeV (k : Int) : (madeV k).noOb = true := by unfold madeV; split <;> rfl
end Go.Proofs.YtfnkciboencifaaDoor
set_option linter.all false
namespace Go.Proofs.YtfnkciboencifaaDoor
open Go Go.RowKit
set_option linter.unusedSimpArgs false
set_option linter.unusedVariables false
set_option maxRecDepth 20000
set_option maxHeartbeats 400000
theorem AsSl.reach {sz : Nat} {l : List PV} {x : PV} (h : AsSl sz l x) (H : Nat → Option AO) (n : Nat) : reach H n x = [] := by
  cases n with
  | zero => rfl
  | succ n => rcases h with rfl | ⟨_, rfl⟩ <;> rfl
end Go.Proofs.YtfnkciboencifaaDoor
set_option linter.all false
namespace Go.Proofs.YtfnkciboencifaaDoor
open Go Go.RowKit
set_option linter.unusedSimpArgs false
set_option linter.unusedVariables false
set_option maxRecDepth 20000
set_option maxHeartbeats 400000
end Go.Proofs.YtfnkciboencifaaDoor
set_option linter.all false
namespace Go.Proofs.YtfnkciboencifaaDoor
open Go Go.RowKit
set_option linter.unusedSimpArgs false
set_option linter.unusedVariables false
set_option maxRecDepth 20000
set_option maxHeartbeats 400000
end Go.Proofs.YtfnkciboencifaaDoor
set_option linter.all false
namespace Go.Proofs.YtfnkciboencifaaDoor
open Go Go.RowKit
set_option linter.unusedSimpArgs false
set_option linter.unusedVariables false
set_option maxRecDepth 20000
set_option maxHeartbeats 4000000
end Go.Proofs.YtfnkciboencifaaDoor
set_option linter.all false
namespace Go.Proofs.YtfnkciboencifaaDoor
open Go Go.RowKit
set_option linter.unusedSimpArgs false
set_option linter.unusedVariables false
theorem lexi_cons (a b : Int) (x y : List Int) : lexi (a :: x) (b :: y) = if a < b then -1 else if b < a then 1 else lexi x y := rfl
theorem lexi_anti : ∀ a b : List Int, lexi a b = - lexi b a
  | [], [] => rfl
  | [], _ :: _ => rfl
  | _ :: _, [] => rfl
  | a :: x, b :: y => by
    rw [lexi_cons, lexi_cons, lexi_anti x y]
    by_cases h1 : a < b
    · rw [if_pos h1, if_neg (by omega), if_pos h1]
    · by_cases h2 : b < a
      · rw [if_neg h1, if_pos h2, if_pos h2]; rfl
      · rw [if_neg h1, if_neg h2, if_neg h2, if_neg h1]
structure Ord (c : Nat → Nat → Int) : Prop where
  anti : ∀ a b, c a b = - c b a
  trans : ∀ a b d, c a b ≤ 0 → c b d ≤ 0 → c a d ≤ 0
theorem Ord.refl {c : Nat → Nat → Int} (h : Ord c) (a : Nat) : c a a = 0 := by have := h.anti a a; omega
def cnt (c : Nat → Nat → Int) (x b : Nat) : Nat := ((List.range b).filter fun y => decide (c y x < 0)).length
end Go.Proofs.YtfnkciboencifaaDoor
set_option linter.all false
namespace Go.Proofs.YtfnkciboencifaaDoor
open Go Go.RowKit
set_option linter.unusedSimpArgs false
set_option linter.unusedVariables false
def fl : List UInt8 → List UInt8 → List (List UInt8)
  | [], cur => if cur = [] then [] else [cur]
  | c :: t, cur => if c = 32 then (if cur = [] then fl t [] else cur :: fl t []) else fl t (cur ++ [c])
def wB (l : List UInt8) : ByteArray := ⟨l.toArray⟩
theorem bl_wB (l : List UInt8) : bl (wB l) = l := by simp [bl, wB]
theorem wB_bl (s : ByteArray) : wB (bl s) = s := by cases s; simp [bl, wB]
theorem bl_append (a b : ByteArray) : bl (a ++ b) = bl a ++ bl b := by simp [bl, ByteArray.data_append]
theorem extract_bl (s : ByteArray) (a b : Nat) : s.extract a b = wB (((bl s).drop a).take (b - a)) := by
  apply ByteArray.ext
  simp only [ByteArray.data_extract, wB, bl]
  apply Array.ext'
  simp
theorem take_bl_next {s : ByteArray} {frm i : Nat} (h : frm ≤ i) (hi : i < s.size) : ((bl s).drop frm).take (i + 1 - frm) = ((bl s).drop frm).take (i - frm) ++ [byteAt s i] := by
  have e : i + 1 - frm = (i - frm) + 1 := by omega
  have hl : i - frm < ((bl s).drop frm).length := by rw [List.length_drop, bl_len]; omega
  rw [e, List.take_succ_eq_append_getElem hl]
  congr 2
  rw [List.getElem_drop]
  have hd := drop_bl hi
  have : (bl s)[frm + (i - frm)]'(by rw [bl_len]; omega) = (bl s)[i]'(by rw [bl_len]; exact hi) := by congr 1; omega
  rw [this]
  have h2 : ((bl s).drop i)[0]'(by rw [List.length_drop, bl_len]; omega) = (bl s)[i]'(by rw [bl_len]; exact hi) := by simp
  rw [← h2]
  simp only [hd, List.getElem_cons_zero]
theorem words_run (s : ByteArray) : ∀ n i frm out, s.size - i = n → i ≤ s.size → WI s i frm out → wordsS s = out ++ (fl ((bl s).drop i) (((bl s).drop frm).take (i - frm))).map wB := by
  intro n
  induction n with
  | zero =>
    intro i frm out hn hi h
    have hz : i = s.size := by omega
    rw [drop_bl_end (by omega)]
    by_cases hf : frm < i
    · have hw := (h.word hi (.inl hz) hf).done (by omega)
      have hne : ((bl s).drop frm).take (i - frm) ≠ [] := by
        intro e
        have := congrArg List.length e
        rw [List.length_take, List.length_drop, bl_len] at this
        simp at this; omega
      rw [fl, if_neg hne, ← hw, extract_bl]; rfl
    · have hw := (h.gap hi (.inl hz) hf).done (by omega)
      have e0 : i - frm = 0 := by omega
      rw [e0, List.take_zero, fl, if_pos rfl, ← hw]; simp
  | succ n ih =>
    intro i frm out hn hi h
    have hlt : i < s.size := by omega
    rw [drop_bl hlt, fl]
    by_cases hb : byteAt s i = 32
    · rw [if_pos hb]
      by_cases hf : frm < i
      · have hne : ((bl s).drop frm).take (i - frm) ≠ [] := by
          intro e
          have := congrArg List.length e
          rw [List.length_take, List.length_drop, bl_len] at this
          simp at this; omega
        rw [if_neg hne, ih (i + 1) (i + 1) _ (by omega) (by omega) (h.word hi (.inr hb) hf), Nat.sub_self, List.take_zero, extract_bl]
        simp
      · have e0 : i - frm = 0 := by omega
        rw [e0, List.take_zero, if_pos rfl, ih (i + 1) (i + 1) _ (by omega) (by omega) (h.gap hi (.inr hb) hf), Nat.sub_self, List.take_zero]
    · rw [if_neg hb, ih (i + 1) frm _ (by omega) (by omega) (h.go hlt hb), take_bl_next h.le hlt]
theorem words_fl (s : ByteArray) : wordsS s = (fl (bl s) []).map wB := by
  have := words_run s s.size 0 0 [] (by omega) (Nat.zero_le _) (WI.start s)
  simpa using this
theorem fl_space : ∀ (a b cur : List UInt8), fl (a ++ 32 :: b) cur = fl a cur ++ fl b []
  | [], b, cur => by
    rw [List.nil_append, fl, fl, if_pos rfl]
    split <;> rfl
  | c :: a, b, cur => by
    rw [List.cons_append, fl, fl]
    split
    · split
      · exact fl_space a b []
      · rw [fl_space a b []]; rfl
    · exact fl_space a b _
theorem fl_plain : ∀ (a b cur : List UInt8), (∀ c, c ∈ a → c ≠ 32) → fl (a ++ b) cur = fl b (cur ++ a)
  | [], b, cur, _ => by simp
  | c :: a, b, cur, h => by
    rw [List.cons_append, fl, if_neg (h c (List.mem_cons_self ..)), fl_plain a b _ (fun x hx => h x (List.mem_cons_of_mem _ hx)), List.append_assoc]; rfl
def flS : List UInt8 → List UInt8 → List (List UInt8) × List UInt8
  | [], cur => ([], cur)
  | c :: t, cur => if c = 32 then (if cur = [] then flS t [] else (cur :: (flS t []).1, (flS t []).2)) else flS t (cur ++ [c])
theorem fl_flS : ∀ (p b cur : List UInt8), fl (p ++ b) cur = (flS p cur).1 ++ fl b (flS p cur).2
  | [], b, cur => rfl
  | c :: p, b, cur => by
    rw [List.cons_append, fl, flS]
    split
    · split
      · exact fl_flS p b []
      · rw [fl_flS p b []]; rfl
    · exact fl_flS p b _
theorem flS_snoc : ∀ (p cur : List UInt8) (c : UInt8), c ≠ 32 → flS (p ++ [c]) cur = ((flS p cur).1, (flS p cur).2 ++ [c])
  | [], cur, c, h => by show (if c = 32 then _ else flS [] (cur ++ [c])) = _; rw [if_neg h]; rfl
  | x :: p, cur, c, h => by
    rw [List.cons_append, flS, flS]
    split
    · split
      · exact flS_snoc p [] c h
      · rw [flS_snoc p [] c h]
    · exact flS_snoc p _ c h
theorem fl_cur : ∀ (t cur : List UInt8), cur ≠ [] → fl t cur = (cur ++ t.takeWhile (fun c => decide (c ≠ 32))) :: fl (t.dropWhile (fun c => decide (c ≠ 32))) []
  | [], cur, h => by simp [fl, h]
  | c :: t, cur, h => by
    rw [fl]
    by_cases hc : c = 32
    · rw [if_pos hc, if_neg h, List.takeWhile_cons_of_neg (by simp [hc]), List.dropWhile_cons_of_neg (by simp [hc]), List.append_nil]
      rw [fl, if_pos hc, if_pos rfl]
    · rw [if_neg hc, fl_cur t (cur ++ [c]) (by simp), List.takeWhile_cons_of_pos (by simp [hc]), List.dropWhile_cons_of_pos (by simp [hc])]
      simp
theorem fl_none : ∀ (a : List UInt8), fl a [] = [] → ∀ c, c ∈ a → c = 32
  | [], _, c, h => by cases h
  | x :: a, he, c, h => by
    rw [fl] at he
    by_cases hx : x = 32
    · rw [if_pos hx, if_pos rfl] at he
      rcases List.mem_cons.1 h with rfl | h
      · exact hx
      · exact fl_none a he c h
    · rw [if_neg hx, fl_cur a _ (by simp)] at he; cases he
noncomputable def wF (s : SpecD) (l : List UInt8) : List Int × List Int := wordF s l.length l
theorem wordF_more (s : SpecD) : ∀ (f : Nat) (l : List UInt8), l.length ≤ f → ∀ g, l.length ≤ g → wordF s f l = wordF s g l
  | f, [], _, g, _ => by rw [wordF_nil, wordF_nil]
  | 0, c :: t, h, _, _ => by simp at h
  | f + 1, c :: t, h, 0, h2 => by simp at h2
  | f + 1, c :: t, h, g + 1, h2 => by
    have h3 := dropWhile_le isDig t
    simp only [List.length_cons] at h h2
    rw [wordF, wordF]
    by_cases hd : (s.numbers && isDig c) = true
    · have hd2 : isDig c = true := by rw [Bool.and_eq_true] at hd; exact hd.2
      rw [if_pos hd, if_pos hd, List.dropWhile_cons_of_pos hd2, wordF_more s f _ (by omega) g (by omega)]
    · rw [if_neg hd, if_neg hd, wordF_more s f t (by omega) g (by omega)]
theorem wF_nil (s : SpecD) : wF s [] = ([], []) := wordF_nil ..
theorem wF_cons (s : SpecD) (c : UInt8) (t : List UInt8) : wF s (c :: t) = if s.numbers && isDig c then
      (1 :: ((numOf ((c :: t).takeWhile isDig)).length : Int) :: (numOf ((c :: t).takeWhile isDig) ++ (wF s ((c :: t).dropWhile isDig)).1), zerosOf ((c :: t).takeWhile isDig) :: (wF s ((c :: t).dropWhile isDig)).2)
    else if 0 ≤ (grp s c).1 then ((2 + (grp s c).1) :: (wF s t).1, (grp s c).2 :: (wF s t).2) else wF s t := by
  unfold wF
  rw [List.length_cons, wordF]
  by_cases hd : (s.numbers && isDig c) = true
  · have hd2 : isDig c = true := by rw [Bool.and_eq_true] at hd; exact hd.2
    have h3 := dropWhile_le isDig t
    rw [if_pos hd, if_pos hd, wordF_more s t.length ((c :: t).dropWhile isDig) (by rw [List.dropWhile_cons_of_pos hd2]; exact h3) _ (Nat.le_refl _)]
  · rw [if_neg hd, if_neg hd]
theorem wordS_wF (s : SpecD) (w : ByteArray) : wordS s w = wF s (bl w) := by
  unfold wordS wF; rw [bl_len]
def noDig (l : List UInt8) : Prop := ∀ c t, l = c :: t → isDig c = false
theorem takeWhile_app {p : UInt8 → Bool} : ∀ (a b : List UInt8), (∃ c, c ∈ a ∧ p c = false) → (a ++ b).takeWhile p = a.takeWhile p ∧ (a ++ b).dropWhile p = a.dropWhile p ++ b ∧ (a.dropWhile p).length ≤ a.length ∧ ∃ a', a = a' ++ a.dropWhile p ∧ a.dropWhile p ≠ []
  | [], b, ⟨c, h, _⟩ => by cases h
  | x :: a, b, ⟨c, h, hp⟩ => by
    by_cases hx : p x = true
    · have hc : c ∈ a := by
        rcases List.mem_cons.1 h with rfl | h
        · rw [hp] at hx; cases hx
        · exact h
      obtain ⟨h1, h2, h3, a', h4, h5⟩ := takeWhile_app a b ⟨c, hc, hp⟩
      rw [List.cons_append, List.takeWhile_cons_of_pos hx, List.takeWhile_cons_of_pos hx, List.dropWhile_cons_of_pos hx, List.dropWhile_cons_of_pos hx, h1, h2]
      exact ⟨rfl, rfl, by simp only [List.length_cons]; omega, x :: a', by rw [List.cons_append, ← h4], h5⟩
    · rw [List.cons_append, List.takeWhile_cons_of_neg hx, List.takeWhile_cons_of_neg hx, List.dropWhile_cons_of_neg hx, List.dropWhile_cons_of_neg hx]
      exact ⟨rfl, rfl, Nat.le_refl _, [], rfl, by simp⟩
theorem wF_append (s : SpecD) : ∀ (n : Nat) (a b : List UInt8), a.length ≤ n → (noDig b ∨ ∀ a' c, a = a' ++ [c] → isDig c = false) → wF s (a ++ b) = ((wF s a).1 ++ (wF s b).1, (wF s a).2 ++ (wF s b).2)
  | _, [], b, _, _ => by rw [wF_nil]; simp
  | 0, c :: t, b, h, _ => by simp at h
  | n + 1, c :: t, b, h, hs => by
    simp only [List.length_cons] at h
    have hs2 : ∀ t2 : List UInt8, t2 ≠ [] → (∃ a', c :: t = a' ++ t2) → (noDig b ∨ ∀ a' c, t2 = a' ++ [c] → isDig c = false) := fun t2 _ ⟨a', e⟩ => hs.imp id fun hl a2 c2 e2 => hl (a' ++ a2) c2 (by rw [e, e2, List.append_assoc])
    rw [List.cons_append, wF_cons, wF_cons]
    by_cases hd : (s.numbers && isDig c) = true
    · have hd2 : isDig c = true := by rw [Bool.and_eq_true] at hd; exact hd.2
      rw [if_pos hd, if_pos hd]
      by_cases hall : ∃ x, x ∈ c :: t ∧ isDig x = false
      · obtain ⟨h1, h2, h3, a', h4, h5⟩ := takeWhile_app (c :: t) b hall
        rw [List.cons_append] at h1 h2
        rw [h1, h2, wF_append s n _ b (by rw [List.dropWhile_cons_of_pos hd2]; have := dropWhile_le isDig t; omega) (hs2 _ h5 ⟨a', h4⟩)]
        simp
      · have hall2 : ∀ x, x ∈ c :: t → isDig x = true := fun x hx => by
          cases hv : isDig x with
          | true => rfl
          | false => exact absurd ⟨x, hx, hv⟩ hall
        have hb : noDig b := by
          rcases hs with hs | hs
          · exact hs
          · have hne : (c :: t) ≠ [] := by simp
            have := hs _ _ (List.dropLast_concat_getLast hne).symm
            rw [hall2 _ (List.getLast_mem hne)] at this; cases this
        have hr : b = [] ∨ ∃ c t, b = c :: t ∧ isDig c = false := by
          cases b with
          | nil => exact .inl rfl
          | cons y b => exact .inr ⟨y, b, rfl, hb y b rfl⟩
        obtain ⟨h1, h2⟩ := take_digs hall2 hr
        obtain ⟨h3, h4⟩ := take_digs (r := []) hall2 (.inl rfl)
        rw [List.append_nil] at h3 h4
        rw [List.cons_append] at h1 h2
        rw [h1, h2, h3, h4, wF_nil]
        simp
    · rw [if_neg hd, if_neg hd]
      have ih : wF s (t ++ b) = ((wF s t).1 ++ (wF s b).1, (wF s t).2 ++ (wF s b).2) := by
        cases t with
        | nil => rw [wF_nil]; simp
        | cons y t => exact wF_append s n _ b (by omega) (hs2 _ (by simp) ⟨[c], rfl⟩)
      rw [ih]
      split <;> rfl
theorem keyL_append (s : SpecD) : ∀ (ws vs : List ByteArray) (fst : Bool), keyL s fst (ws ++ vs) = ((keyL s fst ws).1 ++ (keyL s (fst && ws.isEmpty) vs).1, (keyL s fst ws).2 ++ (keyL s (fst && ws.isEmpty) vs).2)
  | [], vs, fst => by simp [keyL]
  | w :: ws, vs, fst => by
    rw [List.cons_append, keyL, keyL, keyL_append s ws vs false]
    simp
theorem lexi_app : ∀ a x y : List Int, lexi (a ++ x) (a ++ y) = lexi x y
  | [], x, y => rfl
  | c :: a, x, y => by
    rw [List.cons_append, List.cons_append, lexi_cons, if_neg (Int.lt_irrefl _), if_neg (Int.lt_irrefl _), lexi_app a x y]
theorem lexi_less {a b : Int} {x y : List Int} (h : a < b) : lexi (a :: x) (b :: y) = -1 := by rw [lexi_cons, if_pos h]
end Go.Proofs.YtfnkciboencifaaDoor
set_option linter.all false
namespace Go.Proofs.YtfnkciboencifaaDoor
open Go Go.RowKit
set_option linter.unusedSimpArgs false
set_option linter.unusedVariables false
structure OrdI (c : Int → Int → Int) : Prop where
  anti : ∀ a b, c a b = - c b a
  trans : ∀ a b d, c a b ≤ 0 → c b d ≤ 0 → c a d ≤ 0
structure OrderI (c : Nat → Nat → Int) (n : Nat) (o : List Int) : Prop where
  len : o.length = n
  rng : ∀ k, k < n → 0 ≤ li o k ∧ li o k < n
  nodup : o.Nodup
  sorted : ∀ k, 0 < k → k < n → c (li o (k - 1)).toNat (li o k).toNat ≤ 0
end Go.Proofs.YtfnkciboencifaaDoor
set_option linter.all false
namespace Go.Proofs.YtfnkciboencifaaDoor
open Go Go.RowKit
set_option linter.unusedSimpArgs false
set_option linter.unusedVariables false
set_option maxRecDepth 20000
set_option maxHeartbeats 4000000
theorem made_valid (l : List Int) : validE (madeS l) = 0 := by
  have h : ∀ (a : Fin 4) (b : Fin 4) (d : Fin 3) (w n : Bool), Elder.validD (toE ⟨w, madeSk (a.1 : Int), n, madeO (b.1 : Int) (d.1 : Int)⟩) = 0 := by decide +kernel
  have h20 := atI_lo (l := l) (i := 2) (m := 4) (by decide)
  have h21 := atI_hi (l := l) (i := 2) (m := 4) (by decide)
  have h30 := atI_lo (l := l) (i := 3) (m := 4) (by decide)
  have h31 := atI_hi (l := l) (i := 3) (m := 4) (by decide)
  have h40 := atI_lo (l := l) (i := 4) (m := 3) (by decide)
  have h41 := atI_hi (l := l) (i := 4) (m := 3) (by decide)
  rw [← validD_eq]
  unfold madeS
  have := h ⟨(atI l 2 4).toNat, by omega⟩ ⟨(atI l 3 4).toNat, by omega⟩ ⟨(atI l 4 3).toNat, by omega⟩ (decide (atI l 0 2 = 0)) (decide (atI l 1 2 = 0))
  simp only [Int.toNat_of_nonneg h20, Int.toNat_of_nonneg h30, Int.toNat_of_nonneg h40] at this
  exact this
end Go.Proofs.YtfnkciboencifaaDoor
set_option linter.all false
namespace Go.Proofs.YtfnkciboencifaaDoor
open Go Go.RowKit
set_option linter.unusedSimpArgs false
set_option linter.unusedVariables false
set_option maxRecDepth 20000
def dig1 (n : Nat) : UInt8 := UInt8.ofNat (48 + n)
def dgF : Nat → Nat → List UInt8
  | 0, n => [dig1 n]
  | f + 1, n => if n < 10 then [dig1 n] else dgF f (n / 10) ++ [dig1 (n % 10)]
def ndF : Nat → Nat → List Int
  | 0, n => [(n : Int)]
  | f + 1, n => if n < 10 then [(n : Int)] else ndF f (n / 10) ++ [((n % 10 : Nat) : Int)]
theorem dig1_ok {n : Nat} (h : n < 10) : isDig (dig1 n) = true ∧ digOf (dig1 n) = n ∧ (dig1 n = 48 → n = 0) ∧ dig1 n ≠ 32 := by
  have hall : ∀ n : Fin 10, isDig (dig1 n.1) = true ∧ digOf (dig1 n.1) = (n.1 : Int) ∧ (dig1 n.1 = 48 → n.1 = 0) ∧ dig1 n.1 ≠ 32 := by decide
  exact hall ⟨n, h⟩
theorem div10 {f n : Nat} (h : n < 10 ^ (f + 2)) : n / 10 < 10 ^ (f + 1) := by
  rw [Nat.pow_succ] at h
  exact Nat.div_lt_of_lt_mul (by rw [Nat.mul_comm]; exact h)
theorem dgF_dig : ∀ (f n : Nat), n < 10 ^ (f + 1) → ∀ c, c ∈ dgF f n → isDig c = true ∧ c ≠ 32
  | 0, n, h, c, hc => by
    have h := dig1_ok (show n < 10 by simpa using h)
    rw [List.mem_singleton.1 hc]; exact ⟨h.1, h.2.2.2⟩
  | f + 1, n, h, c, hc => by
    rw [dgF] at hc
    split at hc
    · rename_i h10
      have h := dig1_ok h10
      rw [List.mem_singleton.1 hc]; exact ⟨h.1, h.2.2.2⟩
    · rcases List.mem_append.1 hc with hc | hc
      · exact dgF_dig f _ (div10 h) c hc
      · have h := dig1_ok (Nat.mod_lt n (show 0 < 10 by decide))
        rw [List.mem_singleton.1 hc]; exact ⟨h.1, h.2.2.2⟩
theorem dgF_num : ∀ (f n : Nat), n < 10 ^ (f + 1) → (dgF f n).map digOf = ndF f n
  | 0, n, h => by
    have h := dig1_ok (show n < 10 by simpa using h)
    simp [dgF, ndF, h.2.1]
  | f + 1, n, h => by
    rw [dgF, ndF]
    split
    · rename_i h10
      simp [(dig1_ok h10).2.1]
    · rw [List.map_append, dgF_num f _ (div10 h)]
      simp [(dig1_ok (Nat.mod_lt n (show 0 < 10 by decide))).2.1]
theorem dgF_head : ∀ (f n : Nat), n < 10 ^ (f + 1) → 0 < n → ∃ c t, dgF f n = c :: t ∧ c ≠ 48
  | 0, n, h, h0 => ⟨_, [], rfl, fun e => by have := (dig1_ok (show n < 10 by simpa using h)).2.2.1 e; omega⟩
  | f + 1, n, h, h0 => by
    rw [dgF]
    split
    · rename_i h10
      exact ⟨_, [], rfl, fun e => by have := (dig1_ok h10).2.2.1 e; omega⟩
    · obtain ⟨c, t, e, hc⟩ := dgF_head f (n / 10) (div10 h) (by omega)
      rw [e]; exact ⟨c, _, rfl, hc⟩
theorem dgF_zero (f : Nat) : dgF f 0 = [48] := by cases f <;> rfl
theorem dgF_numOf {f n : Nat} (h : n < 10 ^ (f + 1)) : numOf (dgF f n) = if n = 0 then [] else ndF f n := by
  by_cases h0 : n = 0
  · subst h0
    rw [if_pos rfl, dgF_zero]; rfl
  · rw [if_neg h0, ← dgF_num f n h]
    obtain ⟨c, t, e, hc⟩ := dgF_head f n h (by omega)
    unfold numOf
    rw [e, List.dropWhile_cons_of_neg (by simp [zero8, hc])]
def val : List Int → Int
  | [] => 0
  | c :: t => c * 10 ^ t.length + val t
def Digs (l : List Int) : Prop := ∀ c, c ∈ l → 0 ≤ c ∧ c ≤ 9
theorem pow10 (n : Nat) : (1 : Int) ≤ 10 ^ n := by
  induction n with
  | zero => decide
  | succ n ih => rw [Int.pow_succ]; omega
theorem val_rng : ∀ l : List Int, Digs l → 0 ≤ val l ∧ val l < 10 ^ l.length
  | [], _ => by decide
  | c :: t, h => by
    obtain ⟨h1, h2⟩ := val_rng t fun x hx => h x (List.mem_cons_of_mem _ hx)
    obtain ⟨h3, h4⟩ := h c (List.mem_cons_self ..)
    have hp := pow10 t.length
    have h5 : 0 ≤ c * 10 ^ t.length := Int.mul_nonneg h3 (by omega)
    have h6 : c * 10 ^ t.length ≤ 9 * 10 ^ t.length := Int.mul_le_mul_of_nonneg_right h4 (by omega)
    rw [val, List.length_cons, Int.pow_succ]
    omega
theorem val_snoc : ∀ (l : List Int) (c : Int), val (l ++ [c]) = val l * 10 + c
  | [], c => by simp [val]
  | x :: l, c => by
    rw [List.cons_append, val, val, val_snoc l c, List.length_append, List.length_singleton, Int.pow_succ, Int.add_mul, ← Int.mul_assoc]
    omega
theorem ndF_ok : ∀ (f n : Nat), n < 10 ^ (f + 1) → Digs (ndF f n) ∧ val (ndF f n) = n
  | 0, n, h => by
    have h : n < 10 := by simpa using h
    refine ⟨fun c hc => ?_, by simp [ndF, val]⟩
    rw [List.mem_singleton.1 hc]; omega
  | f + 1, n, h => by
    rw [ndF]
    split
    · refine ⟨fun c hc => ?_, by simp [val]⟩
      rw [List.mem_singleton.1 hc]; omega
    · obtain ⟨h1, h2⟩ := ndF_ok f (n / 10) (div10 h)
      refine ⟨fun c hc => ?_, by rw [val_snoc, h2]; omega⟩
      rcases List.mem_append.1 hc with hc | hc
      · exact h1 c hc
      · rw [List.mem_singleton.1 hc]; omega
theorem ndF_low : ∀ (f n : Nat), n < 10 ^ (f + 1) → 0 < n → 10 ^ ((ndF f n).length - 1) ≤ n ∧ 0 < (ndF f n).length
  | 0, n, h, h0 => by simp [ndF]; omega
  | f + 1, n, h, h0 => by
    rw [ndF]
    split
    · simp; omega
    · obtain ⟨h1, h2⟩ := ndF_low f (n / 10) (div10 h) (by omega)
      rw [List.length_append, List.length_singleton]
      refine ⟨?_, by omega⟩
      have e : (ndF f (n / 10)).length + 1 - 1 = ((ndF f (n / 10)).length - 1) + 1 := by omega
      rw [e, Nat.pow_succ]
      omega
theorem lexi_val : ∀ (a b x y : List Int), a.length = b.length → Digs a → Digs b → val a < val b → lexi (a ++ x) (b ++ y) = -1
  | [], [], x, y, _, _, _, h => by simp [val] at h
  | [], _ :: _, _, _, h, _, _, _ => by simp at h
  | _ :: _, [], _, _, h, _, _, _ => by simp at h
  | c :: a, d :: b, x, y, hl, ha, hb, h => by
    have hl2 : a.length = b.length := by simpa using hl
    have ha2 : Digs a := fun z hz => ha z (List.mem_cons_of_mem _ hz)
    have hb2 : Digs b := fun z hz => hb z (List.mem_cons_of_mem _ hz)
    rw [List.cons_append, List.cons_append]
    rw [val, val, hl2] at h
    have v1 := val_rng a ha2
    have v2 := val_rng b hb2
    rw [hl2] at v1
    rcases Int.lt_trichotomy c d with g | g | g
    · exact lexi_less g
    · subst g
      rw [lexi_cons, if_neg (Int.lt_irrefl _), if_neg (Int.lt_irrefl _)]
      exact lexi_val a b x y hl2 ha2 hb2 (by omega)
    · have h1 : (d + 1) * 10 ^ b.length ≤ c * 10 ^ b.length := Int.mul_le_mul_of_nonneg_right (by omega) (by have := pow10 b.length; omega)
      rw [Int.add_mul] at h1
      omega
def numL (f n : Nat) : List Int := if n = 0 then [] else ndF f n
theorem numL_ok (f n : Nat) (h : n < 10 ^ (f + 1)) : Digs (numL f n) ∧ val (numL f n) = n := by
  unfold numL
  split
  · rename_i h0; subst h0; exact ⟨fun c hc => (by cases hc), rfl⟩
  · exact ndF_ok f n h
theorem numL_len {f n k : Nat} (hn : n < 10 ^ (f + 1)) (hk : k < 10 ^ (f + 1)) (h : n < k) : (numL f n).length ≤ (numL f k).length := by
  apply Nat.le_of_not_lt
  intro hl
  by_cases h0 : n = 0
  · unfold numL at hl; rw [if_pos h0] at hl; simp at hl
  · have h1 := ndF_low f n hn (by omega)
    have e : numL f n = ndF f n := if_neg h0
    rw [e] at hl
    have h2 := (numL_ok f k hk).2
    have h3 := (val_rng _ (numL_ok f k hk).1).2
    rw [h2] at h3
    have h4 : 10 ^ (numL f k).length ≤ 10 ^ ((ndF f n).length - 1) := Nat.pow_le_pow_right (by decide) (by omega)
    have h5 : ((10 ^ (numL f k).length : Nat) : Int) = (10 : Int) ^ (numL f k).length := by simp
    omega
theorem num_lt {f n k : Nat} (hn : n < 10 ^ (f + 1)) (hk : k < 10 ^ (f + 1)) (h : n < k) (x y : List Int) : lexi (((numL f n).length : Int) :: (numL f n ++ x)) (((numL f k).length : Int) :: (numL f k ++ y)) = -1 := by
  have hl := numL_len hn hk h
  rcases Nat.lt_or_eq_of_le hl with g | g
  · exact lexi_less (by omega)
  · rw [g, lexi_cons, if_neg (Int.lt_irrefl _), if_neg (Int.lt_irrefl _)]
    obtain ⟨a1, a2⟩ := numL_ok f n hn
    obtain ⟨b1, b2⟩ := numL_ok f k hk
    exact lexi_val _ _ _ _ g a1 b1 (by omega)
def valueI (a b : Int) : Int := if a < b then -1 else if b < a then 1 else 0
def specB (w : Bool) (sk : List ByteArray) (n : Bool) (l : List Int) : SpecD := ⟨w, sk, n, madeO (atI l 3 4) (atI l 4 3)⟩
theorem fin_made (l : List Int) (Q : Int → Int → Int → Prop) (h : ∀ (a : Fin 4) (b : Fin 4) (d : Fin 3), Q (a.1 : Int) (b.1 : Int) (d.1 : Int)) : Q (atI l 2 4) (atI l 3 4) (atI l 4 3) := by
  have h20 := atI_lo (l := l) (i := 2) (m := 4) (by decide)
  have h21 := atI_hi (l := l) (i := 2) (m := 4) (by decide)
  have h30 := atI_lo (l := l) (i := 3) (m := 4) (by decide)
  have h31 := atI_hi (l := l) (i := 3) (m := 4) (by decide)
  have h40 := atI_lo (l := l) (i := 4) (m := 3) (by decide)
  have h41 := atI_hi (l := l) (i := 4) (m := 3) (by decide)
  have := h ⟨(atI l 2 4).toNat, by omega⟩ ⟨(atI l 3 4).toNat, by omega⟩ ⟨(atI l 4 3).toNat, by omega⟩
  simp only [Int.toNat_of_nonneg h20, Int.toNat_of_nonneg h30, Int.toNat_of_nonneg h40] at this
  exact this
theorem specB_valid (w n : Bool) (l : List Int) : validE (specB w [] n l) = 0 := by
  rw [← validD_eq]
  exact fin_made l (fun _ b d => Elder.validD (toE ⟨w, [], n, madeO b d⟩) = 0) (by
    have h : ∀ (b : Fin 4) (d : Fin 3) (w n : Bool), Elder.validD (toE ⟨w, [], n, madeO (b.1 : Int) (d.1 : Int)⟩) = 0 := by decide +kernel
    exact fun _ b d => h b d w n)
theorem specN_valid (w n : Bool) (l : List Int) : validE (specB w (madeSk (atI l 2 4)) n l) = 0 := by
  rw [← validD_eq]
  exact fin_made l (fun a b d => Elder.validD (toE ⟨w, madeSk a, n, madeO b d⟩) = 0) (by
    have h : ∀ (a : Fin 4) (b : Fin 4) (d : Fin 3) (w n : Bool), Elder.validD (toE ⟨w, madeSk (a.1 : Int), n, madeO (b.1 : Int) (d.1 : Int)⟩) = 0 := by decide +kernel
    exact fun a b d => h a b d w n)
theorem grp_made (w : Bool) (sk : List ByteArray) (n : Bool) (l : List Int) (hv : validE (specB w sk n l) = 0) (c : UInt8) (hc : c = 97 ∨ c = 111) : 0 ≤ (grp (specB w sk n l) c).1 := by
  rw [← grpT_eq (valid_once hv)]
  exact fin_made l (fun _ b d => 0 ≤ Elder.grpT (pl ⟨w, sk, n, madeO b d⟩).reverse c.toNat) (by
    have h : ∀ (b : Fin 4) (d : Fin 3), 0 ≤ Elder.grpT (pl ⟨false, [], false, madeO (b.1 : Int) (d.1 : Int)⟩).reverse 97 ∧ 0 ≤ Elder.grpT (pl ⟨false, [], false, madeO (b.1 : Int) (d.1 : Int)⟩).reverse 111 := by decide +kernel
    intro _ b d
    rcases hc with rfl | rfl
    · exact (h b d).1
    · exact (h b d).2)
end Go.Proofs.YtfnkciboencifaaDoor
set_option linter.all false
namespace Go.Proofs.YtfnkciboencifaaDoor
open Go Go.RowKit
set_option linter.unusedSimpArgs false
set_option linter.unusedVariables false
set_option maxRecDepth 20000
def spB1 : ByteArray := ⟨#[32]⟩
theorem skip_rule (s : SpecD) (k : Int) (hs : s.skip = madeSk k) (w t : ByteArray) (hw : w ∈ s.skip) (ht : wordsS t ≠ []) : keyOf s (w ++ spB1 ++ t) = keyOf s t := by
  have hc : ∀ w, w ∈ s.skip → fl (bl w) [] = [bl w] ∧ foldS w = w := by
    rw [hs]
    have h : ∀ w, w ∈ [theS, ofS, aS1, kingS] → fl (bl w) [] = [bl w] ∧ foldS w = w := by decide +kernel
    intro w hw
    unfold madeSk at hw
    refine h w ?_
    split at hw
    · cases hw
    · split at hw
      · simp at hw; simp [hw]
      · split at hw
        · simp at hw; rcases hw with h | h <;> simp [h]
        · simp at hw; rcases hw with h | h | h <;> simp [h]
  obtain ⟨h1, h2⟩ := hc w hw
  have e : wordsS (w ++ spB1 ++ t) = w :: wordsS t := by
    rw [words_fl, words_fl, bl_append, bl_append]
    have : bl spB1 = [32] := rfl
    rw [this, List.append_assoc, List.singleton_append, fl_space, h1]
    simp [wB_bl]
  unfold keyOf counted
  rw [e, dropSkip_yes (by have := List.length_pos_iff.2 ht; omega) (by rw [h2]; exact tB_yes hw)]
theorem counted_bare {s : SpecD} (h : s.skip = []) (t : ByteArray) : counted s t = wordsS t := by
  unfold counted
  rw [h]
  cases wordsS t with
  | nil => rfl
  | cons x l => exact dropSkip_no (tB_no (by simp))
def odeB : ByteArray := ⟨#[32, 111, 100, 101]⟩
def odeW : ByteArray := ⟨#[111, 100, 101]⟩
theorem head_word (s : SpecD) (c : UInt8) (t : List UInt8) (hd : isDig c = false) (hg : 0 ≤ (grp s c).1) : ∃ z r, (wF s (c :: t)).1 = z :: r ∧ 2 ≤ z := by
  rw [wF_cons, hd, Bool.and_false, if_neg (by decide), if_pos hg]
  exact ⟨_, _, rfl, by omega⟩
theorem ode_rule {s : SpecD} (hs : s.skip = []) (hg : 0 ≤ (grp s 111).1) (t : ByteArray) : lexi (keyOf s t) (keyOf s (t ++ odeB)) = -1 := by
  have e : wordsS (t ++ odeB) = wordsS t ++ [odeW] := by
    rw [words_fl, words_fl, bl_append]
    have : bl odeB = 32 :: [111, 100, 101] := rfl
    rw [this, fl_space, List.map_append]
    rfl
  unfold keyOf
  rw [counted_bare hs, counted_bare hs, e, keyL_append]
  obtain ⟨z, r, h1, h2⟩ := head_word s 111 [100, 101] (by decide) hg
  have h3 : (wordS s odeW).1 = z :: r := by rw [wordS_wF]; exact h1
  rw [keyL, keyL, h3]
  simp only [List.append_assoc]
  rw [lexi_app]
  split
  · exact lexi_less (by decide)
  · exact lexi_less (by omega)
def arkB : ByteArray := ⟨#[97, 114, 107]⟩
theorem ark_rule {s : SpecD} (hs : s.skip = []) (hw : s.words = true) (hg : 0 ≤ (grp s 97).1) (w t : ByteArray) (h1 : fl (bl w) [] = [bl w]) (h2 : fl (bl (w ++ arkB)) [] = [bl (w ++ arkB)]) : lexi (keyOf s (w ++ spB1 ++ t)) (keyOf s (w ++ arkB)) = -1 := by
  have e1 : wordsS (w ++ spB1 ++ t) = w :: wordsS t := by
    rw [words_fl, words_fl, bl_append, bl_append]
    have : bl spB1 = [32] := rfl
    rw [this, List.append_assoc, List.singleton_append, fl_space, h1]
    simp [wB_bl]
  have e2 : wordsS (w ++ arkB) = [w ++ arkB] := by
    rw [words_fl, h2]; simp [wB_bl]
  unfold keyOf
  rw [counted_bare hs, counted_bare hs, e1, e2]
  obtain ⟨z, r, g1, g2⟩ := head_word s 97 [114, 107] (by decide) hg
  have g3 : (wordS s (w ++ arkB)).1 = (wordS s w).1 ++ z :: r := by
    rw [wordS_wF, wordS_wF, bl_append, wF_append s _ _ _ (Nat.le_refl _) (.inl (fun c t h => by
      have : bl arkB = 97 :: [114, 107] := rfl
      rw [this] at h
      injection h with h _
      rw [← h]; decide))]
    show (wF s (bl w)).1 ++ (wF s [97, 114, 107]).1 = _
    rw [g1]
  rw [keyL, keyL, g3]
  simp only [Bool.not_true, Bool.false_and, Bool.false_eq_true, if_false, List.nil_append, List.append_assoc]
  rw [lexi_app]
  cases wordsS t with
  | nil => exact lexi_less (by omega)
  | cons x l =>
    rw [show keyL s false (x :: l) = ((if !false && s.words then [0] else []) ++ (wordS s x).1 ++ (keyL s false l).1, (wordS s x).2 ++ (keyL s false l).2) from rfl, hw]
    exact lexi_less (by omega)
theorem wF_digits (s : SpecD) (hn : s.numbers = true) (ds : List UInt8) (hd : ∀ c, c ∈ ds → isDig c = true) (h0 : ds ≠ []) : wF s ds = (1 :: ((numOf ds).length : Int) :: numOf ds, [zerosOf ds]) := by
  cases ds with
  | nil => exact absurd rfl h0
  | cons c t =>
    obtain ⟨h3, h4⟩ := take_digs (r := []) hd (.inl rfl)
    rw [List.append_nil] at h3 h4
    rw [wF_cons, hn, hd c (List.mem_cons_self ..), Bool.and_self, if_pos rfl, h3, h4, wF_nil]
    simp
def headB (t5 : ByteArray) : ByteArray := (⟨#[120, 32]⟩ : ByteArray) ++ t5 ++ (⟨#[46]⟩ : ByteArray)
def minusB : ByteArray := ⟨#[45]⟩
def numB (n : Nat) : ByteArray := wB (dgF 4 n)
theorem num_key (s : SpecD) (k : Int) (hs : s.skip = madeSk k) (hnum : s.numbers = true) (t5 t : ByteArray) : ∃ X Y Z : List Int, ∀ n, n < 100000 → ∃ V, keyOf s (headB t5 ++ numB n ++ minusB ++ t) = X ++ 1 :: ((numL 4 n).length : Int) :: (numL 4 n ++ V) := by
  have hsk : tB (foldS ⟨#[120]⟩ ∈ s.skip) = false := by
    refine tB_no ?_
    rw [hs]
    have h : ∀ w, w ∈ [theS, ofS, aS1, kingS] → foldS ⟨#[120]⟩ ≠ w := by decide +kernel
    intro hm
    refine h (foldS ⟨#[120]⟩) ?_ rfl
    unfold madeSk at hm
    split at hm
    · cases hm
    · split at hm
      · simp at hm; simp [hm]
      · split at hm
        · simp at hm; rcases hm with h | h <;> simp [h]
        · simp at hm; rcases hm with h | h | h <;> simp [h]
  obtain ⟨pre, hpre⟩ : ∃ pre, pre = (flS (bl t5) []).1 := ⟨_, rfl⟩
  obtain ⟨cur, hcur⟩ : ∃ cur, cur = (flS (bl t5) []).2 ++ [46] := ⟨_, rfl⟩
  obtain ⟨u, hu⟩ : ∃ u, u = (bl t).takeWhile (fun c => decide (c ≠ 32)) := ⟨_, rfl⟩
  obtain ⟨post, hpost⟩ : ∃ post, post = fl ((bl t).dropWhile (fun c => decide (c ≠ 32))) [] := ⟨_, rfl⟩
  have hw : ∀ n, n < 100000 → wordsS (headB t5 ++ numB n ++ minusB ++ t) = (⟨#[120]⟩ : ByteArray) :: (pre.map wB ++ (wB (cur ++ dgF 4 n ++ (45 :: u)) :: post.map wB)) := by
    intro n hn
    have hd := dgF_dig 4 n hn
    rw [words_fl]
    have e : bl (headB t5 ++ numB n ++ minusB ++ t) = [120] ++ 32 :: ((bl t5 ++ [46]) ++ ((dgF 4 n ++ [45]) ++ bl t)) := by
      unfold headB numB
      simp only [bl_append, bl_wB, List.append_assoc]
      rfl
    rw [e, fl_space, fl_flS, flS_snoc _ _ _ (by decide), fl_plain _ _ _ (by
      intro c hc
      rcases List.mem_append.1 hc with hc | hc
      · exact (hd c hc).2
      · rw [List.mem_singleton.1 hc]; decide)]
    rw [← hpre, ← hcur]
    show List.map wB (fl [120] [] ++ (pre ++ fl (bl t) (cur ++ (dgF 4 n ++ [45])))) = _
    rw [fl_cur (bl t) (cur ++ (dgF 4 n ++ [45])) (by simp), ← hu, ← hpost]
    have e2 : fl [120] [] = [[120]] := rfl
    rw [e2]
    simp [wB]
  have hcut : ∀ n, n < 100000 → (wF s (cur ++ dgF 4 n ++ (45 :: u))).1 = (wF s cur).1 ++ (1 :: ((numL 4 n).length : Int) :: (numL 4 n ++ (wF s (45 :: u)).1)) := by
    intro n hn
    have hd := dgF_dig 4 n hn
    have hne : dgF 4 n ≠ [] := by
      rw [dgF]; split <;> simp
    have hno : numOf (dgF 4 n) = numL 4 n := dgF_numOf hn
    rw [List.append_assoc, wF_append s _ _ _ (Nat.le_refl _) (.inr (fun a' c h => by
      rw [hcur] at h
      have := List.append_inj_right' h rfl
      injection this with this _
      rw [← this]; decide)), wF_append s _ _ _ (Nat.le_refl _) (.inl (fun c t h => by
      injection h with h _
      rw [← h]; decide)), wF_digits s hnum _ (fun c hc => (hd c hc).1) hne, hno]
    simp
  refine ⟨(wordS s ⟨#[120]⟩).1 ++ (keyL s false (pre.map wB)).1 ++ ((if s.words = true then [0] else []) ++ (wF s cur).1), [], [], fun n hn => ?_⟩
  have hc : counted s (headB t5 ++ numB n ++ minusB ++ t) = (⟨#[120]⟩ : ByteArray) :: (pre.map wB ++ (wB (cur ++ dgF 4 n ++ (45 :: u)) :: post.map wB)) := by
    unfold counted
    rw [hw n hn, dropSkip_no hsk]
  unfold keyOf
  rw [hc, keyL, keyL_append, keyL, wordS_wF s (wB (cur ++ dgF 4 n ++ (45 :: u))), bl_wB, hcut n hn]
  refine ⟨(wF s (45 :: u)).1 ++ ((keyL s false (post.map wB)).1 ++ ([-1] ++ ((wordS s ⟨#[120]⟩).2 ++ ((keyL s false (pre.map wB)).2 ++ ((wF s (cur ++ dgF 4 n ++ (45 :: u))).2 ++ (keyL s false (post.map wB)).2))))), ?_⟩
  simp
theorem num_rule (s : SpecD) (k : Int) (hs : s.skip = madeSk k) (hnum : s.numbers = true) (t5 t : ByteArray) {n m : Nat} (hn : n < 100000) (hm : m < 100000) :
    lexi (keyOf s (headB t5 ++ numB n ++ minusB ++ t)) (keyOf s (headB t5 ++ numB m ++ minusB ++ t)) = valueI n m := by
  unfold valueI
  rcases Nat.lt_trichotomy n m with h | rfl | h
  · rw [if_pos (by omega)]
    obtain ⟨X, _, _, hX⟩ := num_key s k hs hnum t5 t
    obtain ⟨V, e1⟩ := hX n hn
    obtain ⟨V', e2⟩ := hX m hm
    rw [e1, e2, lexi_app, lexi_cons, if_neg (Int.lt_irrefl _), if_neg (Int.lt_irrefl _)]
    exact num_lt hn hm h _ _
  · rw [if_neg (Int.lt_irrefl _), if_neg (Int.lt_irrefl _), lexi_self]
  · rw [if_neg (by omega), if_pos (by omega), lexi_anti]
    obtain ⟨X, _, _, hX⟩ := num_key s k hs hnum t5 t
    obtain ⟨V, e1⟩ := hX n hn
    obtain ⟨V', e2⟩ := hX m hm
    rw [e1, e2, lexi_app, lexi_cons, if_neg (Int.lt_irrefl _), if_neg (Int.lt_irrefl _), num_lt hm hn h _ _]
    rfl
/- Given texts. -/
def kingT : ByteArray := ⟨#[111, 100, 101, 32, 116, 111, 32, 116, 104, 101, 32, 107, 105, 110, 103]⟩
def kingT2 : ByteArray := ⟨#[111, 100, 101, 116, 111, 32, 32, 116, 104, 101, 107, 105, 110, 103, 32]⟩
def kingT3 : ByteArray := ⟨#[111, 100, 100, 32, 116, 111, 32, 116, 104, 101, 32, 107, 105, 110, 103]⟩
theorem king_rule (n : Bool) (l : List Int) : lexi (keyOf (specB false [] n l) kingT) (keyOf (specB false [] n l) kingT2) = 0 ∧ lexi (keyOf (specB false [] n l) kingT) (keyOf (specB false [] n l) kingT3) ≠ 0 := by
  have ho := valid_once (specB_valid false n l)
  rw [← keyS_eq ho, ← keyS_eq ho, ← keyS_eq ho]
  exact fin_made l (fun _ b d => lexi (Elder.keyS (toE ⟨false, [], n, madeO b d⟩) kingT) (Elder.keyS (toE ⟨false, [], n, madeO b d⟩) kingT2) = 0 ∧ lexi (Elder.keyS (toE ⟨false, [], n, madeO b d⟩) kingT) (Elder.keyS (toE ⟨false, [], n, madeO b d⟩) kingT3) ≠ 0) (by
    have h : ∀ (b : Fin 4) (d : Fin 3) (n : Bool), lexi (Elder.keyS (toE ⟨false, [], n, madeO (b.1 : Int) (d.1 : Int)⟩) kingT) (Elder.keyS (toE ⟨false, [], n, madeO (b.1 : Int) (d.1 : Int)⟩) kingT2) = 0 ∧ lexi (Elder.keyS (toE ⟨false, [], n, madeO (b.1 : Int) (d.1 : Int)⟩) kingT) (Elder.keyS (toE ⟨false, [], n, madeO (b.1 : Int) (d.1 : Int)⟩) kingT3) ≠ 0 := by decide +kernel
    exact fun _ b d => h b d n)
def markW : List ByteArray := [⟨#[110, 101, 119]⟩, ⟨#[116, 104, 101]⟩, ⟨#[97]⟩, ⟨#[75, 105, 110, 103]⟩, ⟨#[120, 45]⟩]
theorem mark_rule (n : Bool) (l : List Int) {k : Nat} (hk : k < 5) : lexi (keyOf (specB true [] n l) (ls markW k)) (keyOf (specB true [] n l) (ls markW k ++ arkB)) = -1 := by
  have ho := valid_once (specB_valid true n l)
  rw [← keyS_eq ho, ← keyS_eq ho]
  exact fin_made l (fun _ b d => lexi (Elder.keyS (toE ⟨true, [], n, madeO b d⟩) (ls markW k)) (Elder.keyS (toE ⟨true, [], n, madeO b d⟩) (ls markW k ++ arkB)) = -1) (by
    have h : ∀ (b : Fin 4) (d : Fin 3) (n : Bool) (k : Fin 5), lexi (Elder.keyS (toE ⟨true, [], n, madeO (b.1 : Int) (d.1 : Int)⟩) (ls markW k.1)) (Elder.keyS (toE ⟨true, [], n, madeO (b.1 : Int) (d.1 : Int)⟩) (ls markW k.1 ++ arkB)) = -1 := by decide +kernel
    exact fun _ b d => h b d n ⟨k, hk⟩)
theorem mark_fl {k : Nat} (hk : k < 5) : fl (bl (ls markW k)) [] = [bl (ls markW k)] ∧ fl (bl (ls markW k ++ arkB)) [] = [bl (ls markW k ++ arkB)] ∧ (ls markW k).size ≤ 4 := by
  have h : ∀ k : Fin 5, fl (bl (ls markW k.1)) [] = [bl (ls markW k.1)] ∧ fl (bl (ls markW k.1 ++ arkB)) [] = [bl (ls markW k.1 ++ arkB)] ∧ (ls markW k.1).size ≤ 4 := by decide +kernel
  exact h ⟨k, hk⟩
end Go.Proofs.YtfnkciboencifaaDoor
set_option linter.all false
namespace Go.Proofs.YtfnkciboencifaaDoor
open Go Go.RowKit
set_option linter.unusedSimpArgs false
set_option linter.unusedVariables false
set_option maxRecDepth 20000
set_option maxHeartbeats 1000000
theorem leqW40 {p : Prop} (h : p := by (refine ⟨4, ?_, ?_, rfl, by simp, rfl, fun _ h _ => absurd h (Nat.not_lt_zero _)⟩ <;> (simp only [List.forall_mem_cons]; repeat' (first | refine And.intro ?_ ?_ | (intro p hp; exact absurd hp List.not_mem_nil) | rfl | exact (sealed_pure _ _ _ (pure_ints _)).trans (ren_ints _ _).symm | exact (sealed_pure _ _ _ (pure_strs _)).trans (ren_strs _ _).symm | exact sp (by assumption) | (intro o ho; cases ho; refine ⟨by decide, ?_⟩; first | (refine LeqS.row rfl ?_ ?_; (next => (first | rfl | (simp only [List.map_append, List.map_cons, List.map_nil, List.append_nil, List.nil_append, List.append_assoc, List.cons_append, encI, encS, ints, strs]; done) | (simp [encI, encS, ints, strs, encT]; done))); (next => (first | rfl | exact pureL_encI _ | exact pureL_encS _ | exact pureL_ints _ | exact pureL_strs _ | exact pureL_encT _ | (simp [pureL_append, pureL_encI, pureL_encS, pureL_ints, pureL_strs, pureL, PV.pure, pure_ints, pure_strs, pureL_encT]; done))); done) | refine ⟨_, rfl, rfl, ?_⟩) | (simp [St.born, St.known, retV, St.get, St.obj, lk, sealed, PV.ren, renL, rmap, AO.ren, ints, strs, encI, encS, map_sealed_encI, map_sealed_encS, map_sealed_ints, map_sealed_strs, map_ren_encI, map_ren_encS, map_ren_ints, map_ren_strs, renL_encI, renL_encS, renL_ints, renL_strs] <;> omega))))) : p := h
theorem lelW40 {p : Prop} (h : p := by (first | rfl | (simp only [List.map_append, List.map_cons, List.map_nil, List.append_nil, List.nil_append, List.append_assoc, List.cons_append, encI, encS, ints, strs]; done) | (simp [encI, encS, ints, strs, encT]; done))) : p := h
theorem lpuW40 {p : Prop} (h : p := by (first | rfl | exact pureL_encI _ | exact pureL_encS _ | exact pureL_ints _ | exact pureL_strs _ | exact pureL_encT _ | (simp [pureL_append, pureL_encI, pureL_encS, pureL_ints, pureL_strs, pureL, PV.pure, pure_ints, pure_strs, pureL_encT]; done))) : p := h
theorem lsrW40 {p : Prop} (h : p := by (first | rfl | (simp [St.born, St.known, retV, St.get, St.obj, lk, sealed, PV.ren, renL, rmap, AO.ren, ints, strs, encI, encS, map_sealed_encI, map_sealed_encS, map_sealed_ints, map_sealed_strs, map_ren_encI, map_ren_encS, map_ren_ints, map_ren_strs, renL_encI, renL_encS, renL_ints, renL_strs]; done))) : p := h
theorem lpvW40 {p : Prop} (h : p := by (first | rfl | (simp [pure_ints, pure_strs, PV.pure, pureL, pureL_encI, pureL_encS, pureL_ints, pureL_strs, pureL_encT]; done))) : p := h
def kindI (c : UInt8) : Int := if (97 ≤ c.toNat ∧ c.toNat ≤ 122) ∨ (65 ≤ c.toNat ∧ c.toNat ≤ 90) then 0 else if 48 ≤ c.toNat ∧ c.toNat ≤ 57 then 1 else if c.toNat = 64 then 3 else 2
theorem kind_pure (c : UInt8) : Pure Tryd.prog 61 [.atom (.int .u8 (c.toNat : Int))] (encI (kindI c)) [] := by
  have hk : kindI c = if (97 ≤ c.toNat ∧ c.toNat ≤ 122) ∨ (65 ≤ c.toNat ∧ c.toNat ≤ 90) then 0 else if 48 ≤ c.toNat ∧ c.toNat ≤ 57 then 1 else if c.toNat = 64 then 3 else 2 := rfl
  refine Pure.intro (ts := [2]) Tryd.func61 (by kernel_rfl) rfl rfl rfl (Nat.le_of_ble_eq_true rfl) ?_ ?_
  · simp [pure_ints, pure_strs, encI, encS, PV.pure, pureL]
  refine sY [0] (fun P S K => K ⟨[(0, S.get 0)], S.hp, S.nx, S.gh⟩) ?_
  all_goals
  refine Tri.seq ?_
  refine Tri.block ?_
  refine sZ [0, 3] (fun P S K => XvBinOV P .leq 5 (.tmp 4) (.atom (.int .u8 97)) (S.get 0) (fun r1 _ => Xgq r1 true (fun k => k (S.get 0)) (fun g3 r3 => Xgq g3 true (fun k => XvBinOV P .leq 5 (.const (.int .u8 122)) r3 (.atom (.int .u8 122)) (fun r4 _ => k r4)) (fun g4 r4 => XvPick g4 r4 (.atom (.bool false)) (fun r5 _ => Xgq r5 false (fun k => k (S.get 0)) (fun g7 r7 => Xgq g7 false (fun k => XvBinOV P .leq 5 (.tmp 11) (.atom (.int .u8 65)) r7 (fun r8 _ => k r8)) (fun g8 r8 => Xgq g8 false (fun k => k r8) (fun g9 r9 => Xgq r9 true (fun k => k (S.get 0)) (fun g10 r10 => Xgq g10 true (fun k => XvBinOV P .leq 5 (.const (.int .u8 90)) r10 (.atom (.int .u8 90)) (fun r11 _ => k r11)) (fun g11 r11 => Xgq g9 false (fun k => XvPick g11 r11 (.atom (.bool false)) (fun r12 _ => k r12)) (fun g12 r12 => XvPick g12 (.atom (.bool true)) r12 (fun r13 _ => K ⟨[(0, S.get 0), (3, r13)], S.hp, S.nx, S.gh⟩)))))))))))) fun K hK => ?_
  repeat' (first | (refine hK _ ?_; clear hK K) | ((first | refine xG_intro (fun hg => ?_) (fun hg => ?_) | refine fun (hg : (_ : Prop)) => ?_) <;> ((try simp only [BQ] at hg); try (exfalso; omega))) | refine And.intro ?_ ?_ | exact cl | refine one_take ?_ _ | refine one_drop ?_ _ | refine st ?_)
  all_goals
  refine Tri.cond rfl (fun h3 => ?_) (fun h3 => ?_)
  ·try (cases h3; done)
   all_goals (try simp only [CQ] at h3)
   all_goals
   refine sY [2] (fun P S K => K ⟨[(2, (.atom (.int .i64 0)))], S.hp, S.nx, S.gh⟩) ?_
   all_goals
   refine Tri.ret ?_
   show ResOk _ _ _ _
   rw [hk, if_pos (by omega)]
   exact ResOk.val lsrW40 lpvW40
  ·try (cases h3; done)
   all_goals (try simp only [CQ] at h3)
   all_goals
   refine sZ [0, 18] (fun P S K => XvBinOV P .leq 5 (.tmp 19) (.atom (.int .u8 48)) (S.get 0) (fun r1 _ => Xgq r1 true (fun k => k (S.get 0)) (fun g3 r3 => Xgq g3 true (fun k => XvBinOV P .leq 5 (.const (.int .u8 57)) r3 (.atom (.int .u8 57)) (fun r4 _ => k r4)) (fun g4 r4 => XvPick g4 r4 (.atom (.bool false)) (fun r5 _ => K ⟨[(0, S.get 0), (18, r5)], S.hp, S.nx, S.gh⟩))))) fun K hK => ?_
   repeat' (first | (refine hK _ ?_; clear hK K) | ((first | refine xG_intro (fun hg => ?_) (fun hg => ?_) | refine fun (hg : (_ : Prop)) => ?_) <;> ((try simp only [BQ] at hg); try (exfalso; omega))) | refine And.intro ?_ ?_ | exact cl | refine one_take ?_ _ | refine one_drop ?_ _ | refine st ?_)
   all_goals
   refine Tri.cond rfl (fun h18 => ?_) (fun h18 => ?_)
   ·try (cases h18; done)
    all_goals (try simp only [CQ] at h18)
    all_goals
    refine sY [2] (fun P S K => K ⟨[(2, (.atom (.int .i64 1)))], S.hp, S.nx, S.gh⟩) ?_
    all_goals
    refine Tri.ret ?_
    show ResOk _ _ _ _
    rw [hk, if_neg (by omega), if_pos (by omega)]
    exact ResOk.val lsrW40 lpvW40
   ·try (cases h18; done)
    all_goals (try simp only [CQ] at h18)
    all_goals
    refine sY [25] (fun P S K => XvBinOV P .eql 5 (.const (.int .u8 64)) (S.get 0) (.atom (.int .u8 64)) (fun r1 _ => K ⟨[(25, r1)], S.hp, S.nx, S.gh⟩)) ?_
    all_goals
    refine Tri.cond rfl (fun h25 => ?_) (fun h25 => ?_)
    ·try (cases h25; done)
     all_goals (try simp only [CQ] at h25)
     all_goals
     refine sY [2] (fun P S K => K ⟨[(2, (.atom (.int .i64 3)))], S.hp, S.nx, S.gh⟩) ?_
     all_goals
     refine Tri.ret ?_
     show ResOk _ _ _ _
     rw [hk, if_neg (by omega), if_neg (by omega), if_pos (by omega)]
     exact ResOk.val lsrW40 lpvW40
    ·try (cases h25; done)
     all_goals (try simp only [CQ] at h25)
     all_goals
     refine Tri.skip ?_
     refine sY [2] (fun P S K => K ⟨[(2, (.atom (.int .i64 2)))], S.hp, S.nx, S.gh⟩) ?_
     all_goals
     refine Tri.ret ?_
     show ResOk _ _ _ _
     rw [hk, if_neg (by omega), if_neg (by omega), if_neg (by omega)]
     exact ResOk.val lsrW40 lpvW40
def runE (s : ByteArray) (k : Int) : Nat → Nat → Nat
  | 0, q => q
  | n + 1, q => if (k = 0 ∨ k = 1) ∧ kindI (byteAt s q) = k then runE s k n (q + 1) else q
def endN (s : ByteArray) (i : Nat) : Nat := runE s (kindI (byteAt s i)) (s.size - (i + 1)) (i + 1)
theorem runE_rng (s : ByteArray) (k : Int) : ∀ n q, q ≤ runE s k n q ∧ runE s k n q ≤ q + n
  | 0, q => ⟨Nat.le_refl _, Nat.le_refl _⟩
  | n + 1, q => by
    rw [runE]; split
    · have := runE_rng s k n (q + 1); omega
    · omega
theorem runE_step {s : ByteArray} {k : Int} {q : Nat} (h : q < s.size) : runE s k (s.size - q) q = if (k = 0 ∨ k = 1) ∧ kindI (byteAt s q) = k then runE s k (s.size - (q + 1)) (q + 1) else q := by
  rw [show s.size - q = (s.size - (q + 1)) + 1 by omega]; rfl
theorem runE_stop {s : ByteArray} {k : Int} {q : Nat} (h : ¬ (q < s.size ∧ (k = 0 ∨ k = 1) ∧ kindI (byteAt s q) = k)) : runE s k (s.size - q) q = q := by
  by_cases hz : q < s.size
  · rw [runE_step hz, if_neg (fun g => h ⟨hz, g⟩)]
  · rw [show s.size - q = 0 by omega]; rfl
theorem endN_rng {s : ByteArray} {i : Nat} (h : i < s.size) : i < endN s i ∧ endN s i ≤ s.size := by
  have := runE_rng s (kindI (byteAt s i)) (s.size - (i + 1)) (i + 1)
  unfold endN; omega
theorem split1_pure (s : ByteArray) (i : Nat) (hi : i < s.size) (hs : s.size ≤ 4294967296) : Pure Tryd.prog 60 [encI i, .fptr 1 [encS s] 0 0] (encI (endN s i : Nat)) [] := by
  refine Pure.intro (ts := [3]) Tryd.func60 (by kernel_rfl) rfl rfl rfl (Nat.le_of_ble_eq_true rfl) ?_ ?_
  · simp [encI, encS, PV.pure, pureL]
  refine sY [0, 1] (fun P S K => K ⟨[(0, S.get 0), (1, S.get 1)], S.hp, S.nx, S.gh⟩) ?_
  all_goals
  refine sZ [0, 1, 4] (fun P S K => XvLoad P 9 (M S.hp S.nx) (S.get 1) (fun r0 _ => XvIndex P 9 r0 (S.get 0) (fun r2 _ => XvFnIV P (M S.hp S.nx) (.fn 61 []) [r2] (fun r3 e3 => K ⟨[(0, S.get 0), (1, S.get 1), (4, r3)], (Eff.hp e3 S.nx S.hp), (S.nx + e3.add.length), S.gh⟩)))) fun K hK => ?_
  repeat' (first | (refine hK _ ?_; clear hK K) | ((first | refine xG_intro (fun hg => ?_) (fun hg => ?_) | refine fun (hg : (_ : Prop)) => ?_) <;> ((try simp only [BQ] at hg); try (exfalso; omega))) | refine And.intro ?_ ?_ | exact cl | refine one_take ?_ _ | refine one_drop ?_ _ | refine .inl ⟨_, _, kind_pure (byteAt s i), ?_⟩ | refine ⟨_, _, kind_pure (byteAt s i), ?_⟩ | refine .inl ⟨_, _, kind_pure (byteAt s q), ?_⟩ | refine ⟨_, _, kind_pure (byteAt s q), ?_⟩ | refine st ?_)
  all_goals
  refine sY [1, 4, 5] (fun P S K => XvBinOV P .add 3 (.const (.int .i64 1)) (S.get 0) (.atom (.int .i64 1)) (fun r1 _ => K ⟨[(1, S.get 1), (4, S.get 4), (5, r1)], S.hp, S.nx, S.gh⟩)) ?_
  all_goals try simp (disch := omega) only [wrap_id, wrap8_id]
  all_goals
  refine Tri.seq ?_
  refine Tri.block ?_
  refine Tri.loop (α := (q : Nat) ×' ((i + 1 ≤ q ∧ q ≤ s.size) ∧ endN s i = runE s (kindI (byteAt s i)) (s.size - q) q)) (fun z => (fun (q : Nat) => (⟨[(1, .fptr 1 [encS s] 0 0), (4, encI (kindI (byteAt s i))), (5, encI q)], [], 0, []⟩ : St)) z.1) (fun z => (fun (q : Nat) => s.size - q) z.1) ⟨i + 1, ⟨⟨by omega, by omega⟩, rfl⟩⟩ [] ?_ ?_
  ·exact leqW40
  ·rintro ⟨q, ⟨⟨ht1, ht2⟩, hr⟩⟩
   have hr2 := fun (h : q < s.size) => runE_step (k := kindI (byteAt s i)) h
   refine Tri.seq ?_
   refine sZ [1, 4, 5, 31] (fun P S K => XvBinOV P .eql 3 (.const (.int .i64 0)) (S.get 4) (.atom (.int .i64 0)) (fun r1 _ => Xgq r1 false (fun k => k (S.get 4)) (fun g3 r3 => Xgq g3 false (fun k => XvBinOV P .eql 3 (.const (.int .i64 1)) r3 (.atom (.int .i64 1)) (fun r4 _ => k r4)) (fun g4 r4 => XvPick g4 (.atom (.bool true)) r4 (fun r5 _ => Xgq r5 true (fun k => k (S.get 5)) (fun g7 r7 => Xgq g7 true (fun k => XvLoad P 9 (M S.hp S.nx) (S.get 1) (fun r8 _ => k r8)) (fun g8 r8 => Xgq g8 true (fun k => XvLen P 9 r8 (fun r9 _ => k r9)) (fun g9 r9 => Xgq g9 true (fun k => XvBinOV P .lss 3 (.tmp 21) r7 r9 (fun r10 _ => k r10)) (fun g10 r10 => XvPick g10 r10 (.atom (.bool false)) (fun r11 _ => Xgq r11 true (fun k => XvLoad P 9 (M S.hp S.nx) (S.get 1) (fun r13 _ => k r13)) (fun g13 r13 => Xgq g13 true (fun k => k (S.get 5)) (fun g14 r14 => Xgq g14 true (fun k => XvIndex P 9 r13 r14 (fun r15 _ => k r15)) (fun g15 r15 => Xge g15 true (fun k => XvFnIV P (M S.hp S.nx) (.fn 61 []) [r15] k) (fun g16 r16 e16 => Xgq g16 true (fun k => k (S.get 4)) (fun g17 r17 => Xgq g17 true (fun k => XvBinOV P .eql 3 (.tmp 29) r16 r17 (fun r18 _ => k r18)) (fun g18 r18 => XvPick g18 r18 (.atom (.bool false)) (fun r19 _ => K ⟨[(1, S.get 1), (4, S.get 4), (5, S.get 5), (31, r19)], (Eff.hp e16 S.nx S.hp), (S.nx + e16.add.length), S.gh⟩))))))))))))))))) fun K hK => ?_
   repeat' (first | (refine hK _ ?_; clear hK K) | ((first | refine xG_intro (fun hg => ?_) (fun hg => ?_) | refine fun (hg : (_ : Prop)) => ?_) <;> ((try simp only [BQ] at hg); try (exfalso; omega))) | refine And.intro ?_ ?_ | exact cl | refine one_take ?_ _ | refine one_drop ?_ _ | refine .inl ⟨_, _, kind_pure (byteAt s i), ?_⟩ | refine ⟨_, _, kind_pure (byteAt s i), ?_⟩ | refine .inl ⟨_, _, kind_pure (byteAt s q), ?_⟩ | refine ⟨_, _, kind_pure (byteAt s q), ?_⟩ | refine st ?_)
   all_goals
   refine Tri.cond rfl (fun h31 => ?_) (fun h31 => ?_)
   ·try (cases h31; done)
    all_goals (try simp only [CQ] at h31)
    all_goals
    refine Tri.skip ?_
    refine Tri.block ?_
    refine rY [1, 4, 5] (fun P S K => XvBinOV P .add 3 (.const (.int .i64 1)) (S.get 5) (.atom (.int .i64 1)) (fun r1 _ => K ⟨[(1, S.get 1), (4, S.get 4), (5, r1)], S.hp, S.nx, S.gh⟩)) ?_
    all_goals try simp (disch := omega) only [wrap_id, wrap8_id]
    all_goals
    refine ⟨⟨q + 1, ⟨by omega, by omega⟩, by rw [hr, hr2 (by omega), if_pos ⟨by omega, by omega⟩]⟩, [], by dsimp only; omega, ?_⟩
    exact leqW40
   ·try (cases h31; done)
    all_goals (try simp only [CQ] at h31)
    all_goals
    refine Tri.exit ?_
    have hend : endN s i = q := hr.trans (runE_stop (by omega))
    refine sY [3] (fun P S K => K ⟨[(3, (S.get 5))], S.hp, S.nx, S.gh⟩) ?_
    all_goals
    refine Tri.ret ?_
    show ResOk _ _ _ _
    rw [hend]; exact ResOk.val lsrW40 lpvW40
def encT (x : Int × Int × Int) : PV := .agg [encI x.1, encI x.2.1, encI x.2.2]
theorem pureL_encT (l : List (Int × Int × Int)) : pureL (l.map encT) = true := pureL_map encT (fun _ => rfl) l
theorem one_encT (l : List (Int × Int × Int)) : ((l.map encT).all fun q => q.cells.all PV.one) = true := by rw [List.all_map]; exact List.all_eq_true.2 fun _ _ => rfl
def tokF (s : ByteArray) : Nat → Nat → List (Int × Int × Int)
  | 0, _ => []
  | f + 1, i => if i < s.size then (if byteAt s i = 32 then tokF s f (i + 1) else ((i : Int), ((endN s i : Nat) : Int), kindI (byteAt s i)) :: tokF s f (endN s i)) else []
def tokL (s : ByteArray) : List (Int × Int × Int) := tokF s s.size 0
theorem tokF_end {s : ByteArray} : ∀ {f i : Nat}, s.size ≤ i → tokF s f i = []
  | 0, _, _ => rfl
  | f + 1, i, h => by rw [tokF, if_neg (by omega)]
structure TokI (s : ByteArray) (out : List (Int × Int × Int)) (i : Nat) : Prop where
  le : i ≤ s.size
  len : out.length ≤ i
  core : ∃ f, s.size - i ≤ f ∧ tokL s = out ++ tokF s f i
theorem TokI.start (s : ByteArray) : TokI s [] 0 := ⟨Nat.zero_le _, Nat.le_refl _, s.size, Nat.le_refl _, rfl⟩
theorem TokI.blank {s : ByteArray} {out : List (Int × Int × Int)} {i : Nat} (h : TokI s out i) (hi : i < s.size) (hb : byteAt s i = 32) : TokI s out (i + 1) := by
  obtain ⟨f, h1, h2⟩ := h.core
  obtain ⟨f, rfl⟩ : ∃ g, f = g + 1 := ⟨f - 1, by omega⟩
  rw [tokF, if_pos hi, if_pos hb] at h2
  exact ⟨hi, by have := h.len; omega, f, by omega, h2⟩
theorem TokI.tok {s : ByteArray} {out : List (Int × Int × Int)} {i : Nat} (h : TokI s out i) (hi : i < s.size) (hb : ¬ byteAt s i = 32) : TokI s (out ++ [((i : Int), ((endN s i : Nat) : Int), kindI (byteAt s i))]) (endN s i) := by
  obtain ⟨f, h1, h2⟩ := h.core
  obtain ⟨f, rfl⟩ : ∃ g, f = g + 1 := ⟨f - 1, by omega⟩
  have hr := endN_rng hi
  have hl := h.len
  rw [tokF, if_pos hi, if_neg hb] at h2
  exact ⟨hr.2, by rw [List.length_append, List.length_singleton]; omega, f, by omega, by rw [h2, List.append_assoc]; rfl⟩
theorem TokI.done {s : ByteArray} {out : List (Int × Int × Int)} {i : Nat} (h : TokI s out i) (hi : s.size ≤ i) : out = tokL s := by
  obtain ⟨f, h1, h2⟩ := h.core
  rw [h2, tokF_end hi, List.append_nil]
theorem split_pure (s : ByteArray) (hs : s.size ≤ 1000000) : Pure Tryd.prog 35 [encS s] (.ob 0 3 0 (tokL s).length) [⟨3, (tokL s).map encT⟩] := by
  refine Pure.intro (ts := [2]) Tryd.func35 (by kernel_rfl) rfl rfl rfl (Nat.le_of_ble_eq_true rfl) ?_ ?_
  · simp [encS, PV.pure, pureL]
  refine sZ [1] (fun P S K => XvBox S.nx (S.get 0) (fun r0 e0 => K ⟨[(1, r0)], (Eff.hp e0 S.nx S.hp), (S.nx + e0.add.length), S.gh⟩)) fun K hK => ?_
  repeat' (first | (refine hK _ ?_; clear hK K) | ((first | refine xG_intro (fun hg => ?_) (fun hg => ?_) | refine fun (hg : (_ : Prop)) => ?_) <;> ((try simp only [BQ] at hg); try (exfalso; omega))) | refine And.intro ?_ ?_ | exact cl | exact one_encT _ | refine one_take ?_ _ | refine one_drop ?_ _ | refine st ?_)
  all_goals
  refine sZ [1, 3] (fun P S K => K ⟨[(1, S.get 1), (3, (.atom (.slice none 0 0)))], S.hp, S.nx, S.gh⟩) fun K hK => ?_
  repeat' (first | (refine hK _ ?_; clear hK K) | ((first | refine xG_intro (fun hg => ?_) (fun hg => ?_) | refine fun (hg : (_ : Prop)) => ?_) <;> ((try simp only [BQ] at hg); try (exfalso; omega))) | refine And.intro ?_ ?_ | exact cl | exact one_encT _ | refine one_take ?_ _ | refine one_drop ?_ _ | refine st ?_)
  refine Tri.born 3 3 rfl ?_
  all_goals
  refine sZ [1, 3, 4] (fun P S K => XvMakeFV (.func 60) [] [(S.get 1)] (fun r0 _ => K ⟨[(1, S.get 1), (3, S.get 3), (4, r0)], S.hp, S.nx, S.gh⟩)) fun K hK => ?_
  repeat' (first | (refine hK _ ?_; clear hK K) | ((first | refine xG_intro (fun hg => ?_) (fun hg => ?_) | refine fun (hg : (_ : Prop)) => ?_) <;> ((try simp only [BQ] at hg); try (exfalso; omega))) | refine And.intro ?_ ?_ | exact cl | exact one_encT _ | refine one_take ?_ _ | refine one_drop ?_ _ | refine st ?_)
  all_goals
  refine Tri.seq ?_
  refine sZ [1, 3, 4, 5] (fun P S K => K ⟨[(1, S.get 1), (3, S.get 3), (4, S.get 4), (5, (.atom (.int .i64 0)))], S.hp, S.nx, S.gh⟩) fun K hK => ?_
  repeat' (first | (refine hK _ ?_; clear hK K) | ((first | refine xG_intro (fun hg => ?_) (fun hg => ?_) | refine fun (hg : (_ : Prop)) => ?_) <;> ((try simp only [BQ] at hg); try (exfalso; omega))) | refine And.intro ?_ ?_ | exact cl | exact one_encT _ | refine one_take ?_ _ | refine one_drop ?_ _ | refine st ?_)
  all_goals
  refine Tri.block ?_
  refine Tri.loop (α := (out : List (Int × Int × Int)) ×' (i : Nat) ×' (TokI s out i)) (fun z => (fun (out : List (Int × Int × Int)) (i : Nat) => (⟨[(1, .ptr 0 1 0 0), (3, .ob 1 3 0 out.length), (4, .fn 60 [.ptr 0 1 0 0]), (5, encI i)], [(0, some ⟨1, [encS s]⟩), (1, some ⟨3, out.map encT⟩)], 2, []⟩ : St)) z.1 z.2.1) (fun z => (fun (out : List (Int × Int × Int)) (i : Nat) => s.size - i) z.1 z.2.1) ⟨[], 0, TokI.start s⟩ [0, 1] ?_ ?_
  ·exact leqW40
  ·rintro ⟨out, i, hT⟩
   have hle := hT.le
   have hlen := hT.len
   refine Tri.seq ?_
   refine sZ [1, 3, 4, 5, 11] (fun P S K => XvLoad P 9 (M S.hp S.nx) (S.get 1) (fun r1 _ => XvLen P 9 r1 (fun r2 _ => XvBinOV P .lss 3 (.tmp 10) (S.get 5) r2 (fun r3 _ => K ⟨[(1, S.get 1), (3, S.get 3), (4, S.get 4), (5, S.get 5), (11, r3)], S.hp, S.nx, S.gh⟩)))) fun K hK => ?_
   repeat' (first | (refine hK _ ?_; clear hK K) | ((first | refine xG_intro (fun hg => ?_) (fun hg => ?_) | refine fun (hg : (_ : Prop)) => ?_) <;> ((try simp only [BQ] at hg); try (exfalso; omega))) | refine And.intro ?_ ?_ | exact cl | exact one_encT _ | refine one_take ?_ _ | refine one_drop ?_ _ | refine st ?_)
   all_goals
   refine Tri.cond rfl (fun h11 => ?_) (fun h11 => ?_)
   ·try (cases h11; done)
    all_goals (try simp only [CQ] at h11)
    all_goals
    refine Tri.skip ?_
    refine Tri.block ?_
    refine Tri.seq ?_
    have hi : i < s.size := by omega
    have hr := endN_rng hi
    refine sZ [1, 3, 4, 5, 15] (fun P S K => XvLoad P 9 (M S.hp S.nx) (S.get 1) (fun r0 _ => XvIndex P 9 r0 (S.get 5) (fun r2 _ => XvBinOV P .eql 5 (.const (.int .u8 32)) r2 (.atom (.int .u8 32)) (fun r3 _ => K ⟨[(1, S.get 1), (3, S.get 3), (4, S.get 4), (5, S.get 5), (15, r3)], S.hp, S.nx, S.gh⟩)))) fun K hK => ?_
    repeat' (first | (refine hK _ ?_; clear hK K) | ((first | refine xG_intro (fun hg => ?_) (fun hg => ?_) | refine fun (hg : (_ : Prop)) => ?_) <;> ((try simp only [BQ] at hg); try (exfalso; omega))) | refine And.intro ?_ ?_ | exact cl | exact one_encT _ | refine one_take ?_ _ | refine one_drop ?_ _ | refine st ?_)
    all_goals
    refine Tri.cond rfl (fun h15 => ?_) (fun h15 => ?_)
    ·try (cases h15; done)
     all_goals (try simp only [CQ] at h15)
     all_goals
     refine sZ [1, 3, 4, 5] (fun P S K => XvBinOV P .add 3 (.const (.int .i64 1)) (S.get 5) (.atom (.int .i64 1)) (fun r1 _ => K ⟨[(1, S.get 1), (3, S.get 3), (4, S.get 4), (5, r1)], S.hp, S.nx, S.gh⟩)) fun K hK => ?_
     repeat' (first | (refine hK _ ?_; clear hK K) | ((first | refine xG_intro (fun hg => ?_) (fun hg => ?_) | refine fun (hg : (_ : Prop)) => ?_) <;> ((try simp only [BQ] at hg); try (exfalso; omega))) | refine And.intro ?_ ?_ | exact cl | exact one_encT _ | refine one_take ?_ _ | refine one_drop ?_ _ | refine st ?_)
     all_goals try simp (disch := omega) only [wrap_id, wrap8_id]
     all_goals
     refine Tri.exit ?_
     first
     | (refine ⟨⟨out, i + 1, hT.blank hi (u8_32 (by omega))⟩, [0, 1], by dsimp only; omega, ?_⟩; exact leqW40; done)
     | (refine ⟨⟨out ++ [((i : Int), ((endN s i : Nat) : Int), kindI (byteAt s i))], endN s i, hT.tok hi (u8_n32 (by omega))⟩, [0, 3], by dsimp only; omega, ?_⟩; exact leqW40; done)
    ·try (cases h15; done)
     all_goals (try simp only [CQ] at h15)
     all_goals
     refine Tri.skip ?_
     refine sZ [1, 3, 4, 5, 6] (fun P S K => XvFnIV P (M S.hp S.nx) (S.get 4) [(S.get 5)] (fun r2 e2 => K ⟨[(1, S.get 1), (3, S.get 3), (4, S.get 4), (5, S.get 5), (6, r2)], (Eff.hp e2 S.nx S.hp), (S.nx + e2.add.length), S.gh⟩)) fun K hK => ?_
     repeat' (first | (refine hK _ ?_; clear hK K) | ((first | refine xG_intro (fun hg => ?_) (fun hg => ?_) | refine fun (hg : (_ : Prop)) => ?_) <;> ((try simp only [BQ] at hg); try (exfalso; omega))) | refine And.intro ?_ ?_ | exact cl | exact one_encT _ | refine one_take ?_ _ | refine one_drop ?_ _ | refine .inl ⟨_, _, split1_pure s i hi (by omega), ?_⟩ | refine ⟨_, _, split1_pure s i hi (by omega), ?_⟩ | refine .inl ⟨_, _, kind_pure (byteAt s i), ?_⟩ | refine ⟨_, _, kind_pure (byteAt s i), ?_⟩ | refine st ?_)
     all_goals
     refine sZ [1, 3, 4, 6] (fun P S K => XvLoad P 9 (M S.hp S.nx) (S.get 1) (fun r3 _ => XvIndex P 9 r3 (S.get 5) (fun r5 _ => XvFnIV P (M S.hp S.nx) (.fn 61 []) [r5] (fun r6 e6 => XvBuild P 100 [(0, (S.get 5)), (1, (S.get 6)), (2, r6)] (fun r7 _ => XvBuildS P 68 1 (S.nx + e6.add.length) [(0, r7)] (fun r8 e8 => (68 = 68 ∧ XvAppend P 68 (M (Eff.hp e8 (S.nx + e6.add.length) (Eff.hp e6 S.nx S.hp)) ((S.nx + e6.add.length) + e8.add.length)) (S.get 3) r8 (fun r9 e9 => K ⟨[(1, S.get 1), (3, r9), (4, S.get 4), (6, S.get 6)], (Eff.hp e9 ((S.nx + e6.add.length) + e8.add.length) (Eff.hp e8 (S.nx + e6.add.length) (Eff.hp e6 S.nx S.hp))), (((S.nx + e6.add.length) + e8.add.length) + e9.add.length), S.gh⟩)))))))) fun K hK => ?_
     repeat' (first | (refine hK _ ?_; clear hK K) | ((first | refine xG_intro (fun hg => ?_) (fun hg => ?_) | refine fun (hg : (_ : Prop)) => ?_) <;> ((try simp only [BQ] at hg); try (exfalso; omega))) | refine And.intro ?_ ?_ | exact cl | exact one_encT _ | refine one_take ?_ _ | refine one_drop ?_ _ | refine .inl ⟨_, _, kind_pure (byteAt s i), ?_⟩ | refine ⟨_, _, kind_pure (byteAt s i), ?_⟩ | refine st ?_)
     all_goals
     refine rZ [1, 3, 4, 5] (fun P S K => K ⟨[(1, S.get 1), (3, S.get 3), (4, S.get 4), (5, (S.get 6))], S.hp, S.nx, S.gh⟩) fun K hK => ?_
     repeat' (first | (refine hK _ ?_; clear hK K) | ((first | refine xG_intro (fun hg => ?_) (fun hg => ?_) | refine fun (hg : (_ : Prop)) => ?_) <;> ((try simp only [BQ] at hg); try (exfalso; omega))) | refine And.intro ?_ ?_ | exact cl | exact one_encT _ | refine one_take ?_ _ | refine one_drop ?_ _ | refine st ?_)
     all_goals
     first
     | (refine ⟨⟨out, i + 1, hT.blank hi (u8_32 (by omega))⟩, [0, 1], by dsimp only; omega, ?_⟩; exact leqW40; done)
     | (refine ⟨⟨out ++ [((i : Int), ((endN s i : Nat) : Int), kindI (byteAt s i))], endN s i, hT.tok hi (u8_n32 (by omega))⟩, [0, 3], by dsimp only; omega, ?_⟩; exact leqW40; done)
   ·try (cases h11; done)
    all_goals (try simp only [CQ] at h11)
    all_goals
    refine Tri.exit ?_
    refine sZ [2] (fun P S K => K ⟨[(2, (S.get 3))], S.hp, S.nx, S.gh⟩) fun K hK => ?_
    repeat' (first | (refine hK _ ?_; clear hK K) | ((first | refine xG_intro (fun hg => ?_) (fun hg => ?_) | refine fun (hg : (_ : Prop)) => ?_) <;> ((try simp only [BQ] at hg); try (exfalso; omega))) | refine And.intro ?_ ?_ | exact cl | exact one_encT _ | refine one_take ?_ _ | refine one_drop ?_ _ | refine st ?_)
    all_goals
    refine Tri.ret ?_
    show ResOk _ _ _ _
    have e := hT.done (by omega)
    subst e
    exact ResOk.row 1 rfl lelW40 lpuW40 lsrW40
end Go.Proofs.YtfnkciboencifaaDoor
