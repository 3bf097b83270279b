/-
  Walks: the reference model of collations: words.
-/
import Derived.Test.YtfnkciboencifaaDoorBW4
import Derived.Test.YtfnkciboencifaaDoorBExam
import Derived.Test.YtfnkciboencifaaDoorBV15
set_option linter.all false
namespace Go.Proofs.YtfnkciboencifaaDoor
open Go Go.RowKit
set_option linter.unusedSimpArgs false
set_option linter.unusedVariables false
set_option maxRecDepth 20000
def ext (s : ByteArray) (x : Nat × Nat) : ByteArray := s.extract x.1 x.2
structure WI (s : ByteArray) (i frm : Nat) (out : List ByteArray) : Prop where
  le : frm ≤ i
  len : out.length ≤ i
  core : (i ≤ s.size ∧ ∃ acc st, out = acc.map (ext s) ∧ Elder.spB s s.size 0 none [] = Elder.spB s (s.size - i) i st acc ∧ ((st = none ∧ frm = i) ∨ (st = some frm ∧ frm < i))) ∨ (i = s.size + 1 ∧ out = wordsS s)
theorem WI.start (s : ByteArray) : WI s 0 0 [] := ⟨Nat.le_refl _, Nat.le_refl _, .inl ⟨Nat.zero_le _, [], none, rfl, rfl, .inl ⟨rfl, rfl⟩⟩⟩
theorem WI.word {s : ByteArray} {i frm : Nat} {out : List ByteArray} (h : WI s i frm out) (hi : i ≤ s.size) (hb : i = s.size ∨ byteAt s i = 32) (hf : frm < i) : WI s (i + 1) (i + 1) (out ++ [s.extract frm i]) := by
  refine ⟨Nat.le_refl _, by have := h.len; simp; omega, ?_⟩
  rcases h.core with ⟨_, acc, st, ho, hs, hst⟩ | ⟨h1, _⟩
  · rcases hst with ⟨_, he⟩ | ⟨rfl, _⟩
    · omega
    · by_cases hz : i = s.size
      · refine .inr ⟨by omega, ?_⟩
        rw [hz, Nat.sub_self, Elder.spB] at hs
        unfold wordsS Elder.wordsS
        rw [hs]
        simp only [Lib.closeSpans, List.map_append, List.map_cons, List.map_nil]
        rw [ho, hz]; rfl
      · refine .inl ⟨by omega, acc ++ [(frm, i)], none, by rw [ho]; simp [ext], ?_, .inl ⟨rfl, rfl⟩⟩
        rw [hs, show s.size - i = (s.size - (i + 1)) + 1 by omega, Elder.spB, if_pos (by
          have : Elder.bt s i = 32 := hb.resolve_left hz
          rw [this]; rfl)]
  · omega
theorem WI.gap {s : ByteArray} {i frm : Nat} {out : List ByteArray} (h : WI s i frm out) (hi : i ≤ s.size) (hb : i = s.size ∨ byteAt s i = 32) (hf : ¬ frm < i) : WI s (i + 1) (i + 1) out := by
  refine ⟨Nat.le_refl _, by have := h.len; omega, ?_⟩
  rcases h.core with ⟨_, acc, st, ho, hs, hst⟩ | ⟨h1, _⟩
  · rcases hst with ⟨rfl, he⟩ | ⟨rfl, _⟩
    · by_cases hz : i = s.size
      · refine .inr ⟨by omega, ?_⟩
        rw [hz, Nat.sub_self, Elder.spB] at hs
        unfold wordsS Elder.wordsS
        rw [hs]
        simp only [Lib.closeSpans]
        rw [ho]; rfl
      · refine .inl ⟨by omega, acc, none, ho, ?_, .inl ⟨rfl, rfl⟩⟩
        rw [hs, show s.size - i = (s.size - (i + 1)) + 1 by omega, Elder.spB, if_pos (by
          have : Elder.bt s i = 32 := hb.resolve_left hz
          rw [this]; rfl)]
    · omega
  · omega
theorem WI.go {s : ByteArray} {i frm : Nat} {out : List ByteArray} (h : WI s i frm out) (hi : i < s.size) (hb : ¬ byteAt s i = 32) : WI s (i + 1) frm out := by
  refine ⟨by have := h.le; omega, by have := h.len; omega, ?_⟩
  rcases h.core with ⟨_, acc, st, ho, hs, hst⟩ | ⟨h1, _⟩
  · have hn : ¬ ((Elder.bt s i == 32) = true) := fun hx => hb (show Elder.bt s i = 32 by simpa using hx)
    rcases hst with ⟨rfl, he⟩ | ⟨rfl, hf⟩
    · refine .inl ⟨by omega, acc, some frm, ho, ?_, .inr ⟨rfl, by omega⟩⟩
      rw [hs, show s.size - i = (s.size - (i + 1)) + 1 by omega, Elder.spB, if_neg hn, he]
    · refine .inl ⟨by omega, acc, some frm, ho, ?_, .inr ⟨rfl, by omega⟩⟩
      rw [hs, show s.size - i = (s.size - (i + 1)) + 1 by omega, Elder.spB, if_neg hn]
  · omega
theorem WI.done {s : ByteArray} {i frm : Nat} {out : List ByteArray} (h : WI s i frm out) (hi : s.size < i) : out = wordsS s := by
  rcases h.core with ⟨h1, _⟩ | ⟨_, h1⟩
  · omega
  · exact h1
theorem u8_32 {c : UInt8} (h : (c.toNat : Int) = 32) : c = 32 := UInt8.toNat_inj.1 (by show c.toNat = 32; omega)
theorem u8_n32 {c : UInt8} (h : ¬ (c.toNat : Int) = 32) : ¬ c = 32 := fun e => h (by rw [e]; rfl)
end Go.Proofs.YtfnkciboencifaaDoor
set_option linter.all false
namespace Go.Proofs.YtfnkciboencifaaDoor
open Go Go.RowKit
set_option linter.unusedSimpArgs false
set_option linter.unusedVariables false
set_option maxRecDepth 20000
noncomputable def dropSkip (sk : List ByteArray) : List ByteArray → List ByteArray
  | [] => []
  | [x] => [x]
  | x :: y :: l => if tB (foldS x ∈ sk) then dropSkip sk (y :: l) else x :: y :: l
theorem dropSkip_yes {sk : List ByteArray} {x : ByteArray} {l : List ByteArray} (h : 1 ≤ l.length) (hc : tB (foldS x ∈ sk) = true) : dropSkip sk (x :: l) = dropSkip sk l := by
  cases l with
  | nil => simp at h
  | cons y l => rw [dropSkip, if_pos hc]
theorem dropSkip_no {sk : List ByteArray} {x : ByteArray} {l : List ByteArray} (hc : tB (foldS x ∈ sk) = false) : dropSkip sk (x :: l) = x :: l := by
  cases l with
  | nil => rfl
  | cons y l => rw [dropSkip, if_neg (by rw [hc]; decide)]
theorem dropSkip_short {sk l : List ByteArray} (h : l.length ≤ 1) : dropSkip sk l = l := by
  match l, h with
  | [], _ => rfl
  | [x], _ => rfl
noncomputable def counted (s : SpecD) (t : ByteArray) : List ByteArray := dropSkip s.skip (wordsS t)
def bl (w : ByteArray) : List UInt8 := w.data.toList
theorem bl_len (w : ByteArray) : (bl w).length = w.size := by simp [bl]
theorem drop_bl {w : ByteArray} {k : Nat} (h : k < w.size) : (bl w).drop k = byteAt w k :: (bl w).drop (k + 1) := by
  have h' : k < (bl w).length := by rw [bl_len]; exact h
  have : byteAt w k = (bl w)[k] := by show (bl w).getD k 0 = _; simp [List.getD_eq_getElem?_getD, h']
  rw [this]; exact List.drop_eq_getElem_cons h'
theorem drop_bl_end {w : ByteArray} {k : Nat} (h : w.size ≤ k) : (bl w).drop k = [] := List.drop_eq_nil_of_le (by rw [bl_len]; exact h)
def zero8 (c : UInt8) : Bool := decide (c = 48)
def digOf (c : UInt8) : Int := (c.toNat : Int) - 48
def numOf (ds : List UInt8) : List Int := (ds.dropWhile zero8).map digOf
def zerosOf (ds : List UInt8) : Int := ((ds.length - (ds.dropWhile zero8).length : Nat) : Int)
noncomputable def wordF (s : SpecD) : Nat → List UInt8 → List Int × List Int
  | 0, _ => ([], [])
  | _ + 1, [] => ([], [])
  | f + 1, c :: t =>
    if s.numbers && isDig c then
      (1 :: ((numOf ((c :: t).takeWhile isDig)).length : Int) :: (numOf ((c :: t).takeWhile isDig) ++ (wordF s f ((c :: t).dropWhile isDig)).1), zerosOf ((c :: t).takeWhile isDig) :: (wordF s f ((c :: t).dropWhile isDig)).2)
    else if 0 ≤ (grp s c).1 then ((2 + (grp s c).1) :: (wordF s f t).1, (grp s c).2 :: (wordF s f t).2) else wordF s f t
noncomputable def wordS (s : SpecD) (w : ByteArray) : List Int × List Int := wordF s w.size (bl w)
structure WordI (s : SpecD) (w : ByteArray) (k : Nat) (a b : List Int) : Prop where
  le : k ≤ w.size
  la : a.length ≤ 3 * k
  lb : b.length ≤ k
  core : ∃ f, w.size - k ≤ f ∧ wordS s w = (a ++ (wordF s f ((bl w).drop k)).1, b ++ (wordF s f ((bl w).drop k)).2)
theorem WordI.start (s : SpecD) (w : ByteArray) : WordI s w 0 [] [] := ⟨Nat.zero_le _, Nat.le_refl _, Nat.le_refl _, w.size, Nat.le_refl _, rfl⟩
theorem wordF_nil (s : SpecD) (f : Nat) : wordF s f [] = ([], []) := by cases f <;> rfl
theorem WordI.done {s : SpecD} {w : ByteArray} {k : Nat} {a b : List Int} (h : WordI s w k a b) (hk : w.size ≤ k) : wordS s w = (a, b) := by
  obtain ⟨f, _, he⟩ := h.core
  rw [he, drop_bl_end hk, wordF_nil]; simp
theorem WordI.none {s : SpecD} {w : ByteArray} {k : Nat} {a b : List Int} (h : WordI s w k a b) (hk : k < w.size) (hn : (s.numbers && isDig (byteAt w k)) = false) (hg : ¬ 0 ≤ (grp s (byteAt w k)).1) :
    WordI s w (k + 1) a b := by
  obtain ⟨f, hf, he⟩ := h.core
  refine ⟨hk, by have := h.la; omega, by have := h.lb; omega, f - 1, by omega, ?_⟩
  obtain ⟨f, rfl⟩ : ∃ g, f = g + 1 := ⟨f - 1, by omega⟩
  rw [he, drop_bl hk, wordF, if_neg (by rw [hn]; decide), if_neg hg]
  simp
structure DigI (w : ByteArray) (k0 k : Nat) (ds : List UInt8) : Prop where
  le : k ≤ w.size
  split : (bl w).drop k0 = ds ++ (bl w).drop k
  len : ds.length + k0 = k
  dig : ∀ c, c ∈ ds → isDig c = true
theorem DigI.start {w : ByteArray} {k : Nat} (h : k ≤ w.size) : DigI w k k [] := ⟨h, rfl, by simp, fun c hc => by simp at hc⟩
theorem DigI.next {w : ByteArray} {k0 k : Nat} {ds : List UInt8} (h : DigI w k0 k ds) (hk : k < w.size) (hd : isDig (byteAt w k) = true) : DigI w k0 (k + 1) (ds ++ [byteAt w k]) :=
  ⟨hk, by rw [h.split, drop_bl hk]; simp, by have := h.len; simp; omega, fun c hc => by
    rcases List.mem_append.1 hc with hc | hc
    · exact h.dig c hc
    · rw [List.mem_singleton.1 hc]; exact hd⟩
theorem dropWhile_le (p : UInt8 → Bool) (ds : List UInt8) : (ds.dropWhile p).length ≤ ds.length := (List.dropWhile_sublist p).length_le
theorem take_digs {ds r : List UInt8} (hd : ∀ c, c ∈ ds → isDig c = true) (hr : r = [] ∨ ∃ c t, r = c :: t ∧ isDig c = false) : (ds ++ r).takeWhile isDig = ds ∧ (ds ++ r).dropWhile isDig = r := by
  induction ds with
  | nil =>
    rcases hr with rfl | ⟨c, t, rfl, hc⟩
    · simp
    · simp [List.takeWhile_cons, List.dropWhile_cons, hc]
  | cons d ds ih =>
    have := ih (fun c hc => hd c (List.mem_cons_of_mem _ hc))
    have h0 := hd d (List.mem_cons_self ..)
    rw [List.cons_append, List.takeWhile_cons, List.dropWhile_cons, h0]
    simp [this.1, this.2]
theorem WordI.num {s : SpecD} {w : ByteArray} {k0 k : Nat} {a b : List Int} {ds : List UInt8} (h : WordI s w k0 a b) (hk : k0 < w.size) (hn : s.numbers = true) (hd : isDig (byteAt w k0) = true) (hD : DigI w k0 k ds) (he : w.size ≤ k ∨ isDig (byteAt w k) = false) :
    WordI s w k (a ++ [1, ((numOf ds).length : Int)] ++ numOf ds) (b ++ [zerosOf ds]) ∧ k0 < k := by
  obtain ⟨f, hf, hw⟩ := h.core
  have hr : (bl w).drop k = [] ∨ ∃ c t, (bl w).drop k = c :: t ∧ isDig c = false := by
    by_cases hkk : w.size ≤ k
    · exact .inl (drop_bl_end hkk)
    · exact .inr ⟨_, _, drop_bl (by omega), he.resolve_left hkk⟩
  obtain ⟨t1, t2⟩ := take_digs hD.dig hr
  have hlt : k0 < k := by
    rcases Nat.lt_or_ge k0 k with h1 | h1
    · exact h1
    · have := hD.len
      have hkk : k = k0 := by omega
      subst hkk
      rcases he with h2 | h2
      · omega
      · rw [hd] at h2; cases h2
  have hnl : (numOf ds).length ≤ ds.length := by unfold numOf; rw [List.length_map]; exact dropWhile_le _ _
  have := hD.len
  have := hD.le
  refine ⟨⟨hD.le, by have := h.la; simp; omega, by have := h.lb; simp; omega, f - 1, by omega, ?_⟩, hlt⟩
  obtain ⟨f, rfl⟩ : ∃ g, f = g + 1 := ⟨f - 1, by omega⟩
  rw [hw]
  have e2 := hD.split
  rw [drop_bl hk] at e2 ⊢
  rw [wordF, if_pos (by rw [hn, hd]; rfl), e2, t1, t2]
  simp
end Go.Proofs.YtfnkciboencifaaDoor
set_option linter.all false
namespace Go.Proofs.YtfnkciboencifaaDoor
open Go Go.RowKit
set_option linter.unusedSimpArgs false
set_option linter.unusedVariables false
set_option maxRecDepth 20000
set_option maxHeartbeats 2000000
noncomputable def keyL (s : SpecD) : Bool → List ByteArray → List Int × List Int
  | _, [] => ([], [])
  | fst, w :: l => ((if !fst && s.words then [0] else []) ++ (wordS s w).1 ++ (keyL s false l).1, (wordS s w).2 ++ (keyL s false l).2)
noncomputable def keyOf (s : SpecD) (t : ByteArray) : List Int := (keyL s true (counted s t)).1 ++ [-1] ++ (keyL s true (counted s t)).2
theorem wordF_len (s : SpecD) : ∀ (f : Nat) (l : List UInt8), (wordF s f l).1.length ≤ 3 * l.length ∧ (wordF s f l).2.length ≤ l.length
  | 0, l => by simp [wordF]
  | f + 1, [] => by simp [wordF]
  | f + 1, c :: t => by
    rw [wordF]
    split
    · rename_i h
      have hd : isDig c = true := by simp at h; exact h.2
      have h1 := wordF_len s f ((c :: t).dropWhile isDig)
      have h2 : ((c :: t).takeWhile isDig).length + ((c :: t).dropWhile isDig).length = (c :: t).length := by
        rw [← List.length_append, List.takeWhile_append_dropWhile]
      have h3 : (numOf ((c :: t).takeWhile isDig)).length ≤ ((c :: t).takeWhile isDig).length := by unfold numOf; rw [List.length_map]; exact dropWhile_le _ _
      have h4 : 1 ≤ ((c :: t).takeWhile isDig).length := by rw [List.takeWhile_cons, hd]; simp
      simp only [List.length_cons, List.length_append] at *
      omega
    · have h1 := wordF_len s f t
      split
      · simp only [List.length_cons]; omega
      · simp only [List.length_cons]; omega
theorem wordS_len (s : SpecD) (w : ByteArray) : (wordS s w).1.length ≤ 3 * w.size ∧ (wordS s w).2.length ≤ w.size := by
  have := wordF_len s w.size (bl w)
  rw [bl_len] at this
  exact this
structure KeyI (s : SpecD) (t : ByteArray) (ws : List ByteArray) (k : Nat) (a b : List Int) : Prop where
  le : k ≤ ws.length
  la : a.length ≤ k * (3 * t.size + 1)
  lb : b.length ≤ k * t.size
  core : keyL s true ws = (a ++ (keyL s (decide (k = 0)) (ws.drop k)).1, b ++ (keyL s (decide (k = 0)) (ws.drop k)).2)
theorem KeyI.start (s : SpecD) (t : ByteArray) (ws : List ByteArray) : KeyI s t ws 0 [] [] := ⟨Nat.zero_le _, by simp, by simp, by simp⟩
theorem KeyI.done {s : SpecD} {t : ByteArray} {ws : List ByteArray} {k : Nat} {a b : List Int} (h : KeyI s t ws k a b) (hk : ws.length ≤ k) : keyL s true ws = (a, b) := by
  have := h.core
  rw [List.drop_eq_nil_of_le hk, keyL] at this
  simpa using this
theorem KeyI.next {s : SpecD} {t : ByteArray} {ws : List ByteArray} {k : Nat} {a b z : List Int} (h : KeyI s t ws k a b) (hk : k < ws.length) (hs : (ls ws k).size ≤ t.size) (hz : z = if 0 < k ∧ s.words = true then [0] else []) :
    KeyI s t ws (k + 1) (a ++ z ++ (wordS s (ls ws k)).1) (b ++ (wordS s (ls ws k)).2) := by
  have hl := wordS_len s (ls ws k)
  have hzl : z.length ≤ 1 := by rw [hz]; split <;> simp
  refine ⟨hk, ?_, ?_, ?_⟩
  · have := h.la
    rw [Nat.succ_mul]
    simp only [List.length_append]; omega
  · have := h.lb
    rw [Nat.succ_mul]
    simp only [List.length_append]; omega
  · rw [h.core, drop_ls hk, keyL]
    have e : (if (!decide (k = 0) && s.words) = true then [(0 : Int)] else []) = z := by
      rw [hz]
      cases hw : s.words <;> by_cases h0 : k = 0 <;> simp [h0, Nat.pos_iff_ne_zero]
    rw [e]
    simp
end Go.Proofs.YtfnkciboencifaaDoor
set_option linter.all false
namespace Go.Proofs.YtfnkciboencifaaDoor
open Go Go.RowKit
set_option linter.unusedSimpArgs false
set_option linter.unusedVariables false
set_option maxRecDepth 20000
set_option maxHeartbeats 2000000
noncomputable def keyE (s : SpecD) (t : ByteArray) : Int := if validE s ≠ 0 then validE s else if 4096 < t.size then 4 else 0
noncomputable def keyR (s : SpecD) (t : ByteArray) : List Int := if keyE s t = 0 then keyOf s t else []
theorem keyE_ok {s : SpecD} {t : ByteArray} (h : validE s = 0) (ht : ¬ 4096 < t.size) : keyE s t = 0 ∧ keyR s t = keyOf s t := by
  have e : keyE s t = 0 := by unfold keyE; rw [if_neg (by rw [h]; decide), if_neg ht]
  exact ⟨e, if_pos e⟩
noncomputable def cmpE (s : SpecD) (a b : ByteArray) : Int := if keyE s a ≠ 0 then keyE s a else keyE s b
noncomputable def cmpR (s : SpecD) (a b : ByteArray) : Int := if cmpE s a b = 0 then lexi (keyR s a) (keyR s b) else 0
def posD (x : List Int) (ks : List (List Int)) : Nat → Nat
  | 0 => 0
  | k + 1 => if lexi x (ks.getD k []) < 0 then posD x ks k else k + 1
def insAt {α : Type} (l : List α) (k : Nat) (x : α) : List α := l.take k ++ x :: l.drop k
theorem insAt_len {α : Type} (l : List α) (k : Nat) (x : α) : (insAt l k x).length = l.length + 1 := by simp [insAt]; omega
noncomputable def insS (s : SpecD) (out : List ByteArray) (x : ByteArray) : List ByteArray := insAt out (posD (keyR s x) (out.map (keyR s)) out.length) x
noncomputable def sortS (s : SpecD) (l : List ByteArray) : List ByteArray := l.foldl (insS s) []
structure SortI (s : SpecD) (l : List ByteArray) (i : Nat) (out : List ByteArray) : Prop where
  le : i ≤ l.length
  len : out.length = i
  core : sortS s l = (l.drop i).foldl (insS s) out
  small : ∀ j, j < i → (ls l j).size ≤ 4096
theorem SortI.start (s : SpecD) (l : List ByteArray) : SortI s l 0 [] := ⟨Nat.zero_le _, rfl, rfl, fun j hj => by omega⟩
theorem SortI.next {s : SpecD} {l : List ByteArray} {i : Nat} {out : List ByteArray} (h : SortI s l i out) (hi : i < l.length) (hs : (ls l i).size ≤ 4096) : SortI s l (i + 1) (insS s out (ls l i)) := by
  refine ⟨hi, by unfold insS; rw [insAt_len, h.len], by rw [h.core, drop_ls hi]; rfl, fun j hj => ?_⟩
  rcases Nat.lt_succ_iff_lt_or_eq.1 hj with hj | rfl
  · exact h.small j hj
  · exact hs
theorem SortI.done {s : SpecD} {l : List ByteArray} {i : Nat} {out : List ByteArray} (h : SortI s l i out) (hi : l.length ≤ i) : sortS s l = out ∧ ¬ ∃ x, x ∈ l ∧ 4096 < x.size := by
  refine ⟨by rw [h.core, List.drop_eq_nil_of_le hi]; rfl, ?_⟩
  rintro ⟨x, hx, hl⟩
  obtain ⟨j, hj, rfl⟩ := List.getElem_of_mem hx
  have := h.small j (by omega)
  have e : ls l j = l[j] := by simp [ls, List.getD_eq_getElem?_getD, hj]
  rw [e] at this
  omega
structure PosI (x : List Int) (ks : List (List Int)) (n k : Nat) : Prop where
  le : k ≤ n
  core : posD x ks n = posD x ks k
theorem PosI.down {x : List Int} {ks : List (List Int)} {n k : Nat} (h : PosI x ks n k) (hk : 0 < k) (hc : lexi x (ks.getD (k - 1) []) < 0) : PosI x ks n (k - 1) := by
  obtain ⟨k, rfl⟩ : ∃ j, k = j + 1 := ⟨k - 1, by omega⟩
  simp only [Nat.add_sub_cancel] at hc ⊢
  refine ⟨by have := h.le; omega, ?_⟩
  rw [h.core, posD, if_pos hc]
theorem PosI.stop {x : List Int} {ks : List (List Int)} {n k : Nat} (h : PosI x ks n k) (hc : k = 0 ∨ ¬ lexi x (ks.getD (k - 1) []) < 0) : posD x ks n = k := by
  rw [h.core]
  cases k with
  | zero => rfl
  | succ k =>
    simp only [Nat.add_sub_cancel] at hc
    rw [posD, if_neg (hc.resolve_left (by omega))]
end Go.Proofs.YtfnkciboencifaaDoor
set_option linter.all false
namespace Go.Proofs.YtfnkciboencifaaDoor
open Go Go.RowKit
set_option linter.unusedSimpArgs false
set_option linter.unusedVariables false
def toE (s : SpecD) : Elder.SpecD := ⟨s.words, s.skip, s.numbers, s.order⟩
theorem ls_of_mem {l : List ByteArray} {x : ByteArray} (h : x ∈ l) : ∃ k, k < l.length ∧ ls l k = x := by
  obtain ⟨k, hk, rfl⟩ := List.mem_iff_getElem.1 h
  exact ⟨k, hk, by simp [ls, List.getD_eq_getElem?_getD, hk]⟩
theorem ls_in {l : List ByteArray} {k : Nat} (h : k < l.length) : ls l k ∈ l := ls_mem h
theorem byteAt_mem {w : ByteArray} {i : Nat} (h : i < w.size) : byteAt w i ∈ w.data.toList := by
  have h' : i < w.data.toList.length := by simpa using h
  have : byteAt w i = w.data.toList[i] := by unfold byteAt; exact (List.getElem_eq_getD _).symm
  rw [this]; exact List.getElem_mem h'
theorem byteAt_of_mem {w : ByteArray} {c : UInt8} (h : c ∈ w.data.toList) : ∃ i, i < w.size ∧ byteAt w i = c := by
  obtain ⟨i, hi, rfl⟩ := List.mem_iff_getElem.1 h
  exact ⟨i, by simpa using hi, by unfold byteAt; exact (List.getElem_eq_getD _).symm⟩
theorem smallS_iff (x : ByteArray) : Elder.smallS x = true ↔ SmallP x := by
  unfold Elder.smallS SmallP
  rw [Bool.and_eq_true, Bool.and_eq_true, decide_eq_true_eq, decide_eq_true_eq, List.all_eq_true, and_assoc]
  refine and_congr Iff.rfl (and_congr Iff.rfl ⟨fun h i hi => ?_, fun h c hc => ?_⟩)
  · have := h _ (byteAt_mem hi)
    simpa [Elder.lowB] using this
  · obtain ⟨i, hi, rfl⟩ := byteAt_of_mem hc
    simpa [Elder.lowB] using h i hi
theorem badSkip_iff (s : SpecD) : (s.skip.any fun x => !Elder.smallS x) = true ↔ BadSkip s := by
  rw [List.any_eq_true]
  constructor
  · rintro ⟨x, hx, hn⟩
    obtain ⟨k, hk, rfl⟩ := ls_of_mem hx
    exact ⟨k, hk, fun h => by rw [(smallS_iff _).2 h] at hn; cases hn⟩
  · rintro ⟨k, hk, hn⟩
    refine ⟨_, ls_in hk, ?_⟩
    cases h : Elder.smallS (ls s.skip k)
    · rfl
    · exact absurd ((smallS_iff _).1 h) hn
abbrev pl (s : SpecD) : List Elder.Trip := Elder.plFrom s.order 0
theorem plGroup_iff {g : Nat} {x : Elder.Trip} : ∀ {l : List UInt8} {i : Nat}, x ∈ Elder.plGroup g l i ↔ x.2.1 = g ∧ ∃ j, j < l.length ∧ x.2.2 = i + j ∧ l.getD j 0 = x.1
  | [], i => by simp [Elder.plGroup]
  | c :: l, i => by
    rw [Elder.plGroup, List.mem_cons, plGroup_iff]
    constructor
    · rintro (rfl | ⟨h, j, hj, h1, h2⟩)
      · exact ⟨rfl, 0, by simp, rfl, rfl⟩
      · exact ⟨h, j + 1, by simpa using hj, by omega, by simpa using h2⟩
    · rintro ⟨h, j, hj, h1, h2⟩
      cases j with
      | zero => exact .inl (by obtain ⟨a, b, d⟩ := x; simp at h h1 h2; subst h h1 h2; rfl)
      | succ j => exact .inr ⟨h, j, by simpa using hj, by omega, by simpa using h2⟩
theorem plFrom_iff {x : Elder.Trip} : ∀ {l : List ByteArray} {g : Nat}, x ∈ Elder.plFrom l g ↔ ∃ k, k < l.length ∧ x.2.1 = g + k ∧ x.2.2 < (ls l k).size ∧ byteAt (ls l k) x.2.2 = x.1
  | [], g => by simp [Elder.plFrom]
  | s :: l, g => by
    rw [Elder.plFrom, List.mem_append, plGroup_iff, plFrom_iff]
    constructor
    · rintro (⟨h, j, hj, h1, h2⟩ | ⟨k, hk, h1, h2, h3⟩)
      · have e : x.2.2 = j := by omega
        exact ⟨0, by simp, h, by rw [e]; simpa [ls] using hj, by rw [e]; exact h2⟩
      · exact ⟨k + 1, by simpa using hk, by omega, by simpa [ls] using h2, by simpa [ls] using h3⟩
    · rintro ⟨k, hk, h1, h2, h3⟩
      cases k with
      | zero => exact .inl ⟨h1, x.2.2, by simpa [ls] using h2, by omega, h3⟩
      | succ k => exact .inr ⟨k, by simpa using hk, by omega, by simpa [ls] using h2, by simpa [ls] using h3⟩
theorem pl_iff (s : SpecD) (c : UInt8) (g i : Nat) : (c, g, i) ∈ pl s ↔ AtP s c g i := by
  rw [pl, plFrom_iff]
  constructor
  · rintro ⟨k, hk, h1, h2, h3⟩
    simp only [Nat.zero_add] at h1 h2 h3
    subst h1
    exact ⟨hk, h2, h3⟩
  · rintro ⟨h1, h2, h3⟩
    exact ⟨g, h1, by simp, h2, h3⟩
def Lex (x y : Elder.Trip) : Prop := x.2.1 < y.2.1 ∨ (x.2.1 = y.2.1 ∧ x.2.2 < y.2.2)
theorem plGroup_sorted {g : Nat} : ∀ (l : List UInt8) (i : Nat), (Elder.plGroup g l i).Pairwise Lex
  | [], _ => List.Pairwise.nil
  | c :: l, i => List.pairwise_cons.2 ⟨fun y hy => by
      obtain ⟨h, j, _, h1, _⟩ := plGroup_iff.1 hy
      exact .inr ⟨h.symm, by dsimp only; omega⟩, plGroup_sorted l (i + 1)⟩
theorem plFrom_sorted : ∀ (l : List ByteArray) (g : Nat), (Elder.plFrom l g).Pairwise Lex
  | [], _ => List.Pairwise.nil
  | s :: l, g => List.pairwise_append.2 ⟨plGroup_sorted _ _, plFrom_sorted l (g + 1), fun x hx y hy => by
      obtain ⟨h, _⟩ := plGroup_iff.1 hx
      obtain ⟨k, _, h1, _⟩ := plFrom_iff.1 hy
      exact .inl (by omega)⟩
theorem grp_find (s : SpecD) (c : UInt8) : grp s c = match (pl s).find? (fun x => x.1 == c) with | some x => ((x.2.1 : Int), (x.2.2 : Int)) | none => (-1, -1) := by
  cases h : (pl s).find? (fun x => x.1 == c) with
  | none =>
    refine grp_none fun g i hA => ?_
    have := List.find?_eq_none.1 h _ ((pl_iff s c g i).2 hA)
    simp at this
  | some x =>
    obtain ⟨a, g, i⟩ := x
    obtain ⟨hx, p1, p2, hl, hno⟩ := List.find?_eq_some_iff_append.1 h
    have ha : a = c := by simpa using hx
    subst ha
    have hs := plFrom_sorted s.order 0
    show grp s a = ((g : Int), (i : Int))
    refine grp_first ⟨(pl_iff s a g i).1 (by rw [hl]; simp), fun g' i' hA => ?_⟩
    have hm := (pl_iff s a g' i').2 hA
    rw [hl] at hm
    rw [show Elder.plFrom s.order 0 = _ from hl] at hs
    rcases List.mem_append.1 hm with hm | hm
    · have := hno _ hm; simp at this
    · rcases List.mem_cons.1 hm with hm | hm
      · injection hm with _ h2; injection h2 with h2 h3; exact .inr ⟨h2.symm, by omega⟩
      · have := (List.pairwise_cons.1 (List.pairwise_append.1 hs).2.1).1 _ hm
        unfold Lex at this
        dsimp only at this
        omega
theorem bytes_pl : ∀ (l : List ByteArray) (g : Nat), (Elder.plFrom l g).map (·.1) = Elder.bytesOf l
  | [], _ => rfl
  | s :: l, g => by
    have h : ∀ (m : List UInt8) (i : Nat), (Elder.plGroup g m i).map (·.1) = m := by
      intro m
      induction m with
      | nil => intro i; rfl
      | cons c m ih => intro i; rw [Elder.plGroup, List.map_cons, ih]
    rw [Elder.plFrom, List.map_append, h, bytes_pl l (g + 1)]
    simp [Elder.bytesOf]
def Once (s : SpecD) : Prop := ∀ x, x ∈ pl s → ∀ y, y ∈ pl s → x.1 = y.1 → x = y
theorem nodup_once {α β : Type} (f : α → β) : ∀ (l : List α), (l.map f).Nodup → ∀ x, x ∈ l → ∀ y, y ∈ l → f x = f y → x = y
  | [], _, x, hx, _, _, _ => by simp at hx
  | a :: l, h, x, hx, y, hy, he => by
    rw [List.map_cons, List.nodup_cons] at h
    rcases List.mem_cons.1 hx with e1 | h1
    · rcases List.mem_cons.1 hy with e2 | h2
      · rw [e1, e2]
      · rw [e1] at he
        exact absurd (he ▸ List.mem_map_of_mem h2) h.1
    · rcases List.mem_cons.1 hy with e2 | h2
      · rw [e2] at he
        exact absurd (he ▸ List.mem_map_of_mem h1) h.1
      · exact nodup_once f l h.2 x h1 y h2 he
theorem once_iff (s : SpecD) : (Elder.bytesOf s.order).Nodup ↔ Once s := by
  rw [← bytes_pl s.order 0]
  constructor
  · exact fun h => nodup_once _ _ h
  · intro h
    refine List.pairwise_map.2 ((plFrom_sorted s.order 0).imp_of_mem fun {a b} ha hb hl he => ?_)
    have := h a ha b hb he
    subst this
    unfold Lex at hl
    omega
theorem twice_iff (s : SpecD) : Twice s ↔ ¬ Once s := by
  constructor
  · rintro ⟨g, i, hg, hi, ht⟩ ho
    refine ht ?_
    have hm : (byteAt (ls s.order g) i, g, i) ∈ pl s := (pl_iff _ _ _ _).2 ⟨hg, hi, rfl⟩
    rw [grp_find]
    cases h : (pl s).find? (fun x => x.1 == byteAt (ls s.order g) i) with
    | none => have := List.find?_eq_none.1 h _ hm; simp at this
    | some x =>
      have h1 := List.find?_some h
      have := ho x (List.mem_of_find?_eq_some h) _ hm (by simpa using h1)
      subst this
      exact ⟨rfl, rfl⟩
  · intro h
    refine Classical.byContradiction fun hn => h fun x hx y hy he => ?_
    have key : ∀ z, z ∈ pl s → grp s z.1 = ((z.2.1 : Int), (z.2.2 : Int)) := by
      rintro ⟨c, g, i⟩ hz
      obtain ⟨h1, h2, h3⟩ := (pl_iff _ _ _ _).1 hz
      refine Classical.byContradiction fun hne => hn ⟨g, i, h1, h2, fun hh => hne ?_⟩
      rw [h3] at hh
      exact Prod.ext hh.1 hh.2
    have e1 := key x hx
    have e2 := key y hy
    rw [he, e2] at e1
    injection e1 with e3 e4
    exact Prod.ext he (Prod.ext (by omega) (by omega))
theorem scan_none : ∀ (l seen : List UInt8) (t : Bool), Elder.scanB l seen t = none ↔ ∃ c, c ∈ l ∧ BadByte c
  | [], seen, t => by simp [Elder.scanB]
  | c :: l, seen, t => by
    rw [Elder.scanB]
    have hb : Elder.badB c = true ↔ BadByte c := by unfold Elder.badB BadByte; simp
    split
    · rename_i h
      exact ⟨fun _ => ⟨c, List.mem_cons_self .., hb.1 h⟩, fun _ => rfl⟩
    · rename_i h
      rw [scan_none l]
      constructor
      · rintro ⟨d, hd, hx⟩; exact ⟨d, List.mem_cons_of_mem _ hd, hx⟩
      · rintro ⟨d, hd, hx⟩
        rcases List.mem_cons.1 hd with rfl | hd
        · exact absurd (hb.2 hx) h
        · exact ⟨d, hd, hx⟩
theorem scan_some : ∀ (l seen : List UInt8) (t b : Bool), Elder.scanB l seen t = some b → (b = false ↔ t = false ∧ l.Nodup ∧ ∀ c, c ∈ l → c ∉ seen)
  | [], seen, t, b, h => by simp [Elder.scanB] at h; subst h; simp
  | c :: l, seen, t, b, h => by
    rw [Elder.scanB] at h
    split at h
    · cases h
    · rw [scan_some l _ _ _ h, List.nodup_cons, Bool.or_eq_false_iff]
      constructor
      · rintro ⟨⟨h1, h2⟩, h3, h4⟩
        refine ⟨h1, ⟨fun hc => h4 c hc (List.mem_cons_self ..), h3⟩, fun d hd hs => ?_⟩
        rcases List.mem_cons.1 hd with rfl | hd
        · rw [List.contains_iff_mem.2 hs] at h2; cases h2
        · exact h4 d hd (List.mem_cons_of_mem _ hs)
      · rintro ⟨h1, ⟨h2, h3⟩, h4⟩
        refine ⟨⟨h1, ?_⟩, h3, fun d hd hs => ?_⟩
        · rw [Bool.eq_false_iff]; exact fun hh => h4 c (List.mem_cons_self ..) (List.contains_iff_mem.1 hh)
        · rcases List.mem_cons.1 hs with rfl | hs
          · exact h2 hd
          · exact h4 d (List.mem_cons_of_mem _ hd) hs
theorem badOrder_iff (s : SpecD) : BadOrder s ↔ Lib.containsS s.order ⟨#[]⟩ = true ∨ ∃ c, c ∈ Elder.bytesOf s.order ∧ BadByte c := by
  rw [Lib.containsS_iff]
  constructor
  · rintro ⟨g, hg, h | ⟨i, hi, hb⟩⟩
    · left
      have : ls s.order g = ⟨#[]⟩ := by
        have h2 : (ls s.order g).data = #[] := Array.eq_empty_of_size_eq_zero h
        cases hx : ls s.order g with
        | mk d => rw [hx] at h2; dsimp only at h2; rw [h2]
      rw [← this]; exact ls_in hg
    · right
      exact ⟨_, List.mem_flatMap.2 ⟨_, ls_in hg, byteAt_mem hi⟩, hb⟩
  · rintro (h | ⟨c, hc, hb⟩)
    · obtain ⟨g, hg, e⟩ := ls_of_mem h
      exact ⟨g, hg, .inl (by rw [e]; rfl)⟩
    · obtain ⟨w, hw, hc⟩ := List.mem_flatMap.1 hc
      obtain ⟨g, hg, rfl⟩ := ls_of_mem hw
      obtain ⟨i, hi, rfl⟩ := byteAt_of_mem hc
      exact ⟨g, hg, .inr ⟨i, hi, hb⟩⟩
theorem validD_eq (s : SpecD) : Elder.validD (toE s) = validE s := by
  unfold Elder.validD
  show (if 64 < s.order.length ∨ 16 < s.skip.length then (4 : Int) else _) = _
  split
  · rename_i h; exact (validE_limit h).symm
  · rename_i h
    show (if ((s.skip.any fun x => !Elder.smallS x) || Lib.containsS s.order ⟨#[]⟩) = true then (1 : Int) else Elder.scanErr (Elder.scanB (Elder.bytesOf s.order) [] false)) = _
    have hb := badSkip_iff s
    have ho := badOrder_iff s
    split
    · rename_i h1
      refine (validE_bad h ?_).symm
      rcases (Bool.or_eq_true _ _).mp h1 with h1 | h1
      · exact .inl (hb.1 h1)
      · exact .inr (ho.2 (.inl h1))
    · rename_i h1
      have h2 : ¬ BadSkip s := fun hx => h1 (by rw [hb.2 hx]; rfl)
      have h3 : ¬ Lib.containsS s.order ⟨#[]⟩ = true := fun hx => h1 (by rw [hx, Bool.or_true])
      cases hs : Elder.scanB (Elder.bytesOf s.order) [] false with
      | none => exact (validE_bad h (.inr (ho.2 (.inr ((scan_none _ _ _).1 hs))))).symm
      | some b =>
        have h4 : ¬ (BadSkip s ∨ BadOrder s) := by
          rintro (hx | hx)
          · exact h2 hx
          · rcases ho.1 hx with hx | hx
            · exact h3 hx
            · rw [(scan_none _ _ _).2 hx] at hs; cases hs
        have h5 := scan_some _ _ _ _ hs
        have h6 : b = false ↔ Once s := by rw [h5, once_iff]; simp
        cases b with
        | false => exact (validE_ok h h4 (fun ht => (twice_iff s).1 ht (h6.1 rfl))).symm
        | true => exact (validE_twice h h4 ((twice_iff s).2 fun ho2 => by have := h6.2 ho2; cases this)).symm
theorem valid_once {s : SpecD} (h : validE s = 0) : Once s := Classical.byContradiction fun hn => (validE_zero h).2.2 ((twice_iff s).2 hn)
theorem look_eq {s : SpecD} (h : Once s) (c : UInt8) : Elder.lookT (pl s).reverse c.toNat = (pl s).find? (fun x => x.1 == c) := by
  unfold Elder.lookT
  have hp : ∀ x : Elder.Trip, (x.1.toNat == c.toNat) = (x.1 == c) := fun x => by
    rw [Bool.eq_iff_iff, beq_iff_eq, beq_iff_eq]
    exact ⟨fun e => UInt8.toNat_inj.1 e, fun e => by rw [e]⟩
  simp only [hp]
  cases h1 : (pl s).find? (fun x => x.1 == c) with
  | none =>
    refine List.find?_eq_none.2 fun x hx => ?_
    exact List.find?_eq_none.1 h1 x (List.mem_reverse.1 hx)
  | some x =>
    cases h2 : (pl s).reverse.find? (fun x => x.1 == c) with
    | none =>
      have := List.find?_eq_none.1 h2 x (List.mem_reverse.2 (List.mem_of_find?_eq_some h1))
      have h3 := List.find?_some h1
      exact absurd h3 this
    | some y =>
      have h3 := List.find?_some h1
      have h4 := List.find?_some h2
      rw [h x (List.mem_of_find?_eq_some h1) y (List.mem_reverse.1 (List.mem_of_find?_eq_some h2)) (by rw [beq_iff_eq] at h3 h4; rw [h3, h4])]
theorem grpT_eq {s : SpecD} (h : Once s) (c : UInt8) : Elder.grpT (pl s).reverse c.toNat = (grp s c).1 := by
  unfold Elder.grpT
  rw [look_eq h, grp_find]
  cases (pl s).find? (fun x => x.1 == c) <;> rfl
theorem plcT_eq {s : SpecD} (h : Once s) (c : UInt8) (hg : 0 ≤ (grp s c).1) : Elder.plcT (pl s).reverse c.toNat = (grp s c).2 := by
  unfold Elder.plcT
  rw [grp_find] at hg ⊢
  rw [look_eq h]
  cases hx : (pl s).find? (fun x => x.1 == c) with
  | none => rw [hx] at hg; simp at hg
  | some x => rfl
theorem isDig_same : Elder.isDig = isDig := by
  funext c
  rw [Bool.eq_iff_iff]
  unfold Elder.isDig isDig
  simp
theorem isZero_same : Elder.isZero = zero8 := by
  funext c
  rw [Bool.eq_iff_iff]
  unfold Elder.isZero zero8
  simp
theorem part_eq {s : SpecD} (h : Once s) : ∀ (f : Nat) (l : List UInt8), Elder.partF s.numbers (Elder.grpT (pl s).reverse) (Elder.plcT (pl s).reverse) f l = wordF s f l
  | 0, l => by rw [Elder.partF, wordF]
  | f + 1, [] => by rw [Elder.partF, wordF]
  | f + 1, c :: l => by
    rw [Elder.partF, wordF, isDig_same, isZero_same, part_eq h f, part_eq h f, grpT_eq h]
    by_cases hd : (s.numbers && isDig c) = true
    · rw [if_pos hd, if_pos hd]
      have hl := dropWhile_le zero8 ((c :: l).takeWhile isDig)
      have e1 : (numOf ((c :: l).takeWhile isDig)).length = (((c :: l).takeWhile isDig).dropWhile zero8).length := by unfold numOf; rw [List.length_map]
      have e2 : zerosOf ((c :: l).takeWhile isDig) = (((c :: l).takeWhile isDig).length : Int) - (((c :: l).takeWhile isDig).dropWhile zero8).length := by unfold zerosOf; omega
      rw [e1, e2]
      rfl
    · rw [if_neg hd, if_neg hd]
      by_cases hg : 0 ≤ (grp s c).1
      · rw [if_pos hg, if_pos hg, plcT_eq h c hg]
      · rw [if_neg hg, if_neg hg]
theorem partL_eq {s : SpecD} (h : Once s) (w : ByteArray) : Elder.partL s.numbers (Elder.grpT (pl s).reverse) (Elder.plcT (pl s).reverse) w.data.toList = wordS s w := by
  unfold Elder.partL
  rw [part_eq h]
  unfold wordS
  rw [show w.data.toList.length = w.size by simp]
  rfl
theorem keyWords_eq {s : SpecD} (h : Once s) : ∀ (l : List ByteArray) (fst : Bool), Elder.keyWords s.words s.numbers (Elder.grpT (pl s).reverse) (Elder.plcT (pl s).reverse) (!fst) l = keyL s fst l
  | [], fst => by rw [Elder.keyWords, keyL]
  | w :: l, fst => by
    have ih := keyWords_eq h l false
    rw [Bool.not_false] at ih
    rw [Elder.keyWords, keyL, partL_eq h, ih]
theorem drop_eq (sk : List ByteArray) : ∀ l, Elder.dropSkip sk l = dropSkip sk l
  | [] => rfl
  | [x] => rfl
  | x :: y :: l => by
    have e : Lib.containsS sk (Elder.foldS x) = tB (foldS x ∈ sk) := by rw [Bool.eq_iff_iff, Lib.containsS_iff, tB_iff]; rfl
    rw [Elder.dropSkip, dropSkip, e, drop_eq sk (y :: l)]
theorem keyS_eq {s : SpecD} (h : Once s) (t : ByteArray) : Elder.keyS (toE s) t = keyOf s t := by
  unfold Elder.keyS Elder.keyG keyOf
  have e : Elder.countS (toE s) t = counted s t := drop_eq s.skip _
  rw [e]
  have := keyWords_eq h (counted s t) true
  rw [Bool.not_true] at this
  show (Elder.keyWords s.words s.numbers (Elder.grpT (pl s).reverse) (Elder.plcT (pl s).reverse) false (counted s t)).1 ++ [-1] ++ (Elder.keyWords s.words s.numbers (Elder.grpT (pl s).reverse) (Elder.plcT (pl s).reverse) false (counted s t)).2 = _
  rw [this]
theorem cmpL_eq : ∀ a b, Elder.cmpL a b = lexi a b
  | [], [] => rfl
  | [], _ :: _ => rfl
  | _ :: _, [] => rfl
  | a :: x, b :: y => by rw [Elder.cmpL, lexi, cmpL_eq x y]
theorem exam2_eq (s : SpecD) (a b : ByteArray) : Elder.examS (toE s) [a, b] = cmpE s a b := by
  unfold Elder.examS cmpE keyE
  rw [validD_eq]
  by_cases h : validE s ≠ 0
  · simp [h]
  · by_cases h1 : 4096 < a.size <;> by_cases h2 : 4096 < b.size <;> simp [h, h1, h2, Elder.longS]
theorem eCmp_eq (s : SpecD) (a b : ByteArray) : Elder.cmpE (toE s) a b = cmpR s a b := by
  unfold Elder.cmpE cmpR
  rw [exam2_eq]
  by_cases h : cmpE s a b = 0
  · rw [if_pos h, if_pos h, cmpL_eq]
    unfold cmpE at h
    by_cases ha : keyE s a = 0
    · rw [if_neg (by simpa using ha)] at h
      have hv : validE s = 0 := by
        unfold keyE at ha
        split at ha
        · contradiction
        · rename_i hv; exact Classical.not_not.1 hv
      unfold keyR
      rw [if_pos ha, if_pos h, keyS_eq (valid_once hv), keyS_eq (valid_once hv)]
    · rw [if_pos ha] at h; contradiction
  · rw [if_neg h, if_neg h]
end Go.Proofs.YtfnkciboencifaaDoor
set_option linter.all false
namespace Go.Proofs.YtfnkciboencifaaDoor
open Go Go.RowKit
set_option linter.unusedSimpArgs false
set_option linter.unusedVariables false
set_option maxRecDepth 20000
set_option maxHeartbeats 2000000
def encP (p : Int × Int) : PV := .agg [encI p.1, encI p.2]
def pairs (l : List (Int × Int)) : PV := .sl 2 (l.map encP)
end Go.Proofs.YtfnkciboencifaaDoor
set_option linter.all false
namespace Go.Proofs.YtfnkciboencifaaDoor
open Go Go.RowKit
set_option linter.unusedSimpArgs false
set_option linter.unusedVariables false
set_option maxRecDepth 20000
set_option maxHeartbeats 2000000
def Bad2 (f : Nat → Nat → Bool) (a b : Nat) : Prop := f a b = false ∧ f b a = false
def Bad3 (f : Nat → Nat → Bool) (a b c : Nat) : Prop := f a b = true ∧ f b c = true ∧ f a c = false
def lt2 (a b a2 b2 : Nat) : Prop := a < a2 ∨ (a = a2 ∧ b < b2)
def lt3 (a b c a2 b2 c2 : Nat) : Prop := a < a2 ∨ (a = a2 ∧ (b < b2 ∨ (b = b2 ∧ c < c2)))
def All2 (w : Nat) (f : Nat → Nat → Bool) : Prop := ∀ a b, a ≤ b → b < w → ¬ Bad2 f a b
def All3 (w : Nat) (f : Nat → Nat → Bool) : Prop := ∀ a b c, a < w → b < w → c < w → ¬ Bad3 f a b c
structure First2 (w : Nat) (f : Nat → Nat → Bool) (a b : Nat) : Prop where
  le : a ≤ b
  lt : b < w
  bad : Bad2 f a b
  first : ∀ x y, lt2 x y a b → x ≤ y → y < w → ¬ Bad2 f x y
structure First3 (w : Nat) (f : Nat → Nat → Bool) (a b c : Nat) : Prop where
  la : a < w
  lb : b < w
  lc : c < w
  bad : Bad3 f a b c
  first : ∀ x y z, lt3 x y z a b c → x < w → y < w → z < w → ¬ Bad3 f x y z
inductive FlawIs (w : Nat) (f : Nat → Nat → Bool) : List Int → Prop
  | none : All2 w f → All3 w f → FlawIs w f []
  | two (a b : Nat) : First2 w f a b → FlawIs w f [(a : Int), (b : Int)]
  | three (a b c : Nat) : All2 w f → First3 w f a b c → FlawIs w f [(a : Int), (b : Int), (c : Int)]
theorem FlawIs.uniq {w : Nat} {f : Nat → Nat → Bool} {l l' : List Int} (h : FlawIs w f l) (h' : FlawIs w f l') : l = l' := by
  cases h with
  | none h2 h3 =>
    cases h' with
    | none => rfl
    | two a b q => exact absurd q.bad (h2 a b q.le q.lt)
    | three a b c _ q => exact absurd q.bad (h3 a b c q.la q.lb q.lc)
  | two a b q =>
    cases h' with
    | none h2 h3 => exact absurd q.bad (h2 a b q.le q.lt)
    | two a' b' q' =>
      have e : a = a' ∧ b = b' := by
        have n1 : ¬ lt2 a b a' b' := fun hl => q'.first a b hl q.le q.lt q.bad
        have n2 : ¬ lt2 a' b' a b := fun hl => q.first a' b' hl q'.le q'.lt q'.bad
        unfold lt2 at n1 n2; omega
      rw [e.1, e.2]
    | three a' b' c' h2 q' => exact absurd q.bad (h2 a b q.le q.lt)
  | three a b c h2 q =>
    cases h' with
    | none _ h3 => exact absurd q.bad (h3 a b c q.la q.lb q.lc)
    | two a' b' q' => exact absurd q'.bad (h2 a' b' q'.le q'.lt)
    | three a' b' c' _ q' =>
      have e : a = a' ∧ b = b' ∧ c = c' := by
        have n1 : ¬ lt3 a b c a' b' c' := fun hl => q'.first a b c hl q.la q.lb q.lc q.bad
        have n2 : ¬ lt3 a' b' c' a b c := fun hl => q.first a' b' c' hl q'.la q'.lb q'.lc q'.bad
        unfold lt3 at n1 n2; omega
      rw [e.1, e.2.1, e.2.2]
def SoFar2 (w : Nat) (f : Nat → Nat → Bool) (a b : Nat) : Prop := ∀ x y, lt2 x y a b → x ≤ y → y < w → ¬ Bad2 f x y
def SoFar3 (w : Nat) (f : Nat → Nat → Bool) (a b c : Nat) : Prop := ∀ x y z, lt3 x y z a b c → x < w → y < w → z < w → ¬ Bad3 f x y z
theorem SoFar2.start (w : Nat) (f : Nat → Nat → Bool) : SoFar2 w f 0 0 := fun x y h => by unfold lt2 at h; omega
theorem SoFar2.next {w : Nat} {f : Nat → Nat → Bool} {a b : Nat} (h : SoFar2 w f a b) (hb : ¬ Bad2 f a b) : SoFar2 w f a (b + 1) := fun x y hl h1 h2 hx => by
  by_cases e : x = a ∧ y = b
  · rw [e.1, e.2] at hx; exact hb hx
  · exact h x y (by unfold lt2 at hl ⊢; omega) h1 h2 hx
theorem SoFar2.row {w : Nat} {f : Nat → Nat → Bool} {a b : Nat} (h : SoFar2 w f a b) (hb : w ≤ b) : SoFar2 w f (a + 1) (a + 1) := fun x y hl h1 h2 hx =>
  h x y (by unfold lt2 at hl ⊢; omega) h1 h2 hx
theorem SoFar2.done {w : Nat} {f : Nat → Nat → Bool} {a : Nat} (h : SoFar2 w f a a) (ha : w ≤ a) : All2 w f := fun x y h1 h2 hx => h x y (by unfold lt2; omega) h1 h2 hx
theorem SoFar3.start (w : Nat) (f : Nat → Nat → Bool) : SoFar3 w f 0 0 0 := fun x y z h => by unfold lt3 at h; omega
theorem SoFar3.next {w : Nat} {f : Nat → Nat → Bool} {a b c : Nat} (h : SoFar3 w f a b c) (hb : ¬ Bad3 f a b c) : SoFar3 w f a b (c + 1) := fun x y z hl h1 h2 h3 hx => by
  by_cases e : x = a ∧ y = b ∧ z = c
  · rw [e.1, e.2.1, e.2.2] at hx; exact hb hx
  · exact h x y z (by unfold lt3 at hl ⊢; omega) h1 h2 h3 hx
theorem SoFar3.row {w : Nat} {f : Nat → Nat → Bool} {a b : Nat} (h : SoFar3 w f a b 0) (hb : w ≤ b) : SoFar3 w f (a + 1) 0 0 := fun x y z hl h1 h2 h3 hx =>
  h x y z (by unfold lt3 at hl ⊢; omega) h1 h2 h3 hx
theorem SoFar3.done {w : Nat} {f : Nat → Nat → Bool} {a : Nat} (h : SoFar3 w f a 0 0) (ha : w ≤ a) : All3 w f := fun x y z h1 h2 h3 hx => h x y z (by unfold lt3; omega) h1 h2 h3 hx
end Go.Proofs.YtfnkciboencifaaDoor
set_option linter.all false
namespace Go.Proofs.YtfnkciboencifaaDoor
open Go Go.RowKit
set_option linter.unusedSimpArgs false
set_option linter.unusedVariables false
set_option maxRecDepth 20000
set_option maxHeartbeats 2000000
end Go.Proofs.YtfnkciboencifaaDoor
set_option linter.all false
namespace Go.Proofs.YtfnkciboencifaaDoor
open Go Go.RowKit
set_option linter.unusedSimpArgs false
set_option linter.unusedVariables false
set_option maxRecDepth 20000
set_option maxHeartbeats 2000000
end Go.Proofs.YtfnkciboencifaaDoor
set_option linter.all false
namespace Go.Proofs.YtfnkciboencifaaDoor
open Go Go.RowKit
set_option linter.unusedVariables false
def resVs (P : Program) (S : St) : List ResultVar → Option (List PV)
  | [] => some []
  | .tmp t :: l => (resVs P S l).map (S.get t :: ·)
  | .cell a t :: l => match S.get a, tAgg P t, tSize P t with
    | .ptr i sz k c, some ag, some m => match S.obj i with
      | some o => if o.sz = sz ∧ k < o.els.length ∧ (bif ag then decide (c + m ≤ (o.els.getD k .junk).cells.length) else decide (c < (o.els.getD k .junk).cells.length)) = true then (resVs P S l).map ((o.els.getD k .junk).part ag c m :: ·) else none
      | none => none
    | _, _, _ => none
def resSt (S : St) (vs : List PV) : St := ⟨argEnv 0 vs, S.hp, S.nx, S.gh⟩
def ResR (P : Program) (S : St) (rv : List ResultVar) (r : PV) (os : List AO) : Prop := ∃ vs, resVs P S rv = some vs ∧ ResOk (resSt S vs) (List.range vs.length) r os
def ResPR (P : Program) (S : St) (rv : List ResultVar) (r : PV) (hp : List AO) (hp' : List (Option AO)) (os : List AO) : Prop := ∃ vs, resVs P S rv = some vs ∧ ResP (resSt S vs) (List.range vs.length) r hp hp' os
def retQR (P : Program) (rv : List ResultVar) (r : PV) (os : List AO) : Exit → St → Prop
  | .normal, S => ResR P S rv r os
  | .ret, S => ResR P S rv r os
  | _, _ => False
def retPR (P : Program) (rv : List ResultVar) (r : PV) (hp : List AO) (hp' : List (Option AO)) (os : List AO) : Exit → St → Prop
  | .normal, S => ResPR P S rv r hp hp' os
  | .ret, S => ResPR P S rv r hp hp' os
  | _, _ => False
theorem argEnv_range (S : St) (vs : List PV) : (List.range vs.length).map (resSt S vs).get = vs := by
  apply List.ext_getElem
  · simp
  · intro i h1 h2
    simp only [List.getElem_map, List.getElem_range]
    show (lk (argEnv 0 vs) i).getD .junk = _
    rw [lk_argEnv]; simp [h2]
theorem retV_resSt (S : St) (vs : List PV) : retV (resSt S vs) (List.range vs.length) = match vs with | [v] => v | vs => .tup vs := by
  have := argEnv_range S vs
  match vs, this with
  | [], _ => rfl
  | [v], _ => rfl
  | a :: b :: l, h =>
    have e : List.range (a :: b :: l).length = 0 :: 1 :: (List.range l.length).map (· + 2) := by
      have h1 := List.range_succ_eq_map (n := (b :: l).length)
      simp only [List.length_cons] at h1 ⊢
      rw [h1, List.range_succ_eq_map]; simp
    rw [e] at h ⊢
    show PV.tup _ = _
    rw [h]
section
variable {P : Program} {n : Nat} {S : St} {Q : Exit → St → Prop}
theorem tup_rep {D : Nat → Prop} {μ : Nat → Option Nat} {F : Nat → Prop} {w : World} {xs : List Value} {vs : List PV} (hl : xs.length = vs.length) (h : ∀ i (h : i < vs.length), Rep D μ F w vs[i] (xs.getD i undef)) :
    Rep D μ F w (match vs with | [v] => v | vs => .tup vs) (if h : xs.toArray.size = 1 then xs.toArray[0] else .tuple xs.toArray) := by
  match vs, xs with
  | [v], [x] => simpa using h 0 (by simp)
  | [], [] => simp; exact .tup _ _ rfl (fun i hi => by simp at hi)
  | a :: b :: r, x :: y :: z =>
    rw [dif_neg (by simp)]
    refine .tup _ _ (by simpa using hl) fun i hi => ?_
    have := h i hi
    simpa [Array.getD_eq_getD_getElem?, List.getD_eq_getElem?_getD] using this
  | [], x :: z => simp at hl
  | [v], [] => simp at hl
  | [v], x :: y :: z => simp at hl
  | a :: b :: r, [] => simp at hl
  | a :: b :: r, [x] => simp at hl
theorem run_resVs {w0 : Home} {F0 D : Nat → Prop} {μ : Nat → Option Nat} {F : Nat → Prop} {w : World} {fn : Func} {rv : List ResultVar} (hr : fn.results = rv.toArray) {tmps : Array Value} (hH : HeapSim w0 F0 D μ F S.obj w) (he : ∀ s, Rep D μ F w (S.get s) (tmps.getD s undef)) {vs : List PV} (hvs : resVs P S rv = some vs) :
    ∃ v, (results fn tmps).run P w = .ok v w ∧ Rep D μ F w (retV (resSt S vs) (List.range vs.length)) v := by
  let f : ResultVar → Sem Value := fun
    | .tmp t => pure (tmps.getD t undef)
    | .cell a t => do loadVar t (← asAddr (tmps.getD a undef))
  have key : ∀ (l : List ResultVar) (vs : List PV), resVs P S l = some vs → ∃ xs : List Value, (l.mapM f).run P w = .ok xs w ∧ xs.length = vs.length ∧ ∀ i (h : i < vs.length), Rep D μ F w vs[i] (xs.getD i undef) := by
    intro l
    induction l with
    | nil => intro vs h; cases h; exact ⟨[], by simp, rfl, fun i h => by simp at h⟩
    | cons x l ih =>
      intro vs h
      cases x with
      | tmp t =>
        simp only [resVs] at h
        cases hl : resVs P S l with
        | none => rw [hl] at h; cases h
        | some vs' =>
          rw [hl] at h; cases h
          obtain ⟨xs, h1, h2, h3⟩ := ih vs' hl
          refine ⟨tmps.getD t undef :: xs, ?_, by simp [h2], fun i hi => ?_⟩
          · rw [List.mapM_cons, Sem.run_bind, show (f (.tmp t)).run P w = .ok (tmps.getD t undef) w from rfl]
            simp only [Result.andThen_ok, Sem.run_bind, h1, Sem.run_pure]
          · cases i with
            | zero => simpa using he t
            | succ i => simpa using h3 i (by simpa using hi)
      | cell a t =>
        simp only [resVs] at h
        split at h <;> try (cases h; done)
        rename_i i sz k c ag m hp ha hm
        split at h <;> try (cases h; done)
        rename_i o ho
        split at h <;> try (cases h; done)
        rename_i hc
        cases hl : resVs P S l with
        | none => rw [hl] at h; cases h
        | some vs' =>
          rw [hl] at h; cases h
          obtain ⟨xs, h1, h2, h3⟩ := ih vs' hl
          have hrep := he a
          rw [hp] at hrep
          generalize hu : tmps.getD a undef = u at hrep
          cases hrep with
          | ptr _ _ _ _ b hD hb =>
            have hok := hH.ok ho hb
            have hk := hc.2.1
            have hin := hc.2.2
            rw [cellget _ _ hk] at hin ⊢
            have hin' : bif ag then c + m ≤ o.els[k].cells.length else c < o.els[k].cells.length := by
              cases ag
              · simp only [cond_false] at hin ⊢; exact of_decide_eq_true hin
              · simp only [cond_true] at hin ⊢; exact of_decide_eq_true hin
            obtain ⟨v, g1, g2⟩ := run_loadVar_part (D := D) (μ := μ) (F := F) (w := w) (ad := ⟨b, k * sz + c, none⟩) ha hm hin' rfl (fun j hj hcj => by
              obtain ⟨v, g1, _, g3⟩ := hok.cell hk hj
              refine ⟨v, ?_, g3⟩
              rw [← hc.1]
              rw [show k * o.sz + c + (j - c) = k * o.sz + j by omega]; exact g1)
            refine ⟨v :: xs, ?_, by simp [h2], fun i hi => ?_⟩
            · rw [List.mapM_cons, Sem.run_bind, show (f (.cell a t)).run P w = .ok v w by
                show (do loadVar t (← asAddr (tmps.getD a undef)) : Sem Value).run P w = _
                rw [hu]; simpa [asAddr] using g1]
              simp only [Result.andThen_ok, Sem.run_bind, h1, Sem.run_pure]
            · cases i with
              | zero => simpa using g2
              | succ i => simpa using h3 i (by simpa using hi)
  obtain ⟨xs, h1, h2, h3⟩ := key rv vs hvs
  refine ⟨if h : xs.toArray.size = 1 then xs.toArray[0] else .tuple xs.toArray, ?_, ?_⟩
  · have e : results fn tmps = (do let vs ← fn.results.mapM f; pure (if h : vs.size = 1 then vs[0] else .tuple vs)) := rfl
    rw [e, hr, Array.mapM_eq_mapM_toList, Sem.run_bind, Sem.run_map, show (rv.toArray.toList.mapM f).run P w = .ok xs w by simpa using h1]
    rfl
  · rw [retV_resSt]; exact tup_rep h2 h3
theorem PureCall.introR {f : FuncId} {fn : Func} {c : Code} {args : List PV} {r : PV} {os : List AO} {rv : List ResultVar} (hf : P.funcs[f]? = some fn) (hb : fn.body = some c) (hr : fn.results = rv.toArray) (hn : fn.ntmps = n) (hla : args.length ≤ n) (hpure : args.all PV.pure = true)
    (h : Tri P n c ⟨argEnv 0 args, [], 0, []⟩ (retQR P rv r os)) : PureCall P f args r os := by
  intro D μ F w vs hvs hargs hFs
  refine calls_of_wp hf hb ?_
  have hS : Sim ⟨w, fun _ => False⟩ F (fun _ => False) μ F [] ⟨argEnv 0 args, [], 0, []⟩ n { tmps := vs ++ Array.replicate (fn.ntmps - vs.size) undef, defers := [] } w := by
    refine ⟨rfl, by simp [hvs, hn]; omega, fun s => ?_, ⟨fun i o hi => (by cases hi), fun i j o o' b hi => (by cases hi), fun i o b hi => (by cases hi), Ext.refl _ _, fun b hb => .inl hb, hFs⟩, fun i hi => hi.elim, rfl, fun i hi => by simp at hi⟩
    show Rep _ μ F w ((lk (argEnv 0 args) s).getD .junk) _
    rw [lk_argEnv]
    simp only [Nat.zero_le, if_true, Nat.sub_zero]
    by_cases hs : s < args.length
    · rw [List.getElem?_eq_getElem hs]
      simp only [Option.getD_some]
      have e : (vs ++ Array.replicate (fn.ntmps - vs.size) undef).getD s undef = vs.getD s undef := by
        simp only [Array.getD_eq_getD_getElem?]
        rw [Array.getElem?_append_left (by omega)]
      rw [e]
      exact (hargs s hs).pureAny (all_get hpure s hs)
    · rw [List.getElem?_eq_none (by omega)]
      exact .junk _
  refine wp_mono (h _ F _ μ F [] _ w hS) fun e a' w' ⟨S', D', μ', F', h1, h2⟩ => ?_
  have fin : ResR P S' rv r os → a'.defers = [] ∧ ∃ v, (results fn a'.tmps).run P w' = .ok v w' ∧ ∃ v', Ending.returned v = .returned v' ∧ Below w.heap.size w w' ∧ ResIs F w w' r os v' := fun ⟨vs, hvs, hres⟩ => by
    obtain ⟨v, hv, hrep⟩ := run_resVs (P := P) (S := S') hr h2.heap h2.env hvs
    exact ⟨h2.defers, v, hv, v, rfl, h2.heap.ext.below (fun _ h => h), hres.is h2.heap h2.ids hrep⟩
  cases e with
  | normal => exact fin h1
  | ret => exact fin h1
  | exit id => exact h1.elim
  | goto l => exact h1.elim
  | panic ch => exact h1.elim
  | outgrown => exact h1.elim
theorem ProcCall.introR {f : FuncId} {fn : Func} {c : Code} {args : List PV} {hp : List AO} {r : PV} {hp' : List (Option AO)} {os : List AO} {rv : List ResultVar} (hf : P.funcs[f]? = some fn) (hb : fn.body = some c) (hr : fn.results = rv.toArray) (hn : fn.ntmps = n) (hla : args.length ≤ n)
    (hlen : hp'.length = hp.length) (h : Tri P n c ⟨argEnv 0 args, objEnv 0 (hp.map some), hp.length, marks 0 hp⟩ (retPR P rv r hp hp' os)) : ProcCall P f args hp r hp' os := by
  refine ⟨hlen, fun μ F w vs hH hvs hargs => calls_of_wp hf hb ?_⟩
  have hobj : (St.mk (argEnv 0 args) (objEnv 0 (hp.map some)) hp.length (marks 0 hp)).obj = fun i => hp[i]? := by
    funext i
    show (lk (objEnv 0 (hp.map some)) i).join = _
    rw [lk_objEnv]
    simp only [Nat.zero_le, if_true, Nat.sub_zero, List.getElem?_map]
    cases hp[i]? <;> rfl
  have hS : Sim ⟨w, fun b => ∃ i, i < hp.length ∧ μ i = some b⟩ F (· < hp.length) μ F ((List.range hp.length).map fun i => placeV (μ i)) ⟨argEnv 0 args, objEnv 0 (hp.map some), hp.length, marks 0 hp⟩ n { tmps := vs ++ Array.replicate (fn.ntmps - vs.size) undef, defers := [] } w := by
    refine ⟨rfl, by simp [hvs, hn]; omega, fun s => ?_, by rw [hobj]; exact hH, fun i hi => hi, by simp [marks_length], fun i hi => ?_⟩
    · show Rep _ μ F w ((lk (argEnv 0 args) s).getD .junk) _
      rw [lk_argEnv]
      simp only [Nat.zero_le, if_true, Nat.sub_zero]
      by_cases hs : s < args.length
      · rw [List.getElem?_eq_getElem hs]
        simp only [Option.getD_some]
        have e : (vs ++ Array.replicate (fn.ntmps - vs.size) undef).getD s undef = vs.getD s undef := by
          simp only [Array.getD_eq_getD_getElem?]
          rw [Array.getElem?_append_left (by omega)]
        rw [e]
        exact hargs s hs
      · rw [List.getElem?_eq_none (by omega)]
        exact .junk _
    · simp only at hi
      have hi' : i < hp.length := by rwa [marks_length] at hi
      have e1 : (marks 0 hp)[i]'hi = .ob i (hp[i]).sz 0 0 := by
        have := marks_get hp 0 i
        rw [List.getElem?_eq_getElem hi, List.getElem?_eq_getElem hi'] at this
        simpa using this
      have e2 : ((List.range hp.length).map fun i => placeV (μ i)).getD i undef = placeV (μ i) := by simp [List.getD_eq_getElem?_getD, hi']
      rw [e1, e2]
      cases hm : μ i with
      | none => exact .obn i _ hi' hm
      | some b =>
        have := Rep.ob (D := (· < hp.length)) (μ := μ) (F := F) (w := w) i (hp[i]).sz 0 0 0 b hi' hm (Nat.le_refl _) (by unfold maxLen; omega) (by simp)
        simpa [placeV] using this
  refine wp_mono (h _ F _ μ F _ _ w hS) fun e a' w' ⟨S', D', μ', F', h1, h2⟩ => ?_
  have fin : ResPR P S' rv r hp hp' os → a'.defers = [] ∧ ∃ v, (results fn a'.tmps).run P w' = .ok v w' ∧ ∃ v', Ending.returned v = .returned v' ∧ ∃ (μ2 : Nat → Option Nat) (F2 : Nat → Prop), Rep (· < hp.length + os.length) μ2 F2 w' r v' ∧
      HeapSim ⟨w, fun b => ∃ i, i < hp.length ∧ μ i = some b⟩ F (· < hp.length + os.length) μ2 F2 (fun i => ((hp' ++ os.map some)[i]?).join) w' ∧ (∀ i, i < hp.length → μ2 i = μ i) := fun ⟨vs, hvs, L, k, hr1, hl0⟩ => by
    have hl : LeqS k L S' ⟨[], objEnv 0 (hp' ++ os.map some), hp'.length + os.length, marks 0 hp⟩ := ⟨fun p hp => (by cases hp), hl0.hp, hl0.nx, hl0.nodup, hl0.ghl, hl0.gh⟩
    have hr1 : sealed S'.obj (fun i => L.contains i) k (retV (resSt S' vs) (List.range vs.length)) = r.ren (rmap L S'.nx) := hr1
    obtain ⟨v, hv, hrep⟩ := run_resVs (P := P) (S := S') hr h2.heap h2.env hvs
    have h3 := h2.leq ⟨k, hl⟩
    have hD : ∀ i, D' (rmap L S'.nx i) → i < hp.length + os.length ∧ μ' (rmap L S'.nx i) = μ' (rmap L S'.nx i) := fun i hi => ⟨by
      have := h3.ids i hi
      have e : (St.mk [] (objEnv 0 (hp' ++ os.map some)) (hp'.length + os.length) (marks 0 hp)).nx = hp'.length + os.length := rfl
      rw [e] at this; omega, rfl⟩
    refine ⟨h2.defers, v, hv, v, rfl, fun i => μ' (rmap L S'.nx i), frz S' L μ' F', ?_, ?_, fun i hi => ?_⟩
    · have := Rep.sealed h2.heap (fun i => L.contains i) (frz S' L μ' F') (fun b h => .inl h) (fun i o b h1 h2 h3 => .inr ⟨i, o, h1, h2, h3⟩) k _ _ hrep
      rw [hr1] at this
      exact this.ren_inv hD _ rfl
    · have := h3.heap.widen (D' := (· < hp.length + os.length)) (fun i hi => (hD i hi).1)
      have e : (St.mk [] (objEnv 0 (hp' ++ os.map some)) (hp'.length + os.length) (marks 0 hp)).obj = fun i => ((hp' ++ os.map some)[i]?).join := by
        funext i
        show (lk (objEnv 0 (hp' ++ os.map some)) i).join = _
        rw [lk_objEnv]; simp
      rw [e] at this
      exact this
    · have hi2 : i < (marks 0 hp).length := by rw [marks_length]; exact hi
      have := h3.gh i hi2
      have e1 : (marks 0 hp)[i]'hi2 = .ob i (hp[i]).sz 0 0 := by
        have := marks_get hp 0 i
        rw [List.getElem?_eq_getElem hi2, List.getElem?_eq_getElem hi] at this
        simpa using this
      have e2 : ((List.range hp.length).map fun i => placeV (μ i)).getD i undef = placeV (μ i) := by simp [List.getD_eq_getElem?_getD, hi]
      simp only [e1, e2] at this
      generalize hpv : placeV (μ i) = pv at this
      cases this with
      | ob _ _ _ _ cap b g1 g2 g3 g4 g5 =>
        show μ' (rmap L S'.nx i) = μ i
        rw [g2]
        cases hm : μ i with
        | none => rw [hm] at hpv; cases hpv
        | some b2 => rw [hm] at hpv; simp only [placeV, Value.slice.injEq, Option.some.injEq, Addr.mk.injEq] at hpv; rw [hpv.1.1]
      | obn _ _ g1 g2 =>
        show μ' (rmap L S'.nx i) = μ i
        rw [g2]
        cases hm : μ i with
        | none => rfl
        | some b2 => rw [hm] at hpv; cases hpv
  cases e with
  | normal => exact fin h1
  | ret => exact fin h1
  | exit id => exact h1.elim
  | goto l => exact h1.elim
  | panic ch => exact h1.elim
  | outgrown => exact h1.elim
theorem Pure.introR {f : FuncId} {fn : Func} {c : Code} {args : List PV} {r : PV} {os : List AO} {rv : List ResultVar} (hf : P.funcs[f]? = some fn) (hname : (fn.name == "runtime.NumGoroutine") = false) (hb : fn.body = some c) (hr : fn.results = rv.toArray) (hn : fn.ntmps = n) (hla : args.length ≤ n) (hpure : args.all PV.pure = true)
    (h : Tri P n c ⟨argEnv 0 args, [], 0, []⟩ (retQR P rv r os)) : Pure P f args r os := ⟨Go.Proofs.enters_of hf hname hb, PureCall.introR hf hb hr hn hla hpure h⟩
theorem Proc.introR {f : FuncId} {fn : Func} {c : Code} {args : List PV} {hp : List AO} {r : PV} {hp' : List (Option AO)} {os : List AO} {rv : List ResultVar} (hf : P.funcs[f]? = some fn) (hname : (fn.name == "runtime.NumGoroutine") = false) (hb : fn.body = some c) (hr : fn.results = rv.toArray) (hn : fn.ntmps = n) (hla : args.length ≤ n)
    (hlen : hp'.length = hp.length) (h : Tri P n c ⟨argEnv 0 args, objEnv 0 (hp.map some), hp.length, marks 0 hp⟩ (retPR P rv r hp hp' os)) : Proc P f args hp r hp' os := ⟨Go.Proofs.enters_of hf hname hb, ProcCall.introR hf hb hr hn hla hlen h⟩
end
end Go.Proofs.YtfnkciboencifaaDoor
