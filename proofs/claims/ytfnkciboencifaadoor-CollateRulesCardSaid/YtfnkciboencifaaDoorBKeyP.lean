/-
  Plain: the key of a text.
-/
import Derived.Test.YtfnkciboencifaaDoorBApp
set_option linter.all false
namespace Go.Proofs.YtfnkciboencifaaDoor.Elder
open Go.RowKit
def isDig (c : UInt8) : Bool := decide (48 ≤ c.toNat) && decide (c.toNat ≤ 57)
theorem isDig_iff {c : UInt8} : isDig c = true ↔ (48 ≤ (c.toNat : Int) ∧ (c.toNat : Int) ≤ 57) := by unfold isDig; simp; omega
def isZero (c : UInt8) : Bool := c == 48
def partF (num : Bool) (grp plc : Nat → Int) : Nat → List UInt8 → List Int × List Int
  | 0, _ => ([], [])
  | _ + 1, [] => ([], [])
  | f + 1, c :: l =>
    if num && isDig c then
      (1 :: ((((c :: l).takeWhile isDig).dropWhile isZero).length : Int) :: ((((c :: l).takeWhile isDig).dropWhile isZero).map fun d => (d.toNat : Int) - 48) ++ (partF num grp plc f ((c :: l).dropWhile isDig)).1,
        ((((c :: l).takeWhile isDig).length : Int) - (((c :: l).takeWhile isDig).dropWhile isZero).length) :: (partF num grp plc f ((c :: l).dropWhile isDig)).2)
    else if 0 ≤ grp c.toNat then ((2 + grp c.toNat) :: (partF num grp plc f l).1, plc c.toNat :: (partF num grp plc f l).2)
    else partF num grp plc f l
def partL (num : Bool) (grp plc : Nat → Int) (l : List UInt8) : List Int × List Int := partF num grp plc l.length l
theorem dropWhile_len (p : UInt8 → Bool) (l : List UInt8) : (l.dropWhile p).length ≤ l.length := (List.dropWhile_suffix p).length_le
theorem dropDig_len {c : UInt8} {l : List UInt8} (h : isDig c = true) : ((c :: l).dropWhile isDig).length ≤ l.length := by
  rw [List.dropWhile_cons, if_pos h]; exact dropWhile_len _ _
theorem partF_ge (num : Bool) (grp plc : Nat → Int) : ∀ f l, l.length ≤ f → partF num grp plc f l = partF num grp plc l.length l := by
  intro f
  induction f using Nat.strongRecOn with
  | _ f ih =>
    intro l hl
    cases l with
    | nil => cases f <;> rfl
    | cons c l =>
      cases f with
      | zero => simp at hl
      | succ f =>
        simp only [List.length_cons] at hl ⊢
        unfold partF
        by_cases hd : (num && isDig c) = true
        · have hc : isDig c = true := by simp at hd; exact hd.2
          have hlen := dropDig_len (l := l) hc
          rw [if_pos hd, if_pos hd, ih f (by omega) _ (by omega)]
          by_cases h2 : l.length = f
          · rw [h2, ih f (by omega) _ (by omega)]
          · rw [ih l.length (by omega) ((c :: l).dropWhile isDig) hlen]
        · rw [if_neg hd, if_neg hd, ih f (by omega) l (by omega)]
theorem partL_nil (num : Bool) (grp plc : Nat → Int) : partL num grp plc [] = ([], []) := rfl
theorem partL_num {num : Bool} {grp plc : Nat → Int} {c : UInt8} {l ds rest : List UInt8} (hn : num = true) (hc : isDig c = true) (ht : (c :: l).takeWhile isDig = ds) (hr : (c :: l).dropWhile isDig = rest) :
    partL num grp plc (c :: l) = (1 :: ((ds.dropWhile isZero).length : Int) :: ((ds.dropWhile isZero).map fun d => (d.toNat : Int) - 48) ++ (partL num grp plc rest).1, ((ds.length : Int) - (ds.dropWhile isZero).length) :: (partL num grp plc rest).2) := by
  have hlen := dropDig_len (l := l) hc
  unfold partL
  rw [List.length_cons, partF, if_pos (by rw [hn, hc]; rfl), partF_ge num grp plc l.length _ hlen, ht, hr]
theorem partL_grp {num : Bool} {grp plc : Nat → Int} {c : UInt8} {l : List UInt8} (hn : (num && isDig c) = false) (hg : 0 ≤ grp c.toNat) :
    partL num grp plc (c :: l) = ((2 + grp c.toNat) :: (partL num grp plc l).1, plc c.toNat :: (partL num grp plc l).2) := by
  unfold partL
  rw [List.length_cons, partF, if_neg (by rw [hn]; decide), if_pos hg]
theorem partL_none {num : Bool} {grp plc : Nat → Int} {c : UInt8} {l : List UInt8} (hn : (num && isDig c) = false) (hg : ¬ 0 ≤ grp c.toNat) :
    partL num grp plc (c :: l) = partL num grp plc l := by
  unfold partL
  rw [List.length_cons, partF, if_neg (by rw [hn]; decide), if_neg hg]
theorem partF_len (num : Bool) (grp plc : Nat → Int) : ∀ f l, (partF num grp plc f l).1.length ≤ 3 * l.length ∧ (partF num grp plc f l).2.length ≤ l.length := by
  intro f
  induction f with
  | zero => intro l; simp [partF]
  | succ f ih =>
    intro l
    cases l with
    | nil => simp [partF]
    | cons c l =>
      unfold partF
      by_cases hd : (num && isDig c) = true
      · have hc : isDig c = true := by simp at hd; exact hd.2
        have h1 := ih ((c :: l).dropWhile isDig)
        have h2 : ((c :: l).takeWhile isDig).length + ((c :: l).dropWhile isDig).length = (c :: l).length := by rw [← List.length_append, List.takeWhile_append_dropWhile]
        have h3 := dropWhile_len isZero ((c :: l).takeWhile isDig)
        have h4 : 1 ≤ ((c :: l).takeWhile isDig).length := by rw [List.takeWhile_cons, if_pos hc]; simp
        rw [if_pos hd]
        simp only [List.length_cons, List.length_append, List.length_map] at h2 ⊢
        omega
      · rw [if_neg hd]
        have h1 := ih l
        split <;> simp only [List.length_cons] <;> omega
theorem partL_len (num : Bool) (grp plc : Nat → Int) (l : List UInt8) : (partL num grp plc l).1.length ≤ 3 * l.length ∧ (partL num grp plc l).2.length ≤ l.length := partF_len num grp plc _ l
def keyWords (ws num : Bool) (grp plc : Nat → Int) : Bool → List ByteArray → List Int × List Int
  | _, [] => ([], [])
  | later, x :: l => ((if later && ws then [0] else []) ++ (partL num grp plc x.data.toList).1 ++ (keyWords ws num grp plc true l).1, (partL num grp plc x.data.toList).2 ++ (keyWords ws num grp plc true l).2)
theorem keyWords_len (ws num : Bool) (grp plc : Nat → Int) (M : Nat) : ∀ (l : List ByteArray) (later : Bool), (∀ x, x ∈ l → x.size ≤ M) →
    (keyWords ws num grp plc later l).1.length ≤ l.length * (1 + 3 * M) ∧ (keyWords ws num grp plc later l).2.length ≤ l.length * M
  | [], _, _ => by simp [keyWords]
  | x :: l, later, h => by
    have ih := keyWords_len ws num grp plc M l true (fun y hy => h y (List.mem_cons_of_mem _ hy))
    have hx := h x (List.mem_cons_self ..)
    have hp := partL_len num grp plc x.data.toList
    have hs : x.data.toList.length = x.size := by simp
    rw [hs] at hp
    unfold keyWords
    simp only [List.length_append, List.length_cons, Nat.add_mul, Nat.one_mul] at *
    have : (if (later && ws) = true then ([0] : List Int) else []).length ≤ 1 := by split <;> simp
    omega
theorem spB_count (s : ByteArray) : ∀ (f pos : Nat) (st : Option Nat) (acc : List (Nat × Nat)), (spB s f pos st acc).1.length ≤ acc.length + f
  | 0, _, _, _ => by simp [spB]
  | f + 1, pos, st, acc => by
    unfold spB
    split
    · cases st
      · have := spB_count s f (pos + 1) none acc; simp only; omega
      · rename_i a; have := spB_count s f (pos + 1) none (acc ++ [(a, pos)]); simp only [List.length_append, List.length_singleton] at this ⊢; omega
    · cases st
      · have := spB_count s f (pos + 1) (some pos) acc; simp only; omega
      · rename_i a; have := spB_count s f (pos + 1) (some a) acc; simp only; omega
theorem words_count (s : ByteArray) : (wordsS s).length ≤ s.size + 1 := by
  unfold wordsS Lib.closeSpans
  have := spB_count s s.size 0 none []
  rw [List.length_map]
  split
  · rw [List.length_append, List.length_singleton]; simp at this; omega
  · simp at this; omega
theorem dropSkip_suffix (skip : List ByteArray) : ∀ l, dropSkip skip l <:+ l
  | [] => List.suffix_refl _
  | [x] => List.suffix_refl _
  | x :: y :: l => by
    unfold dropSkip
    split
    · exact (dropSkip_suffix skip (y :: l)).trans (List.suffix_cons x (y :: l))
    · exact List.suffix_refl _
def countS (d : SpecD) (s : ByteArray) : List ByteArray := dropSkip d.skip (wordsS s)
theorem countS_size (d : SpecD) (s : ByteArray) : ∀ x, x ∈ countS d s → x.size ≤ s.size := fun x hx => words_sizes s x ((dropSkip_suffix d.skip _).subset hx)
theorem countS_len (d : SpecD) (s : ByteArray) : (countS d s).length ≤ s.size + 1 := Nat.le_trans (dropSkip_suffix d.skip _).length_le (words_count s)
def keyG (d : SpecD) (grp plc : Nat → Int) (s : ByteArray) : List Int :=
  (keyWords d.words d.numbers grp plc false (countS d s)).1 ++ [-1] ++ (keyWords d.words d.numbers grp plc false (countS d s)).2
def keyS (d : SpecD) (s : ByteArray) : List Int := keyG d (grpT (plFrom d.order 0).reverse) (plcT (plFrom d.order 0).reverse) s
theorem key_room (d : SpecD) (grp plc : Nat → Int) (s : ByteArray) (h : s.size ≤ 4096) :
    (keyWords d.words d.numbers grp plc false (countS d s)).1.length ≤ 60000000 ∧ (keyWords d.words d.numbers grp plc false (countS d s)).2.length ≤ 60000000 := by
  have h1 := keyWords_len d.words d.numbers grp plc 4096 (countS d s) false (fun x hx => by have := countS_size d s x hx; omega)
  have h2 := countS_len d s
  have h3 : (countS d s).length ≤ 4097 := by omega
  have h4 : (countS d s).length * (1 + 3 * 4096) ≤ 4097 * (1 + 3 * 4096) := Nat.mul_le_mul_right _ h3
  have h5 : (countS d s).length * 4096 ≤ 4097 * 4096 := Nat.mul_le_mul_right _ h3
  omega
end Go.Proofs.YtfnkciboencifaaDoor.Elder
