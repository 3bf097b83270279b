/-
  The words of a text: strings.FieldsFunc at blanks, byte by byte; the words that count.
-/
import Derived.Test.YtfnkciboencifaaDoorBFold2
import Derived.Lib.FieldsP
import Derived.Lib.TrimU
set_option linter.all false
namespace Go.Proofs.YtfnkciboencifaaDoor.Elder
open Go.RowKit Go.Shelf
theorem get!_bt (s : ByteArray) (i : Nat) (h : i < s.size) : s.get! i = bt s i := by
  have h' : i < s.data.size := h
  have e : s.get! i = s.data[i]! := rfl
  rw [e, getElem!_pos s.data i h', ← bt_get h]
  rfl
theorem decode_blank (s : ByteArray) (i : Nat) (h : i < s.size) :
    1 ≤ (Utf8.decode s i).2 ∧ i + (Utf8.decode s i).2 ≤ s.size ∧ ((Utf8.decode s i).1 == 32) = (bt s i == 32) ∧ (((Utf8.decode s i).2 = 1) ∨ ((bt s i == 32) = false ∧ ∀ k, 1 ≤ k → k < (Utf8.decode s i).2 → (bt s (i + k) == 32) = false)) := by
  have h0 := get!_bt s i h
  have hb : ∀ n : Nat, (bt s i).toNat = n → ((bt s i == 32) = decide (n = 32)) := fun n hn => by
    rw [Bool.eq_iff_iff, beq_iff_eq, decide_eq_true_iff, ← hn]
    constructor
    · intro h; rw [h]; rfl
    · intro h; exact UInt8.toNat_inj.1 (by rw [h]; rfl)
  have hcont : ∀ k, (decide (i + k < s.size) && (s.get! (i + k)).toNat / 64 == 2) = true → i + k < s.size ∧ (bt s (i + k) == 32) = false := fun k hk => by
    simp only [Bool.and_eq_true, decide_eq_true_eq, beq_iff_eq] at hk
    refine ⟨hk.1, ?_⟩
    rw [get!_bt s _ hk.1] at hk
    rw [beq_eq_false_iff_ne]
    intro he
    rw [he] at hk
    have := hk.2
    simp at this
  unfold Utf8.decode
  simp only [Nat.add_zero, h0]
  have hb0 := hb _ rfl
  split
  · rename_i hlt
    refine ⟨Nat.le_refl _, by simp; omega, ?_, .inl rfl⟩
    rw [hb0]; rfl
  · rename_i hge
    have hne : (bt s i == 32) = false := by rw [hb0]; simp; omega
    have herr : ((Utf8.runeError == 32) : Bool) = false := by decide
    split
    · rename_i h2
      simp only [Bool.and_eq_true] at h2
      have c1 := hcont 1 (by simpa using h2.2)
      split
      · rename_i hc
        refine ⟨by simp, by simp; omega, ?_, .inr ⟨hne, fun k k1 k2 => ?_⟩⟩
        · rw [hne, beq_eq_false_iff_ne]; simp at hc ⊢; omega
        · have : k = 1 := by simp at k2; omega
          subst this; exact c1.2
      · exact ⟨by simp, by simp; omega, by rw [hne]; exact herr, .inl rfl⟩
    · split
      · rename_i h3
        simp only [Bool.and_eq_true] at h3
        have c1 := hcont 1 (by simpa using h3.1.2)
        have c2 := hcont 2 (by simpa using h3.2)
        split
        · rename_i hc
          refine ⟨by simp, by simp; omega, ?_, .inr ⟨hne, fun k k1 k2 => ?_⟩⟩
          · rw [hne, beq_eq_false_iff_ne]; simp at hc ⊢; omega
          · have : k = 1 ∨ k = 2 := by simp at k2; omega
            rcases this with rfl | rfl
            · exact c1.2
            · exact c2.2
        · exact ⟨by simp, by simp; omega, by rw [hne]; exact herr, .inl rfl⟩
      · split
        · rename_i h4
          simp only [Bool.and_eq_true] at h4
          have c1 := hcont 1 (by simpa using h4.1.1.2)
          have c2 := hcont 2 (by simpa using h4.1.2)
          have c3 := hcont 3 (by simpa using h4.2)
          split
          · rename_i hc
            refine ⟨by simp, by simp; omega, ?_, .inr ⟨hne, fun k k1 k2 => ?_⟩⟩
            · rw [hne, beq_eq_false_iff_ne]; simp at hc ⊢; omega
            · have : k = 1 ∨ k = 2 ∨ k = 3 := by simp at k2; omega
              rcases this with rfl | rfl | rfl
              · exact c1.2
              · exact c2.2
              · exact c3.2
          · exact ⟨by simp, by simp; omega, by rw [hne]; exact herr, .inl rfl⟩
        · exact ⟨by simp, by simp; omega, by rw [hne]; exact herr, .inl rfl⟩
def spB (s : ByteArray) : Nat → Nat → Option Nat → List (Nat × Nat) → List (Nat × Nat) × Option Nat
  | 0, _, st, acc => (acc, st)
  | f + 1, pos, st, acc =>
    if bt s pos == 32 then
      (match st with | some a => spB s f (pos + 1) none (acc ++ [(a, pos)]) | none => spB s f (pos + 1) none acc)
    else (match st with | some a => spB s f (pos + 1) (some a) acc | none => spB s f (pos + 1) (some pos) acc)
def wordsS (s : ByteArray) : List ByteArray := (Lib.closeSpans s (spB s s.size 0 none [])).map fun x => s.extract x.1 x.2
theorem spB_plain (s : ByteArray) (acc : List (Nat × Nat)) (a : Nat) : ∀ k f pos, (∀ j, j < k → (bt s (pos + j) == 32) = false) → spB s (k + f) pos (some a) acc = spB s f (pos + k) (some a) acc
  | 0, f, pos, _ => by rw [Nat.zero_add, Nat.add_zero]
  | k + 1, f, pos, h => by
    rw [show k + 1 + f = (k + f) + 1 by omega, spB, if_neg (by have := h 0 (by omega); rw [Nat.add_zero] at this; rw [this]; decide)]
    show spB s (k + f) (pos + 1) (some a) acc = _
    rw [spB_plain s acc a k f (pos + 1) (fun j hj => by have := h (j + 1) (by omega); rwa [show pos + 1 + j = pos + (j + 1) by omega])]
    rw [show pos + 1 + k = pos + (k + 1) by omega]
theorem spans_bytes (s : ByteArray) : ∀ (f pos : Nat) (st : Option Nat) (acc : List (Nat × Nat)), s.size - pos ≤ f → Lib.spansFromP (fun r => r == 32) s f pos st acc = spB s (s.size - pos) pos st acc
  | 0, pos, st, acc, h => by rw [show s.size - pos = 0 by omega]; rfl
  | f + 1, pos, st, acc, h => by
    by_cases hp : pos < s.size
    · obtain ⟨d1, d2, d3, d4⟩ := decode_blank s pos hp
      unfold Lib.spansFromP
      rw [if_pos hp, d3]
      have hrest : ∀ st' acc', Lib.spansFromP (fun r => r == 32) s f (pos + (Utf8.decode s pos).2) st' acc' = spB s (s.size - (pos + (Utf8.decode s pos).2)) (pos + (Utf8.decode s pos).2) st' acc' := fun st' acc' => spans_bytes s f _ st' acc' (by omega)
      rw [show s.size - pos = (s.size - (pos + 1)) + 1 by omega]
      unfold spB
      rcases d4 with d4 | ⟨d4, d5⟩
      · rw [d4] at hrest
        split <;> cases st <;> simp only [d4] <;> exact hrest _ _
      · have hskip : ∀ a acc', spB s (s.size - (pos + 1)) (pos + 1) (some a) acc' = spB s (s.size - (pos + (Utf8.decode s pos).2)) (pos + (Utf8.decode s pos).2) (some a) acc' := fun a acc' => by
          have := spB_plain s acc' a ((Utf8.decode s pos).2 - 1) (s.size - (pos + (Utf8.decode s pos).2)) (pos + 1) (fun j hj => by
            have := d5 (j + 1) (by omega) (by omega)
            rwa [show pos + 1 + j = pos + (j + 1) by omega])
          rw [show (Utf8.decode s pos).2 - 1 + (s.size - (pos + (Utf8.decode s pos).2)) = s.size - (pos + 1) by omega, show pos + 1 + ((Utf8.decode s pos).2 - 1) = pos + (Utf8.decode s pos).2 by omega] at this
          exact this
        rw [d4]
        cases st
        · simp only [Bool.false_eq_true, if_false]
          rw [hrest, hskip]
        · simp only [Bool.false_eq_true, if_false]
          rw [hrest, hskip]
    · rw [Lib.spansFromP_end _ _ _ _ _ _ hp, show s.size - pos = 0 by omega]; rfl
theorem fields_words (s : ByteArray) : Lib.goFieldsP (fun r => r == 32) s = wordsS s := by
  unfold Lib.goFieldsP wordsS Lib.spansOfP
  rw [spans_bytes s s.size 0 none [] (by omega)]
  rfl
end Go.Proofs.YtfnkciboencifaaDoor.Elder
