/-
  Walk: the reference's Fold.
-/
import Derived.Test.YtfnkciboencifaaDoorBFold
set_option linter.all false
namespace Go.Proofs.YtfnkciboencifaaDoor.Elder
open Go.RowKit Go.Shelf
def BufAt (w : World) (b n : Nat) (f : Nat → Value) : Prop :=
  ∃ A e fr, w.heap[b]? = some (.cells A e fr) ∧ n ≤ A.size ∧ (∀ i, i < n → A[i]? = some (f i)) ∧ ∀ i, i < n → (decide (fr.1 ≤ i) && decide (i < fr.2)) = false
theorem BufAt.cell {w : World} {b n : Nat} {f : Nat → Value} (h : BufAt w b n f) {i : Nat} (hi : i < n) : w.cell? ⟨b, i, none⟩ = some (f i) := by
  obtain ⟨A, e, fr, hb, _, hf, _⟩ := h
  simp only [World.cell?, hb]
  exact hf i hi
theorem BufAt.free {w : World} {b n : Nat} {f : Nat → Value} (h : BufAt w b n f) {i : Nat} (hi : i < n) : w.frozen? ⟨b, i, none⟩ = false := by
  obtain ⟨A, e, fr, hb, _, hf, hx⟩ := h
  have := hx i hi
  simp only [World.frozen?, hb]
  exact this
theorem BufAt.lt {w : World} {b n : Nat} {f : Nat → Value} (h : BufAt w b n f) : b < w.heap.size := by
  obtain ⟨A, e, fr, hb, _⟩ := h
  exact (Array.getElem?_eq_some_iff.1 hb).1
theorem BufAt.congr {w : World} {b n : Nat} {f g : Nat → Value} (h : BufAt w b n f) (hg : ∀ i, i < n → f i = g i) : BufAt w b n g := by
  obtain ⟨A, e, fr, h1, h2, h3, h4⟩ := h
  exact ⟨A, e, fr, h1, h2, fun i hi => by rw [h3 i hi, hg i hi], h4⟩
theorem BufAt.set {w : World} {b n : Nat} {f : Nat → Value} (h : BufAt w b n f) (i : Nat) (v : Value) : BufAt (w.setCell ⟨b, i, none⟩ v) b n (fun j => if j = i then v else f j) := by
  obtain ⟨A, e, fr, h1, h2, h3, h4⟩ := h
  refine ⟨A.setIfInBounds i v, e, fr, ?_, by simp [h2], fun j hj => ?_, h4⟩
  · simp only [World.setCell, Array.getElem?_modify, if_true, h1, Option.map_some]; simp
  · by_cases hji : j = i
    · subst hji; simp [show j < A.size by omega]
    · rw [Array.getElem?_setIfInBounds_ne (Ne.symm hji), h3 j hj]; simp [hji]
end Go.Proofs.YtfnkciboencifaaDoor.Elder
