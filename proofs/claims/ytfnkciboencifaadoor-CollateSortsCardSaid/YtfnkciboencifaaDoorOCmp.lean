/-
  Walks: comparing numbers and lists of numbers; equal lists of texts; small helpers.
-/
import Derived.Test.YtfnkciboencifaaDoorOR01
set_option linter.all false
namespace Go.Proofs.YtfnkciboencifaaDoor.Elder
open Go.RowKit
def cmpI (a b : Int) : Int := if a < b then -1 else if b < a then 1 else 0
theorem drop_li {l : List Int} {k : Nat} (h : k < l.length) : l.drop k = li l k :: l.drop (k + 1) := by rw [List.drop_eq_getElem_cons h, li_get h]
theorem drop_ls {l : List ByteArray} {k : Nat} (h : k < l.length) : l.drop k = ls l k :: l.drop (k + 1) := by rw [List.drop_eq_getElem_cons h, ls_get h]
theorem drop_all {α : Type} {l : List α} {k : Nat} (h : l.length ≤ k) : l.drop k = [] := List.drop_eq_nil_of_le h
def Fit (l : List Int) : Prop := ∀ x, x ∈ l → -9223372036854775808 ≤ x ∧ x ≤ 9223372036854775807
theorem Fit.li {l : List Int} (h : Fit l) (i : Nat) : -9223372036854775808 ≤ li l i ∧ li l i ≤ 9223372036854775807 := by
  by_cases hi : i < l.length
  · rw [← li_get hi]; exact h _ (List.getElem_mem hi)
  · have : l.getD i 0 = 0 := by simp [List.getD_eq_getElem?_getD, hi]
    show -9223372036854775808 ≤ l.getD i 0 ∧ l.getD i 0 ≤ 9223372036854775807
    rw [this]; omega
end Go.Proofs.YtfnkciboencifaaDoor.Elder
