/-
  Walks of the helpers of reference layer 1: numbers from lists, equal lists.
-/
import Derived.Test.YtfnkciboencifaaDoorBBase
set_option linter.all false
namespace Go.Proofs.YtfnkciboencifaaDoor.Elder
open Go.RowKit
def around (n m : Int) : Int := (if n < 0 then -(n + 1) else n) % m
theorem around_lo (n m : Int) (h : 1 ≤ m) : 0 ≤ around n m := by unfold around; exact Int.emod_nonneg _ (by omega)
theorem around_hi (n m : Int) (h : 1 ≤ m) : around n m < m := by unfold around; exact Int.emod_lt_of_pos _ (by omega)
end Go.Proofs.YtfnkciboencifaaDoor.Elder
