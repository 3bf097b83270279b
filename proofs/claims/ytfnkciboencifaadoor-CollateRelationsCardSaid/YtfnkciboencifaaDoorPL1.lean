/-
  lives of the group: Key, Compare, Sort.
-/
import Derived.Test.YtfnkciboencifaaDoorPL0
set_option linter.all false
namespace Go.Proofs.YtfnkciboencifaaDoor
open Go Go.RowKit
set_option maxRecDepth 100000
theorem run_key : sameR (gRun Tryd.prog tb3 [] 20 16 [uS, bs [84, 104, 101, 32, 65, 32, 98, 49, 50]] uhp) (.tup [.ob 2 1 0 11, encI 0], uhp', [⟨1, [2, 0, 3, 1, 2, 1, 2, -1, 1, 0, 0].map encI⟩]) = true := by kernel_rfl
def tb4 : CallT := tblAdd 16 [uS, bs [84, 104, 101, 32, 65, 32, 98, 49, 50]] uhp (.tup [.ob 2 1 0 11, encI 0], uhp', [⟨1, [2, 0, 3, 1, 2, 1, 2, -1, 1, 0, 0].map encI⟩]) tb3
theorem run_cmp1 : sameR (gRun Tryd.prog tb3 [] 20 20 [uS, bs [116, 104, 101], bs [116, 104]] uhp) (.tup [encI 1, encI 0], uhp', []) = true := by kernel_rfl
def tb5 : CallT := tblAdd 20 [uS, bs [116, 104, 101], bs [116, 104]] uhp (.tup [encI 1, encI 0], uhp', []) tb4
theorem run_cmp2 : sameR (gRun Tryd.prog tb3 [] 20 20 [uS, bs [120, 32, 57], bs [120, 32, 48, 49, 48]] uhp) (.tup [encI (-1), encI 0], uhp', []) = true := by kernel_rfl
def tb6 : CallT := tblAdd 20 [uS, bs [120, 32, 57], bs [120, 32, 48, 49, 48]] uhp (.tup [encI (-1), encI 0], uhp', []) tb5
theorem tb4_ok : CallOk Tryd.prog tb4 := callOk_put tb3_ok (gRun_ok tb3_ok mixed 20 _ _ _ _ _ _ (sameR_eq run_key))
theorem tb5_ok : CallOk Tryd.prog tb5 := callOk_put tb4_ok (gRun_ok tb3_ok mixed 20 _ _ _ _ _ _ (sameR_eq run_cmp1))
theorem tb6_ok : CallOk Tryd.prog tb6 := callOk_put tb5_ok (gRun_ok tb3_ok mixed 20 _ _ _ _ _ _ (sameR_eq run_cmp2))
end Go.Proofs.YtfnkciboencifaaDoor

