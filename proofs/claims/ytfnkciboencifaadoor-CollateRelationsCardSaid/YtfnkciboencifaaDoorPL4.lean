/-
  lives of the group.
-/
import Derived.Test.YtfnkciboencifaaDoorPL1
import Derived.Test.YtfnkciboencifaaDoorPL2
import Derived.Test.YtfnkciboencifaaDoorPL3
set_option linter.all false
namespace Go.Proofs.YtfnkciboencifaaDoor
open Go Go.RowKit
set_option maxRecDepth 100000
def tb7 : CallT := tblAdd 23 [uS, .ob 2 1 0 4] shp sres tb6
def tb8 : CallT := tblAdd 25 [uS, .ob 2 1 0 4] php pres tb7
theorem tb7_ok : CallOk Tryd.prog tb7 := callOk_put tb6_ok (gRun_ok tb3_ok mixed 20 _ _ _ _ _ _ (sameR_eq run_sort))
theorem tb8_ok : CallOk Tryd.prog tb8 := callOk_put tb7_ok (gRun_ok tb3_ok mixed 20 _ _ _ _ _ _ (sameR_eq run_paths))
theorem run_lives : sameR (gRun Tryd.prog tb8 [] 20 19 [] []) (.atom (.bool true), [], []) = true := by kernel_rfl
/-- The examples of the section are right. -/
theorem lives_pure : Pure Tryd.prog 19 [] (.atom (.bool true)) [] := run_pure (x := (.atom (.bool true), [], [])) tb8_ok mixed run_lives rfl
end Go.Proofs.YtfnkciboencifaaDoor

