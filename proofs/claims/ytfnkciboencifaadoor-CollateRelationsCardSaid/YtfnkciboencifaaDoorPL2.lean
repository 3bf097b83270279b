/-
  lives of the group: Sort.
-/
import Derived.Test.YtfnkciboencifaaDoorPL0
set_option linter.all false
namespace Go.Proofs.YtfnkciboencifaaDoor
open Go Go.RowKit
set_option maxRecDepth 100000
def shp : List AO := uhp ++ [⟨1, [bs [110, 101, 119, 97, 114, 107], bs [116, 104, 101, 32, 110, 101, 119, 32, 121, 111, 114, 107], bs [110, 101, 119, 32, 121, 111, 114, 107], bs [78, 101, 119]]⟩]
def sres : CallR := (.tup [.ob 3 1 0 4, encI 0], shp.map some, [⟨1, [bs [78, 101, 119], bs [116, 104, 101, 32, 110, 101, 119, 32, 121, 111, 114, 107], bs [110, 101, 119, 32, 121, 111, 114, 107], bs [110, 101, 119, 97, 114, 107]]⟩])
theorem run_sort : sameR (gRun Tryd.prog tb3 [] 20 23 [uS, .ob 2 1 0 4] shp) sres = true := by kernel_rfl
end Go.Proofs.YtfnkciboencifaaDoor

