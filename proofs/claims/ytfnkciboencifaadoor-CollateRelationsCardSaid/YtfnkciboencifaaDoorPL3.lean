/-
  lives of the group: Paths.
-/
import Derived.Test.YtfnkciboencifaaDoorPL0
set_option linter.all false
namespace Go.Proofs.YtfnkciboencifaaDoor
open Go Go.RowKit
set_option maxRecDepth 100000
def php : List AO := uhp ++ [⟨1, [.ob 3 1 0 1, .ob 4 1 0 2, .ob 5 1 0 1, .ob 6 1 0 2]⟩, ⟨1, [bs [98]]⟩, ⟨1, [bs [97], bs [99]]⟩, ⟨1, [bs [97]]⟩, ⟨1, [bs [97], bs [98]]⟩]
def pres : CallR := (.tup [.ob 7 1 0 4, encI 0], php.map some, [⟨1, [2, 3, 1, 0].map encI⟩])
theorem run_paths : sameR (gRun Tryd.prog tb3 [] 20 25 [uS, .ob 2 1 0 4] php) pres = true := by kernel_rfl
end Go.Proofs.YtfnkciboencifaaDoor

