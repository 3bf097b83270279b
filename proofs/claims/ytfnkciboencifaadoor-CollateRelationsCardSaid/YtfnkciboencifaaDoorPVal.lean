/-
  Walks: what makes a collation valid: its words, and functions handed to the library.
-/
import Derived.Test.YtfnkciboencifaaDoorPCmp
import Derived.Test.YtfnkciboencifaaDoorPShelf
import Derived.Shelf.Abstract
set_option linter.all false
namespace Go.Proofs.YtfnkciboencifaaDoor.Elder
open Go.RowKit

end Go.Proofs.YtfnkciboencifaaDoor.Elder

