/-
  Walk: (collate.Spec).places: of each byte its group and its place.
-/
import Derived.Test.YtfnkciboencifaaDoorPColl
import Derived.Laws.ResultCell
import Derived.Laws.Tables
set_option linter.all false
namespace Go.Proofs.YtfnkciboencifaaDoor.Elder
open Go.RowKit

end Go.Proofs.YtfnkciboencifaaDoor.Elder

