/-
  Walks: collate.Valid.
-/
import Derived.Test.YtfnkciboencifaaDoorPVal
import Derived.Deep.LoopGhost
import Derived.Deep.DeepCutAuto
set_option linter.all false
namespace Go.Proofs.YtfnkciboencifaaDoor.Elder
open Go.RowKit

/-- A collation as data. -/
structure SpecD where
  words : Bool
  skip : List ByteArray
  numbers : Bool
  order : List ByteArray

def SpecAt (w : World) (v : Value) (d : SpecD) : Prop :=
  ∃ vs vo, v = .agg #[.bool d.words, vs, .bool d.numbers, vo] ∧ StrsAt w vs d.skip ∧ StrsAt w vo d.order
theorem SpecAt.ext {w w' : World} {v : Value} {d : SpecD} (h : SpecAt w v d) (hE : Ext w w') : SpecAt w' v d := by
  obtain ⟨vs, vo, rfl, h1, h2⟩ := h
  exact ⟨vs, vo, rfl, h1.ext hE, h2.ext hE⟩

end Go.Proofs.YtfnkciboencifaaDoor.Elder

