/-
  DERIVED. GIVEN WITH THE SEED: THE CARDS: each row of YtfnkciboencifaaDoorRows.lean that lists a variable, with what it lists TIED to the program's text (the seventh form; the later family's looks); each row that meets fmt, with fmt's text TOLD by the authors' own Lean function (tested against real Go, not proved from fmt's source: count such statements apart). THE CARD IS WHAT COUNTS. Prove the row's statement (the work); the ties are given (YtfnkciboencifaaDoorTie.lean); close each card by the builder's one call (the guide's Derived/Test/ToyasCard.lean, 'card_holds'). Laid BY PROGRAM, IN A SANDBOX (cutbox-door.mjs). By AI agents, Wed Nov 11 2026. No macro, syntax, notation, axiom, sorry.
-/
import Derived.Test.YtfnkciboencifaaDoorRows
import GoSem.ClaimSeven
namespace Go.Proofs.YtfnkciboencifaaDoor
namespace Rows

/-- THE TIED CARD OF 'passimlaw31.CollateKeys'. -/
def collateKeysCard : Claim7 := { stood := { row := collateKeysRow, standIns := [], harness := (true, "3965c9e6ac3f1529059db2683e892d65f9a57f7a00f50c135e0df5281cfb1f35"), looks := false }, kinds := [], alts := [], laidByText := true, laidKinds := [.data, .pinned], laidTests := true, laidLooks := .later }
def CollateKeysCardSaid : Prop := Claim7.holds Tryd.pinned (.plain (OpenSpec.ofChange collateKeysSpec)) collateKeysCard

/-- THE TIED CARD OF 'passimlaw31.CollateCompares'. -/
def collateComparesCard : Claim7 := { stood := { row := collateComparesRow, standIns := [], harness := (true, "3965c9e6ac3f1529059db2683e892d65f9a57f7a00f50c135e0df5281cfb1f35"), looks := false }, kinds := [], alts := [], laidByText := true, laidKinds := [.data, .pinned], laidTests := true, laidLooks := .later }
def CollateComparesCardSaid : Prop := Claim7.holds Tryd.pinned (.plain (OpenSpec.ofChange collateComparesSpec)) collateComparesCard

/-- THE TIED CARD OF 'passimlaw31.CollateSorts'. -/
def collateSortsCard : Claim7 := { stood := { row := collateSortsRow, standIns := [], harness := (true, "3965c9e6ac3f1529059db2683e892d65f9a57f7a00f50c135e0df5281cfb1f35"), looks := false }, kinds := [], alts := [], laidByText := true, laidKinds := [.data, .pinned], laidTests := true, laidLooks := .later }
def CollateSortsCardSaid : Prop := Claim7.holds Tryd.pinned (.plain (OpenSpec.ofChange collateSortsSpec)) collateSortsCard

/-- THE TIED CARD OF 'passimlaw31.CollateRelations'. -/
def collateRelationsCard : Claim7 := { stood := { row := collateRelationsRow, standIns := [], harness := (true, "3965c9e6ac3f1529059db2683e892d65f9a57f7a00f50c135e0df5281cfb1f35"), looks := false }, kinds := [], alts := [], laidByText := true, laidKinds := [.data, .pinned], laidTests := true, laidLooks := .later }
def CollateRelationsCardSaid : Prop := Claim7.holds Tryd.pinned (.plain (OpenSpec.ofChange collateRelationsSpec)) collateRelationsCard

/-- THE TIED CARD OF 'passimlaw31.CollateTotal'. -/
def collateTotalCard : Claim7 := { stood := { row := collateTotalRow, standIns := [], harness := (true, "3965c9e6ac3f1529059db2683e892d65f9a57f7a00f50c135e0df5281cfb1f35"), looks := false }, kinds := [], alts := [], laidByText := true, laidKinds := [.data, .pinned], laidTests := true, laidLooks := .later }
def CollateTotalCardSaid : Prop := Claim7.holds Tryd.pinned (.plain (OpenSpec.ofChange collateTotalSpec)) collateTotalCard

/-- THE TIED CARD OF 'passimlaw31.CollateRules'. -/
def collateRulesCard : Claim7 := { stood := { row := collateRulesRow, standIns := [], harness := (true, "3965c9e6ac3f1529059db2683e892d65f9a57f7a00f50c135e0df5281cfb1f35"), looks := false }, kinds := [], alts := [], laidByText := true, laidKinds := [.data, .pinned], laidTests := true, laidLooks := .later }
def CollateRulesCardSaid : Prop := Claim7.holds Tryd.pinned (.plain (OpenSpec.ofChange collateRulesSpec)) collateRulesCard

/-- THE SECOND FORM's CARD OF 'passimlaw31.CollateKeys'. -/
def collateKeysUptoCard : Claim7 := { stood := { row := collateKeysUptoRow, standIns := [], harness := (true, "3965c9e6ac3f1529059db2683e892d65f9a57f7a00f50c135e0df5281cfb1f35"), looks := false }, kinds := [], alts := [], laidByText := true, laidKinds := [.data, .pinned], laidTests := true, laidLooks := .later }
def CollateKeysUptoCardSaid : Prop := Claim7.holds Tryd.pinned (.plain (OpenSpec.upto collateKeysSpec)) collateKeysUptoCard

/-- THE SECOND FORM's CARD OF 'passimlaw31.CollateCompares'. -/
def collateComparesUptoCard : Claim7 := { stood := { row := collateComparesUptoRow, standIns := [], harness := (true, "3965c9e6ac3f1529059db2683e892d65f9a57f7a00f50c135e0df5281cfb1f35"), looks := false }, kinds := [], alts := [], laidByText := true, laidKinds := [.data, .pinned], laidTests := true, laidLooks := .later }
def CollateComparesUptoCardSaid : Prop := Claim7.holds Tryd.pinned (.plain (OpenSpec.upto collateComparesSpec)) collateComparesUptoCard

/-- THE SECOND FORM's CARD OF 'passimlaw31.CollateSorts'. -/
def collateSortsUptoCard : Claim7 := { stood := { row := collateSortsUptoRow, standIns := [], harness := (true, "3965c9e6ac3f1529059db2683e892d65f9a57f7a00f50c135e0df5281cfb1f35"), looks := false }, kinds := [], alts := [], laidByText := true, laidKinds := [.data, .pinned], laidTests := true, laidLooks := .later }
def CollateSortsUptoCardSaid : Prop := Claim7.holds Tryd.pinned (.plain (OpenSpec.upto collateSortsSpec)) collateSortsUptoCard

/-- THE SECOND FORM's CARD OF 'passimlaw31.CollateRelations'. -/
def collateRelationsUptoCard : Claim7 := { stood := { row := collateRelationsUptoRow, standIns := [], harness := (true, "3965c9e6ac3f1529059db2683e892d65f9a57f7a00f50c135e0df5281cfb1f35"), looks := false }, kinds := [], alts := [], laidByText := true, laidKinds := [.data, .pinned], laidTests := true, laidLooks := .later }
def CollateRelationsUptoCardSaid : Prop := Claim7.holds Tryd.pinned (.plain (OpenSpec.upto collateRelationsSpec)) collateRelationsUptoCard

/-- THE SECOND FORM's CARD OF 'passimlaw31.CollateTotal'. -/
def collateTotalUptoCard : Claim7 := { stood := { row := collateTotalUptoRow, standIns := [], harness := (true, "3965c9e6ac3f1529059db2683e892d65f9a57f7a00f50c135e0df5281cfb1f35"), looks := false }, kinds := [], alts := [], laidByText := true, laidKinds := [.data, .pinned], laidTests := true, laidLooks := .later }
def CollateTotalUptoCardSaid : Prop := Claim7.holds Tryd.pinned (.plain (OpenSpec.upto collateTotalSpec)) collateTotalUptoCard

/-- THE SECOND FORM's CARD OF 'passimlaw31.CollateRules'. -/
def collateRulesUptoCard : Claim7 := { stood := { row := collateRulesUptoRow, standIns := [], harness := (true, "3965c9e6ac3f1529059db2683e892d65f9a57f7a00f50c135e0df5281cfb1f35"), looks := false }, kinds := [], alts := [], laidByText := true, laidKinds := [.data, .pinned], laidTests := true, laidLooks := .later }
def CollateRulesUptoCardSaid : Prop := Claim7.holds Tryd.pinned (.plain (OpenSpec.upto collateRulesSpec)) collateRulesUptoCard
end Rows
end Go.Proofs.YtfnkciboencifaaDoor
