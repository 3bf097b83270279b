/-
  NARROWER THAN 'FOR EVERY INPUT', by the rows' own cells (each row's printed sentence says how): CollateKeys: laid · CollateCompares: laid · CollateSorts: laid · CollateRelations: laid · CollateTotal: laid · CollateRules: laid.
  DERIVED. THE GIVEN ROWS OF THIS SEAT. 6 by the template 'for every input the law returns true; each argument reads behind the call as it read before'; 0 by the template 'total and deterministic' (their statements: YtfnkciboencifaaDoorTotals.lean).
  GIVEN WITH THE SEED: the statements are not yours to turn. If you find one false, say at which input.
  Laid BY PROGRAM, IN A SANDBOX (cutbox-rows.mjs): the forced cells as the released guide's own fill.sh prints them over the translation 9a84f73b15f930f9… (all of the seat's roots in one cut). By AI agents, Wed Nov 11 2026. No macro, syntax, notation, axiom, sorry.
-/
import Derived.Test.YtfnkciboencifaaDoorChecked
import GoSem.PinnedTables
import GoSem.Claim
import GoSem.ClaimJoined
import GoSem.ClaimMapViews
import Derived.JoinedTies
import Derived.KernelRfl
namespace Go.Proofs.YtfnkciboencifaaDoor
/- THE CELL 'sum', in the pinned program and in every row, IS THE sha256 OF THE DUMP (.gsa) THAT YtfnkciboencifaaDoorProg.lean LOADS. Nothing in Lean hashes anything: it is a label: what it is worth is what the hold of that sum in a sandbox is worth. -/
noncomputable def Tryd.pinned : Pinned := { name := "ytfnkciboencifaadoor", sum := "9a84f73b15f930f918d69a9e33212ef7bd20f62fd947f8bcdc4ba239eb3e962b", checked := Tryd.checked }
namespace Rows
def none {H : Type} : Left H := { results := [], args := [] }

/- WHAT THE LISTED PACKAGE-LEVEL VARIABLES READ AS WHEN THE CALL BEGINS. Each datum BY PROGRAM (the guide's laid-datum.mjs) off the statement by which the dump's own 'gosem.cut.vars' lays the variable. In a bare row this is a premise. The card (YtfnkciboencifaaDoorCards.lean) ties it to the program's text. -/
def laid_unicode_utf8_acceptRanges {H : Type} : DataW H := .agg [.agg [.lit (.int .u8 128), .lit (.int .u8 191)], .agg [.lit (.int .u8 160), .lit (.int .u8 191)], .agg [.lit (.int .u8 128), .lit (.int .u8 159)], .agg [.lit (.int .u8 144), .lit (.int .u8 191)], .agg [.lit (.int .u8 128), .lit (.int .u8 143)], .agg [.lit (.int .u8 0), .lit (.int .u8 0)], .agg [.lit (.int .u8 0), .lit (.int .u8 0)], .agg [.lit (.int .u8 0), .lit (.int .u8 0)], .agg [.lit (.int .u8 0), .lit (.int .u8 0)], .agg [.lit (.int .u8 0), .lit (.int .u8 0)], .agg [.lit (.int .u8 0), .lit (.int .u8 0)], .agg [.lit (.int .u8 0), .lit (.int .u8 0)], .agg [.lit (.int .u8 0), .lit (.int .u8 0)], .agg [.lit (.int .u8 0), .lit (.int .u8 0)], .agg [.lit (.int .u8 0), .lit (.int .u8 0)], .agg [.lit (.int .u8 0), .lit (.int .u8 0)]]
/-- One of Go's own tables, pinned by name: the form's constant. -/
def laid_unicode_utf8_first : DataW Unit := Go.Pinned.utf8First

/-- 'passimlaw31.CollateKeys': WHATEVER THE INPUT: true; the input reads as it did. -/
def collateKeysSpec : ChangeSpec := { name := "collateKeys", fn := fun _ => fun
  | [d1, d2, d3, d4, d5, d6] => { results := [.lit (.bool true)], args := [d1, d2, d3, d4, d5, d6] }
  | _ => none }
def collateKeysRow : OpenClaim := { program := "ytfnkciboencifaadoor", sum := "9a84f73b15f930f918d69a9e33212ef7bd20f62fd947f8bcdc4ba239eb3e962b", func := "passim/passimlaw31.CollateKeys", spec := "collateKeys", inPlace := ["internal/bytealg.IndexByteString", "internal/bytealg.IndexString", "internal/abi.NoEscape"], unfollowed := true, recurses := true, named := ["unicode/utf8.first", "unicode/utf8.acceptRanges", "internal/bytealg.MaxLen"], apart := false, laid := [("unicode/utf8.acceptRanges", laid_unicode_utf8_acceptRanges), ("unicode/utf8.first", laid_unicode_utf8_first)] }
def CollateKeysSaid : Prop := collateKeysRow.holds Tryd.pinned (OpenSpec.ofChange collateKeysSpec)

/-- ITS FALSE NEIGHBOUR: 'it returns false'. Refute it at one input. -/
def collateKeysWrong : ChangeSpec := { name := "collateKeys", fn := fun _ => fun
  | [d1, d2, d3, d4, d5, d6] => { results := [.lit (.bool false)], args := [d1, d2, d3, d4, d5, d6] }
  | _ => none }
def CollateKeysWrongFalsely : Prop := collateKeysRow.holds Tryd.pinned (OpenSpec.ofChange collateKeysWrong)

/-- 'passimlaw31.CollateCompares': WHATEVER THE INPUT: true; the input reads as it did. -/
def collateComparesSpec : ChangeSpec := { name := "collateCompares", fn := fun _ => fun
  | [d1, d2, d3, d4, d5, d6] => { results := [.lit (.bool true)], args := [d1, d2, d3, d4, d5, d6] }
  | _ => none }
def collateComparesRow : OpenClaim := { program := "ytfnkciboencifaadoor", sum := "9a84f73b15f930f918d69a9e33212ef7bd20f62fd947f8bcdc4ba239eb3e962b", func := "passim/passimlaw31.CollateCompares", spec := "collateCompares", inPlace := ["internal/bytealg.IndexByteString", "internal/bytealg.IndexString", "internal/abi.NoEscape"], unfollowed := true, recurses := true, named := ["unicode/utf8.first", "unicode/utf8.acceptRanges", "internal/bytealg.MaxLen"], apart := false, laid := [("unicode/utf8.acceptRanges", laid_unicode_utf8_acceptRanges), ("unicode/utf8.first", laid_unicode_utf8_first)] }
def CollateComparesSaid : Prop := collateComparesRow.holds Tryd.pinned (OpenSpec.ofChange collateComparesSpec)

/-- ITS FALSE NEIGHBOUR: 'it returns false'. Refute it at one input. -/
def collateComparesWrong : ChangeSpec := { name := "collateCompares", fn := fun _ => fun
  | [d1, d2, d3, d4, d5, d6] => { results := [.lit (.bool false)], args := [d1, d2, d3, d4, d5, d6] }
  | _ => none }
def CollateComparesWrongFalsely : Prop := collateComparesRow.holds Tryd.pinned (OpenSpec.ofChange collateComparesWrong)

/-- 'passimlaw31.CollateSorts': WHATEVER THE INPUT: true; the input reads as it did. -/
def collateSortsSpec : ChangeSpec := { name := "collateSorts", fn := fun _ => fun
  | [d1, d2, d3, d4, d5, d6] => { results := [.lit (.bool true)], args := [d1, d2, d3, d4, d5, d6] }
  | _ => none }
def collateSortsRow : OpenClaim := { program := "ytfnkciboencifaadoor", sum := "9a84f73b15f930f918d69a9e33212ef7bd20f62fd947f8bcdc4ba239eb3e962b", func := "passim/passimlaw31.CollateSorts", spec := "collateSorts", inPlace := ["internal/bytealg.IndexByteString", "internal/bytealg.IndexString", "internal/abi.NoEscape"], unfollowed := true, recurses := true, named := ["unicode/utf8.first", "unicode/utf8.acceptRanges", "internal/bytealg.MaxLen"], apart := false, laid := [("unicode/utf8.acceptRanges", laid_unicode_utf8_acceptRanges), ("unicode/utf8.first", laid_unicode_utf8_first)] }
def CollateSortsSaid : Prop := collateSortsRow.holds Tryd.pinned (OpenSpec.ofChange collateSortsSpec)

/-- ITS FALSE NEIGHBOUR: 'it returns false'. Refute it at one input. -/
def collateSortsWrong : ChangeSpec := { name := "collateSorts", fn := fun _ => fun
  | [d1, d2, d3, d4, d5, d6] => { results := [.lit (.bool false)], args := [d1, d2, d3, d4, d5, d6] }
  | _ => none }
def CollateSortsWrongFalsely : Prop := collateSortsRow.holds Tryd.pinned (OpenSpec.ofChange collateSortsWrong)

/-- 'passimlaw31.CollateRelations': WHATEVER THE INPUT: true; the input reads as it did. -/
def collateRelationsSpec : ChangeSpec := { name := "collateRelations", fn := fun _ => fun
  | [d1, d2, d3, d4] => { results := [.lit (.bool true)], args := [d1, d2, d3, d4] }
  | _ => none }
def collateRelationsRow : OpenClaim := { program := "ytfnkciboencifaadoor", sum := "9a84f73b15f930f918d69a9e33212ef7bd20f62fd947f8bcdc4ba239eb3e962b", func := "passim/passimlaw31.CollateRelations", spec := "collateRelations", inPlace := ["internal/bytealg.IndexByteString", "internal/bytealg.IndexString", "internal/abi.NoEscape"], unfollowed := true, recurses := true, named := ["unicode/utf8.first", "unicode/utf8.acceptRanges", "internal/bytealg.MaxLen"], apart := false, laid := [("unicode/utf8.acceptRanges", laid_unicode_utf8_acceptRanges), ("unicode/utf8.first", laid_unicode_utf8_first)] }
def CollateRelationsSaid : Prop := collateRelationsRow.holds Tryd.pinned (OpenSpec.ofChange collateRelationsSpec)

/-- ITS FALSE NEIGHBOUR: 'it returns false'. Refute it at one input. -/
def collateRelationsWrong : ChangeSpec := { name := "collateRelations", fn := fun _ => fun
  | [d1, d2, d3, d4] => { results := [.lit (.bool false)], args := [d1, d2, d3, d4] }
  | _ => none }
def CollateRelationsWrongFalsely : Prop := collateRelationsRow.holds Tryd.pinned (OpenSpec.ofChange collateRelationsWrong)

/-- 'passimlaw31.CollateTotal': WHATEVER THE INPUT: true; the input reads as it did. -/
def collateTotalSpec : ChangeSpec := { name := "collateTotal", fn := fun _ => fun
  | [d1, d2, d3] => { results := [.lit (.bool true)], args := [d1, d2, d3] }
  | _ => none }
def collateTotalRow : OpenClaim := { program := "ytfnkciboencifaadoor", sum := "9a84f73b15f930f918d69a9e33212ef7bd20f62fd947f8bcdc4ba239eb3e962b", func := "passim/passimlaw31.CollateTotal", spec := "collateTotal", inPlace := ["internal/bytealg.IndexByteString", "internal/bytealg.IndexString", "internal/abi.NoEscape"], unfollowed := true, recurses := true, named := ["unicode/utf8.first", "unicode/utf8.acceptRanges", "internal/bytealg.MaxLen"], apart := false, laid := [("unicode/utf8.acceptRanges", laid_unicode_utf8_acceptRanges), ("unicode/utf8.first", laid_unicode_utf8_first)] }
def CollateTotalSaid : Prop := collateTotalRow.holds Tryd.pinned (OpenSpec.ofChange collateTotalSpec)

/-- ITS FALSE NEIGHBOUR: 'it returns false'. Refute it at one input. -/
def collateTotalWrong : ChangeSpec := { name := "collateTotal", fn := fun _ => fun
  | [d1, d2, d3] => { results := [.lit (.bool false)], args := [d1, d2, d3] }
  | _ => none }
def CollateTotalWrongFalsely : Prop := collateTotalRow.holds Tryd.pinned (OpenSpec.ofChange collateTotalWrong)

/-- 'passimlaw31.CollateRules': WHATEVER THE INPUT: true; the input reads as it did. -/
def collateRulesSpec : ChangeSpec := { name := "collateRules", fn := fun _ => fun
  | [d1, d2, d3, d4, d5] => { results := [.lit (.bool true)], args := [d1, d2, d3, d4, d5] }
  | _ => none }
def collateRulesRow : OpenClaim := { program := "ytfnkciboencifaadoor", sum := "9a84f73b15f930f918d69a9e33212ef7bd20f62fd947f8bcdc4ba239eb3e962b", func := "passim/passimlaw31.CollateRules", spec := "collateRules", inPlace := ["internal/bytealg.IndexByteString", "internal/bytealg.IndexString", "internal/abi.NoEscape"], unfollowed := true, recurses := true, named := ["unicode/utf8.first", "unicode/utf8.acceptRanges", "internal/bytealg.MaxLen"], apart := false, laid := [("unicode/utf8.acceptRanges", laid_unicode_utf8_acceptRanges), ("unicode/utf8.first", laid_unicode_utf8_first)] }
def CollateRulesSaid : Prop := collateRulesRow.holds Tryd.pinned (OpenSpec.ofChange collateRulesSpec)

/-- ITS FALSE NEIGHBOUR: 'it returns false'. Refute it at one input. -/
def collateRulesWrong : ChangeSpec := { name := "collateRules", fn := fun _ => fun
  | [d1, d2, d3, d4, d5] => { results := [.lit (.bool false)], args := [d1, d2, d3, d4, d5] }
  | _ => none }
def CollateRulesWrongFalsely : Prop := collateRulesRow.holds Tryd.pinned (OpenSpec.ofChange collateRulesWrong)

/- THE SECOND FORM. 'bulk': how many values and letters a reading holds, each counted each time it is reached (what is shared counts as often as it is met; a slice's spare places count too). A statement '..UptoSaid' is the law's where the arguments, and the package variables that the reading takes, are together of bulk at most 1048576: NARROWER than '..Said'. Prove '..Said' where nothing that the law and all that it calls make is longer than what came in: it says more and counts as full. Else prove '..UptoSaid'. A law counts once. -/
mutual
def uptoBulk {H : Type} : DataW H → Nat
  | .lit (.string bytes) => bytes.length + 1
  | .lit _ => 1
  | .nil => 1
  | .ptr d => uptoBulk d + 1
  | .slice elems spare => uptoBulkAll elems + uptoBulkAll spare + 1
  | .agg parts => uptoBulkAll parts + 1
  | .iface _ d => uptoBulk d + 1
  | .map entries => uptoBulkEntries entries + 1
  | .held _ => 1
def uptoBulkAll {H : Type} : List (DataW H) → Nat
  | [] => 0
  | d :: r => uptoBulk d + uptoBulkAll r
def uptoBulkEntries {H : Type} : List (Lit × DataW H) → Nat
  | [] => 0
  | x :: r => uptoBulkEntry x + uptoBulkEntries r
def uptoBulkEntry {H : Type} : Lit × DataW H → Nat
  | (.string bytes, d) => bytes.length + uptoBulk d + 1
  | (_, d) => uptoBulk d + 1
 end
def uptoSmall : (H : Type) → List (DataW H) → Bool := fun _ ds => decide (uptoBulkAll ds ≤ 1048576)
def OpenSpec.upto (s : _root_.Go.ChangeSpec) : _root_.Go.OpenSpec := { _root_.Go.OpenSpec.ofChange s with cond := some uptoSmall }

/-- 'passimlaw31.CollateKeys', WHERE WHAT IT READS IS OF BULK AT MOST 1048576: true; the input reads as it did. -/
def collateKeysUptoRow : OpenClaim := { program := "ytfnkciboencifaadoor", sum := "9a84f73b15f930f918d69a9e33212ef7bd20f62fd947f8bcdc4ba239eb3e962b", func := "passim/passimlaw31.CollateKeys", spec := "collateKeys", inPlace := ["internal/bytealg.IndexByteString", "internal/bytealg.IndexString", "internal/abi.NoEscape"], unfollowed := true, recurses := true, named := ["unicode/utf8.first", "unicode/utf8.acceptRanges", "internal/bytealg.MaxLen"], apart := false, laid := [("unicode/utf8.acceptRanges", laid_unicode_utf8_acceptRanges), ("unicode/utf8.first", laid_unicode_utf8_first)], narrowed := true }
def CollateKeysUptoSaid : Prop := collateKeysUptoRow.holds Tryd.pinned (OpenSpec.upto collateKeysSpec)

/-- 'passimlaw31.CollateCompares', WHERE WHAT IT READS IS OF BULK AT MOST 1048576: true; the input reads as it did. -/
def collateComparesUptoRow : OpenClaim := { program := "ytfnkciboencifaadoor", sum := "9a84f73b15f930f918d69a9e33212ef7bd20f62fd947f8bcdc4ba239eb3e962b", func := "passim/passimlaw31.CollateCompares", spec := "collateCompares", inPlace := ["internal/bytealg.IndexByteString", "internal/bytealg.IndexString", "internal/abi.NoEscape"], unfollowed := true, recurses := true, named := ["unicode/utf8.first", "unicode/utf8.acceptRanges", "internal/bytealg.MaxLen"], apart := false, laid := [("unicode/utf8.acceptRanges", laid_unicode_utf8_acceptRanges), ("unicode/utf8.first", laid_unicode_utf8_first)], narrowed := true }
def CollateComparesUptoSaid : Prop := collateComparesUptoRow.holds Tryd.pinned (OpenSpec.upto collateComparesSpec)

/-- 'passimlaw31.CollateSorts', WHERE WHAT IT READS IS OF BULK AT MOST 1048576: true; the input reads as it did. -/
def collateSortsUptoRow : OpenClaim := { program := "ytfnkciboencifaadoor", sum := "9a84f73b15f930f918d69a9e33212ef7bd20f62fd947f8bcdc4ba239eb3e962b", func := "passim/passimlaw31.CollateSorts", spec := "collateSorts", inPlace := ["internal/bytealg.IndexByteString", "internal/bytealg.IndexString", "internal/abi.NoEscape"], unfollowed := true, recurses := true, named := ["unicode/utf8.first", "unicode/utf8.acceptRanges", "internal/bytealg.MaxLen"], apart := false, laid := [("unicode/utf8.acceptRanges", laid_unicode_utf8_acceptRanges), ("unicode/utf8.first", laid_unicode_utf8_first)], narrowed := true }
def CollateSortsUptoSaid : Prop := collateSortsUptoRow.holds Tryd.pinned (OpenSpec.upto collateSortsSpec)

/-- 'passimlaw31.CollateRelations', WHERE WHAT IT READS IS OF BULK AT MOST 1048576: true; the input reads as it did. -/
def collateRelationsUptoRow : OpenClaim := { program := "ytfnkciboencifaadoor", sum := "9a84f73b15f930f918d69a9e33212ef7bd20f62fd947f8bcdc4ba239eb3e962b", func := "passim/passimlaw31.CollateRelations", spec := "collateRelations", inPlace := ["internal/bytealg.IndexByteString", "internal/bytealg.IndexString", "internal/abi.NoEscape"], unfollowed := true, recurses := true, named := ["unicode/utf8.first", "unicode/utf8.acceptRanges", "internal/bytealg.MaxLen"], apart := false, laid := [("unicode/utf8.acceptRanges", laid_unicode_utf8_acceptRanges), ("unicode/utf8.first", laid_unicode_utf8_first)], narrowed := true }
def CollateRelationsUptoSaid : Prop := collateRelationsUptoRow.holds Tryd.pinned (OpenSpec.upto collateRelationsSpec)

/-- 'passimlaw31.CollateTotal', WHERE WHAT IT READS IS OF BULK AT MOST 1048576: true; the input reads as it did. -/
def collateTotalUptoRow : OpenClaim := { program := "ytfnkciboencifaadoor", sum := "9a84f73b15f930f918d69a9e33212ef7bd20f62fd947f8bcdc4ba239eb3e962b", func := "passim/passimlaw31.CollateTotal", spec := "collateTotal", inPlace := ["internal/bytealg.IndexByteString", "internal/bytealg.IndexString", "internal/abi.NoEscape"], unfollowed := true, recurses := true, named := ["unicode/utf8.first", "unicode/utf8.acceptRanges", "internal/bytealg.MaxLen"], apart := false, laid := [("unicode/utf8.acceptRanges", laid_unicode_utf8_acceptRanges), ("unicode/utf8.first", laid_unicode_utf8_first)], narrowed := true }
def CollateTotalUptoSaid : Prop := collateTotalUptoRow.holds Tryd.pinned (OpenSpec.upto collateTotalSpec)

/-- 'passimlaw31.CollateRules', WHERE WHAT IT READS IS OF BULK AT MOST 1048576: true; the input reads as it did. -/
def collateRulesUptoRow : OpenClaim := { program := "ytfnkciboencifaadoor", sum := "9a84f73b15f930f918d69a9e33212ef7bd20f62fd947f8bcdc4ba239eb3e962b", func := "passim/passimlaw31.CollateRules", spec := "collateRules", inPlace := ["internal/bytealg.IndexByteString", "internal/bytealg.IndexString", "internal/abi.NoEscape"], unfollowed := true, recurses := true, named := ["unicode/utf8.first", "unicode/utf8.acceptRanges", "internal/bytealg.MaxLen"], apart := false, laid := [("unicode/utf8.acceptRanges", laid_unicode_utf8_acceptRanges), ("unicode/utf8.first", laid_unicode_utf8_first)], narrowed := true }
def CollateRulesUptoSaid : Prop := collateRulesUptoRow.holds Tryd.pinned (OpenSpec.upto collateRulesSpec)

end Rows
end Go.Proofs.YtfnkciboencifaaDoor
