/-
  No cell of these rows narrows 'for every input' (looked for: loops, veiled, ifaces, maps, wideKeys, modest, calm, conditions, laid).
  DERIVED. THE GIVEN ROWS OF THIS SEAT. 7 by the template 'for every input the law returns true; each argument reads behind the call as it read before'; 0 by the template 'total and deterministic' (their statements: YtcdeilgijleoaaaTotals.lean).
  GIVEN WITH THE SEED: the statements are not yours to turn. If you find one false, say at which input.
  Laid BY PROGRAM, IN A SANDBOX (cutbox-rows.mjs): the forced cells as the released guide's own fill.sh prints them over the translation 2dd854b8fc5e14e7… (all of the seat's roots in one cut). By AI agents, Wed Nov 11 2026. No macro, syntax, notation, axiom, sorry.
-/
import Derived.Test.YtcdeilgijleoaaaChecked
import GoSem.Claim
import GoSem.ClaimJoined
import GoSem.ClaimMapViews
import Derived.JoinedTies
import Derived.KernelRfl
namespace Go.Proofs.Ytcdeilgijleoaaa
/- THE CELL 'sum', in the pinned program and in every row, IS THE sha256 OF THE DUMP (.gsa) THAT YtcdeilgijleoaaaProg.lean LOADS. Nothing in Lean hashes anything: it is a label: what it is worth is what the hold of that sum in a sandbox is worth. -/
noncomputable def Try.pinned : Pinned := { name := "ytcdeilgijleoaaa", sum := "2dd854b8fc5e14e7bc6e22aa0d681af8b770c7d621ef232651bf0dd7266781d3", checked := Try.checked }
namespace Rows
def none {H : Type} : Left H := { results := [], args := [] }

/-- 'passimlaw26.AssignLoads': WHATEVER THE INPUT: true; the input reads as it did. -/
def assignLoadsSpec : ChangeSpec := { name := "assignLoads", fn := fun _ => fun
  | [d1, d2, d3, d4, d5, d6] => { results := [.lit (.bool true)], args := [d1, d2, d3, d4, d5, d6] }
  | _ => none }
def assignLoadsRow : OpenClaim := { program := "ytcdeilgijleoaaa", sum := "2dd854b8fc5e14e7bc6e22aa0d681af8b770c7d621ef232651bf0dd7266781d3", func := "passim/passimlaw26.AssignLoads", spec := "assignLoads", unfollowed := true, recurses := true, apart := false }
def AssignLoadsSaid : Prop := assignLoadsRow.holds Try.pinned (OpenSpec.ofChange assignLoadsSpec)

/-- ITS FALSE NEIGHBOUR: 'it returns false'. Refute it at one input. -/
def assignLoadsWrong : ChangeSpec := { name := "assignLoads", fn := fun _ => fun
  | [d1, d2, d3, d4, d5, d6] => { results := [.lit (.bool false)], args := [d1, d2, d3, d4, d5, d6] }
  | _ => none }
def AssignLoadsWrongFalsely : Prop := assignLoadsRow.holds Try.pinned (OpenSpec.ofChange assignLoadsWrong)

/-- 'passimlaw26.AssignFinds': WHATEVER THE INPUT: true; the input reads as it did. -/
def assignFindsSpec : ChangeSpec := { name := "assignFinds", fn := fun _ => fun
  | [d1, d2, d3, d4, d5, d6] => { results := [.lit (.bool true)], args := [d1, d2, d3, d4, d5, d6] }
  | _ => none }
def assignFindsRow : OpenClaim := { program := "ytcdeilgijleoaaa", sum := "2dd854b8fc5e14e7bc6e22aa0d681af8b770c7d621ef232651bf0dd7266781d3", func := "passim/passimlaw26.AssignFinds", spec := "assignFinds", unfollowed := true, recurses := true, apart := false }
def AssignFindsSaid : Prop := assignFindsRow.holds Try.pinned (OpenSpec.ofChange assignFindsSpec)

/-- ITS FALSE NEIGHBOUR: 'it returns false'. Refute it at one input. -/
def assignFindsWrong : ChangeSpec := { name := "assignFinds", fn := fun _ => fun
  | [d1, d2, d3, d4, d5, d6] => { results := [.lit (.bool false)], args := [d1, d2, d3, d4, d5, d6] }
  | _ => none }
def AssignFindsWrongFalsely : Prop := assignFindsRow.holds Try.pinned (OpenSpec.ofChange assignFindsWrong)

/-- 'passimlaw26.AssignBounds': WHATEVER THE INPUT: true; the input reads as it did. -/
def assignBoundsSpec : ChangeSpec := { name := "assignBounds", fn := fun _ => fun
  | [d1, d2, d3, d4, d5, d6] => { results := [.lit (.bool true)], args := [d1, d2, d3, d4, d5, d6] }
  | _ => none }
def assignBoundsRow : OpenClaim := { program := "ytcdeilgijleoaaa", sum := "2dd854b8fc5e14e7bc6e22aa0d681af8b770c7d621ef232651bf0dd7266781d3", func := "passim/passimlaw26.AssignBounds", spec := "assignBounds", unfollowed := true, recurses := true, apart := false }
def AssignBoundsSaid : Prop := assignBoundsRow.holds Try.pinned (OpenSpec.ofChange assignBoundsSpec)

/-- ITS FALSE NEIGHBOUR: 'it returns false'. Refute it at one input. -/
def assignBoundsWrong : ChangeSpec := { name := "assignBounds", fn := fun _ => fun
  | [d1, d2, d3, d4, d5, d6] => { results := [.lit (.bool false)], args := [d1, d2, d3, d4, d5, d6] }
  | _ => none }
def AssignBoundsWrongFalsely : Prop := assignBoundsRow.holds Try.pinned (OpenSpec.ofChange assignBoundsWrong)

/-- 'passimlaw26.AssignProved': WHATEVER THE INPUT: true; the input reads as it did. -/
def assignProvedSpec : ChangeSpec := { name := "assignProved", fn := fun _ => fun
  | [d1, d2, d3, d4] => { results := [.lit (.bool true)], args := [d1, d2, d3, d4] }
  | _ => none }
def assignProvedRow : OpenClaim := { program := "ytcdeilgijleoaaa", sum := "2dd854b8fc5e14e7bc6e22aa0d681af8b770c7d621ef232651bf0dd7266781d3", func := "passim/passimlaw26.AssignProved", spec := "assignProved", unfollowed := true, recurses := true, apart := false }
def AssignProvedSaid : Prop := assignProvedRow.holds Try.pinned (OpenSpec.ofChange assignProvedSpec)

/-- ITS FALSE NEIGHBOUR: 'it returns false'. Refute it at one input. -/
def assignProvedWrong : ChangeSpec := { name := "assignProved", fn := fun _ => fun
  | [d1, d2, d3, d4] => { results := [.lit (.bool false)], args := [d1, d2, d3, d4] }
  | _ => none }
def AssignProvedWrongFalsely : Prop := assignProvedRow.holds Try.pinned (OpenSpec.ofChange assignProvedWrong)

/-- 'passimlaw26.AssignMore': WHATEVER THE INPUT: true; the input reads as it did. -/
def assignMoreSpec : ChangeSpec := { name := "assignMore", fn := fun _ => fun
  | [d1, d2, d3, d4] => { results := [.lit (.bool true)], args := [d1, d2, d3, d4] }
  | _ => none }
def assignMoreRow : OpenClaim := { program := "ytcdeilgijleoaaa", sum := "2dd854b8fc5e14e7bc6e22aa0d681af8b770c7d621ef232651bf0dd7266781d3", func := "passim/passimlaw26.AssignMore", spec := "assignMore", unfollowed := true, recurses := true, apart := false }
def AssignMoreSaid : Prop := assignMoreRow.holds Try.pinned (OpenSpec.ofChange assignMoreSpec)

/-- ITS FALSE NEIGHBOUR: 'it returns false'. Refute it at one input. -/
def assignMoreWrong : ChangeSpec := { name := "assignMore", fn := fun _ => fun
  | [d1, d2, d3, d4] => { results := [.lit (.bool false)], args := [d1, d2, d3, d4] }
  | _ => none }
def AssignMoreWrongFalsely : Prop := assignMoreRow.holds Try.pinned (OpenSpec.ofChange assignMoreWrong)

/-- 'passimlaw26.AssignScaled': WHATEVER THE INPUT: true; the input reads as it did. -/
def assignScaledSpec : ChangeSpec := { name := "assignScaled", fn := fun _ => fun
  | [d1, d2] => { results := [.lit (.bool true)], args := [d1, d2] }
  | _ => none }
def assignScaledRow : OpenClaim := { program := "ytcdeilgijleoaaa", sum := "2dd854b8fc5e14e7bc6e22aa0d681af8b770c7d621ef232651bf0dd7266781d3", func := "passim/passimlaw26.AssignScaled", spec := "assignScaled", unfollowed := true, recurses := true, apart := false }
def AssignScaledSaid : Prop := assignScaledRow.holds Try.pinned (OpenSpec.ofChange assignScaledSpec)

/-- ITS FALSE NEIGHBOUR: 'it returns false'. Refute it at one input. -/
def assignScaledWrong : ChangeSpec := { name := "assignScaled", fn := fun _ => fun
  | [d1, d2] => { results := [.lit (.bool false)], args := [d1, d2] }
  | _ => none }
def AssignScaledWrongFalsely : Prop := assignScaledRow.holds Try.pinned (OpenSpec.ofChange assignScaledWrong)

/-- 'passimlaw26.AssignNames': WHATEVER THE INPUT: true; the input reads as it did. -/
def assignNamesSpec : ChangeSpec := { name := "assignNames", fn := fun _ => fun
  | [d1, d2, d3] => { results := [.lit (.bool true)], args := [d1, d2, d3] }
  | _ => none }
def assignNamesRow : OpenClaim := { program := "ytcdeilgijleoaaa", sum := "2dd854b8fc5e14e7bc6e22aa0d681af8b770c7d621ef232651bf0dd7266781d3", func := "passim/passimlaw26.AssignNames", spec := "assignNames", unfollowed := true, recurses := true, apart := false }
def AssignNamesSaid : Prop := assignNamesRow.holds Try.pinned (OpenSpec.ofChange assignNamesSpec)

/-- ITS FALSE NEIGHBOUR: 'it returns false'. Refute it at one input. -/
def assignNamesWrong : ChangeSpec := { name := "assignNames", fn := fun _ => fun
  | [d1, d2, d3] => { results := [.lit (.bool false)], args := [d1, d2, d3] }
  | _ => none }
def AssignNamesWrongFalsely : Prop := assignNamesRow.holds Try.pinned (OpenSpec.ofChange assignNamesWrong)

/- THE SECOND FORM. 'bulk': how many values and letters a reading holds, each counted each time it is reached (what is shared counts as often as it is met; a slice's spare places count too). A statement '..UptoSaid' is the law's where the arguments, and the package variables that the reading takes, are together of bulk at most 1048576: NARROWER than '..Said'. Prove '..Said' where nothing that the law and all that it calls make is longer than what came in: it says more and counts as full. Else prove '..UptoSaid'. A law counts once. -/
mutual
def uptoBulk {H : Type} : DataW H → Nat
  | .lit (.string bytes) => bytes.length + 1
  | .lit _ => 1
  | .nil => 1
  | .ptr d => uptoBulk d + 1
  | .slice elems spare => uptoBulkAll elems + uptoBulkAll spare + 1
  | .agg parts => uptoBulkAll parts + 1
  | .iface _ d => uptoBulk d + 1
  | .map entries => uptoBulkEntries entries + 1
  | .held _ => 1
def uptoBulkAll {H : Type} : List (DataW H) → Nat
  | [] => 0
  | d :: r => uptoBulk d + uptoBulkAll r
def uptoBulkEntries {H : Type} : List (Lit × DataW H) → Nat
  | [] => 0
  | x :: r => uptoBulkEntry x + uptoBulkEntries r
def uptoBulkEntry {H : Type} : Lit × DataW H → Nat
  | (.string bytes, d) => bytes.length + uptoBulk d + 1
  | (_, d) => uptoBulk d + 1
 end
def uptoSmall : (H : Type) → List (DataW H) → Bool := fun _ ds => decide (uptoBulkAll ds ≤ 1048576)
def OpenSpec.upto (s : _root_.Go.ChangeSpec) : _root_.Go.OpenSpec := { _root_.Go.OpenSpec.ofChange s with cond := some uptoSmall }

/-- 'passimlaw26.AssignLoads', WHERE WHAT IT READS IS OF BULK AT MOST 1048576: true; the input reads as it did. -/
def assignLoadsUptoRow : OpenClaim := { program := "ytcdeilgijleoaaa", sum := "2dd854b8fc5e14e7bc6e22aa0d681af8b770c7d621ef232651bf0dd7266781d3", func := "passim/passimlaw26.AssignLoads", spec := "assignLoads", unfollowed := true, recurses := true, apart := false, narrowed := true }
def AssignLoadsUptoSaid : Prop := assignLoadsUptoRow.holds Try.pinned (OpenSpec.upto assignLoadsSpec)

/-- 'passimlaw26.AssignFinds', WHERE WHAT IT READS IS OF BULK AT MOST 1048576: true; the input reads as it did. -/
def assignFindsUptoRow : OpenClaim := { program := "ytcdeilgijleoaaa", sum := "2dd854b8fc5e14e7bc6e22aa0d681af8b770c7d621ef232651bf0dd7266781d3", func := "passim/passimlaw26.AssignFinds", spec := "assignFinds", unfollowed := true, recurses := true, apart := false, narrowed := true }
def AssignFindsUptoSaid : Prop := assignFindsUptoRow.holds Try.pinned (OpenSpec.upto assignFindsSpec)

/-- 'passimlaw26.AssignBounds', WHERE WHAT IT READS IS OF BULK AT MOST 1048576: true; the input reads as it did. -/
def assignBoundsUptoRow : OpenClaim := { program := "ytcdeilgijleoaaa", sum := "2dd854b8fc5e14e7bc6e22aa0d681af8b770c7d621ef232651bf0dd7266781d3", func := "passim/passimlaw26.AssignBounds", spec := "assignBounds", unfollowed := true, recurses := true, apart := false, narrowed := true }
def AssignBoundsUptoSaid : Prop := assignBoundsUptoRow.holds Try.pinned (OpenSpec.upto assignBoundsSpec)

/-- 'passimlaw26.AssignProved', WHERE WHAT IT READS IS OF BULK AT MOST 1048576: true; the input reads as it did. -/
def assignProvedUptoRow : OpenClaim := { program := "ytcdeilgijleoaaa", sum := "2dd854b8fc5e14e7bc6e22aa0d681af8b770c7d621ef232651bf0dd7266781d3", func := "passim/passimlaw26.AssignProved", spec := "assignProved", unfollowed := true, recurses := true, apart := false, narrowed := true }
def AssignProvedUptoSaid : Prop := assignProvedUptoRow.holds Try.pinned (OpenSpec.upto assignProvedSpec)

/-- 'passimlaw26.AssignMore', WHERE WHAT IT READS IS OF BULK AT MOST 1048576: true; the input reads as it did. -/
def assignMoreUptoRow : OpenClaim := { program := "ytcdeilgijleoaaa", sum := "2dd854b8fc5e14e7bc6e22aa0d681af8b770c7d621ef232651bf0dd7266781d3", func := "passim/passimlaw26.AssignMore", spec := "assignMore", unfollowed := true, recurses := true, apart := false, narrowed := true }
def AssignMoreUptoSaid : Prop := assignMoreUptoRow.holds Try.pinned (OpenSpec.upto assignMoreSpec)

/-- 'passimlaw26.AssignScaled', WHERE WHAT IT READS IS OF BULK AT MOST 1048576: true; the input reads as it did. -/
def assignScaledUptoRow : OpenClaim := { program := "ytcdeilgijleoaaa", sum := "2dd854b8fc5e14e7bc6e22aa0d681af8b770c7d621ef232651bf0dd7266781d3", func := "passim/passimlaw26.AssignScaled", spec := "assignScaled", unfollowed := true, recurses := true, apart := false, narrowed := true }
def AssignScaledUptoSaid : Prop := assignScaledUptoRow.holds Try.pinned (OpenSpec.upto assignScaledSpec)

/-- 'passimlaw26.AssignNames', WHERE WHAT IT READS IS OF BULK AT MOST 1048576: true; the input reads as it did. -/
def assignNamesUptoRow : OpenClaim := { program := "ytcdeilgijleoaaa", sum := "2dd854b8fc5e14e7bc6e22aa0d681af8b770c7d621ef232651bf0dd7266781d3", func := "passim/passimlaw26.AssignNames", spec := "assignNames", unfollowed := true, recurses := true, apart := false, narrowed := true }
def AssignNamesUptoSaid : Prop := assignNamesUptoRow.holds Try.pinned (OpenSpec.upto assignNamesSpec)

end Rows
end Go.Proofs.Ytcdeilgijleoaaa
