/-
  No cell of these rows narrows 'for every input' (looked for: loops, veiled, ifaces, maps, wideKeys, modest, calm, conditions, laid).
  DERIVED. THE GIVEN ROWS OF THIS SEAT. 4 by the template 'for every input the law returns true; each argument reads behind the call as it read before'; 0 by the template 'total and deterministic' (their statements: YtehoglapajkabaaGreatTotals.lean).
  GIVEN WITH THE SEED: the statements are not yours to turn. If you find one false, say at which input.
  Laid BY PROGRAM, IN A SANDBOX (cutbox-rows.mjs): the forced cells as the released guide's own fill.sh prints them over the translation 0f8fff5c80419508… (all of the seat's roots in one cut). By AI agents, Wed Nov 11 2026. No macro, syntax, notation, axiom, sorry.
-/
import Derived.Test.YtehoglapajkabaaGreatChecked
import GoSem.Claim
import GoSem.ClaimJoined
import GoSem.ClaimMapViews
import Derived.JoinedTies
import Derived.KernelRfl
namespace Go.Proofs.YtehoglapajkabaaGreat
/- THE CELL 'sum', in the pinned program and in every row, IS THE sha256 OF THE DUMP (.gsa) THAT YtehoglapajkabaaGreatProg.lean LOADS. Nothing in Lean hashes anything: it is a label: what it is worth is what the hold of that sum in a sandbox is worth. -/
noncomputable def Tryz.pinned : Pinned := { name := "ytehoglapajkabaagreat", sum := "0f8fff5c804195083c9cd590d340f93b8500cb1f809d2abe6f6d292fd3e7b006", checked := Tryz.checked }
namespace Rows
def none {H : Type} : Left H := { results := [], args := [] }

/-- 'passimlaw33.LemmaAnalyses': WHATEVER THE INPUT: true; the input reads as it did. -/
def lemmaAnalysesSpec : ChangeSpec := { name := "lemmaAnalyses", fn := fun _ => fun
  | [d1, d2, d3, d4, d5, d6, d7] => { results := [.lit (.bool true)], args := [d1, d2, d3, d4, d5, d6, d7] }
  | _ => none }
def lemmaAnalysesRow : OpenClaim := { program := "ytehoglapajkabaagreat", sum := "0f8fff5c804195083c9cd590d340f93b8500cb1f809d2abe6f6d292fd3e7b006", func := "passim/passimlaw33.LemmaAnalyses", spec := "lemmaAnalyses", unfollowed := true, recurses := true, plainKeys := false, apart := false }
def LemmaAnalysesSaid : Prop := lemmaAnalysesRow.holds Tryz.pinned (OpenSpec.ofChange lemmaAnalysesSpec)

/-- ITS FALSE NEIGHBOUR: 'it returns false'. Refute it at one input. -/
def lemmaAnalysesWrong : ChangeSpec := { name := "lemmaAnalyses", fn := fun _ => fun
  | [d1, d2, d3, d4, d5, d6, d7] => { results := [.lit (.bool false)], args := [d1, d2, d3, d4, d5, d6, d7] }
  | _ => none }
def LemmaAnalysesWrongFalsely : Prop := lemmaAnalysesRow.holds Tryz.pinned (OpenSpec.ofChange lemmaAnalysesWrong)

/-- 'passimlaw33.LemmaMachines': WHATEVER THE INPUT: true; the input reads as it did. -/
def lemmaMachinesSpec : ChangeSpec := { name := "lemmaMachines", fn := fun _ => fun
  | [d1, d2, d3, d4, d5] => { results := [.lit (.bool true)], args := [d1, d2, d3, d4, d5] }
  | _ => none }
def lemmaMachinesRow : OpenClaim := { program := "ytehoglapajkabaagreat", sum := "0f8fff5c804195083c9cd590d340f93b8500cb1f809d2abe6f6d292fd3e7b006", func := "passim/passimlaw33.LemmaMachines", spec := "lemmaMachines", unfollowed := true, recurses := true, plainKeys := false, apart := false }
def LemmaMachinesSaid : Prop := lemmaMachinesRow.holds Tryz.pinned (OpenSpec.ofChange lemmaMachinesSpec)

/-- ITS FALSE NEIGHBOUR: 'it returns false'. Refute it at one input. -/
def lemmaMachinesWrong : ChangeSpec := { name := "lemmaMachines", fn := fun _ => fun
  | [d1, d2, d3, d4, d5] => { results := [.lit (.bool false)], args := [d1, d2, d3, d4, d5] }
  | _ => none }
def LemmaMachinesWrongFalsely : Prop := lemmaMachinesRow.holds Tryz.pinned (OpenSpec.ofChange lemmaMachinesWrong)

/-- 'passimlaw33.LemmaChooses': WHATEVER THE INPUT: true; the input reads as it did. -/
def lemmaChoosesSpec : ChangeSpec := { name := "lemmaChooses", fn := fun _ => fun
  | [d1, d2, d3, d4, d5, d6] => { results := [.lit (.bool true)], args := [d1, d2, d3, d4, d5, d6] }
  | _ => none }
def lemmaChoosesRow : OpenClaim := { program := "ytehoglapajkabaagreat", sum := "0f8fff5c804195083c9cd590d340f93b8500cb1f809d2abe6f6d292fd3e7b006", func := "passim/passimlaw33.LemmaChooses", spec := "lemmaChooses", unfollowed := true, recurses := true, plainKeys := false, apart := false }
def LemmaChoosesSaid : Prop := lemmaChoosesRow.holds Tryz.pinned (OpenSpec.ofChange lemmaChoosesSpec)

/-- ITS FALSE NEIGHBOUR: 'it returns false'. Refute it at one input. -/
def lemmaChoosesWrong : ChangeSpec := { name := "lemmaChooses", fn := fun _ => fun
  | [d1, d2, d3, d4, d5, d6] => { results := [.lit (.bool false)], args := [d1, d2, d3, d4, d5, d6] }
  | _ => none }
def LemmaChoosesWrongFalsely : Prop := lemmaChoosesRow.holds Tryz.pinned (OpenSpec.ofChange lemmaChoosesWrong)

/-- 'passimlaw33.LemmaTexts': WHATEVER THE INPUT: true; the input reads as it did. -/
def lemmaTextsSpec : ChangeSpec := { name := "lemmaTexts", fn := fun _ => fun
  | [d1, d2] => { results := [.lit (.bool true)], args := [d1, d2] }
  | _ => none }
def lemmaTextsRow : OpenClaim := { program := "ytehoglapajkabaagreat", sum := "0f8fff5c804195083c9cd590d340f93b8500cb1f809d2abe6f6d292fd3e7b006", func := "passim/passimlaw33.LemmaTexts", spec := "lemmaTexts", inPlace := ["internal/abi.NoEscape"], unfollowed := true, recurses := true, plainKeys := false, apart := false }
def LemmaTextsSaid : Prop := lemmaTextsRow.holds Tryz.pinned (OpenSpec.ofChange lemmaTextsSpec)

/-- ITS FALSE NEIGHBOUR: 'it returns false'. Refute it at one input. -/
def lemmaTextsWrong : ChangeSpec := { name := "lemmaTexts", fn := fun _ => fun
  | [d1, d2] => { results := [.lit (.bool false)], args := [d1, d2] }
  | _ => none }
def LemmaTextsWrongFalsely : Prop := lemmaTextsRow.holds Tryz.pinned (OpenSpec.ofChange lemmaTextsWrong)

/- THE SECOND FORM. 'bulk': how many values and letters a reading holds, each counted each time it is reached (what is shared counts as often as it is met; a slice's spare places count too). A statement '..UptoSaid' is the law's where the arguments, and the package variables that the reading takes, are together of bulk at most 1048576: NARROWER than '..Said'. Prove '..Said' where nothing that the law and all that it calls make is longer than what came in: it says more and counts as full. Else prove '..UptoSaid'. A law counts once. -/
mutual
def uptoBulk {H : Type} : DataW H → Nat
  | .lit (.string bytes) => bytes.length + 1
  | .lit _ => 1
  | .nil => 1
  | .ptr d => uptoBulk d + 1
  | .slice elems spare => uptoBulkAll elems + uptoBulkAll spare + 1
  | .agg parts => uptoBulkAll parts + 1
  | .iface _ d => uptoBulk d + 1
  | .map entries => uptoBulkEntries entries + 1
  | .held _ => 1
def uptoBulkAll {H : Type} : List (DataW H) → Nat
  | [] => 0
  | d :: r => uptoBulk d + uptoBulkAll r
def uptoBulkEntries {H : Type} : List (Lit × DataW H) → Nat
  | [] => 0
  | x :: r => uptoBulkEntry x + uptoBulkEntries r
def uptoBulkEntry {H : Type} : Lit × DataW H → Nat
  | (.string bytes, d) => bytes.length + uptoBulk d + 1
  | (_, d) => uptoBulk d + 1
 end
def uptoSmall : (H : Type) → List (DataW H) → Bool := fun _ ds => decide (uptoBulkAll ds ≤ 1048576)
def OpenSpec.upto (s : _root_.Go.ChangeSpec) : _root_.Go.OpenSpec := { _root_.Go.OpenSpec.ofChange s with cond := some uptoSmall }

/-- 'passimlaw33.LemmaAnalyses', WHERE WHAT IT READS IS OF BULK AT MOST 1048576: true; the input reads as it did. -/
def lemmaAnalysesUptoRow : OpenClaim := { program := "ytehoglapajkabaagreat", sum := "0f8fff5c804195083c9cd590d340f93b8500cb1f809d2abe6f6d292fd3e7b006", func := "passim/passimlaw33.LemmaAnalyses", spec := "lemmaAnalyses", unfollowed := true, recurses := true, plainKeys := false, apart := false, narrowed := true }
def LemmaAnalysesUptoSaid : Prop := lemmaAnalysesUptoRow.holds Tryz.pinned (OpenSpec.upto lemmaAnalysesSpec)

/-- 'passimlaw33.LemmaMachines', WHERE WHAT IT READS IS OF BULK AT MOST 1048576: true; the input reads as it did. -/
def lemmaMachinesUptoRow : OpenClaim := { program := "ytehoglapajkabaagreat", sum := "0f8fff5c804195083c9cd590d340f93b8500cb1f809d2abe6f6d292fd3e7b006", func := "passim/passimlaw33.LemmaMachines", spec := "lemmaMachines", unfollowed := true, recurses := true, plainKeys := false, apart := false, narrowed := true }
def LemmaMachinesUptoSaid : Prop := lemmaMachinesUptoRow.holds Tryz.pinned (OpenSpec.upto lemmaMachinesSpec)

/-- 'passimlaw33.LemmaChooses', WHERE WHAT IT READS IS OF BULK AT MOST 1048576: true; the input reads as it did. -/
def lemmaChoosesUptoRow : OpenClaim := { program := "ytehoglapajkabaagreat", sum := "0f8fff5c804195083c9cd590d340f93b8500cb1f809d2abe6f6d292fd3e7b006", func := "passim/passimlaw33.LemmaChooses", spec := "lemmaChooses", unfollowed := true, recurses := true, plainKeys := false, apart := false, narrowed := true }
def LemmaChoosesUptoSaid : Prop := lemmaChoosesUptoRow.holds Tryz.pinned (OpenSpec.upto lemmaChoosesSpec)

/-- 'passimlaw33.LemmaTexts', WHERE WHAT IT READS IS OF BULK AT MOST 1048576: true; the input reads as it did. -/
def lemmaTextsUptoRow : OpenClaim := { program := "ytehoglapajkabaagreat", sum := "0f8fff5c804195083c9cd590d340f93b8500cb1f809d2abe6f6d292fd3e7b006", func := "passim/passimlaw33.LemmaTexts", spec := "lemmaTexts", inPlace := ["internal/abi.NoEscape"], unfollowed := true, recurses := true, plainKeys := false, apart := false, narrowed := true }
def LemmaTextsUptoSaid : Prop := lemmaTextsUptoRow.holds Tryz.pinned (OpenSpec.upto lemmaTextsSpec)

end Rows
end Go.Proofs.YtehoglapajkabaaGreat
