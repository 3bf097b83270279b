/-
  No cell of these rows narrows 'for every input' (looked for: loops, veiled, ifaces, maps, wideKeys, modest, calm, conditions, laid).
  DERIVED. THE GIVEN ROWS OF THIS SEAT. 3 by the template 'for every input the law returns true; each argument reads behind the call as it read before'; 0 by the template 'total and deterministic' (their statements: YtehoglapajkabaaTotals.lean).
  GIVEN WITH THE SEED: the statements are not yours to turn. If you find one false, say at which input.
  Laid BY PROGRAM, IN A SANDBOX (cutbox-rows.mjs): the forced cells as the released guide's own fill.sh prints them over the translation 9d07863c227035f5… (all of the seat's roots in one cut). By AI agents, Wed Nov 11 2026. No macro, syntax, notation, axiom, sorry.
-/
import Derived.Test.YtehoglapajkabaaChecked
import GoSem.Claim
import GoSem.ClaimJoined
import GoSem.ClaimMapViews
import Derived.JoinedTies
import Derived.KernelRfl
namespace Go.Proofs.Ytehoglapajkabaa
/- THE CELL 'sum', in the pinned program and in every row, IS THE sha256 OF THE DUMP (.gsa) THAT YtehoglapajkabaaProg.lean LOADS. Nothing in Lean hashes anything: it is a label: what it is worth is what the hold of that sum in a sandbox is worth. -/
noncomputable def Try.pinned : Pinned := { name := "ytehoglapajkabaa", sum := "9d07863c227035f52d470f415bef1ad626bcdf594e6e1ef7c2952b6eee50d1b0", checked := Try.checked }
namespace Rows
def none {H : Type} : Left H := { results := [], args := [] }

/-- 'passimlaw33.LemmaBeside': WHATEVER THE INPUT: true; the input reads as it did. -/
def lemmaBesideSpec : ChangeSpec := { name := "lemmaBeside", fn := fun _ => fun
  | [d1, d2, d3, d4] => { results := [.lit (.bool true)], args := [d1, d2, d3, d4] }
  | _ => none }
def lemmaBesideRow : OpenClaim := { program := "ytehoglapajkabaa", sum := "9d07863c227035f52d470f415bef1ad626bcdf594e6e1ef7c2952b6eee50d1b0", func := "passim/passimlaw33.LemmaBeside", spec := "lemmaBeside", unfollowed := true, recurses := true, plainKeys := false, apart := false }
def LemmaBesideSaid : Prop := lemmaBesideRow.holds Try.pinned (OpenSpec.ofChange lemmaBesideSpec)

/-- ITS FALSE NEIGHBOUR: 'it returns false'. Refute it at one input. -/
def lemmaBesideWrong : ChangeSpec := { name := "lemmaBeside", fn := fun _ => fun
  | [d1, d2, d3, d4] => { results := [.lit (.bool false)], args := [d1, d2, d3, d4] }
  | _ => none }
def LemmaBesideWrongFalsely : Prop := lemmaBesideRow.holds Try.pinned (OpenSpec.ofChange lemmaBesideWrong)

/-- 'passimlaw33.LemmaMore': WHATEVER THE INPUT: true; the input reads as it did. -/
def lemmaMoreSpec : ChangeSpec := { name := "lemmaMore", fn := fun _ => fun
  | [d1, d2, d3] => { results := [.lit (.bool true)], args := [d1, d2, d3] }
  | _ => none }
def lemmaMoreRow : OpenClaim := { program := "ytehoglapajkabaa", sum := "9d07863c227035f52d470f415bef1ad626bcdf594e6e1ef7c2952b6eee50d1b0", func := "passim/passimlaw33.LemmaMore", spec := "lemmaMore", unfollowed := true, recurses := true, plainKeys := false, apart := false }
def LemmaMoreSaid : Prop := lemmaMoreRow.holds Try.pinned (OpenSpec.ofChange lemmaMoreSpec)

/-- ITS FALSE NEIGHBOUR: 'it returns false'. Refute it at one input. -/
def lemmaMoreWrong : ChangeSpec := { name := "lemmaMore", fn := fun _ => fun
  | [d1, d2, d3] => { results := [.lit (.bool false)], args := [d1, d2, d3] }
  | _ => none }
def LemmaMoreWrongFalsely : Prop := lemmaMoreRow.holds Try.pinned (OpenSpec.ofChange lemmaMoreWrong)

/-- 'passimlaw33.LemmaLeast': WHATEVER THE INPUT: true; the input reads as it did. -/
def lemmaLeastSpec : ChangeSpec := { name := "lemmaLeast", fn := fun _ => fun
  | [d1, d2] => { results := [.lit (.bool true)], args := [d1, d2] }
  | _ => none }
def lemmaLeastRow : OpenClaim := { program := "ytehoglapajkabaa", sum := "9d07863c227035f52d470f415bef1ad626bcdf594e6e1ef7c2952b6eee50d1b0", func := "passim/passimlaw33.LemmaLeast", spec := "lemmaLeast", unfollowed := true, recurses := true, plainKeys := false, apart := false }
def LemmaLeastSaid : Prop := lemmaLeastRow.holds Try.pinned (OpenSpec.ofChange lemmaLeastSpec)

/-- ITS FALSE NEIGHBOUR: 'it returns false'. Refute it at one input. -/
def lemmaLeastWrong : ChangeSpec := { name := "lemmaLeast", fn := fun _ => fun
  | [d1, d2] => { results := [.lit (.bool false)], args := [d1, d2] }
  | _ => none }
def LemmaLeastWrongFalsely : Prop := lemmaLeastRow.holds Try.pinned (OpenSpec.ofChange lemmaLeastWrong)

/- THE SECOND FORM. 'bulk': how many values and letters a reading holds, each counted each time it is reached (what is shared counts as often as it is met; a slice's spare places count too). A statement '..UptoSaid' is the law's where the arguments, and the package variables that the reading takes, are together of bulk at most 1048576: NARROWER than '..Said'. Prove '..Said' where nothing that the law and all that it calls make is longer than what came in: it says more and counts as full. Else prove '..UptoSaid'. A law counts once. -/
mutual
def uptoBulk {H : Type} : DataW H → Nat
  | .lit (.string bytes) => bytes.length + 1
  | .lit _ => 1
  | .nil => 1
  | .ptr d => uptoBulk d + 1
  | .slice elems spare => uptoBulkAll elems + uptoBulkAll spare + 1
  | .agg parts => uptoBulkAll parts + 1
  | .iface _ d => uptoBulk d + 1
  | .map entries => uptoBulkEntries entries + 1
  | .held _ => 1
def uptoBulkAll {H : Type} : List (DataW H) → Nat
  | [] => 0
  | d :: r => uptoBulk d + uptoBulkAll r
def uptoBulkEntries {H : Type} : List (Lit × DataW H) → Nat
  | [] => 0
  | x :: r => uptoBulkEntry x + uptoBulkEntries r
def uptoBulkEntry {H : Type} : Lit × DataW H → Nat
  | (.string bytes, d) => bytes.length + uptoBulk d + 1
  | (_, d) => uptoBulk d + 1
 end
def uptoSmall : (H : Type) → List (DataW H) → Bool := fun _ ds => decide (uptoBulkAll ds ≤ 1048576)
def OpenSpec.upto (s : _root_.Go.ChangeSpec) : _root_.Go.OpenSpec := { _root_.Go.OpenSpec.ofChange s with cond := some uptoSmall }

/-- 'passimlaw33.LemmaBeside', WHERE WHAT IT READS IS OF BULK AT MOST 1048576: true; the input reads as it did. -/
def lemmaBesideUptoRow : OpenClaim := { program := "ytehoglapajkabaa", sum := "9d07863c227035f52d470f415bef1ad626bcdf594e6e1ef7c2952b6eee50d1b0", func := "passim/passimlaw33.LemmaBeside", spec := "lemmaBeside", unfollowed := true, recurses := true, plainKeys := false, apart := false, narrowed := true }
def LemmaBesideUptoSaid : Prop := lemmaBesideUptoRow.holds Try.pinned (OpenSpec.upto lemmaBesideSpec)

/-- 'passimlaw33.LemmaMore', WHERE WHAT IT READS IS OF BULK AT MOST 1048576: true; the input reads as it did. -/
def lemmaMoreUptoRow : OpenClaim := { program := "ytehoglapajkabaa", sum := "9d07863c227035f52d470f415bef1ad626bcdf594e6e1ef7c2952b6eee50d1b0", func := "passim/passimlaw33.LemmaMore", spec := "lemmaMore", unfollowed := true, recurses := true, plainKeys := false, apart := false, narrowed := true }
def LemmaMoreUptoSaid : Prop := lemmaMoreUptoRow.holds Try.pinned (OpenSpec.upto lemmaMoreSpec)

/-- 'passimlaw33.LemmaLeast', WHERE WHAT IT READS IS OF BULK AT MOST 1048576: true; the input reads as it did. -/
def lemmaLeastUptoRow : OpenClaim := { program := "ytehoglapajkabaa", sum := "9d07863c227035f52d470f415bef1ad626bcdf594e6e1ef7c2952b6eee50d1b0", func := "passim/passimlaw33.LemmaLeast", spec := "lemmaLeast", unfollowed := true, recurses := true, plainKeys := false, apart := false, narrowed := true }
def LemmaLeastUptoSaid : Prop := lemmaLeastUptoRow.holds Try.pinned (OpenSpec.upto lemmaLeastSpec)

end Rows
end Go.Proofs.Ytehoglapajkabaa
