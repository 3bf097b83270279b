/-
  Walks: the reference model of collations: Valid.
-/
import Derived.Test.YtfnkciboencifaaDoorPS0
import Derived.Test.YtfnkciboencifaaDoorPW2
set_option linter.all false
namespace Go.Proofs.YtfnkciboencifaaDoor
open Go Go.RowKit
set_option linter.unusedSimpArgs false
set_option linter.unusedVariables false
set_option maxRecDepth 20000
def BadSkip (s : SpecD) : Prop := ∃ k, k < s.skip.length ∧ ¬ SmallP (ls s.skip k)
def BadByte (c : UInt8) : Prop := c.toNat < 33 ∨ 126 < c.toNat
def BadGroup (s : SpecD) (g : Nat) : Prop := (ls s.order g).size = 0 ∨ ∃ i, i < (ls s.order g).size ∧ BadByte (byteAt (ls s.order g) i)
def BadOrder (s : SpecD) : Prop := ∃ g, g < s.order.length ∧ BadGroup s g
def TwiceAt (s : SpecD) (g i : Nat) : Prop := ¬ ((grp s (byteAt (ls s.order g) i)).1 = g ∧ (grp s (byteAt (ls s.order g) i)).2 = i)
def Twice (s : SpecD) : Prop := ∃ g i, g < s.order.length ∧ i < (ls s.order g).size ∧ TwiceAt s g i
noncomputable def validE (s : SpecD) : Int := tI (64 < s.order.length ∨ 16 < s.skip.length) 4 (tI (BadSkip s ∨ BadOrder s) 1 (tI (Twice s) 7 0))
theorem validE_twice {s : SpecD} (h : ¬ (64 < s.order.length ∨ 16 < s.skip.length)) (hb : ¬ (BadSkip s ∨ BadOrder s)) (ht : Twice s) : validE s = 7 := (tI_no h).trans ((tI_no hb).trans (tI_yes ht))
theorem validE_ok {s : SpecD} (h : ¬ (64 < s.order.length ∨ 16 < s.skip.length)) (hb : ¬ (BadSkip s ∨ BadOrder s)) (ht : ¬ Twice s) : validE s = 0 := (tI_no h).trans ((tI_no hb).trans (tI_no ht))
def Before (s : SpecD) (g i : Nat) : Prop := ∀ g' i', (g' < g ∨ (g' = g ∧ i' < i)) → i' < (ls s.order g').size → ¬ TwiceAt s g' i'
def EI (s : SpecD) (e : Int) (g i : Nat) : Prop := (e = 7 ∧ Twice s) ∨ (e = 0 ∧ Before s g i)
theorem EI.next {s : SpecD} {e : Int} {g i : Nat} (h : EI s e g i) (h1 : ¬ TwiceAt s g i) : EI s e g (i + 1) := by
  rcases h with h | ⟨h, hb⟩
  · exact .inl h
  · refine .inr ⟨h, fun g' i' hx hi => ?_⟩
    rcases hx with hx | ⟨rfl, hx⟩
    · exact hb g' i' (.inl hx) hi
    · rcases Nat.lt_succ_iff_lt_or_eq.1 hx with hx | rfl
      · exact hb _ i' (.inr ⟨rfl, hx⟩) hi
      · exact h1
theorem EI.done {s : SpecD} {e : Int} {g : Nat} (h : EI s e g 0) (hg : s.order.length ≤ g) (h1 : ¬ (64 < s.order.length ∨ 16 < s.skip.length)) (h2 : ¬ (BadSkip s ∨ BadOrder s)) : e = validE s := by
  rcases h with ⟨rfl, ht⟩ | ⟨rfl, hb⟩
  · rw [validE_twice h1 h2 ht]
  · rw [validE_ok h1 h2]
    rintro ⟨g', i', a, b, c⟩
    exact hb g' i' (.inl (by omega)) b c
end Go.Proofs.YtfnkciboencifaaDoor

