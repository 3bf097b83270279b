/-
  Walks: the reference model of collations: what is valid.
-/
import Derived.Test.YtfnkciboencifaaDoorPS0
import Derived.Test.YtfnkciboencifaaDoorPW1
set_option linter.all false
namespace Go.Proofs.YtfnkciboencifaaDoor
open Go Go.RowKit
set_option linter.unusedSimpArgs false
set_option linter.unusedVariables false
set_option maxRecDepth 20000

/-- A proposition as a truth value. -/
noncomputable def tB (p : Prop) : Bool := @decide p (Classical.propDecidable p)
theorem tB_yes {p : Prop} (h : p) : tB p = true := by unfold tB; exact @decide_eq_true p (Classical.propDecidable p) h
theorem tB_no {p : Prop} (h : ¬ p) : tB p = false := by unfold tB; exact @decide_eq_false p (Classical.propDecidable p) h
theorem tB_eq {p q : Prop} (h : p ↔ q) : tB p = tB q := by rw [propext h]
/-- The choice by a proposition. -/
noncomputable def tI {α : Type} (p : Prop) (a b : α) : α := if tB p then a else b
theorem tI_yes {α : Type} {p : Prop} {a b : α} (h : p) : tI p a b = a := by unfold tI; rw [tB_yes h]; rfl
theorem tI_no {α : Type} {p : Prop} {a b : α} (h : ¬ p) : tI p a b = b := by unfold tI; rw [tB_no h]; rfl

structure SpecD where
  words : Bool
  skip : List ByteArray
  numbers : Bool
  order : List ByteArray
structure Sane (s : SpecD) : Prop where
  skip : s.skip.length ≤ 1000000000
  order : s.order.length ≤ 1000000000
  skips : ∀ x, x ∈ s.skip → x.size ≤ 4294967296
  orders : ∀ x, x ∈ s.order → x.size ≤ 4294967296
def SmallP (w : ByteArray) : Prop := 0 < w.size ∧ w.size ≤ 24 ∧ ∀ i, i < w.size → 97 ≤ (byteAt w i).toNat ∧ (byteAt w i).toNat ≤ 122
def AtP (s : SpecD) (c : UInt8) (g i : Nat) : Prop := g < s.order.length ∧ i < (ls s.order g).size ∧ byteAt (ls s.order g) i = c
def FirstP (s : SpecD) (c : UInt8) (g i : Nat) : Prop := AtP s c g i ∧ ∀ g' i', AtP s c g' i' → g < g' ∨ (g = g' ∧ i ≤ i')
open Classical in
noncomputable def grp (s : SpecD) (c : UInt8) : Int × Int := if h : ∃ p : Nat × Nat, FirstP s c p.1 p.2 then (((Classical.choose h).1 : Nat), ((Classical.choose h).2 : Nat)) else (-1, -1)
end Go.Proofs.YtfnkciboencifaaDoor

