/-
  The clean machine runs by itself: calls that are known, written out.
-/
import Derived.Test.YtfnkciboencifaaDoorPV18
set_option linter.all false
namespace Go.Proofs.YtfnkciboencifaaDoor
open Go Go.RowKit
set_option linter.unusedVariables false
def sameOo : List (Option AO) → List (Option AO) → Bool
  | [], [] => true
  | some p :: l, some q :: r => Nat.beq p.sz q.sz && (sameL p.els q.els && sameOo l r)
  | none :: l, none :: r => sameOo l r
  | _, _ => false
theorem sameOo_eq : ∀ {l r : List (Option AO)}, sameOo l r = true → l = r
  | [], [], _ => rfl
  | some ⟨a, b⟩ :: l, some ⟨c, d⟩ :: r, h => by
    simp only [sameOo, Bool.and_eq_true] at h
    rw [Nat.eq_of_beq_eq_true h.1, sameL_eq h.2.1, sameOo_eq h.2.2]
  | none :: l, none :: r, h => by
    simp only [sameOo] at h
    rw [sameOo_eq h]
  | [], _ :: _, h => by cases h
  | some _ :: _, [], h => by cases h
  | none :: _, [], h => by cases h
  | some _ :: _, none :: _, h => by cases h
  | none :: _, some _ :: _, h => by cases h
def sameR (x : Option CallR) (y : CallR) : Bool :=
  match x with
  | some (r, hp', os) => r.same y.1 && (sameOo hp' y.2.1 && sameO os y.2.2)
  | none => false
theorem sameR_eq {x : Option CallR} {y : CallR} (h : sameR x y = true) : x = some y := by
  unfold sameR at h
  split at h
  · obtain ⟨r, hp', os⟩ := y
    simp only [Bool.and_eq_true] at h
    rw [same_eq h.1, sameOo_eq h.2.1, sameO_eq h.2.2]
  · cases h
/-- One more call that is known. -/
def tblAdd (f : FuncId) (a : List PV) (h : List AO) (x : CallR) (tbl : CallT) : CallT := fun g args hp =>
  bif Nat.beq g f && (sameL args a && sameO hp h) then some x else tbl g args hp
theorem callOk_put {P : Program} {tbl : CallT} {f : FuncId} {a : List PV} {h : List AO} {x : CallR} (ht : CallOk P tbl) (hx : (h = [] → a.all PV.pure = true → Pure P f a x.1 x.2.2) ∧ (h ≠ [] → Proc P f a h x.1 x.2.1 x.2.2)) : CallOk P (tblAdd f a h x tbl) := fun g args hp r hp' os e => by
  unfold tblAdd at e
  cases hb : Nat.beq g f && (sameL args a && sameO hp h) with
  | true =>
    rw [hb, cond_true] at e; cases e
    simp only [Bool.and_eq_true] at hb
    obtain rfl : g = f := Nat.eq_of_beq_eq_true hb.1
    rw [sameL_eq hb.2.1, sameO_eq hb.2.2]
    exact hx
  | false => rw [hb, cond_false] at e; exact ht _ _ _ _ _ _ e
theorem callOk_add {P : Program} {tbl : CallT} {memo : Memo} {k : Nat} {f : FuncId} {a : List PV} {h : List AO} {x : CallR} (ht : CallOk P tbl) (hm : P.follows .mixedOrders = true) (he : sameR (gRun P tbl memo k f a h) x = true) : CallOk P (tblAdd f a h x tbl) := by
  obtain ⟨r, hp', os⟩ := x
  exact callOk_put ht (gRun_ok ht hm k _ _ _ _ _ _ (sameR_eq he))
theorem run_pure {P : Program} {tbl : CallT} {memo : Memo} {k : Nat} {f : FuncId} {a : List PV} {x : CallR} (ht : CallOk P tbl) (hm : P.follows .mixedOrders = true) (he : sameR (gRun P tbl memo k f a []) x = true) (ha : a.all PV.pure = true) : Pure P f a x.1 x.2.2 := by
  obtain ⟨r, hp', os⟩ := x
  exact (gRun_ok ht hm k _ _ _ _ _ _ (sameR_eq he)).1 rfl ha
end Go.Proofs.YtfnkciboencifaaDoor

