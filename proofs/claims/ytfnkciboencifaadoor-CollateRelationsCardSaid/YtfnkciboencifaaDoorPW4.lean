/-
  Bridges: contracts of the library, seen by the clean machine.
-/
import Derived.Test.YtfnkciboencifaaDoorPW3
import Derived.Test.YtfnkciboencifaaDoorPCnt
set_option linter.all false
namespace Go.Proofs.YtfnkciboencifaaDoor
open Go Go.RowKit
set_option linter.unusedVariables false
theorem Rep.atomEq {D : Nat → Prop} {μ : Nat → Option Nat} {F : Nat → Prop} {w : World} {u v : Value} (h : Rep D μ F w (.atom u) v) : v = u := by cases h; rfl
theorem ResIs.atom {F : Nat → Prop} {w w' : World} (v : Value) : ResIs F w w' (.atom v) [] v :=
  ⟨fun _ => none, fun _ => False, .atom v, fun i o hi => by simp at hi, fun i b hi => by simp at hi, fun i j b hi => by simp at hi, fun b hb => hb.elim⟩
/-- A function of numbers and texts, by its contract elsewhere. -/
theorem Pure.atoms {P : Program} {f : FuncId} (args : List Value) (v : Value) (hen : Enters P f) (h : ∀ w, Calls P f args.toArray w fun e w' => e = .returned v ∧ Below w.heap.size w w') : Pure P f (args.map PV.atom) (.atom v) [] := by
  refine ⟨hen, fun D μ F w vs hvs hargs hF => ?_⟩
  have e : vs = args.toArray := by
    refine Array.ext (by simpa using hvs) fun i h1 h2 => ?_
    have hi : i < (args.map PV.atom).length := by simpa using h2
    have := hargs i hi
    rw [List.getElem_map] at this
    have := this.atomEq
    simpa [Array.getD, h1] using this
  rw [e]
  refine (h w).mono fun e w' he => ?_
  obtain ⟨rfl, hb⟩ := he
  exact ⟨v, rfl, hb, ResIs.atom v⟩

def foldS (s : ByteArray) : ByteArray := Elder.foldS s
theorem tokenFold_pure (s : ByteArray) (hs : s.size ≤ 4294967296) : Pure Tryd.prog 85 [encS s] (encS (foldS s)) [] :=
  Pure.atoms [.string s] _ (enters_of Tryd.func85 (by kernel_rfl) rfl) (fun w => Elder.Fold_any s w hs)
/-- The words of a text. -/
def wordsS (s : ByteArray) : List ByteArray := Elder.wordsS s
theorem fields_pure (s : ByteArray) (hs : s.size ≤ 4294967296) : Pure Tryd.prog 83 [encS s, .fn 84 []] (strs (wordsS s)) [] := by
  refine ⟨enters_of Tryd.func83 (by kernel_rfl) rfl, fun D μ F w vs hvs hargs hF => ?_⟩
  have h0 := (hargs 0 (by simp)).atomEq
  have h1 : vs.getD 1 undef = .func (.func 84) #[] #[] := by
    have h := hargs 1 (by simp)
    generalize vs.getD 1 undef = u at h
    simp only [List.getElem_cons_succ, List.getElem_cons_zero] at h
    cases h with
    | fn _ _ cvs hcs _ =>
      have hc0 : cvs = #[] := Array.eq_empty_of_size_eq_zero (by simpa using hcs)
      subst hc0; rfl
  have e : vs = #[.string s, .func (.func 84) #[] #[]] := by
    refine Array.ext (by simpa using hvs) fun i g1 g2 => ?_
    have : i = 0 ∨ i = 1 := by simp at g2; omega
    rcases this with rfl | rfl
    · simpa [Array.getD, g1] using h0
    · simpa [Array.getD, g1] using h1
  rw [e]
  refine (Elder.Fields_any s w hs).mono fun e w' he => ?_
  obtain ⟨A, rfl, hc, hm, hA, hb⟩ := he
  refine ⟨_, rfl, hb, fun _ => none, fun b => b = A ∧ b < w'.heap.size, ?_, fun i o hi => by simp at hi, fun i b hi => by simp at hi, fun i j b hi => by simp at hi, fun b hb' => ⟨.inr (hb'.1 ▸ hA), hb'.2⟩⟩
  by_cases hz : (wordsS s).length = 0
  · have hz' : wordsS s = [] := List.length_eq_zero_iff.1 hz
    show Rep _ _ _ _ (.sl 1 ((wordsS s).map encS)) (.slice (some ⟨A, 0, none⟩) (wordsS s).length (wordsS s).length)
    rw [hz']
    exact .sl0 1 _ 0 (Nat.zero_le _) (fun _ => rfl) (fun x hx => by cases hx; rfl)
  · have hlt : A < w'.heap.size := World.block_lt_of_cell? w' _ (hc 0 (Nat.pos_of_ne_zero hz))
    have := Rep.sl (D := fun i => i < ([] : List AO).length) (μ := fun _ => none) (F := fun b => b = A ∧ b < w'.heap.size) (w := w') 1 ((wordsS s).map encS) A 0 (wordsS s).length (fun j => .string (ls (wordsS s) j)) ⟨rfl, hlt⟩ (by simp) hm
      (fun j hj => by
        have hj' : j < (wordsS s).length := by simpa using hj
        rw [Nat.zero_add]; exact hc j hj') (fun k hk => by simp [encS, PV.cells]) (fun k hk c hcc => by
        have hk' : k < (wordsS s).length := by simpa using hk
        have e0 : ((wordsS s).map encS)[k].cells = [encS (ls (wordsS s) k)] := by
          have : (wordsS s)[k] = ls (wordsS s) k := by simp [ls, List.getD_eq_getElem?_getD, hk']
          simp [encS, PV.cells, this]
        have hc0 : c = 0 := by rw [e0] at hcc; simpa using hcc
        subst hc0
        rw [gl e0 hcc]
        simp only [List.getElem_cons_zero, Nat.mul_one, Nat.add_zero]
        exact Rep.atom _)
    rw [List.length_map] at this
    exact this
end Go.Proofs.YtfnkciboencifaaDoor

