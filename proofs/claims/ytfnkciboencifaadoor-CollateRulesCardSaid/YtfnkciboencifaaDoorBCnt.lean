/-
  Walk: (collate.Spec).counted.
-/
import Derived.Test.YtfnkciboencifaaDoorBWord
set_option linter.all false
namespace Go.Proofs.YtfnkciboencifaaDoor.Elder
open Go.RowKit Go.Shelf
theorem counted1_any (x : Nat) (w : World) (_hx : x ≤ 1114111) : Calls Tryd.prog 84 #[.int .i32 x] w fun e w' => e = .returned (.bool (x == 32)) ∧ ∃ q, w' = w.drewN q := by
  have hd : (((x : Nat) : Int) == 32) = (x == 32) := by rw [Bool.eq_iff_iff]; simp; omega
  have hd' := Lib.hid hd
  clear hd
  go_enter Tryd.func84, Tryd.ntmps84
  go_wp2
  all_goals (go_ret; exact ⟨by first | rw [← hd'.out]; rfl | (rw [← hd'.out]; simp), 0, rfl⟩)
theorem enters_counted1 : ∀ args w, (callFunc 84 args).run Tryd.prog w = .ok (.enter 84 args) w := enters_of Tryd.func84 (by kernel_rfl) rfl
theorem words_sizes (s : ByteArray) : ∀ x, x ∈ wordsS s → x.size ≤ s.size := by
  intro x hx
  unfold wordsS at hx
  obtain ⟨y, _, rfl⟩ := List.mem_map.1 hx
  simp
  omega
theorem Fields_any (s : ByteArray) (w : World) (hs : s.size ≤ 4294967296) :
    Calls Tryd.prog 83 #[.string s, .func (.func 84) #[] #[]] w fun e w' => ∃ A, e = .returned (.slice (some ⟨A, 0, none⟩) (wordsS s).length (wordsS s).length) ∧
      (∀ i, i < (wordsS s).length → w'.cell? ⟨A, i, none⟩ = some (.string (ls (wordsS s) i))) ∧ (wordsS s).length ≤ maxLen ∧ w.heap.size ≤ A ∧ Ext w w' := by
  have hp : Go.Proofs.PredAtRunes Tryd.prog 84 #[] (fun r => r == 32) w := fun W x hx _ => counted1_any x W hx
  refine (Tryd.strings_FieldsFunc_runes _ #[] enters_counted1 _ s w hs hp).mono ?_
  rintro e w' ⟨A, rfl, hA, hown, hb⟩
  rw [fields_words] at hown ⊢
  refine ⟨A, rfl, fun i hi => ?_, ?_, hA, hb⟩
  · have := hown.cells (g := A) rfl i (.string (ls (wordsS s) i)) (by rw [List.getElem?_map, List.getElem?_eq_getElem hi, ls_get hi]; rfl)
    have hadd : (⟨A, 0, none⟩ : Addr).add i = ⟨A, i, none⟩ := by unfold Addr.add; split <;> simp_all
    rw [hadd] at this
    exact this
  · rcases hown.2 with ⟨h, _⟩ | ⟨g, cap, cur, h, _, _, h1, h2, _⟩
    · cases h
    · omega
end Go.Proofs.YtfnkciboencifaaDoor.Elder
