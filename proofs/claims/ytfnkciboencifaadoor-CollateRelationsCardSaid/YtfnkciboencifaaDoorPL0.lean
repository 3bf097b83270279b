/-
  lives of the group: its calls, one by one, reckoned by the kernel.
-/
import Derived.Test.YtfnkciboencifaaDoorPV19
import Derived.Test.YtfnkciboencifaaDoorPW4
set_option linter.all false
namespace Go.Proofs.YtfnkciboencifaaDoor
open Go Go.RowKit
set_option maxRecDepth 100000
def bs (l : List UInt8) : PV := .atom (.string ⟨l.toArray⟩)
def tblC : CallT := fun f args hp =>
  match args with
  | [.atom (.string s), .fn g []] => if ((hp.isEmpty && Nat.beq f 83) && (Nat.beq g 84 && Nat.ble s.size 4294967296)) = true then some (strs (wordsS s), [], []) else none
  | [.atom (.string s)] => if ((hp.isEmpty && Nat.beq f 85) && Nat.ble s.size 4294967296) = true then some (encS (foldS s), [], []) else none
  | _ => none
theorem tblC_ok : CallOk Tryd.prog tblC := fun f args hp r hp' os e => by
  unfold tblC at e
  split at e
  · rename_i s g
    split at e
    · rename_i hb
      cases e
      simp only [Bool.and_eq_true] at hb
      obtain ⟨⟨h0, h1⟩, h2, h3⟩ := hb
      obtain rfl := List.isEmpty_iff.1 h0
      obtain rfl : f = 83 := Nat.eq_of_beq_eq_true h1
      obtain rfl : g = 84 := Nat.eq_of_beq_eq_true h2
      exact ⟨fun _ _ => fields_pure s (by simpa using h3), fun h => absurd rfl h⟩
    · cases e
  · rename_i s
    split at e
    · rename_i hb
      cases e
      simp only [Bool.and_eq_true] at hb
      obtain ⟨⟨h0, h1⟩, h2⟩ := hb
      obtain rfl := List.isEmpty_iff.1 h0
      obtain rfl : f = 85 := Nat.eq_of_beq_eq_true h1
      exact ⟨fun _ _ => tokenFold_pure s (by simpa using h2), fun h => absurd rfl h⟩
    · cases e
  · cases e
def uS : PV := .agg [.atom (.bool true), .ob 0 1 0 1, .atom (.bool true), .ob 1 1 0 26]
def uhp : List AO := [⟨1, [bs [116, 104, 101]]⟩, ⟨1, [bs [97, 65], bs [98, 66], bs [99, 67], bs [100, 68], bs [101, 69], bs [102, 70], bs [103, 71], bs [104, 72], bs [105, 73], bs [106, 74], bs [107, 75], bs [108, 76], bs [109, 77], bs [110, 78], bs [111, 79], bs [112, 80], bs [113, 81], bs [114, 82], bs [115, 83], bs [116, 84], bs [117, 85], bs [118, 86], bs [119, 87], bs [120, 88], bs [121, 89], bs [122, 90]]⟩]
def uhp' : List (Option AO) := uhp.map some
theorem run_usual : sameR (gRun Tryd.prog tblC [] 20 28 [] []) (uS, [], uhp) = true := by kernel_rfl
def tb1 : CallT := tblAdd 28 [] [] (uS, [], uhp) tblC
theorem run_valid : sameR (gRun Tryd.prog tb1 [] 20 13 [uS] uhp) (encI 0, uhp', []) = true := by kernel_rfl
def tb2 : CallT := tblAdd 13 [uS] uhp (encI 0, uhp', []) tb1
def grpL : List Int := (List.range 256).map fun (c : Nat) => if 97 ≤ c ∧ c ≤ 122 then (c : Int) - 97 else if 65 ≤ c ∧ c ≤ 90 then (c : Int) - 65 else -1
def plcL : List Int := (List.range 256).map fun (c : Nat) => if 65 ≤ c ∧ c ≤ 90 then 1 else 0
def plR : PV := .tup [.agg (grpL.map encI), .agg (plcL.map encI)]
theorem run_places : sameR (gRun Tryd.prog tb2 [] 20 66 [uS] uhp) (plR, uhp', []) = true := by kernel_rfl
def tb3 : CallT := tblAdd 66 [uS] uhp (plR, uhp', []) tb2
theorem mixed : Tryd.prog.follows .mixedOrders = true := by kernel_rfl
theorem tb1_ok : CallOk Tryd.prog tb1 := callOk_add tblC_ok mixed run_usual
theorem tb2_ok : CallOk Tryd.prog tb2 := callOk_add tb1_ok mixed run_valid
theorem tb3_ok : CallOk Tryd.prog tb3 := callOk_add tb2_ok mixed run_places
end Go.Proofs.YtfnkciboencifaaDoor

