/-
  The sets of people sorted in best, run at 2 to 6 people.
-/
import Derived.Test.YtcdeilgijleoaaaNB48
import Derived.Test.YtcdeilgijleoaaaNA1
import Derived.Test.YtcdeilgijleoaaaNB53
set_option linter.all false
namespace Go.Proofs.Ytcdeilgijleoaaa
open Go Go.RowKit
set_option maxRecDepth 100000
def tblS : CallT := fun f args hp =>
  match args with
  | [.atom (.int .u64 (.ofNat a)), .atom (.int .u64 (.ofNat b))] =>
    if ((hp.isEmpty && Nat.beq f 74) && ((Nat.blt 0 a && Nat.blt a 64) && (Nat.blt 0 b && Nat.blt b 64))) = true then some (encI (cmpSet a b), [], [])
    else none
  | _ => none
theorem tblS_ok : CallOk Try.prog tblS := fun f args hp r hp' os e => by
  unfold tblS at e
  split at e
  · rename_i a b
    split at e
    · rename_i hb
      cases e
      simp only [Bool.and_eq_true] at hb
      obtain ⟨⟨h0, h1⟩, ⟨h2, h3⟩, h4, h5⟩ := hb
      obtain rfl := List.isEmpty_iff.1 h0
      obtain rfl : f = 74 := Nat.eq_of_beq_eq_true h1
      exact ⟨fun _ _ => order_pure a b (by simpa [Nat.blt_eq] using h2) (by simpa [Nat.blt_eq] using h3) (by simpa [Nat.blt_eq] using h4) (by simpa [Nat.blt_eq] using h5), fun h => absurd rfl h⟩
    · cases e
  · cases e
def cmpN (a b : Nat) : Bool := beforeB (membL a 6) (membL b 6)
def insN (out : List Nat) (x : Nat) : List Nat := out.filter (fun y => !cmpN x y) ++ x :: out.filter (fun y => cmpN x y)
def orderN (n : Nat) : List Nat := ((List.range (2 ^ n)).drop 1).foldl insN []
theorem order_sets : ∀ n : Fin 7, (orderN n.1).map (fun a => membL a 6) = setsN n.1 := by decide +kernel
def sortA (n : Nat) : List PV := [.ob 0 1 0 (2 ^ n - 1), .fn 74 []]
def sortH (n : Nat) : List AO := [⟨1, ((List.range (2 ^ n)).drop 1).map encN⟩]
def sortR (n : Nat) : CallR := (.tup [], [some ⟨1, (orderN n).map encN⟩], [])
theorem run_sort2 : sameR (gRun Try.prog tblS [] 60 73 (sortA 2) (sortH 2)) (sortR 2) = true := by kernel_rfl
theorem run_sort3 : sameR (gRun Try.prog tblS [] 60 73 (sortA 3) (sortH 3)) (sortR 3) = true := by kernel_rfl
theorem run_sort4 : sameR (gRun Try.prog tblS [] 60 73 (sortA 4) (sortH 4)) (sortR 4) = true := by kernel_rfl
theorem run_sort5 : sameR (gRun Try.prog tblS [] 90 73 (sortA 5) (sortH 5)) (sortR 5) = true := by kernel_rfl
def bH (l : List Nat) : List AO := [⟨1, l.map encN⟩]
def bR (r : PV) (l : List Nat) : CallR := (r, [some ⟨1, l.map encN⟩], [])
theorem cut1 : sameR (gRun Try.prog tblS [] 60 93 [.ob 0 1 0 63, encI 0, encI 63, encI 29, .fn 74 []] (bH [1, 2, 3, 4, 5, 6, 7, 8, 9, 10, 11, 12, 13, 14, 15, 16, 17, 18, 19, 20, 21, 22, 23, 24, 25, 26, 27, 28, 29, 30, 31, 32, 33, 34, 35, 36, 37, 38, 39, 40, 41, 42, 43, 44, 45, 46, 47, 48, 49, 50, 51, 52, 53, 54, 55, 56, 57, 58, 59, 60, 61, 62, 63])) (bR (.tup [encI 51, .atom (.bool false)]) [52, 2, 3, 4, 5, 6, 7, 8, 9, 10, 11, 12, 13, 14, 15, 16, 17, 18, 19, 20, 21, 22, 23, 24, 25, 26, 27, 28, 29, 1, 57, 32, 33, 34, 35, 36, 37, 38, 39, 40, 41, 42, 43, 44, 45, 56, 53, 48, 49, 50, 51, 30, 47, 54, 55, 46, 31, 58, 59, 60, 61, 62, 63]) = true := by kernel_rfl
def tc1 : CallT := tblAdd 93 [.ob 0 1 0 63, encI 0, encI 63, encI 29, .fn 74 []] (bH [1, 2, 3, 4, 5, 6, 7, 8, 9, 10, 11, 12, 13, 14, 15, 16, 17, 18, 19, 20, 21, 22, 23, 24, 25, 26, 27, 28, 29, 30, 31, 32, 33, 34, 35, 36, 37, 38, 39, 40, 41, 42, 43, 44, 45, 46, 47, 48, 49, 50, 51, 52, 53, 54, 55, 56, 57, 58, 59, 60, 61, 62, 63]) (bR (.tup [encI 51, .atom (.bool false)]) [52, 2, 3, 4, 5, 6, 7, 8, 9, 10, 11, 12, 13, 14, 15, 16, 17, 18, 19, 20, 21, 22, 23, 24, 25, 26, 27, 28, 29, 1, 57, 32, 33, 34, 35, 36, 37, 38, 39, 40, 41, 42, 43, 44, 45, 56, 53, 48, 49, 50, 51, 30, 47, 54, 55, 46, 31, 58, 59, 60, 61, 62, 63]) tblS
theorem tc1_ok : CallOk Try.prog tc1 := callOk_add tblS_ok mixed cut1
theorem cut2 : sameR (gRun Try.prog tc1 [] 60 82 [.ob 0 1 0 63, encI 52, encI 63, encI 6, .fn 74 []] (bH [52, 2, 3, 4, 5, 6, 7, 8, 9, 10, 11, 12, 13, 14, 15, 16, 17, 18, 19, 20, 21, 22, 23, 24, 25, 26, 27, 28, 29, 1, 57, 32, 33, 34, 35, 36, 37, 38, 39, 40, 41, 42, 43, 44, 45, 56, 53, 48, 49, 50, 51, 30, 47, 54, 55, 46, 31, 58, 59, 60, 61, 62, 63])) (bR (.tup []) [52, 2, 3, 4, 5, 6, 7, 8, 9, 10, 11, 12, 13, 14, 15, 16, 17, 18, 19, 20, 21, 22, 23, 24, 25, 26, 27, 28, 29, 1, 57, 32, 33, 34, 35, 36, 37, 38, 39, 40, 41, 42, 43, 44, 45, 56, 53, 48, 49, 50, 51, 30, 46, 54, 58, 60, 31, 47, 55, 59, 61, 62, 63]) = true := by kernel_rfl
def tc2 : CallT := tblAdd 82 [.ob 0 1 0 63, encI 52, encI 63, encI 6, .fn 74 []] (bH [52, 2, 3, 4, 5, 6, 7, 8, 9, 10, 11, 12, 13, 14, 15, 16, 17, 18, 19, 20, 21, 22, 23, 24, 25, 26, 27, 28, 29, 1, 57, 32, 33, 34, 35, 36, 37, 38, 39, 40, 41, 42, 43, 44, 45, 56, 53, 48, 49, 50, 51, 30, 47, 54, 55, 46, 31, 58, 59, 60, 61, 62, 63]) (bR (.tup []) [52, 2, 3, 4, 5, 6, 7, 8, 9, 10, 11, 12, 13, 14, 15, 16, 17, 18, 19, 20, 21, 22, 23, 24, 25, 26, 27, 28, 29, 1, 57, 32, 33, 34, 35, 36, 37, 38, 39, 40, 41, 42, 43, 44, 45, 56, 53, 48, 49, 50, 51, 30, 46, 54, 58, 60, 31, 47, 55, 59, 61, 62, 63]) tc1
theorem tc2_ok : CallOk Try.prog tc2 := callOk_add tc1_ok mixed cut2
theorem cut3 : sameR (gRun Try.prog tc2 [] 60 93 [.ob 0 1 0 63, encI 0, encI 51, encI 36, .fn 74 []] (bH [52, 2, 3, 4, 5, 6, 7, 8, 9, 10, 11, 12, 13, 14, 15, 16, 17, 18, 19, 20, 21, 22, 23, 24, 25, 26, 27, 28, 29, 1, 57, 32, 33, 34, 35, 36, 37, 38, 39, 40, 41, 42, 43, 44, 45, 56, 53, 48, 49, 50, 51, 30, 46, 54, 58, 60, 31, 47, 55, 59, 61, 62, 63])) (bR (.tup [encI 27, .atom (.bool false)]) [1, 2, 3, 4, 5, 6, 7, 8, 9, 10, 11, 12, 13, 48, 40, 16, 17, 18, 19, 20, 21, 36, 35, 24, 34, 33, 32, 37, 29, 28, 57, 27, 26, 25, 23, 22, 52, 38, 39, 15, 41, 42, 43, 44, 45, 56, 53, 14, 49, 50, 51, 30, 46, 54, 58, 60, 31, 47, 55, 59, 61, 62, 63]) = true := by kernel_rfl
def tc3 : CallT := tblAdd 93 [.ob 0 1 0 63, encI 0, encI 51, encI 36, .fn 74 []] (bH [52, 2, 3, 4, 5, 6, 7, 8, 9, 10, 11, 12, 13, 14, 15, 16, 17, 18, 19, 20, 21, 22, 23, 24, 25, 26, 27, 28, 29, 1, 57, 32, 33, 34, 35, 36, 37, 38, 39, 40, 41, 42, 43, 44, 45, 56, 53, 48, 49, 50, 51, 30, 46, 54, 58, 60, 31, 47, 55, 59, 61, 62, 63]) (bR (.tup [encI 27, .atom (.bool false)]) [1, 2, 3, 4, 5, 6, 7, 8, 9, 10, 11, 12, 13, 48, 40, 16, 17, 18, 19, 20, 21, 36, 35, 24, 34, 33, 32, 37, 29, 28, 57, 27, 26, 25, 23, 22, 52, 38, 39, 15, 41, 42, 43, 44, 45, 56, 53, 14, 49, 50, 51, 30, 46, 54, 58, 60, 31, 47, 55, 59, 61, 62, 63]) tc2
theorem tc3_ok : CallOk Try.prog tc3 := callOk_add tc2_ok mixed cut3
theorem cut4 : sameR (gRun Try.prog tc3 [] 60 82 [.ob 0 1 0 63, encI 28, encI 51, encI 6, .fn 74 []] (bH [1, 2, 3, 4, 5, 6, 7, 8, 9, 10, 11, 12, 13, 48, 40, 16, 17, 18, 19, 20, 21, 36, 35, 24, 34, 33, 32, 37, 29, 28, 57, 27, 26, 25, 23, 22, 52, 38, 39, 15, 41, 42, 43, 44, 45, 56, 53, 14, 49, 50, 51, 30, 46, 54, 58, 60, 31, 47, 55, 59, 61, 62, 63])) (bR (.tup []) [1, 2, 3, 4, 5, 6, 7, 8, 9, 10, 11, 12, 13, 48, 40, 16, 17, 18, 19, 20, 21, 36, 35, 24, 34, 33, 32, 37, 25, 41, 49, 14, 22, 38, 26, 42, 50, 28, 44, 52, 56, 15, 23, 39, 27, 43, 51, 29, 45, 53, 57, 30, 46, 54, 58, 60, 31, 47, 55, 59, 61, 62, 63]) = true := by kernel_rfl
def tc4 : CallT := tblAdd 82 [.ob 0 1 0 63, encI 28, encI 51, encI 6, .fn 74 []] (bH [1, 2, 3, 4, 5, 6, 7, 8, 9, 10, 11, 12, 13, 48, 40, 16, 17, 18, 19, 20, 21, 36, 35, 24, 34, 33, 32, 37, 29, 28, 57, 27, 26, 25, 23, 22, 52, 38, 39, 15, 41, 42, 43, 44, 45, 56, 53, 14, 49, 50, 51, 30, 46, 54, 58, 60, 31, 47, 55, 59, 61, 62, 63]) (bR (.tup []) [1, 2, 3, 4, 5, 6, 7, 8, 9, 10, 11, 12, 13, 48, 40, 16, 17, 18, 19, 20, 21, 36, 35, 24, 34, 33, 32, 37, 25, 41, 49, 14, 22, 38, 26, 42, 50, 28, 44, 52, 56, 15, 23, 39, 27, 43, 51, 29, 45, 53, 57, 30, 46, 54, 58, 60, 31, 47, 55, 59, 61, 62, 63]) tc3
theorem tc4_ok : CallOk Try.prog tc4 := callOk_add tc3_ok mixed cut4
theorem cut5 : sameR (gRun Try.prog tc4 [] 60 93 [.ob 0 1 0 63, encI 0, encI 27, encI 18, .fn 74 []] (bH [1, 2, 3, 4, 5, 6, 7, 8, 9, 10, 11, 12, 13, 48, 40, 16, 17, 18, 19, 20, 21, 36, 35, 24, 34, 33, 32, 37, 25, 41, 49, 14, 22, 38, 26, 42, 50, 28, 44, 52, 56, 15, 23, 39, 27, 43, 51, 29, 45, 53, 57, 30, 46, 54, 58, 60, 31, 47, 55, 59, 61, 62, 63])) (bR (.tup [encI 23, .atom (.bool false)]) [24, 2, 3, 4, 5, 6, 7, 8, 9, 10, 11, 12, 32, 48, 40, 16, 17, 18, 1, 20, 33, 36, 34, 19, 35, 21, 13, 37, 25, 41, 49, 14, 22, 38, 26, 42, 50, 28, 44, 52, 56, 15, 23, 39, 27, 43, 51, 29, 45, 53, 57, 30, 46, 54, 58, 60, 31, 47, 55, 59, 61, 62, 63]) = true := by kernel_rfl
def tc5 : CallT := tblAdd 93 [.ob 0 1 0 63, encI 0, encI 27, encI 18, .fn 74 []] (bH [1, 2, 3, 4, 5, 6, 7, 8, 9, 10, 11, 12, 13, 48, 40, 16, 17, 18, 19, 20, 21, 36, 35, 24, 34, 33, 32, 37, 25, 41, 49, 14, 22, 38, 26, 42, 50, 28, 44, 52, 56, 15, 23, 39, 27, 43, 51, 29, 45, 53, 57, 30, 46, 54, 58, 60, 31, 47, 55, 59, 61, 62, 63]) (bR (.tup [encI 23, .atom (.bool false)]) [24, 2, 3, 4, 5, 6, 7, 8, 9, 10, 11, 12, 32, 48, 40, 16, 17, 18, 1, 20, 33, 36, 34, 19, 35, 21, 13, 37, 25, 41, 49, 14, 22, 38, 26, 42, 50, 28, 44, 52, 56, 15, 23, 39, 27, 43, 51, 29, 45, 53, 57, 30, 46, 54, 58, 60, 31, 47, 55, 59, 61, 62, 63]) tc4
theorem tc5_ok : CallOk Try.prog tc5 := callOk_add tc4_ok mixed cut5
theorem cut6 : sameR (gRun Try.prog tc5 [] 60 82 [.ob 0 1 0 63, encI 24, encI 27, encI 6, .fn 74 []] (bH [24, 2, 3, 4, 5, 6, 7, 8, 9, 10, 11, 12, 32, 48, 40, 16, 17, 18, 1, 20, 33, 36, 34, 19, 35, 21, 13, 37, 25, 41, 49, 14, 22, 38, 26, 42, 50, 28, 44, 52, 56, 15, 23, 39, 27, 43, 51, 29, 45, 53, 57, 30, 46, 54, 58, 60, 31, 47, 55, 59, 61, 62, 63])) (bR (.tup []) [24, 2, 3, 4, 5, 6, 7, 8, 9, 10, 11, 12, 32, 48, 40, 16, 17, 18, 1, 20, 33, 36, 34, 19, 35, 13, 21, 37, 25, 41, 49, 14, 22, 38, 26, 42, 50, 28, 44, 52, 56, 15, 23, 39, 27, 43, 51, 29, 45, 53, 57, 30, 46, 54, 58, 60, 31, 47, 55, 59, 61, 62, 63]) = true := by kernel_rfl
def tc6 : CallT := tblAdd 82 [.ob 0 1 0 63, encI 24, encI 27, encI 6, .fn 74 []] (bH [24, 2, 3, 4, 5, 6, 7, 8, 9, 10, 11, 12, 32, 48, 40, 16, 17, 18, 1, 20, 33, 36, 34, 19, 35, 21, 13, 37, 25, 41, 49, 14, 22, 38, 26, 42, 50, 28, 44, 52, 56, 15, 23, 39, 27, 43, 51, 29, 45, 53, 57, 30, 46, 54, 58, 60, 31, 47, 55, 59, 61, 62, 63]) (bR (.tup []) [24, 2, 3, 4, 5, 6, 7, 8, 9, 10, 11, 12, 32, 48, 40, 16, 17, 18, 1, 20, 33, 36, 34, 19, 35, 13, 21, 37, 25, 41, 49, 14, 22, 38, 26, 42, 50, 28, 44, 52, 56, 15, 23, 39, 27, 43, 51, 29, 45, 53, 57, 30, 46, 54, 58, 60, 31, 47, 55, 59, 61, 62, 63]) tc5
theorem tc6_ok : CallOk Try.prog tc6 := callOk_add tc5_ok mixed cut6
theorem cut7 : sameR (gRun Try.prog tc6 [] 60 93 [.ob 0 1 0 63, encI 0, encI 23, encI 5, .fn 74 []] (bH [24, 2, 3, 4, 5, 6, 7, 8, 9, 10, 11, 12, 32, 48, 40, 16, 17, 18, 1, 20, 33, 36, 34, 19, 35, 13, 21, 37, 25, 41, 49, 14, 22, 38, 26, 42, 50, 28, 44, 52, 56, 15, 23, 39, 27, 43, 51, 29, 45, 53, 57, 30, 46, 54, 58, 60, 31, 47, 55, 59, 61, 62, 63])) (bR (.tup [encI 11, .atom (.bool false)]) [32, 2, 3, 4, 5, 33, 1, 8, 9, 17, 16, 6, 12, 48, 40, 11, 10, 18, 7, 20, 24, 36, 34, 19, 35, 13, 21, 37, 25, 41, 49, 14, 22, 38, 26, 42, 50, 28, 44, 52, 56, 15, 23, 39, 27, 43, 51, 29, 45, 53, 57, 30, 46, 54, 58, 60, 31, 47, 55, 59, 61, 62, 63]) = true := by kernel_rfl
def tc7 : CallT := tblAdd 93 [.ob 0 1 0 63, encI 0, encI 23, encI 5, .fn 74 []] (bH [24, 2, 3, 4, 5, 6, 7, 8, 9, 10, 11, 12, 32, 48, 40, 16, 17, 18, 1, 20, 33, 36, 34, 19, 35, 13, 21, 37, 25, 41, 49, 14, 22, 38, 26, 42, 50, 28, 44, 52, 56, 15, 23, 39, 27, 43, 51, 29, 45, 53, 57, 30, 46, 54, 58, 60, 31, 47, 55, 59, 61, 62, 63]) (bR (.tup [encI 11, .atom (.bool false)]) [32, 2, 3, 4, 5, 33, 1, 8, 9, 17, 16, 6, 12, 48, 40, 11, 10, 18, 7, 20, 24, 36, 34, 19, 35, 13, 21, 37, 25, 41, 49, 14, 22, 38, 26, 42, 50, 28, 44, 52, 56, 15, 23, 39, 27, 43, 51, 29, 45, 53, 57, 30, 46, 54, 58, 60, 31, 47, 55, 59, 61, 62, 63]) tc6
theorem tc7_ok : CallOk Try.prog tc7 := callOk_add tc6_ok mixed cut7
theorem cut8 : sameR (gRun Try.prog tc7 [] 60 82 [.ob 0 1 0 63, encI 0, encI 11, encI 6, .fn 74 []] (bH [32, 2, 3, 4, 5, 33, 1, 8, 9, 17, 16, 6, 12, 48, 40, 11, 10, 18, 7, 20, 24, 36, 34, 19, 35, 13, 21, 37, 25, 41, 49, 14, 22, 38, 26, 42, 50, 28, 44, 52, 56, 15, 23, 39, 27, 43, 51, 29, 45, 53, 57, 30, 46, 54, 58, 60, 31, 47, 55, 59, 61, 62, 63])) (bR (.tup []) [1, 2, 4, 8, 16, 32, 3, 5, 9, 17, 33, 6, 12, 48, 40, 11, 10, 18, 7, 20, 24, 36, 34, 19, 35, 13, 21, 37, 25, 41, 49, 14, 22, 38, 26, 42, 50, 28, 44, 52, 56, 15, 23, 39, 27, 43, 51, 29, 45, 53, 57, 30, 46, 54, 58, 60, 31, 47, 55, 59, 61, 62, 63]) = true := by kernel_rfl
def tc8 : CallT := tblAdd 82 [.ob 0 1 0 63, encI 0, encI 11, encI 6, .fn 74 []] (bH [32, 2, 3, 4, 5, 33, 1, 8, 9, 17, 16, 6, 12, 48, 40, 11, 10, 18, 7, 20, 24, 36, 34, 19, 35, 13, 21, 37, 25, 41, 49, 14, 22, 38, 26, 42, 50, 28, 44, 52, 56, 15, 23, 39, 27, 43, 51, 29, 45, 53, 57, 30, 46, 54, 58, 60, 31, 47, 55, 59, 61, 62, 63]) (bR (.tup []) [1, 2, 4, 8, 16, 32, 3, 5, 9, 17, 33, 6, 12, 48, 40, 11, 10, 18, 7, 20, 24, 36, 34, 19, 35, 13, 21, 37, 25, 41, 49, 14, 22, 38, 26, 42, 50, 28, 44, 52, 56, 15, 23, 39, 27, 43, 51, 29, 45, 53, 57, 30, 46, 54, 58, 60, 31, 47, 55, 59, 61, 62, 63]) tc7
theorem tc8_ok : CallOk Try.prog tc8 := callOk_add tc7_ok mixed cut8
theorem cut9 : sameR (gRun Try.prog tc8 [] 60 86 [.ob 0 1 0 63, encI 12, encI 23, .fn 74 []] (bH [1, 2, 4, 8, 16, 32, 3, 5, 9, 17, 33, 6, 12, 48, 40, 11, 10, 18, 7, 20, 24, 36, 34, 19, 35, 13, 21, 37, 25, 41, 49, 14, 22, 38, 26, 42, 50, 28, 44, 52, 56, 15, 23, 39, 27, 43, 51, 29, 45, 53, 57, 30, 46, 54, 58, 60, 31, 47, 55, 59, 61, 62, 63])) (bR (.tup []) [1, 2, 4, 8, 16, 32, 3, 5, 9, 17, 33, 6, 10, 18, 34, 12, 20, 36, 24, 40, 48, 7, 11, 19, 35, 13, 21, 37, 25, 41, 49, 14, 22, 38, 26, 42, 50, 28, 44, 52, 56, 15, 23, 39, 27, 43, 51, 29, 45, 53, 57, 30, 46, 54, 58, 60, 31, 47, 55, 59, 61, 62, 63]) = true := by kernel_rfl
def tc9 : CallT := tblAdd 86 [.ob 0 1 0 63, encI 12, encI 23, .fn 74 []] (bH [1, 2, 4, 8, 16, 32, 3, 5, 9, 17, 33, 6, 12, 48, 40, 11, 10, 18, 7, 20, 24, 36, 34, 19, 35, 13, 21, 37, 25, 41, 49, 14, 22, 38, 26, 42, 50, 28, 44, 52, 56, 15, 23, 39, 27, 43, 51, 29, 45, 53, 57, 30, 46, 54, 58, 60, 31, 47, 55, 59, 61, 62, 63]) (bR (.tup []) [1, 2, 4, 8, 16, 32, 3, 5, 9, 17, 33, 6, 10, 18, 34, 12, 20, 36, 24, 40, 48, 7, 11, 19, 35, 13, 21, 37, 25, 41, 49, 14, 22, 38, 26, 42, 50, 28, 44, 52, 56, 15, 23, 39, 27, 43, 51, 29, 45, 53, 57, 30, 46, 54, 58, 60, 31, 47, 55, 59, 61, 62, 63]) tc8
theorem tc9_ok : CallOk Try.prog tc9 := callOk_add tc8_ok mixed cut9
theorem run_sort6 : sameR (gRun Try.prog tc9 [] 90 73 (sortA 6) (sortH 6)) (sortR 6) = true := by kernel_rfl
def tblZ : CallT := tc9
theorem tblZ_ok : CallOk Try.prog tblZ := tc9_ok
set_option maxRecDepth 20000
set_option maxHeartbeats 1000000
theorem leqB49 {p : Prop} (h : p := by (refine ⟨4, ?_, ?_, rfl, by simp, rfl, fun _ h _ => absurd h (Nat.not_lt_zero _)⟩ <;> (simp only [List.forall_mem_cons]; repeat' (first | refine And.intro ?_ ?_ | (intro p hp; exact absurd hp List.not_mem_nil) | rfl | exact sp (pure_case _) | exact sp (pure_pairs _) | exact sp (pure_cert _) | exact sp (pure_nats _) | exact (sealed_pure _ _ _ (pure_ints _)).trans (ren_ints _ _).symm | exact (sealed_pure _ _ _ (pure_strs _)).trans (ren_strs _ _).symm | exact sp (by assumption) | (intro o ho; cases ho; refine ⟨by decide, ?_⟩; first | (refine LeqS.row rfl ?_ ?_; (next => (first | rfl | (simp only [List.map_append, List.map_cons, List.map_nil, List.append_nil, List.nil_append, List.append_assoc, List.cons_append, encI, encS, ints, strs]; done) | (simp [encI, encS, ints, strs, encP, encN]; done))); (next => (first | rfl | exact pureL_encI _ | exact pureL_encS _ | exact pureL_ints _ | exact pureL_strs _ | exact pureL_encP _ | exact pureL_encN _ | (simp [pureL_append, pureL_encI, pureL_encS, pureL_ints, pureL_strs, pureL, PV.pure, pure_ints, pure_strs, pure_case, pureL_encP, pure_pairs, pure_cert, pureL_encN, pure_nats]; done))); done) | refine ⟨_, rfl, rfl, ?_⟩) | (simp [St.born, St.known, retV, St.get, St.obj, lk, sealed, PV.ren, renL, rmap, AO.ren, ints, strs, encI, encS, map_sealed_encI, map_sealed_encS, map_sealed_ints, map_sealed_strs, map_ren_encI, map_ren_encS, map_ren_ints, map_ren_strs, renL_encI, renL_encS, renL_ints, renL_strs, ren_case, encC, pairs, renL_encP, map_sealed_encP, map_ren_encP, encP, take_map_len, encCert, renL_encN, map_sealed_encN, map_ren_encN, nats] <;> omega)))); first | done | fail) : p := h
def upN (j : Nat) : List Nat := (List.range (j + 1)).drop 1
theorem upN_succ (j : Nat) : upN (j + 1) = upN j ++ [j + 1] := by
  unfold upN
  rw [List.range_succ, List.drop_append_of_le_length (by simp)]
theorem upN_len (j : Nat) : (upN j).length = j := by unfold upN; simp
theorem shl_pow {n : Int} (h2 : 2 ≤ n) (h6 : n ≤ 6) : IntKind.u64.wrap (1 * 2 ^ min n.toNat IntKind.u64.bits) = ((2 ^ n.toNat - 1 : Nat) : Int) + 1 := by
  obtain rfl | rfl | rfl | rfl | rfl : n = 2 ∨ n = 3 ∨ n = 4 ∨ n = 5 ∨ n = 6 := by omega
  all_goals decide
theorem pow_rng {n : Int} (h2 : 2 ≤ n) (h6 : n ≤ 6) : 3 ≤ 2 ^ n.toNat - 1 ∧ 2 ^ n.toNat - 1 ≤ 63 := by
  obtain rfl | rfl | rfl | rfl | rfl : n = 2 ∨ n = 3 ∨ n = 4 ∨ n = 5 ∨ n = 6 := by omega
  all_goals decide
instance (l : List Int) (n : Int) (k : Nat) : Decidable (stepOk l n k) := by unfold stepOk; infer_instance
theorem order_all : ∀ n : Fin 7, (orderN n.1).length = 2 ^ n.1 - 1 ∧ ∀ s, s ∈ orderN n.1 → 0 < s ∧ s < 64 ∧ 0 < (membL s 6).length ∧ maskN (inN (membL s 6)) n.1 = s ∧ ∀ k, k < (membL s 6).length → stepOk (membL s 6) n.1 k := by decide +kernel
theorem order_len {n : Nat} (h : n ≤ 6) : (orderN n).length = 2 ^ n - 1 := (order_all ⟨n, by omega⟩).1
theorem order_mem {n : Nat} (h : n ≤ 6) {s : Nat} (hs : s ∈ orderN n) : 0 < s ∧ s < 64 ∧ 0 < (membL s 6).length ∧ maskN (inN (membL s 6)) n = s ∧ incB (membL s 6) n = true := by
  obtain ⟨h1, h2, h3, h4, h5⟩ := (order_all ⟨n, by omega⟩).2 s hs
  exact ⟨h1, h2, h3, h4, incB_yes h5⟩
def orD (x : Option CertD) : CertD := x.getD ⟨[], [], -1⟩
theorem bestK_is {c : CaseD} {K : List (List Int)} (k : Nat) : (bestK c K (k + 1)).isSome = true := by
  rw [bestK]
  split
  · rfl
  · split <;> rfl
theorem orD_orC {x : Option CertD} (h : x.isSome = true) : orD x = orC x := by
  cases x with
  | none => cases h
  | some y => rfl
theorem wrap64 {x : Int} (h0 : 0 ≤ x) (h1 : x ≤ 1000) : IntKind.u64.wrap x = x := by
  show x % 18446744073709551616 = x
  omega
theorem best_walk (c : CaseD) (hG : Good c) (hbl : c.bars.length ≤ 1000000) (hS : Proc Try.prog 73 [.ob 0 1 0 (2 ^ c.people.toNat - 1), .fn 74 []] [⟨1, (upN (2 ^ c.people.toNat - 1)).map encN⟩] (.tup []) [some ⟨1, (orderN c.people.toNat).map encN⟩] []) : Pure Try.prog 53 [encC c] (encCert (bestS c)) [] := by
  have hmany := hG.many
  have hlo := hG.lo
  have hhi := hG.hi
  have hsh := shl_pow hlo hhi
  have hMr := pow_rng hlo hhi
  have hZl := order_len (n := c.people.toNat) (by omega)
  have hZm := fun s => order_mem (n := c.people.toNat) (by omega) (s := s)
  have hfin : bestS c = orC (bestK c (setsN c.people.toNat) (setsN c.people.toNat).length) := rfl
  rw [← order_sets ⟨c.people.toNat, by omega⟩, List.length_map] at hfin
  rw [hfin]
  clear hfin
  simp only at hZl hZm ⊢
  generalize orderN c.people.toNat = Z at hZl hZm hS ⊢
  generalize 2 ^ c.people.toNat - 1 = MM at hsh hMr hZl hS
  generalize hKe : Z.map (fun a => membL a 6) = K
  have hKg : ∀ k, k < Z.length → K.getD k [] = membL (Z.getD k 0) 6 := fun k hk => by subst hKe; simp [List.getD_eq_getElem?_getD, hk]
  refine Pure.introR (rv := [.cell 2 47]) Try.func53 (by kernel_rfl) rfl rfl rfl (Nat.le_of_ble_eq_true rfl) ?_ ?_
  · simp [pure_case, encI, PV.pure, pureL]
  refine sZ [1, 2] (fun P S K => XvBox S.nx (S.get 0) (fun r0 ef0 => XvAlloc P 47 (S.nx + ef0.add.length) (fun r1 ef1 => K ⟨[(1, r0), (2, r1)], (Eff.hp ef1 (S.nx + ef0.add.length) (Eff.hp ef0 S.nx S.hp)), ((S.nx + ef0.add.length) + ef1.add.length), S.gh⟩))) fun K hK => ?_
  repeat' (first | (refine hK _ ?_; clear hK K) | refine And.intro ?_ ?_ | exact cl | exact one_encP _ | exact flat_encI _ | (refine st ?_; try simp only [encC, pairs, nats, encCert, zeroCert, orD, Option.getD_some, Option.getD_none]) | simp only [encC, pairs, nats, encCert, zeroCert, orD, Option.getD_some, Option.getD_none])
  all_goals
  refine sZ [1, 2, 3] (fun P S K => XvBuild P 47 [(2, (.atom (.int .i64 (-1))))] (fun r0 _ => XvAlloc P 47 S.nx (fun r1 ef1 => XvStore P 47 (M (Eff.hp ef1 S.nx S.hp) (S.nx + ef1.add.length)) r1 r0 (fun r2 ef2 => K ⟨[(1, S.get 1), (2, S.get 2), (3, r1)], (Eff.hp ef2 (S.nx + ef1.add.length) (Eff.hp ef1 S.nx S.hp)), ((S.nx + ef1.add.length) + ef2.add.length), S.gh⟩)))) fun K hK => ?_
  repeat' (first | (refine hK _ ?_; clear hK K) | refine And.intro ?_ ?_ | exact cl | exact one_encP _ | exact flat_encI _ | (refine st ?_; try simp only [encC, pairs, nats, encCert, zeroCert, orD, Option.getD_some, Option.getD_none]) | simp only [encC, pairs, nats, encCert, zeroCert, orD, Option.getD_some, Option.getD_none])
  refine Tri.nilF 2 0 1 3 _ rfl rfl ?_
  refine Tri.nilF 2 1 1 3 _ rfl rfl ?_
  all_goals
  refine Tri.seq ?_
  refine sZ [1, 2, 3, 16, 17, 18] (fun P S K => XvFieldAddr P 38 0 (S.get 1) (fun r0 _ => XvLoad P 22 (M S.hp S.nx) r0 (fun r1 _ => XvLen P 22 r1 (fun r2 _ => K ⟨[(1, S.get 1), (2, S.get 2), (3, S.get 3), (16, r1), (17, r2), (18, (.atom (.int .i64 0)))], S.hp, S.nx, S.gh⟩)))) fun K hK => ?_
  repeat' (first | (refine hK _ ?_; clear hK K) | refine And.intro ?_ ?_ | exact cl | exact one_encP _ | exact flat_encI _ | refine one_take ?_ _ | refine one_drop ?_ _ | (refine st ?_; try simp only [encC, pairs, nats, encCert, zeroCert, orD, Option.getD_some, Option.getD_none]) | simp only [encC, pairs, nats, encCert, zeroCert, orD, Option.getD_some, Option.getD_none])
  all_goals
  refine Tri.block ?_
  refine Tri.loop (α := (i : Nat) ×' (i ≤ c.sizes.length)) (fun z => (fun (i : Nat) => (⟨[(1, .ptr 0 3 0 0), (2, .ptr 1 3 0 0), (3, .ptr 2 3 0 0), (16, ints c.sizes), (17, encI c.sizes.length), (18, encI i)], [(0, some ⟨3, [encC c]⟩), (1, some ⟨3, [zeroCert]⟩), (2, some ⟨3, [encCert (orD (bestI c i))]⟩)], 3, []⟩ : St)) z.1) (fun z => (fun (i : Nat) => c.sizes.length - i) z.1) ⟨0, Nat.zero_le _⟩ [0, 1, 2] ?_ ?_
  ·exact leqB49
  ·rintro ⟨i, hi⟩
   refine sZ [1, 2, 3, 16, 17, 18, 19] (fun P S K => XvBinOV P .lss 3 (.tmp 17) (S.get 18) (S.get 17) (fun r0 _ => K ⟨[(1, S.get 1), (2, S.get 2), (3, S.get 3), (16, S.get 16), (17, S.get 17), (18, S.get 18), (19, r0)], S.hp, S.nx, S.gh⟩)) fun K hK => ?_
   repeat' (first | (refine hK _ ?_; clear hK K) | refine And.intro ?_ ?_ | exact cl | exact one_encP _ | exact flat_encI _ | (refine st ?_; try simp only [encC, pairs, nats, encCert, zeroCert, orD, Option.getD_some, Option.getD_none]) | simp only [encC, pairs, nats, encCert, zeroCert, orD, Option.getD_some, Option.getD_none])
   all_goals
   refine Tri.seq ?_
   refine Tri.cond rfl (fun h19 => ?_) (fun h19 => ?_)
   ·try (cases h19; done)
    all_goals (try simp only [CQ] at h19)
    all_goals
    refine Tri.skip ?_
    refine Tri.seq ?_
    refine Tri.block ?_
    have hil : i < c.sizes.length := by omega
    have hsz := hG.size _ (li_mem hil)
    refine sZ [1, 2, 3, 4, 5, 16, 17, 18] (fun P S K => XvIndexAddr P 22 (S.get 16) (S.get 18) (fun r1 _ => XvLoad P 3 (M S.hp S.nx) r1 (fun r2 _ => K ⟨[(1, S.get 1), (2, S.get 2), (3, S.get 3), (4, (S.get 18)), (5, r2), (16, S.get 16), (17, S.get 17), (18, S.get 18)], S.hp, S.nx, S.gh⟩))) fun K hK => ?_
    repeat' (first | (refine hK _ ?_; clear hK K) | refine And.intro ?_ ?_ | exact cl | exact one_encP _ | exact flat_encI _ | refine one_take ?_ _ | refine one_drop ?_ _ | (refine st ?_; try simp only [encC, pairs, nats, encCert, zeroCert, orD, Option.getD_some, Option.getD_none, getD_encI hil]) | simp only [encC, pairs, nats, encCert, zeroCert, orD, Option.getD_some, Option.getD_none, getD_encI hil])
    all_goals
    rcases hsi : bestI c i with _ | y
    all_goals
    refine sZ [1, 2, 3, 4, 5, 16, 17, 18, 26] (fun P S K => XvFieldAddr P 47 2 (S.get 3) (fun r1 _ => XvLoad P 3 (M S.hp S.nx) r1 (fun r2 _ => XvBinOV P .gtr 3 (.tmp 25) (S.get 5) r2 (fun r3 _ => K ⟨[(1, S.get 1), (2, S.get 2), (3, S.get 3), (4, S.get 4), (5, S.get 5), (16, S.get 16), (17, S.get 17), (18, S.get 18), (26, r3)], S.hp, S.nx, S.gh⟩)))) fun K hK => ?_
    repeat' (first | (refine hK _ ?_; clear hK K) | refine And.intro ?_ ?_ | exact cl | exact one_encP _ | exact flat_encI _ | refine one_take ?_ _ | refine one_drop ?_ _ | (refine st ?_; try simp only [encC, pairs, nats, encCert, zeroCert, orD, Option.getD_some, Option.getD_none]) | simp only [encC, pairs, nats, encCert, zeroCert, orD, Option.getD_some, Option.getD_none])
    all_goals
    refine Tri.cond rfl (fun h26 => ?_) (fun h26 => ?_)
    ·try (cases h26; done)
     all_goals (try simp only [CQ] at h26)
     all_goals
     refine rZ [1, 2, 3, 16, 17, 18] (fun P S K => XvBuildS P 22 1 S.nx [(0, (S.get 4))] (fun r1 ef1 => XvBuild P 47 [(0, r1), (2, (S.get 5))] (fun r3 _ => XvStore P 47 (M (Eff.hp ef1 S.nx S.hp) (S.nx + ef1.add.length)) (S.get 3) r3 (fun r4 ef4 => K ⟨[(1, S.get 1), (2, S.get 2), (3, S.get 3), (16, S.get 16), (17, S.get 17), (18, S.get 18)], (Eff.hp ef4 (S.nx + ef1.add.length) (Eff.hp ef1 S.nx S.hp)), ((S.nx + ef1.add.length) + ef4.add.length), S.gh⟩)))) fun K hK => ?_
     repeat' (first | (refine hK _ ?_; clear hK K) | refine And.intro ?_ ?_ | exact cl | exact one_encP _ | exact flat_encI _ | (refine st ?_; try simp only [encC, pairs, nats, encCert, zeroCert, orD, Option.getD_some, Option.getD_none]) | simp only [encC, pairs, nats, encCert, zeroCert, orD, Option.getD_some, Option.getD_none])
     refine Tri.nilF 2 1 1 3 _ rfl rfl ?_
     all_goals
     refine rZ [1, 2, 3, 16, 17, 18] (fun P S K => XvBinOV P .add 3 (.const (.int .i64 1)) (S.get 18) (.atom (.int .i64 1)) (fun r0 _ => K ⟨[(1, S.get 1), (2, S.get 2), (3, S.get 3), (16, S.get 16), (17, S.get 17), (18, r0)], S.hp, S.nx, S.gh⟩)) fun K hK => ?_
     repeat' (first | (refine hK _ ?_; clear hK K) | refine And.intro ?_ ?_ | exact cl | exact one_encP _ | exact flat_encI _ | (refine st ?_; try simp only [encC, pairs, nats, encCert, zeroCert, orD, Option.getD_some, Option.getD_none]) | simp only [encC, pairs, nats, encCert, zeroCert, orD, Option.getD_some, Option.getD_none])
     all_goals try simp (disch := omega) only [wrap_id, wrap8_id]
     all_goals
     first
     | (refine ⟨⟨i + 1, by omega⟩, [0, 1, 2], by dsimp only; omega, ?_⟩; dsimp only; rw [bestI_none hsi]; exact leqB49)
     | (refine ⟨⟨i + 1, by omega⟩, [0, 1, 2], by dsimp only; omega, ?_⟩; dsimp only; rw [bestI_up hsi (by assumption)]; exact leqB49)
     | (refine ⟨⟨i + 1, by omega⟩, [0, 1, 2], by dsimp only; omega, ?_⟩; dsimp only; rw [bestI_stay hsi (by assumption)]; exact leqB49)
     | (exfalso; omega)
    ·try (cases h26; done)
     all_goals (try simp only [CQ] at h26)
     all_goals
     refine Tri.skip ?_
     refine rZ [1, 2, 3, 16, 17, 18] (fun P S K => XvBinOV P .add 3 (.const (.int .i64 1)) (S.get 18) (.atom (.int .i64 1)) (fun r0 _ => K ⟨[(1, S.get 1), (2, S.get 2), (3, S.get 3), (16, S.get 16), (17, S.get 17), (18, r0)], S.hp, S.nx, S.gh⟩)) fun K hK => ?_
     repeat' (first | (refine hK _ ?_; clear hK K) | refine And.intro ?_ ?_ | exact cl | exact one_encP _ | exact flat_encI _ | (refine st ?_; try simp only [encC, pairs, nats, encCert, zeroCert, orD, Option.getD_some, Option.getD_none]) | simp only [encC, pairs, nats, encCert, zeroCert, orD, Option.getD_some, Option.getD_none])
     all_goals try simp (disch := omega) only [wrap_id, wrap8_id]
     all_goals
     first
     | (refine ⟨⟨i + 1, by omega⟩, [0, 1, 2], by dsimp only; omega, ?_⟩; dsimp only; rw [bestI_none hsi]; exact leqB49)
     | (refine ⟨⟨i + 1, by omega⟩, [0, 1, 2], by dsimp only; omega, ?_⟩; dsimp only; rw [bestI_up hsi (by assumption)]; exact leqB49)
     | (refine ⟨⟨i + 1, by omega⟩, [0, 1, 2], by dsimp only; omega, ?_⟩; dsimp only; rw [bestI_stay hsi (by assumption)]; exact leqB49)
     | (exfalso; omega)
   ·try (cases h19; done)
    all_goals (try simp only [CQ] at h19)
    all_goals
    refine Tri.exit ?_
    obtain rfl : i = c.sizes.length := by omega
    rw [show bestI c c.sizes.length = bestK c K 0 from rfl]
    refine sZ [1, 2, 3, 6] (fun P S K => K ⟨[(1, S.get 1), (2, S.get 2), (3, S.get 3), (6, (.atom (.slice none 0 0)))], S.hp, S.nx, S.gh⟩) fun K hK => ?_
    repeat' (first | (refine hK _ ?_; clear hK K) | refine And.intro ?_ ?_ | exact cl | exact one_encP _ | exact flat_encI _ | (refine st ?_; try simp only [encC, pairs, nats, encCert, zeroCert, orD, Option.getD_some, Option.getD_none]) | simp only [encC, pairs, nats, encCert, zeroCert, orD, Option.getD_some, Option.getD_none])
    refine Tri.born 6 1 rfl ?_
    all_goals
    refine Tri.seq ?_
    refine sZ [1, 2, 3, 6, 7] (fun P S K => K ⟨[(1, S.get 1), (2, S.get 2), (3, S.get 3), (6, S.get 6), (7, (.atom (.int .u64 1)))], S.hp, S.nx, S.gh⟩) fun K hK => ?_
    repeat' (first | (refine hK _ ?_; clear hK K) | refine And.intro ?_ ?_ | exact cl | exact one_encP _ | exact flat_encI _ | (refine st ?_; try simp only [encC, pairs, nats, encCert, zeroCert, orD, Option.getD_some, Option.getD_none]) | simp only [encC, pairs, nats, encCert, zeroCert, orD, Option.getD_some, Option.getD_none])
    all_goals
    refine Tri.block ?_
    refine Tri.loop (α := (j : Nat) ×' (j ≤ MM)) (fun z => (fun (j : Nat) => (⟨[(1, .ptr 0 3 0 0), (2, .ptr 1 3 0 0), (3, .ptr 2 3 0 0), (6, .ob 3 1 0 j), (7, .atom (.int .u64 ((j : Int) + 1)))], [(0, some ⟨3, [encC c]⟩), (1, some ⟨3, [zeroCert]⟩), (2, some ⟨3, [encCert (orD (bestK c K 0))]⟩), (3, some ⟨1, (upN j).map encN⟩)], 4, []⟩ : St)) z.1) (fun z => (fun (j : Nat) => MM - j) z.1) ⟨0, Nat.zero_le _⟩ [0, 1, 2, 3] ?_ ?_
    ·exact leqB49
    ·rintro ⟨j, hj⟩
     have hul := upN_len j
     have hus := upN_succ j
     refine Tri.seq ?_
     refine sZ [1, 2, 3, 6, 7, 36] (fun P S K => XvFieldAddr P 38 1 (S.get 1) (fun r1 _ => XvLoad P 3 (M S.hp S.nx) r1 (fun r2 _ => XvBinOV P .shl 83 (.tmp 34) (.atom (.int .u64 1)) r2 (fun r3 _ => XvBinOV P .lss 83 (.tmp 35) (S.get 7) r3 (fun r4 _ => K ⟨[(1, S.get 1), (2, S.get 2), (3, S.get 3), (6, S.get 6), (7, S.get 7), (36, r4)], S.hp, S.nx, S.gh⟩))))) fun K hK => ?_
     repeat' (first | (refine hK _ ?_; clear hK K) | ((first | refine xG_intro (fun hg => ?_) (fun hg => ?_) | refine fun (hg : (_ : Prop)) => ?_) <;> ((try simp only [BQ] at hg); try (exfalso; omega))) | refine And.intro ?_ ?_ | exact cl | exact one_encP _ | exact flat_encI _ | refine one_take ?_ _ | refine one_drop ?_ _ | (refine st ?_; try simp only [encC, pairs, nats, encCert, zeroCert, orD, Option.getD_some, Option.getD_none, hsh]) | simp only [encC, pairs, nats, encCert, zeroCert, orD, Option.getD_some, Option.getD_none, hsh])
     all_goals try simp (disch := omega) only [wrap_id, wrap8_id]
     all_goals
     refine Tri.cond rfl (fun h36 => ?_) (fun h36 => ?_)
     ·try (cases h36; done)
      all_goals (try simp only [CQ] at h36)
      all_goals
      refine Tri.skip ?_
      refine Tri.seq ?_
      refine Tri.block ?_
      refine rZ [1, 2, 3, 6, 7] (fun P S K => XvBuildS P 82 1 S.nx [(0, (S.get 7))] (fun r2 ef2 => (82 = 82 ∧ XvAppend P 82 (M (Eff.hp ef2 S.nx S.hp) (S.nx + ef2.add.length)) (S.get 6) r2 (fun r3 ef3 => K ⟨[(1, S.get 1), (2, S.get 2), (3, S.get 3), (6, r3), (7, S.get 7)], (Eff.hp ef3 (S.nx + ef2.add.length) (Eff.hp ef2 S.nx S.hp)), ((S.nx + ef2.add.length) + ef3.add.length), S.gh⟩)))) fun K hK => ?_
      repeat' (first | (refine hK _ ?_; clear hK K) | ((first | refine xG_intro (fun hg => ?_) (fun hg => ?_) | refine fun (hg : (_ : Prop)) => ?_) <;> ((try simp only [BQ] at hg); try (exfalso; omega))) | refine And.intro ?_ ?_ | exact cl | exact one_encP _ | exact flat_encI _ | refine one_take ?_ _ | refine one_drop ?_ _ | (refine st ?_; try simp only [encC, pairs, nats, encCert, zeroCert, orD, Option.getD_some, Option.getD_none, hul]) | simp only [encC, pairs, nats, encCert, zeroCert, orD, Option.getD_some, Option.getD_none, hul])
      all_goals
      refine rZ [1, 2, 3, 6, 7] (fun P S K => XvBinOV P .add 83 (.const (.int .u64 1)) (S.get 7) (.atom (.int .u64 1)) (fun r1 _ => K ⟨[(1, S.get 1), (2, S.get 2), (3, S.get 3), (6, S.get 6), (7, r1)], S.hp, S.nx, S.gh⟩)) fun K hK => ?_
      repeat' (first | (refine hK _ ?_; clear hK K) | refine And.intro ?_ ?_ | exact cl | exact one_encP _ | exact flat_encI _ | (refine st ?_; try simp only [encC, pairs, nats, encCert, zeroCert, orD, Option.getD_some, Option.getD_none, wrap64 (x := (j : Int) + 1 + 1) (by omega) (by omega)]) | simp only [encC, pairs, nats, encCert, zeroCert, orD, Option.getD_some, Option.getD_none, wrap64 (x := (j : Int) + 1 + 1) (by omega) (by omega)])
      all_goals try simp (disch := omega) only [wrap_id, wrap8_id]
      all_goals
      refine ⟨⟨j + 1, by omega⟩, [0, 1, 2, 5], by dsimp only; omega, ?_⟩
      dsimp only
      rw [hus]
      exact leqB49
     ·try (cases h36; done)
      all_goals (try simp only [CQ] at h36)
      all_goals
      refine Tri.exit ?_
      obtain rfl : j = MM := by omega
      subst hZl
      refine sZ [1, 2, 3, 6] (fun P S K => XvFnIV P (M S.hp S.nx) (.fn 73 []) [(S.get 6), (.fn 74 [])] (fun r1 ef1 => K ⟨[(1, S.get 1), (2, S.get 2), (3, S.get 3), (6, S.get 6)], (Eff.hp ef1 S.nx S.hp), (S.nx + ef1.add.length), S.gh⟩)) fun K hK => ?_
      repeat' (first | (refine hK _ ?_; clear hK K) | refine And.intro ?_ ?_ | exact cl | exact one_encP _ | exact flat_encI _ | refine .inl ⟨_, _, hOi, ?_⟩ | refine .inl ⟨_, _, hC, ?_⟩ | refine .inl ⟨_, _, hLs, ?_⟩ | refine .inr (vProc.row 3 1 hS rfl (pureL_encN _) (pureL_encN _) rfl (by simp [sealed, PV.ren, renL, rmap, St.obj, lk, upN_len]) rfl (flat_encN _) ?_) | (refine st ?_; try simp only [encC, pairs, nats, encCert, zeroCert, orD, Option.getD_some, Option.getD_none]) | simp only [encC, pairs, nats, encCert, zeroCert, orD, Option.getD_some, Option.getD_none])
      all_goals
      refine sZ [1, 2, 3, 6, 8] (fun P S K => XvLoad P 38 (M S.hp S.nx) (S.get 1) (fun r0 _ => XvFnIV P (M S.hp S.nx) (.fn 46 []) [r0] (fun r1 ef1 => K ⟨[(1, S.get 1), (2, S.get 2), (3, S.get 3), (6, S.get 6), (8, r1)], (Eff.hp ef1 S.nx S.hp), (S.nx + ef1.add.length), S.gh⟩))) fun K hK => ?_
      repeat' (first | (refine hK _ ?_; clear hK K) | refine And.intro ?_ ?_ | exact cl | exact one_encP _ | exact flat_encI _ | refine one_take ?_ _ | refine one_drop ?_ _ | refine .inl ⟨_, _, open_pure c hG.five (by omega), ?_⟩ | refine .inl ⟨_, _, hOi, ?_⟩ | refine .inl ⟨_, _, hC, ?_⟩ | refine .inl ⟨_, _, hLs, ?_⟩ | refine .inr (vProc.row 3 1 hS rfl (pureL_encN _) (pureL_encN _) rfl (by simp [sealed, PV.ren, renL, rmap, St.obj, lk, upN_len]) rfl (flat_encN _) ?_) | (refine st ?_; try simp only [encC, pairs, nats, encCert, zeroCert, orD, Option.getD_some, Option.getD_none, nats, renL_encN]) | simp only [encC, pairs, nats, encCert, zeroCert, orD, Option.getD_some, Option.getD_none, nats, renL_encN])
      all_goals
      refine Tri.seq ?_
      refine sZ [1, 2, 3, 8, 47, 48, 49] (fun P S K => XvLen P 82 (S.get 6) (fun r1 _ => K ⟨[(1, S.get 1), (2, S.get 2), (3, S.get 3), (8, S.get 8), (47, (S.get 6)), (48, r1), (49, (.atom (.int .i64 0)))], S.hp, S.nx, S.gh⟩)) fun K hK => ?_
      repeat' (first | (refine hK _ ?_; clear hK K) | refine And.intro ?_ ?_ | exact cl | exact one_encP _ | exact flat_encI _ | (refine st ?_; try simp only [encC, pairs, nats, encCert, zeroCert, orD, Option.getD_some, Option.getD_none]) | simp only [encC, pairs, nats, encCert, zeroCert, orD, Option.getD_some, Option.getD_none])
      all_goals
      refine Tri.block ?_
      refine Tri.loop (α := (k : Nat) ×' (k ≤ Z.length)) (fun z => (fun (k : Nat) => (⟨[(1, .ptr 0 3 0 0), (2, .ptr 1 3 0 0), (3, .ptr 2 3 0 0), (8, nats (opens c)), (47, nats Z), (48, encI Z.length), (49, encI k)], [(0, some ⟨3, [encC c]⟩), (1, some ⟨3, [zeroCert]⟩), (2, some ⟨3, [encCert (orD (bestK c K k))]⟩)], 3, []⟩ : St)) z.1) (fun z => (fun (k : Nat) => Z.length - k) z.1) ⟨0, Nat.zero_le _⟩ [0, 1, 2] ?_ ?_
      ·(refine ⟨4, ?_, ?_, rfl, by simp, rfl, fun _ h _ => absurd h (Nat.not_lt_zero _)⟩ <;> (simp only [List.forall_mem_cons]; repeat' (first | refine And.intro ?_ ?_ | (intro p hp; exact absurd hp List.not_mem_nil) | rfl | exact sp (pure_case _) | exact sp (pure_pairs _) | exact sp (pure_cert _) | exact sp (pure_nats _) | exact (sealed_pure _ _ _ (pure_ints _)).trans (ren_ints _ _).symm | exact (sealed_pure _ _ _ (pure_strs _)).trans (ren_strs _ _).symm | exact sp (by assumption) | exact (seal_row (els := Z.map encN) rfl rfl (by simp) (pureL_encN _)).trans (ren_nats _ _).symm | (intro o ho; cases ho; refine ⟨by decide, ?_⟩; first | (refine LeqS.row rfl ?_ ?_; (next => (first | rfl | (simp only [List.map_append, List.map_cons, List.map_nil, List.append_nil, List.nil_append, List.append_assoc, List.cons_append, encI, encS, ints, strs]; done) | (simp [encI, encS, ints, strs, encP, encN]; done))); (next => (first | rfl | exact pureL_encI _ | exact pureL_encS _ | exact pureL_ints _ | exact pureL_strs _ | exact pureL_encP _ | exact pureL_encN _ | (simp [pureL_append, pureL_encI, pureL_encS, pureL_ints, pureL_strs, pureL, PV.pure, pure_ints, pure_strs, pure_case, pureL_encP, pure_pairs, pure_cert, pureL_encN, pure_nats]; done))); done) | refine ⟨_, rfl, rfl, ?_⟩) | (simp [St.born, St.known, retV, St.get, St.obj, lk, sealed, PV.ren, renL, rmap, AO.ren, ints, strs, encI, encS, map_sealed_encI, map_sealed_encS, map_sealed_ints, map_sealed_strs, map_ren_encI, map_ren_encS, map_ren_ints, map_ren_strs, renL_encI, renL_encS, renL_ints, renL_strs, ren_case, encC, pairs, renL_encP, map_sealed_encP, map_ren_encP, encP, take_map_len, encCert, renL_encN, map_sealed_encN, map_ren_encN, nats] <;> omega))))
      ·rintro ⟨k, hk⟩
       refine sZ [1, 2, 3, 8, 47, 48, 49, 50] (fun P S K => XvBinOV P .lss 3 (.tmp 48) (S.get 49) (S.get 48) (fun r0 _ => K ⟨[(1, S.get 1), (2, S.get 2), (3, S.get 3), (8, S.get 8), (47, S.get 47), (48, S.get 48), (49, S.get 49), (50, r0)], S.hp, S.nx, S.gh⟩)) fun K hK => ?_
       repeat' (first | (refine hK _ ?_; clear hK K) | refine And.intro ?_ ?_ | exact cl | exact one_encP _ | exact flat_encI _ | (refine st ?_; try simp only [encC, pairs, nats, encCert, zeroCert, orD, Option.getD_some, Option.getD_none]) | simp only [encC, pairs, nats, encCert, zeroCert, orD, Option.getD_some, Option.getD_none])
       all_goals
       refine Tri.seq ?_
       refine Tri.cond rfl (fun h50 => ?_) (fun h50 => ?_)
       ·try (cases h50; done)
        all_goals (try simp only [CQ] at h50)
        all_goals
        refine Tri.skip ?_
        refine Tri.seq ?_
        refine Tri.block ?_
        have hkl : k < Z.length := by omega
        obtain ⟨hs0, hs1, hsn, hsm, hsi⟩ := hZm (Z.getD k 0) (by simp [List.getD_eq_getElem?_getD, hkl])
        have hKk := hKg k hkl
        have hLs := list_pure hs0 hs1
        have hbk : bestK c K (k + 1) = _ := rfl
        have hpl := membL_len (Z.getD k 0) 6
        generalize hpe : membL (Z.getD k 0) 6 = people at *
        generalize hse : Z.getD k 0 = s at *
        refine sZ [1, 2, 3, 8, 10, 47, 48, 49] (fun P S K => XvIndexAddr P 82 (S.get 47) (S.get 49) (fun r0 _ => XvLoad P 83 (M S.hp S.nx) r0 (fun r1 _ => K ⟨[(1, S.get 1), (2, S.get 2), (3, S.get 3), (8, S.get 8), (10, r1), (47, S.get 47), (48, S.get 48), (49, S.get 49)], S.hp, S.nx, S.gh⟩))) fun K hK => ?_
        repeat' (first | (refine hK _ ?_; clear hK K) | refine And.intro ?_ ?_ | exact cl | exact one_encP _ | exact flat_encI _ | refine one_take ?_ _ | refine one_drop ?_ _ | (refine st ?_; try simp only [encC, pairs, nats, encCert, zeroCert, orD, Option.getD_some, Option.getD_none, getD_encN hkl, hse, encN]) | simp only [encC, pairs, nats, encCert, zeroCert, orD, Option.getD_some, Option.getD_none, getD_encN hkl, hse, encN])
        all_goals
        refine sZ [1, 2, 3, 8, 10, 11, 47, 48, 49] (fun P S K => K ⟨[(1, S.get 1), (2, S.get 2), (3, S.get 3), (8, S.get 8), (10, S.get 10), (11, (.atom (.slice none 0 0))), (47, S.get 47), (48, S.get 48), (49, S.get 49)], S.hp, S.nx, S.gh⟩) fun K hK => ?_
        repeat' (first | (refine hK _ ?_; clear hK K) | refine And.intro ?_ ?_ | exact cl | exact one_encP _ | exact flat_encI _ | (refine st ?_; try simp only [encC, pairs, nats, encCert, zeroCert, orD, Option.getD_some, Option.getD_none]) | simp only [encC, pairs, nats, encCert, zeroCert, orD, Option.getD_some, Option.getD_none])
        refine Tri.born 11 1 rfl ?_
        all_goals
        refine Tri.seq ?_
        refine sZ [1, 2, 3, 8, 10, 11, 47, 48, 49, 55, 56] (fun P S K => XvFieldAddr P 38 0 (S.get 1) (fun r0 _ => XvLoad P 22 (M S.hp S.nx) r0 (fun r1 _ => XvLen P 22 r1 (fun r2 _ => K ⟨[(1, S.get 1), (2, S.get 2), (3, S.get 3), (8, S.get 8), (10, S.get 10), (11, S.get 11), (47, S.get 47), (48, S.get 48), (49, S.get 49), (55, r2), (56, (.atom (.int .i64 0)))], S.hp, S.nx, S.gh⟩)))) fun K hK => ?_
        repeat' (first | (refine hK _ ?_; clear hK K) | refine And.intro ?_ ?_ | exact cl | exact one_encP _ | exact flat_encI _ | refine one_take ?_ _ | refine one_drop ?_ _ | (refine st ?_; try simp only [encC, pairs, nats, encCert, zeroCert, orD, Option.getD_some, Option.getD_none]) | simp only [encC, pairs, nats, encCert, zeroCert, orD, Option.getD_some, Option.getD_none])
        all_goals
        refine Tri.block ?_
        refine Tri.loop (α := (xs : List Int) ×' (i : Nat) ×' (i ≤ c.sizes.length ∧ xs = someS c people i)) (fun z => (fun (xs : List Int) (i : Nat) => (⟨[(1, .ptr 0 3 0 0), (2, .ptr 1 3 0 0), (3, .ptr 2 3 0 0), (8, nats (opens c)), (10, encN s), (11, .ob 3 1 0 xs.length), (47, nats Z), (48, encI Z.length), (49, encI k), (55, encI c.sizes.length), (56, encI i)], [(0, some ⟨3, [encC c]⟩), (1, some ⟨3, [zeroCert]⟩), (2, some ⟨3, [encCert (orD (bestK c K k))]⟩), (3, some ⟨1, xs.map encI⟩)], 4, []⟩ : St)) z.1 z.2.1) (fun z => (fun (xs : List Int) (i : Nat) => c.sizes.length - i) z.1 z.2.1) ⟨[], 0, ⟨Nat.zero_le _, rfl⟩⟩ [0, 1, 2, 3] ?_ ?_
        ·exact leqB49
        ·rintro ⟨xs, i, ⟨hi, hxs⟩⟩
         have hxl := someS_len c people i
         rw [← hxs] at hxl
         have hst : someS c people (i + 1) = xs ++ if 0 < needS c i people then [(i : Int)] else [] := by rw [hxs]; rfl
         refine sZ [1, 2, 3, 8, 10, 11, 47, 48, 49, 55, 56, 57] (fun P S K => XvBinOV P .lss 3 (.tmp 55) (S.get 56) (S.get 55) (fun r0 _ => K ⟨[(1, S.get 1), (2, S.get 2), (3, S.get 3), (8, S.get 8), (10, S.get 10), (11, S.get 11), (47, S.get 47), (48, S.get 48), (49, S.get 49), (55, S.get 55), (56, S.get 56), (57, r0)], S.hp, S.nx, S.gh⟩)) fun K hK => ?_
         repeat' (first | (refine hK _ ?_; clear hK K) | refine And.intro ?_ ?_ | exact cl | exact one_encP _ | exact flat_encI _ | (refine st ?_; try simp only [encC, pairs, nats, encCert, zeroCert, orD, Option.getD_some, Option.getD_none]) | simp only [encC, pairs, nats, encCert, zeroCert, orD, Option.getD_some, Option.getD_none])
         all_goals
         refine Tri.seq ?_
         refine Tri.cond rfl (fun h57 => ?_) (fun h57 => ?_)
         ·try (cases h57; done)
          all_goals (try simp only [CQ] at h57)
          all_goals
          refine Tri.skip ?_
          refine Tri.seq ?_
          refine Tri.block ?_
          have hil : i < c.sizes.length := by omega
          have hog := opens_get (c := c) hil
          have hol : (opens c).length = c.sizes.length := opens_len _
          have hmw := mask_without (fun (p : Nat) => openB c i p) (inN people) (show c.people.toNat ≤ 6 by omega)
          rw [hsm] at hmw
          have hOi := ones_pure (mask64 (fun q => !inN people q && openB c i q) (show c.people.toNat ≤ 6 by omega))
          rw [shut_mask c i people (by omega)] at hOi
          have hne := needS_open c i people
          generalize maskN (fun q => !inN people q && openB c i q) c.people.toNat = mk at hmw hOi
          generalize hsh2 : shutN c i people c.people.toNat = sn at hne hOi
          refine sZ [1, 2, 3, 8, 10, 11, 12, 47, 48, 49, 55, 56] (fun P S K => K ⟨[(1, S.get 1), (2, S.get 2), (3, S.get 3), (8, S.get 8), (10, S.get 10), (11, S.get 11), (12, (S.get 56)), (47, S.get 47), (48, S.get 48), (49, S.get 49), (55, S.get 55), (56, S.get 56)], S.hp, S.nx, S.gh⟩) fun K hK => ?_
          repeat' (first | (refine hK _ ?_; clear hK K) | refine And.intro ?_ ?_ | exact cl | exact one_encP _ | exact flat_encI _ | (refine st ?_; try simp only [encC, pairs, nats, encCert, zeroCert, orD, Option.getD_some, Option.getD_none]) | simp only [encC, pairs, nats, encCert, zeroCert, orD, Option.getD_some, Option.getD_none])
          all_goals
          refine sZ [1, 2, 3, 8, 10, 11, 12, 47, 48, 49, 55, 56, 66] (fun P S K => XvIndexAddr P 82 (S.get 8) (S.get 12) (fun r2 _ => XvLoad P 83 (M S.hp S.nx) r2 (fun r3 _ => XvBinOV P .andNot 83 (.tmp 63) r3 (S.get 10) (fun r5 _ => XvFnIV P (M S.hp S.nx) (.fn 48 []) [r5] (fun r6 ef6 => XvBinOV P .lss 3 (.const (.int .i64 2)) r6 (.atom (.int .i64 2)) (fun r7 _ => K ⟨[(1, S.get 1), (2, S.get 2), (3, S.get 3), (8, S.get 8), (10, S.get 10), (11, S.get 11), (12, S.get 12), (47, S.get 47), (48, S.get 48), (49, S.get 49), (55, S.get 55), (56, S.get 56), (66, r7)], (Eff.hp ef6 S.nx S.hp), (S.nx + ef6.add.length), S.gh⟩)))))) fun K hK => ?_
          repeat' (first | (refine hK _ ?_; clear hK K) | refine And.intro ?_ ?_ | exact cl | exact one_encP _ | exact flat_encI _ | refine one_take ?_ _ | refine one_drop ?_ _ | refine .inl ⟨_, _, hOi, ?_⟩ | refine .inl ⟨_, _, hC, ?_⟩ | refine .inl ⟨_, _, hLs, ?_⟩ | refine .inr (vProc.row 3 1 hS rfl (pureL_encN _) (pureL_encN _) rfl (by simp [sealed, PV.ren, renL, rmap, St.obj, lk, upN_len]) rfl (flat_encN _) ?_) | (refine st ?_; try simp only [encC, pairs, nats, encCert, zeroCert, orD, Option.getD_some, Option.getD_none, nats, getD_encN (show i < (opens c).length by omega), hog, encN, hmw]) | simp only [encC, pairs, nats, encCert, zeroCert, orD, Option.getD_some, Option.getD_none, nats, getD_encN (show i < (opens c).length by omega), hog, encN, hmw])
          all_goals
          refine Tri.cond rfl (fun h66 => ?_) (fun h66 => ?_)
          ·try (cases h66; done)
           all_goals (try simp only [CQ] at h66)
           all_goals
           refine rZ [1, 2, 3, 8, 10, 11, 47, 48, 49, 55, 56] (fun P S K => XvBuildS P 22 1 S.nx [(0, (S.get 12))] (fun r2 ef2 => (22 = 22 ∧ XvAppend P 22 (M (Eff.hp ef2 S.nx S.hp) (S.nx + ef2.add.length)) (S.get 11) r2 (fun r3 ef3 => K ⟨[(1, S.get 1), (2, S.get 2), (3, S.get 3), (8, S.get 8), (10, S.get 10), (11, r3), (47, S.get 47), (48, S.get 48), (49, S.get 49), (55, S.get 55), (56, S.get 56)], (Eff.hp ef3 (S.nx + ef2.add.length) (Eff.hp ef2 S.nx S.hp)), ((S.nx + ef2.add.length) + ef3.add.length), S.gh⟩)))) fun K hK => ?_
           repeat' (first | (refine hK _ ?_; clear hK K) | ((first | refine xG_intro (fun hg => ?_) (fun hg => ?_) | refine fun (hg : (_ : Prop)) => ?_) <;> ((try simp only [BQ] at hg); try (exfalso; omega))) | refine And.intro ?_ ?_ | exact cl | exact one_encP _ | exact flat_encI _ | refine one_take ?_ _ | refine one_drop ?_ _ | (refine st ?_; try simp only [encC, pairs, nats, encCert, zeroCert, orD, Option.getD_some, Option.getD_none, hxl]) | simp only [encC, pairs, nats, encCert, zeroCert, orD, Option.getD_some, Option.getD_none, hxl])
           all_goals
           refine rZ [1, 2, 3, 8, 10, 11, 47, 48, 49, 55, 56] (fun P S K => XvBinOV P .add 3 (.const (.int .i64 1)) (S.get 56) (.atom (.int .i64 1)) (fun r0 _ => K ⟨[(1, S.get 1), (2, S.get 2), (3, S.get 3), (8, S.get 8), (10, S.get 10), (11, S.get 11), (47, S.get 47), (48, S.get 48), (49, S.get 49), (55, S.get 55), (56, r0)], S.hp, S.nx, S.gh⟩)) fun K hK => ?_
           repeat' (first | (refine hK _ ?_; clear hK K) | refine And.intro ?_ ?_ | exact cl | exact one_encP _ | exact flat_encI _ | (refine st ?_; try simp only [encC, pairs, nats, encCert, zeroCert, orD, Option.getD_some, Option.getD_none]) | simp only [encC, pairs, nats, encCert, zeroCert, orD, Option.getD_some, Option.getD_none])
           all_goals try simp (disch := omega) only [wrap_id, wrap8_id]
           all_goals
           first
           | (refine ⟨⟨xs ++ [(i : Int)], i + 1, by omega, by rw [hst, if_pos (by omega)]⟩, [0, 1, 2, 5], by dsimp only; omega, ?_⟩; exact leqB49)
           | (refine ⟨⟨xs, i + 1, by omega, by rw [hst, if_neg (by omega), List.append_nil]⟩, [0, 1, 2, 3], by dsimp only; omega, ?_⟩; exact leqB49)
          ·try (cases h66; done)
           all_goals (try simp only [CQ] at h66)
           all_goals
           refine Tri.skip ?_
           refine rZ [1, 2, 3, 8, 10, 11, 47, 48, 49, 55, 56] (fun P S K => XvBinOV P .add 3 (.const (.int .i64 1)) (S.get 56) (.atom (.int .i64 1)) (fun r0 _ => K ⟨[(1, S.get 1), (2, S.get 2), (3, S.get 3), (8, S.get 8), (10, S.get 10), (11, S.get 11), (47, S.get 47), (48, S.get 48), (49, S.get 49), (55, S.get 55), (56, r0)], S.hp, S.nx, S.gh⟩)) fun K hK => ?_
           repeat' (first | (refine hK _ ?_; clear hK K) | refine And.intro ?_ ?_ | exact cl | exact one_encP _ | exact flat_encI _ | (refine st ?_; try simp only [encC, pairs, nats, encCert, zeroCert, orD, Option.getD_some, Option.getD_none]) | simp only [encC, pairs, nats, encCert, zeroCert, orD, Option.getD_some, Option.getD_none])
           all_goals try simp (disch := omega) only [wrap_id, wrap8_id]
           all_goals
           first
           | (refine ⟨⟨xs ++ [(i : Int)], i + 1, by omega, by rw [hst, if_pos (by omega)]⟩, [0, 1, 2, 5], by dsimp only; omega, ?_⟩; exact leqB49)
           | (refine ⟨⟨xs, i + 1, by omega, by rw [hst, if_neg (by omega), List.append_nil]⟩, [0, 1, 2, 3], by dsimp only; omega, ?_⟩; exact leqB49)
         ·try (cases h57; done)
          all_goals (try simp only [CQ] at h57)
          all_goals
          refine Tri.exit ?_
          obtain rfl : i = c.sizes.length := by omega
          have hxm : ∀ x, x ∈ xs → 0 ≤ x ∧ x < c.sizes.length := fun x hx => someS_mem (by rw [← hxs]; exact hx)
          have hX : setX c (K.getD k []) = ⟨xs, people, countedS c xs people⟩ := by rw [hKk]; unfold setX; rw [← hxs]
          have hC := aCounted_pure c hG hbl xs people hxm (by omega) (by rw [show c.people = ((c.people.toNat : Nat) : Int) by omega]; exact hsi) hsn
          rw [hsm] at hC
          have hcr := counted_rng hG xs people (by omega) (by omega)
          refine sZ [1, 2, 3, 8, 10, 11, 13, 47, 48, 49] (fun P S K => XvLoad P 38 (M S.hp S.nx) (S.get 1) (fun r0 _ => XvFnIV P (M S.hp S.nx) (.fn 55 []) [r0, (S.get 11), (S.get 10)] (fun r3 ef3 => K ⟨[(1, S.get 1), (2, S.get 2), (3, S.get 3), (8, S.get 8), (10, S.get 10), (11, S.get 11), (13, r3), (47, S.get 47), (48, S.get 48), (49, S.get 49)], (Eff.hp ef3 S.nx S.hp), (S.nx + ef3.add.length), S.gh⟩))) fun K hK => ?_
          repeat' (first | (refine hK _ ?_; clear hK K) | refine And.intro ?_ ?_ | exact cl | exact one_encP _ | exact flat_encI _ | refine one_take ?_ _ | refine one_drop ?_ _ | refine .inl ⟨_, _, hOi, ?_⟩ | refine .inl ⟨_, _, hC, ?_⟩ | refine .inl ⟨_, _, hLs, ?_⟩ | refine .inr (vProc.row 3 1 hS rfl (pureL_encN _) (pureL_encN _) rfl (by simp [sealed, PV.ren, renL, rmap, St.obj, lk, upN_len]) rfl (flat_encN _) ?_) | (refine st ?_; try simp only [encC, pairs, nats, encCert, zeroCert, orD, Option.getD_some, Option.getD_none, take_map_len, map_sealed_encI]) | simp only [encC, pairs, nats, encCert, zeroCert, orD, Option.getD_some, Option.getD_none, take_map_len, map_sealed_encI])
          all_goals
          rcases hbs : bestK c K k with _ | y
          all_goals
          refine sZ [1, 2, 3, 8, 10, 11, 13, 47, 48, 49, 79] (fun P S K => XvFieldAddr P 47 2 (S.get 3) (fun r1 _ => XvLoad P 3 (M S.hp S.nx) r1 (fun r2 _ => XvBinOV P .gtr 3 (.tmp 78) (S.get 13) r2 (fun r3 _ => K ⟨[(1, S.get 1), (2, S.get 2), (3, S.get 3), (8, S.get 8), (10, S.get 10), (11, S.get 11), (13, S.get 13), (47, S.get 47), (48, S.get 48), (49, S.get 49), (79, r3)], S.hp, S.nx, S.gh⟩)))) fun K hK => ?_
          repeat' (first | (refine hK _ ?_; clear hK K) | refine And.intro ?_ ?_ | exact cl | exact one_encP _ | exact flat_encI _ | refine one_take ?_ _ | refine one_drop ?_ _ | (refine st ?_; try simp only [encC, pairs, nats, encCert, zeroCert, orD, Option.getD_some, Option.getD_none]) | simp only [encC, pairs, nats, encCert, zeroCert, orD, Option.getD_some, Option.getD_none])
          all_goals
          refine Tri.cond rfl (fun h79 => ?_) (fun h79 => ?_)
          ·try (cases h79; done)
           all_goals (try simp only [CQ] at h79)
           all_goals
           refine rZ [1, 2, 3, 8, 47, 48, 49] (fun P S K => XvFnIV P (M S.hp S.nx) (.fn 77 []) [(S.get 10)] (fun r2 ef2 => XvBuild P 47 [(0, (S.get 11)), (1, r2), (2, (S.get 13))] (fun r4 _ => XvStore P 47 (M (Eff.hp ef2 S.nx S.hp) (S.nx + ef2.add.length)) (S.get 3) r4 (fun r5 ef5 => K ⟨[(1, S.get 1), (2, S.get 2), (3, S.get 3), (8, S.get 8), (47, S.get 47), (48, S.get 48), (49, S.get 49)], (Eff.hp ef5 (S.nx + ef2.add.length) (Eff.hp ef2 S.nx S.hp)), ((S.nx + ef2.add.length) + ef5.add.length), S.gh⟩)))) fun K hK => ?_
           repeat' (first | (refine hK _ ?_; clear hK K) | refine And.intro ?_ ?_ | exact cl | exact one_encP _ | exact flat_encI _ | refine .inl ⟨_, _, hOi, ?_⟩ | refine .inl ⟨_, _, hC, ?_⟩ | refine .inl ⟨_, _, hLs, ?_⟩ | refine .inr (vProc.row 3 1 hS rfl (pureL_encN _) (pureL_encN _) rfl (by simp [sealed, PV.ren, renL, rmap, St.obj, lk, upN_len]) rfl (flat_encN _) ?_) | (refine st ?_; try simp only [encC, pairs, nats, encCert, zeroCert, orD, Option.getD_some, Option.getD_none]) | simp only [encC, pairs, nats, encCert, zeroCert, orD, Option.getD_some, Option.getD_none])
           all_goals
           refine rZ [1, 2, 3, 8, 47, 48, 49] (fun P S K => XvBinOV P .add 3 (.const (.int .i64 1)) (S.get 49) (.atom (.int .i64 1)) (fun r0 _ => K ⟨[(1, S.get 1), (2, S.get 2), (3, S.get 3), (8, S.get 8), (47, S.get 47), (48, S.get 48), (49, r0)], S.hp, S.nx, S.gh⟩)) fun K hK => ?_
           repeat' (first | (refine hK _ ?_; clear hK K) | refine And.intro ?_ ?_ | exact cl | exact one_encP _ | exact flat_encI _ | (refine st ?_; try simp only [encC, pairs, nats, encCert, zeroCert, orD, Option.getD_some, Option.getD_none]) | simp only [encC, pairs, nats, encCert, zeroCert, orD, Option.getD_some, Option.getD_none])
           all_goals try simp (disch := omega) only [wrap_id, wrap8_id]
           all_goals
           first
           | (refine ⟨⟨k + 1, by omega⟩, [0, 1, 2], by dsimp only; omega, ?_⟩; dsimp only; rw [bestK_none hbs, hX]; exact leqB49)
           | (refine ⟨⟨k + 1, by omega⟩, [0, 1, 2], by dsimp only; omega, ?_⟩; dsimp only; rw [bestK_up hbs (by rw [hX]; assumption), hX]; exact leqB49)
           | (refine ⟨⟨k + 1, by omega⟩, [0, 1, 2], by dsimp only; omega, ?_⟩; dsimp only; rw [bestK_stay hbs (by rw [hX]; assumption)]; exact leqB49)
           | (exfalso; omega)
          ·try (cases h79; done)
           all_goals (try simp only [CQ] at h79)
           all_goals
           refine Tri.skip ?_
           refine rZ [1, 2, 3, 8, 47, 48, 49] (fun P S K => XvBinOV P .add 3 (.const (.int .i64 1)) (S.get 49) (.atom (.int .i64 1)) (fun r0 _ => K ⟨[(1, S.get 1), (2, S.get 2), (3, S.get 3), (8, S.get 8), (47, S.get 47), (48, S.get 48), (49, r0)], S.hp, S.nx, S.gh⟩)) fun K hK => ?_
           repeat' (first | (refine hK _ ?_; clear hK K) | refine And.intro ?_ ?_ | exact cl | exact one_encP _ | exact flat_encI _ | (refine st ?_; try simp only [encC, pairs, nats, encCert, zeroCert, orD, Option.getD_some, Option.getD_none]) | simp only [encC, pairs, nats, encCert, zeroCert, orD, Option.getD_some, Option.getD_none])
           all_goals try simp (disch := omega) only [wrap_id, wrap8_id]
           all_goals
           first
           | (refine ⟨⟨k + 1, by omega⟩, [0, 1, 2], by dsimp only; omega, ?_⟩; dsimp only; rw [bestK_none hbs, hX]; exact leqB49)
           | (refine ⟨⟨k + 1, by omega⟩, [0, 1, 2], by dsimp only; omega, ?_⟩; dsimp only; rw [bestK_up hbs (by rw [hX]; assumption), hX]; exact leqB49)
           | (refine ⟨⟨k + 1, by omega⟩, [0, 1, 2], by dsimp only; omega, ?_⟩; dsimp only; rw [bestK_stay hbs (by rw [hX]; assumption)]; exact leqB49)
           | (exfalso; omega)
       ·try (cases h50; done)
        all_goals (try simp only [CQ] at h50)
        all_goals
        refine Tri.exit ?_
        obtain rfl : k = Z.length := by omega
        have hsome : (bestK c K Z.length).isSome = true := by rw [show Z.length = (Z.length - 1) + 1 by omega]; exact bestK_is _
        refine sZ [2] (fun P S K => XvLoad P 47 (M S.hp S.nx) (S.get 3) (fun r0 _ => XvStore P 47 (M S.hp S.nx) (S.get 2) r0 (fun r1 ef1 => K ⟨[(2, S.get 2)], (Eff.hp ef1 S.nx S.hp), (S.nx + ef1.add.length), S.gh⟩))) fun K hK => ?_
        repeat' (first | (refine hK _ ?_; clear hK K) | refine And.intro ?_ ?_ | exact cl | exact one_encP _ | exact flat_encI _ | refine one_take ?_ _ | refine one_drop ?_ _ | (refine st ?_; try simp only [encC, pairs, nats, encCert, zeroCert, orD, Option.getD_some, Option.getD_none]) | simp only [encC, pairs, nats, encCert, zeroCert, orD, Option.getD_some, Option.getD_none])
        all_goals
        refine Tri.ret ?_
        show ResR _ _ _ _ _
        refine ResR.cell1 (encCert (orD (bestK c K Z.length))) rfl ?_ (pure_cert _)
        rw [sealed_pure _ _ _ (pure_cert _), orD_orC hsome]
        rfl
end Go.Proofs.Ytcdeilgijleoaaa
