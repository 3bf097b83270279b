/-
  Walks: comparing numbers and lists of numbers; equal lists of texts; small helpers.
-/
import Derived.Test.YtfnkciboencifaaDoorBR01
set_option linter.all false
namespace Go.Proofs.YtfnkciboencifaaDoor.Elder
open Go.RowKit
def cmpI (a b : Int) : Int := if a < b then -1 else if b < a then 1 else 0
def cmpL : List Int → List Int → Int
  | [], [] => 0
  | [], _ :: _ => -1
  | _ :: _, [] => 1
  | a :: l, b :: m => if a < b then -1 else if b < a then 1 else cmpL l m
theorem drop_li {l : List Int} {k : Nat} (h : k < l.length) : l.drop k = li l k :: l.drop (k + 1) := by rw [List.drop_eq_getElem_cons h, li_get h]
theorem drop_ls {l : List ByteArray} {k : Nat} (h : k < l.length) : l.drop k = ls l k :: l.drop (k + 1) := by rw [List.drop_eq_getElem_cons h, ls_get h]
theorem drop_all {α : Type} {l : List α} {k : Nat} (h : l.length ≤ k) : l.drop k = [] := List.drop_eq_nil_of_le h
theorem cmpL_lt {a b : Int} {l m : List Int} (h : a < b) : cmpL (a :: l) (b :: m) = -1 := by simp [cmpL, h]
theorem cmpL_gt {a b : Int} {l m : List Int} (h : b < a) : cmpL (a :: l) (b :: m) = 1 := by rw [cmpL, if_neg (by omega), if_pos h]
theorem cmpL_eq {a b : Int} {l m : List Int} (h : a = b) : cmpL (a :: l) (b :: m) = cmpL l m := by rw [cmpL, if_neg (by omega), if_neg (by omega)]
theorem isNaN_any (a : Int) (w : World) : Calls Tryd.prog 89 #[.int .i64 a] w fun e w' => e = .returned (.bool false) ∧ w = w' := by
  have hd : (a != a) = false := by simp
  go_enter Tryd.func89, Tryd.ntmps89
  go_wp2
  go_ret
  exact ⟨rfl, rfl⟩
theorem cmpCompare_any (a b : Int) (w : World) : Calls Tryd.prog 72 #[.int .i64 a, .int .i64 b] w fun e w' => e = .returned (.int .i64 (cmpI a b)) ∧ w = w' := by
  rcases Int.lt_trichotomy a b with h | h | h
  · have hf : cmpI a b = -1 := if_pos h
    have hf' := Lib.hid hf
    clear hf
    go_enter Tryd.func72, Tryd.ntmps72
    go_wp2_with (go_at_call 89; refine (isNaN_any _ _).mono ?_; rintro e w' ⟨rfl, rfl⟩)
    go_ret
    exact ⟨by rw [hf'.out]; rfl, rfl⟩
  · subst h
    have hf : cmpI a a = 0 := by simp [cmpI]
    have hf' := Lib.hid hf
    clear hf
    go_enter Tryd.func72, Tryd.ntmps72
    go_wp2_with (go_at_call 89; refine (isNaN_any _ _).mono ?_; rintro e w' ⟨rfl, rfl⟩)
    go_ret
    exact ⟨by rw [hf'.out]; rfl, rfl⟩
  · have hf : cmpI a b = 1 := by rw [cmpI, if_neg (by omega), if_pos h]
    have hf' := Lib.hid hf
    clear hf
    go_enter Tryd.func72, Tryd.ntmps72
    go_wp2_with (go_at_call 89; refine (isNaN_any _ _).mono ?_; rintro e w' ⟨rfl, rfl⟩)
    go_ret
    exact ⟨by rw [hf'.out]; rfl, rfl⟩
theorem slicesCompare_any (va vb : Value) (la lb : List Int) (w : World) (ha : IntsAt w va la) (hb : IntsAt w vb lb) :
    Calls Tryd.prog 48 #[va, vb] w fun e w' => e = .returned (.int .i64 (cmpL la lb)) ∧ w = w' := by
  obtain ⟨a, ca, rfl, hla, _, _, qa⟩ := Elems.open ha; clear ha
  obtain ⟨b, cb, rfl, hlb, _, _, qb⟩ := Elems.open hb; clear hb
  go_enter Tryd.func48, Tryd.ntmps48
  go_wp2
  go_loop [11] (fun i => ∃ k : Nat, k ≤ la.length ∧ k ≤ lb.length ∧ i = .int .i64 k ∧ cmpL la lb = cmpL (la.drop k) (lb.drop k)) (fun i => la.length - (intOf i).toNat)
  case atStart => exact ⟨0, Nat.zero_le _, Nat.zero_le _, rfl, rfl⟩
  case round =>
    obtain ⟨k, hk, hk2, rfl, hinv⟩ := hrel
    by_cases hlt : k < la.length
    · obtain ⟨ba, oa, rfl, hca⟩ := qa k hlt
      rw [drop_li hlt] at hinv
      by_cases hlt2 : k < lb.length
      · obtain ⟨bb, ob, rfl, hcb⟩ := qb k hlt2
        rw [drop_li hlt2] at hinv
        clear qa qb
        by_cases heq : li la k = li lb k
        · rw [cmpL_eq heq] at hinv
          have hv : cmpI (li la k) (li lb k) = 0 := by rw [heq]; simp [cmpI]
          have hinv' := Lib.hid hinv
          clear hinv heq
          go_wp2_with (go_at_call 72; refine (cmpCompare_any _ _ _).mono ?_; rintro e w' ⟨rfl, rfl⟩)
          go_round
          case rel => exact ⟨k + 1, by omega, by omega, by go_num, hinv'.out⟩
          case measure => simp [intOf]; omega
        · have hv : cmpL (li la k :: la.drop (k + 1)) (li lb k :: lb.drop (k + 1)) = cmpI (li la k) (li lb k) := by
            rcases Int.lt_trichotomy (li la k) (li lb k) with h | h | h
            · rw [cmpL_lt h, cmpI, if_pos h]
            · exact absurd h heq
            · rw [cmpL_gt h, cmpI, if_neg (by omega), if_pos h]
          rw [hv] at hinv
          have hd : (cmpI (li la k) (li lb k) != 0) = true := by
            simp only [bne_iff_ne, cmpI]; split <;> (try split) <;> omega
          have hinv' := Lib.hid hinv
          clear hinv heq hv
          go_wp2_with (go_at_call 72; refine (cmpCompare_any _ _ _).mono ?_; rintro e w' ⟨rfl, rfl⟩)
          go_ret
          exact ⟨by rw [hinv'.out]; rfl, rfl⟩
      · rw [drop_all (l := lb) (by omega)] at hinv
        have hinv' := Lib.hid hinv
        clear hinv qa qb
        go_wp2
        go_ret
        exact ⟨by rw [hinv'.out]; rfl, rfl⟩
    · rw [drop_all (l := la) (by omega)] at hinv
      by_cases hlt2 : k < lb.length
      · rw [drop_li hlt2] at hinv
        have hinv' := Lib.hid hinv
        clear hinv qa qb
        go_wp2
        go_ret
        exact ⟨by rw [hinv'.out]; rfl, rfl⟩
      · rw [drop_all (l := lb) (by omega)] at hinv
        have hinv' := Lib.hid hinv
        clear hinv qa qb
        go_wp2
        go_ret
        exact ⟨by rw [hinv'.out]; rfl, rfl⟩
def Fit (l : List Int) : Prop := ∀ x, x ∈ l → -9223372036854775808 ≤ x ∧ x ≤ 9223372036854775807
theorem Fit.li {l : List Int} (h : Fit l) (i : Nat) : -9223372036854775808 ≤ li l i ∧ li l i ≤ 9223372036854775807 := by
  by_cases hi : i < l.length
  · rw [← li_get hi]; exact h _ (List.getElem_mem hi)
  · have : l.getD i 0 = 0 := by simp [List.getD_eq_getElem?_getD, hi]
    show -9223372036854775808 ≤ l.getD i 0 ∧ l.getD i 0 ≤ 9223372036854775807
    rw [this]; omega
end Go.Proofs.YtfnkciboencifaaDoor.Elder
