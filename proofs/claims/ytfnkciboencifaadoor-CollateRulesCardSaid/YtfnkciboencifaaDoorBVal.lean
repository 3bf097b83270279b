/-
  Walks: what makes a collation valid: its words, and functions handed to the library.
-/
import Derived.Test.YtfnkciboencifaaDoorBCmp
import Derived.Test.YtfnkciboencifaaDoorBShelf
import Derived.Shelf.Abstract
set_option linter.all false
namespace Go.Proofs.YtfnkciboencifaaDoor.Elder
open Go.RowKit
def lowB (c : UInt8) : Bool := decide (97 ≤ c.toNat) && decide (c.toNat ≤ 122)
def smallS (s : ByteArray) : Bool := decide (0 < s.size) && decide (s.size ≤ 24) && s.data.toList.all lowB
def letters : ByteArray := ⟨#[97, 98, 99, 100, 101, 102, 103, 104, 105, 106, 107, 108, 109, 110, 111, 112, 113, 114, 115, 116, 117, 118, 119, 120, 121, 122]⟩
theorem letters_nat : ∀ n, n < 256 → letters.data.toList.contains (UInt8.ofNat n) = lowB (UInt8.ofNat n) := by decide +kernel
theorem letters_low (c : UInt8) : letters.data.toList.contains c = lowB c := by
  have h := letters_nat c.toNat (UInt8.toNat_lt c)
  rwa [UInt8.ofNat_toNat] at h
theorem letters_ascii : ∀ (j : Nat) b, letters.data.toList[j]? = some b → b.toNat < 128 := by
  intro j b h
  have hm := List.mem_of_getElem? h
  have := letters_low b
  rw [List.contains_iff_mem.2 hm] at this
  unfold lowB at this
  simp at this
  omega
theorem dropWhile_nil {l : List UInt8} {p : UInt8 → Bool} : l.dropWhile p = [] ↔ l.all p = true := by
  induction l with
  | nil => simp
  | cons a l ih =>
    by_cases h : p a = true
    · simp [h, ih]
    · simp [h]
theorem trim_low (l : List UInt8) : (Lib.trimS l letters.data.toList == []) = l.all lowB := by
  have hp : (letters.data.toList.contains ·) = lowB := funext letters_low
  unfold Lib.trimS Lib.trimLeftS Lib.trimRightS
  rw [hp]
  rw [Bool.eq_iff_iff, beq_iff_eq]
  constructor
  · intro h
    rw [dropWhile_nil, List.all_eq_true] at h
    rw [List.all_eq_true]
    intro x hx
    by_cases hl : lowB x = true
    · exact hl
    · exfalso
      have hne : l.reverse.dropWhile lowB ≠ [] := by
        rw [ne_eq, dropWhile_nil, List.all_eq_true]
        exact fun h2 => hl (h2 x (by simpa using hx))
      have hh := List.head_dropWhile_not lowB hne
      have := h ((l.reverse.dropWhile lowB).head hne) (by simp [List.head_mem])
      rw [this] at hh
      cases hh
  · intro h
    rw [dropWhile_nil, List.all_eq_true]
    rw [List.all_eq_true] at h
    intro x hx
    have h2 : x ∈ l.reverse.dropWhile lowB := by simpa using hx
    exact h x (by simpa using (List.dropWhile_suffix lowB).subset h2)
theorem small_any (s : ByteArray) (w : World) : Calls Tryd.prog 41 #[.string s] w fun e w' => e = .returned (.bool (smallS s)) ∧ Ext w w' := by
  by_cases h1 : 0 < s.size
  · by_cases h2 : s.size ≤ 24
    · have hs : s.size ≤ 9223372036854775807 := by omega
      have hcon := Tryd.strings_Trim_ascii s letters w hs (by decide) letters_ascii
      have hfin : smallS s = (Lib.trimS s.data.toList letters.data.toList == []) := by rw [trim_low]; simp [smallS, h1, h2]
      have hfin' := Lib.hid hfin
      clear hfin
      generalize Lib.trimS s.data.toList letters.data.toList = t at *
      unfold letters at hcon
      have hcon' := Lib.hid hcon
      clear hcon
      go_enter Tryd.func41, Tryd.ntmps41
      go_wp2_with fail
      refine (hcon'.out).mono ?_
      rintro e w' ⟨rfl, hb⟩
      go_wp2_with fail
      go_ret
      refine ⟨?_, hb⟩
      rw [hfin'.out]
      cases t <;> rfl
    · have hfin : smallS s = false := by simp [smallS, h2]
      have hfin' := Lib.hid hfin
      clear hfin
      go_enter Tryd.func41, Tryd.ntmps41
      go_wp2_with fail
      go_ret
      exact ⟨by rw [hfin'.out]; rfl, Ext.refl _⟩
  · have hfin : smallS s = false := by simp [smallS, h1]
    have hfin' := Lib.hid hfin
    clear hfin
    go_enter Tryd.func41, Tryd.ntmps41
    go_wp2_with fail
    go_ret
    exact ⟨by rw [hfin'.out]; rfl, Ext.refl _⟩
theorem Valid1_any (s : ByteArray) (w : World) : Calls Tryd.prog 40 #[.string s] w fun e w' => e = .returned (.bool (!smallS s)) ∧ Ext w w' := by
  go_enter Tryd.func40, Tryd.ntmps40
  go_wp2_with (go_at_call 41; refine (small_any _ _).mono ?_; rintro e w' ⟨rfl, hb⟩)
  go_ret
  exact ⟨rfl, hb⟩
def Tells (g : Nat) (p : ByteArray → Bool) (w : World) : Prop :=
  ∀ (W : World) (x : ByteArray), Ext w W → Calls Tryd.prog g #[.string x] W fun e w' => e = .returned (.bool (p x)) ∧ Ext W w'
def idxP (p : ByteArray → Bool) : List ByteArray → Int → Int
  | [], _ => -1
  | x :: l, k => if p x then k else idxP p l (k + 1)
theorem idxP_any (p : ByteArray → Bool) : ∀ (l : List ByteArray) (k : Int), 0 ≤ k → decide (0 ≤ idxP p l k) = l.any p
  | [], _, _ => by simp [idxP]
  | x :: l, k, h => by
    rw [idxP, List.any_cons]
    by_cases hp : p x = true
    · rw [if_pos hp, hp]; simp [h]
    · rw [if_neg hp, idxP_any p l (k + 1) (by omega)]; simp [hp]
theorem IndexFunc_any (g : Nat) (eg : ∀ args w, (callFunc g args).run Tryd.prog w = .ok (.enter g args) w) (p : ByteArray → Bool) (v : Value) (l : List ByteArray) (w : World) (h : StrsAt w v l) (ht : Tells g p w) :
    Calls Tryd.prog 62 #[v, .func (.func g) #[] #[]] w fun e w' => e = .returned (.int .i64 (idxP p l 0)) ∧ Ext w w' := by
  obtain ⟨a, ca, rfl, hl, _, _, qa⟩ := Elems.open h.1; clear h
  have ht' := Lib.hid ht
  clear ht
  go_enter Tryd.func62, Tryd.ntmps62
  go_wp2
  go_loopw [8] (fun i wr => ∃ k : Nat, k ≤ l.length ∧ i = .int .i64 k ∧ idxP p l 0 = idxP p (l.drop k) k ∧ Ext w wr) (fun i _ => l.length - (intOf i).toNat)
  case atStart => exact ⟨0, Nat.zero_le _, rfl, rfl, Ext.refl _⟩
  case round =>
    obtain ⟨k, hk, rfl, hinv, hE⟩ := hrel
    by_cases hlt : k < l.length
    · obtain ⟨ba, oa, rfl, hca⟩ := qa k hlt
      have hcb := hE.cell hca
      rw [drop_ls hlt, idxP] at hinv
      have hcon := Lib.hid (ht'.out _ (ls l k) hE)
      clear qa hca
      by_cases hp : p (ls l k) = true
      · rw [if_pos hp] at hinv
        have hinv' := Lib.hid hinv
        clear hinv
        go_wp2_with fail
        refine (hcon.out).mono ?_
        rintro e w' ⟨rfl, hb⟩
        go_wp2_with fail
        go_ret
        exact ⟨by rw [hinv'.out]; rfl, hE.trans hb⟩
      · rw [if_neg hp] at hinv
        have hinv' := Lib.hid hinv
        have hp' : p (ls l k) = false := by simpa using hp
        clear hinv hp
        go_wp2_with fail
        refine (hcon.out).mono ?_
        rintro e w' ⟨rfl, hb⟩
        go_wp2_with fail
        go_roundw
        case rel => exact ⟨k + 1, by omega, by go_num, hinv'.out, hE.trans hb⟩
        case measure => simp [intOf]; omega
    · rw [drop_all (l := l) (by omega)] at hinv
      have hinv' := Lib.hid hinv
      clear hinv qa
      go_wp2_with fail
      go_ret
      exact ⟨by rw [hinv'.out]; rfl, hE⟩
theorem ContainsFunc_any (g : Nat) (eg : ∀ args w, (callFunc g args).run Tryd.prog w = .ok (.enter g args) w) (p : ByteArray → Bool) (v : Value) (l : List ByteArray) (w : World) (h : StrsAt w v l) (ht : Tells g p w) :
    Calls Tryd.prog 39 #[v, .func (.func g) #[] #[]] w fun e w' => e = .returned (.bool (l.any p)) ∧ Ext w w' := by
  have hcon := Lib.hid (IndexFunc_any g eg p v l w h ht)
  have hfin := Lib.hid (idxP_any p l 0 (Int.le_refl _))
  clear eg h ht
  go_enter Tryd.func39, Tryd.ntmps39
  go_wp2_with fail
  refine (hcon.out).mono ?_
  rintro e w' ⟨rfl, hb⟩
  go_wp2_with fail
  go_ret
  exact ⟨by rw [← hfin.out]; rfl, hb⟩
theorem Contains_any (v : Value) (l : List ByteArray) (x : ByteArray) (w : World) (h : StrsAt w v l) :
    Calls Tryd.prog 42 #[v, .string x] w fun e w' => e = .returned (.bool (Lib.containsS l x)) ∧ w = w' := by
  obtain ⟨a, ca, rfl, hl, _, _, qa⟩ := Elems.open h.1; clear h
  by_cases h0 : l.length = 0
  · have : l = [] := List.eq_nil_of_length_eq_zero h0
    subst this
    exact (Tryd.slices_Contains_string_empty a ca x w).mono fun e w' ⟨h1, h2⟩ => ⟨h1, h2.symm⟩
  · obtain ⟨b, o, rfl, _⟩ := qa 0 (by omega)
    refine (Tryd.slices_Contains_string b o l.length ca l x w (Nat.le_refl _) hl ?_).mono fun e w' ⟨h1, h2⟩ => ⟨?_, h2.symm⟩
    · intro j hj
      obtain ⟨b2, o2, he, hc⟩ := qa j hj
      cases he
      exact hc
    · rw [h1, List.take_length]
theorem examine1_any (s : ByteArray) (w : World) : Calls Tryd.prog 65 #[.string s] w fun e w' => e = .returned (.bool (decide (4096 < s.size))) ∧ Ext w w' := by
  go_enter Tryd.func65, Tryd.ntmps65
  go_wp2
  go_ret
  exact ⟨by simp; omega, Ext.refl _⟩
theorem enters_Valid1 : ∀ args w, (callFunc 40 args).run Tryd.prog w = .ok (.enter 40 args) w := enters_of Tryd.func40 (by kernel_rfl) rfl
theorem enters_examine1 : ∀ args w, (callFunc 65 args).run Tryd.prog w = .ok (.enter 65 args) w := enters_of Tryd.func65 (by kernel_rfl) rfl
end Go.Proofs.YtfnkciboencifaaDoor.Elder
