/-
  Plain: a run of digits in a word, and its value without zeros ahead.
-/
import Derived.Test.YtfnkciboencifaaDoorBKey13
set_option linter.all false
namespace Go.Proofs.YtfnkciboencifaaDoor.Elder
open Go.RowKit
theorem bt_drop {x : ByteArray} {j m : Nat} (h : j + m < x.size) : (x.data.toList.drop j)[m]'(by simp; omega) = bt x (j + m) := by
  rw [List.getElem_drop]
  unfold bt
  exact List.getElem_eq_getD _
def runL (x : ByteArray) (j : Nat) : List UInt8 := (x.data.toList.drop j).takeWhile isDig
theorem takeWhile_get {p : UInt8 → Bool} : ∀ {l : List UInt8} {m : Nat} (h : m < l.length), m ≤ (l.takeWhile p).length → (p l[m] = true ↔ m < (l.takeWhile p).length)
  | [], _, h, _ => by simp at h
  | a :: l, m, h, hm => by
    by_cases hp : p a = true
    · rw [List.takeWhile_cons, if_pos hp] at hm ⊢
      cases m with
      | zero => simp [hp]
      | succ m =>
        simp only [List.length_cons] at h hm ⊢
        have := takeWhile_get (p := p) (l := l) (m := m) (by omega) (by omega)
        simp only [List.getElem_cons_succ]
        rw [this]; omega
    · rw [List.takeWhile_cons, if_neg hp] at hm ⊢
      have : m = 0 := by simpa using hm
      subst this
      simp [hp]
theorem takeWhile_le {p : UInt8 → Bool} (l : List UInt8) : (l.takeWhile p).length ≤ l.length := (List.takeWhile_prefix p).length_le
theorem runL_le (x : ByteArray) (j : Nat) : (runL x j).length ≤ x.size - j := by
  have := takeWhile_le (p := isDig) (x.data.toList.drop j)
  unfold runL
  simpa using this
theorem run_dig {x : ByteArray} {j m : Nat} (h : j + m < x.size) (hm : m ≤ (runL x j).length) : isDig (bt x (j + m)) = true ↔ m < (runL x j).length := by
  rw [← bt_drop h]
  exact takeWhile_get (by simp; omega) hm
theorem takeWhile_take {p : UInt8 → Bool} : ∀ (l : List UInt8), l.take (l.takeWhile p).length = l.takeWhile p
  | [] => rfl
  | a :: l => by
    rw [List.takeWhile_cons]
    split
    · simp [takeWhile_take l]
    · simp
theorem takeWhile_drop {p : UInt8 → Bool} : ∀ (l : List UInt8), l.drop (l.takeWhile p).length = l.dropWhile p
  | [] => rfl
  | a :: l => by
    rw [List.takeWhile_cons, List.dropWhile_cons]
    split
    · simp [takeWhile_drop l]
    · simp
theorem extract_toList (x : ByteArray) (a b : Nat) : (x.extract a b).data.toList = (x.data.toList.drop a).take (b - a) := by
  simp [ByteArray.data_extract, List.extract_eq_take_drop]
def numB (x : ByteArray) (j : Nat) : ByteArray := ⟨(Lib.trimLeftB (x.extract j (j + (runL x j).length)).data.toList 48).toArray⟩
theorem numB_list (x : ByteArray) (j : Nat) : (numB x j).data.toList = (runL x j).dropWhile isZero := by
  unfold numB Lib.trimLeftB
  rw [extract_toList, Nat.add_sub_cancel_left]
  show List.dropWhile _ (List.take (List.takeWhile isDig _).length _) = _
  rw [takeWhile_take]
  rfl
theorem numB_size (x : ByteArray) (j : Nat) : (numB x j).size = ((runL x j).dropWhile isZero).length := by
  rw [← numB_list]; simp
theorem numB_le (x : ByteArray) (j : Nat) : (numB x j).size ≤ (runL x j).length := by rw [numB_size]; exact dropWhile_len _ _
theorem takeWhile_all {p : UInt8 → Bool} : ∀ {l : List UInt8} {a : UInt8}, a ∈ l.takeWhile p → p a = true
  | [], _, h => by cases h
  | b :: l, a, h => by
    rw [List.takeWhile_cons] at h
    split at h
    · rcases List.mem_cons.1 h with rfl | h
      · assumption
      · exact takeWhile_all h
    · cases h
theorem run_all {x : ByteArray} {j : Nat} {a : UInt8} (h : a ∈ runL x j) : isDig a = true := takeWhile_all h
theorem numB_dig (x : ByteArray) (j : Nat) {i : Nat} (h : i < (numB x j).size) : 48 ≤ ((bt (numB x j) i).toNat : Int) ∧ ((bt (numB x j) i).toNat : Int) ≤ 57 := by
  apply isDig_iff.1
  have h' : i < (numB x j).data.toList.length := by simpa using h
  have h1 : bt (numB x j) i = (numB x j).data.toList[i] := by unfold bt; exact (List.getElem_eq_getD _).symm
  have h2 : bt (numB x j) i ∈ runL x j := by
    rw [h1]
    have h3 := List.getElem_mem h'
    have h4 : (numB x j).data.toList ⊆ runL x j := by rw [numB_list]; exact (List.dropWhile_suffix _).subset
    exact h4 h3
  exact run_all h2
def digV (n : ByteArray) : List Int := n.data.toList.map fun d => (d.toNat : Int) - 48
theorem digV_length (n : ByteArray) : (digV n).length = n.size := by simp [digV]
theorem digV_take (n : ByteArray) {i : Nat} (h : i < n.size) : (digV n).take (i + 1) = (digV n).take i ++ [((bt n i).toNat : Int) - 48] := by
  have h' : i < (digV n).length := by rw [digV_length]; exact h
  rw [List.take_succ_eq_append_getElem h']
  congr 2
  have h1 : i < n.data.toList.length := by simpa using h
  have : bt n i = n.data.toList[i] := by unfold bt; exact (List.getElem_eq_getD _).symm
  simp only [digV, List.getElem_map, this]
theorem partL_run {grp plc : Nat → Int} (x : ByteArray) {j : Nat} (hj : j < x.size) (hc : isDig (bt x j) = true) :
    partL true grp plc (bt x j :: x.data.toList.drop (j + 1)) =
      (([1, ((numB x j).size : Int)] ++ digV (numB x j)) ++ (partL true grp plc (x.data.toList.drop (j + (runL x j).length))).1,
        [((runL x j).length : Int) - (numB x j).size] ++ (partL true grp plc (x.data.toList.drop (j + (runL x j).length))).2) := by
  rw [← drop_bt hj]
  have h1 : (x.data.toList.drop j) = bt x j :: x.data.toList.drop (j + 1) := drop_bt hj
  have h2 : ((x.data.toList.drop j).dropWhile isDig) = x.data.toList.drop (j + (runL x j).length) := by
    rw [← takeWhile_drop, List.drop_drop]; rfl
  rw [h1, partL_num rfl hc rfl rfl, ← h1, h2]
  show (1 :: (((runL x j).dropWhile isZero).length : Int) :: ((runL x j).dropWhile isZero).map _ ++ _, _) = _
  rw [← numB_list]
  have h3 := numB_size x j
  unfold runL at h3
  simp [digV, runL, h3]
theorem runL_pos (x : ByteArray) {j : Nat} (hj : j < x.size) (hc : isDig (bt x j) = true) : 0 < (runL x j).length := by
  unfold runL
  rw [drop_bt hj, List.takeWhile_cons, if_pos hc]; simp
end Go.Proofs.YtfnkciboencifaaDoor.Elder
