/-
  Walk: the reference's Fold.
-/
import Derived.Test.YtfnkciboencifaaDoorOFold
set_option linter.all false
namespace Go.Proofs.YtfnkciboencifaaDoor.Elder
open Go.RowKit Go.Shelf
def BufAt (w : World) (b n : Nat) (f : Nat → Value) : Prop :=
  ∃ A e fr, w.heap[b]? = some (.cells A e fr) ∧ n ≤ A.size ∧ (∀ i, i < n → A[i]? = some (f i)) ∧ ∀ i, i < n → (decide (fr.1 ≤ i) && decide (i < fr.2)) = false
theorem BufAt.cell {w : World} {b n : Nat} {f : Nat → Value} (h : BufAt w b n f) {i : Nat} (hi : i < n) : w.cell? ⟨b, i, none⟩ = some (f i) := by
  obtain ⟨A, e, fr, hb, _, hf, _⟩ := h
  simp only [World.cell?, hb]
  exact hf i hi
theorem BufAt.free {w : World} {b n : Nat} {f : Nat → Value} (h : BufAt w b n f) {i : Nat} (hi : i < n) : w.frozen? ⟨b, i, none⟩ = false := by
  obtain ⟨A, e, fr, hb, _, hf, hx⟩ := h
  have := hx i hi
  simp only [World.frozen?, hb]
  exact this
theorem BufAt.lt {w : World} {b n : Nat} {f : Nat → Value} (h : BufAt w b n f) : b < w.heap.size := by
  obtain ⟨A, e, fr, hb, _⟩ := h
  exact (Array.getElem?_eq_some_iff.1 hb).1
theorem BufAt.congr {w : World} {b n : Nat} {f g : Nat → Value} (h : BufAt w b n f) (hg : ∀ i, i < n → f i = g i) : BufAt w b n g := by
  obtain ⟨A, e, fr, h1, h2, h3, h4⟩ := h
  exact ⟨A, e, fr, h1, h2, fun i hi => by rw [h3 i hi, hg i hi], h4⟩
theorem BufAt.set {w : World} {b n : Nat} {f : Nat → Value} (h : BufAt w b n f) (i : Nat) (v : Value) : BufAt (w.setCell ⟨b, i, none⟩ v) b n (fun j => if j = i then v else f j) := by
  obtain ⟨A, e, fr, h1, h2, h3, h4⟩ := h
  refine ⟨A.setIfInBounds i v, e, fr, ?_, by simp [h2], fun j hj => ?_, h4⟩
  · simp only [World.setCell, Array.getElem?_modify, if_true, h1, Option.map_some]; simp
  · by_cases hji : j = i
    · subst hji; simp [show j < A.size by omega]
    · rw [Array.getElem?_setIfInBounds_ne (Ne.symm hji), h3 j hj]; simp [hji]
theorem bytes_buf (w : World) (s : ByteArray) : ∃ cap W', (convert 9 28 (.string s)).run Tryd.prog w = .ok (.slice (some ⟨w.heap.size, 0, none⟩) s.size cap) W' ∧ Ext w W' ∧ w.heap.size < W'.heap.size ∧
    BufAt W' w.heap.size s.size (fun i => .int .u8 ((bt s i).toNat : Nat)) := by
  refine ⟨_, _, run_bytes_of_string w _ _ 5 s Tryd.underlying9 Tryd.underlying28 Tryd.underlying5, (Ext.drew w).trans (Ext.alloc _ _), by simp,
    _, _, _, heap_alloc_new w.drew _, ?_, fun i hi => ?_, fun i hi => ?_⟩
  · simp [bytesRow]
  · have h' : i < s.data.size := hi
    rw [bytesRow, Array.getElem?_append_left (by simpa using h')]
    simp only [Array.getElem?_map, Array.getElem?_eq_getElem h', Option.map_some]
    rw [← bt_get hi]
    rfl
  · have : s.size ≤ (bytesRow s (grownCap w s.size 0 5)).size := by simp [bytesRow]
    simp only [Bool.and_eq_false_iff, decide_eq_false_iff_not]
    left; omega
theorem str_run (w : World) (b cap : Nat) (l : List UInt8) (h : ∀ j, j < l.length → w.cell? ⟨b, j, none⟩ = some (.int .u8 ((l.getD j 0).toNat : Nat))) :
    (convert 28 9 (.slice (some ⟨b, 0, none⟩) l.length cap)).run Tryd.prog w = .ok (.string ⟨l.toArray⟩) w :=
  run_convert_bytes_back w _ _ 5 _ cap l Tryd.underlying28 Tryd.underlying5 Tryd.underlying9 (fun j hj => by
    have := h j hj
    have hadd : (⟨b, 0, none⟩ : Addr).add j = ⟨b, j, none⟩ := by unfold Addr.add; split <;> simp_all
    rw [hadd, this, List.getElem_eq_getD 0])
def foldK (s : ByteArray) (k i : Nat) : Nat := if i < k then (foldC (bt s i)).toNat else (bt s i).toNat
set_option maxRecDepth 100000 in
theorem rFold_any (s : ByteArray) (w : World) (hs : s.size ≤ 4294967296) :
    Calls Tryd.prog 97 #[.string s] w fun e w' => e = .returned (.string (foldS s)) ∧ Ext w w' := by
  obtain ⟨cap, W1, hcv, hE1, hz, hbuf⟩ := bytes_buf w s
  have hbuf' := Lib.hid (hbuf.congr (g := fun i => .int .u8 (foldK s 0 i : Nat)) (fun i _ => by unfold foldK; rw [if_neg (by omega)]))
  clear hbuf
  go_enter Tryd.func97, Tryd.ntmps97
  go_wp2_with fail
  go_loopw [4] (fun i wr => ∃ k : Nat, k ≤ s.size ∧ i = .int .i64 k ∧ BufAt wr w.heap.size s.size (fun i => .int .u8 (foldK s k i : Nat)) ∧ Ext w wr) (fun i _ => s.size - (intOf i).toNat)
  case atStart => exact ⟨0, Nat.zero_le _, rfl, hbuf'.out, hE1⟩
  case round =>
    obtain ⟨k, hk, rfl, hB, hE⟩ := hrel
    by_cases hlt : k < s.size
    · have hv : foldK s k k = (bt s k).toNat := by unfold foldK; rw [if_neg (by omega)]
      have hcell := hB.cell hlt
      simp only [hv] at hcell
      have hfree := hB.free hlt
      have hlt256 := bt_lt s k
      have hkeep : ∀ i, i ≠ k → foldK s k i = foldK s (k + 1) i := fun i hi => by
        unfold foldK
        by_cases h1 : i < k
        · rw [if_pos h1, if_pos (by omega)]
        · rw [if_neg h1, if_neg (by omega)]
      have hnew : foldK s (k + 1) k = (foldC (bt s k)).toNat := by unfold foldK; rw [if_pos (by omega)]
      by_cases hup : 65 ≤ ((bt s k).toNat : Int) ∧ ((bt s k).toNat : Int) ≤ 90
      · have hc := foldC_up hup.1 hup.2
        have hB2 := Lib.hid ((hB.set k (.int .u8 (((bt s k).toNat : Int) + 32))).congr (g := fun i => .int .u8 (foldK s (k + 1) i : Nat)) (fun i _ => by
          by_cases h : i = k
          · subst h; simp only [if_true, hnew, hc]
          · simp only [if_neg h, hkeep i h]))
        have hE2 := Lib.hid (Below.setCell hE (p := ⟨w.heap.size, k, none⟩) (Nat.le_refl _) (.int .u8 (((bt s k).toNat : Int) + 32)))
        obtain ⟨h1, h2⟩ := hup
        have e1 : ((bt s k).toNat : Int) - 65 + 97 = ((bt s k).toNat : Int) + 32 := by omega
        have e1' := Lib.hid e1
        clear hB hE hv hkeep hnew hc e1
        go_wp2_with fail
        go_roundw
        case rel => exact ⟨k + 1, by omega, by go_num, by first | exact hB2.out | (rw [e1'.out]; exact hB2.out), by first | exact hE2.out | (rw [e1'.out]; exact hE2.out)⟩
        case measure => simp [intOf]; omega
      · have hB2 := Lib.hid (hB.congr (g := fun i => .int .u8 (foldK s (k + 1) i : Nat)) (fun i _ => by
          by_cases h : i = k
          · subst h; simp only [hv, hnew, foldC_same hup]
          · simp only [hkeep i h]))
        have hE2 := Lib.hid hE
        clear hB hE hv hkeep hnew
        by_cases h1 : 65 ≤ ((bt s k).toNat : Int)
        · have h2 : 90 < ((bt s k).toNat : Int) := by omega
          go_wp2_with fail
          go_roundw
          case rel => exact ⟨k + 1, by omega, by go_num, hB2.out, hE2.out⟩
          case measure => simp [intOf]; omega
        · go_wp2_with fail
          go_roundw
          case rel => exact ⟨k + 1, by omega, by go_num, hB2.out, hE2.out⟩
          case measure => simp [intOf]; omega
    · have hk2 : k = s.size := by omega
      subst hk2
      have hln : (s.data.toList.map foldC).length = s.size := by simp
      have hrun := str_run wr w.heap.size cap (s.data.toList.map foldC) (fun j hj => by
        rw [hln] at hj
        rw [hB.cell hj]
        have : (s.data.toList.map foldC).getD j 0 = foldC (bt s j) := by
          rw [← List.getElem_eq_getD (h := by rw [hln]; exact hj)]
          have h' : j < s.data.toList.length := by simpa using hj
          have : bt s j = s.data.toList[j] := by unfold bt; exact (List.getElem_eq_getD _).symm
          rw [List.getElem_map, this]
        rw [this, foldK, if_pos hj])
      rw [hln] at hrun
      clear hB hbuf' hln
      go_wp2_with fail
      go_ret
      exact ⟨rfl, hE⟩
end Go.Proofs.YtfnkciboencifaaDoor.Elder
