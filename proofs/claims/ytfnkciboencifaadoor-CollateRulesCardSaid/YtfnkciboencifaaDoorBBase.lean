/-
  Plain ground for the walks of this seat: how a slice in memory reads as a list, and how such readings last while memory grows.
-/
import Derived.Test.YtfnkciboencifaaDoorRows
import Derived.Test.YtfnkciboencifaaDoorBGrow
import Derived.WalkKit
import Derived.WalkSpells
import Derived.WalkLawsBesides
import Derived.WalkSmall
import Derived.Outline
import Derived.Deep.QuietTactic
import Derived.BigQuiet
import Derived.Lib.Hide
import Derived.Below
import Derived.Handy
import Derived.Laws.IdiomStrings
set_option linter.all false
namespace Go.Proofs.YtfnkciboencifaaDoor.Elder
open Go.RowKit
def li (l : List Int) (i : Nat) : Int := l.getD i 0
def ls (l : List ByteArray) (i : Nat) : ByteArray := l.getD i ByteArray.empty
theorem li_get {l : List Int} {i : Nat} (h : i < l.length) : l[i] = li l i := by simp [li, List.getD_eq_getElem?_getD, h]
theorem ls_get {l : List ByteArray} {i : Nat} (h : i < l.length) : l[i] = ls l i := by simp [ls, List.getD_eq_getElem?_getD, h]
def Elems (w : World) (v : Value) (n : Nat) (f : Nat → Value) : Prop :=
  ∃ a cap, v = .slice a n cap ∧ n ≤ cap ∧ cap ≤ maxLen ∧ (a = none → n = 0 ∧ cap = 0) ∧
    ∀ x, a = some x → x.spot = none ∧ ∀ i, i < n → w.cell? ⟨x.block, x.off + i, none⟩ = some (f i)
theorem Elems.open {w : World} {v : Value} {n : Nat} {f : Nat → Value} (h : Elems w v n f) :
    ∃ a cap, v = .slice a n cap ∧ n ≤ 9223372036854775807 ∧ n ≤ cap ∧ cap ≤ 9223372036854775807 ∧ ∀ i, i < n → ∃ b o, a = some ⟨b, o, none⟩ ∧ w.cell? ⟨b, o + i, none⟩ = some (f i) := by
  obtain ⟨a, cap, rfl, h1, h2, h3, h4⟩ := h
  unfold maxLen at h2
  refine ⟨a, cap, rfl, by omega, h1, by omega, fun i hi => ?_⟩
  cases a with
  | none => have := h3 rfl; omega
  | some x =>
    obtain ⟨h5, h6⟩ := h4 x rfl
    obtain ⟨b, o, s⟩ := x
    simp at h5
    subst h5
    exact ⟨b, o, rfl, h6 i hi⟩
theorem Elems.congr {w : World} {v : Value} {n : Nat} {f g : Nat → Value} (h : Elems w v n f) (hg : ∀ i, i < n → f i = g i) : Elems w v n g := by
  obtain ⟨a, cap, rfl, h1, h2, h3, h4⟩ := h
  exact ⟨a, cap, rfl, h1, h2, h3, fun x hx => ⟨(h4 x hx).1, fun i hi => by rw [(h4 x hx).2 i hi, hg i hi]⟩⟩
theorem Elems.mono {w w' : World} {v : Value} {n : Nat} {f : Nat → Value} (h : Elems w v n f) (hb : Below w.heap.size w w') : Elems w' v n f := by
  obtain ⟨a, cap, rfl, h1, h2, h3, h4⟩ := h
  refine ⟨a, cap, rfl, h1, h2, h3, fun x hx => ⟨(h4 x hx).1, fun i hi => ?_⟩⟩
  have hc := (h4 x hx).2 i hi
  have hlt : x.block < w.heap.size := World.block_lt_of_cell? w ⟨x.block, x.off + i, none⟩ hc
  rw [hb.cell (p := ⟨x.block, x.off + i, none⟩) hlt]
  exact hc
theorem Elems.nil (w : World) (f : Nat → Value) : Elems w (.slice none 0 0) 0 f :=
  ⟨none, 0, rfl, Nat.le_refl _, by unfold maxLen; omega, fun _ => ⟨rfl, rfl⟩, fun x hx => by cases hx⟩
theorem Ext.drewN (w : World) (n : Nat) : Ext w (w.drewN n) := below_drewN (Below.refl _ _) n
theorem Ext.drew (w : World) : Ext w w.drew := Below.drew (Below.refl _ _)
theorem Ext.alloc (w : World) (o : Obj) : Ext w (w.alloc o) := (Below.refl _ _).alloc (Nat.le_refl _) o
theorem Ext.size {w w' : World} (h : Ext w w') : w.heap.size ≤ w'.heap.size := Below.size h
theorem Ext.cell {w w' : World} (h : Ext w w') {p : Addr} {v : Value} (hc : w.cell? p = some v) : w'.cell? p = some v := by
  rw [Below.cell h (World.block_lt_of_cell? w p hc)]; exact hc
theorem Elems.ext {w w' : World} {v : Value} {n : Nat} {f : Nat → Value} (h : Elems w v n f) (hb : Ext w w') : Elems w' v n f := h.mono hb
theorem Ext.cells {w w' : World} (h : Ext w w') : (∀ b o, b < w.heap.size → w'.cell? ⟨b, o, none⟩ = w.cell? ⟨b, o, none⟩) ∧ (∀ b o, b < w.heap.size → w'.frozen? ⟨b, o, none⟩ = w.frozen? ⟨b, o, none⟩) :=
  ⟨fun b o hb => Below.cell (p := ⟨b, o, none⟩) h hb, fun b o hb => Below.frozen (p := ⟨b, o, none⟩) h hb⟩
theorem Ext.block {w w' : World} (h : Ext w w') {b : Nat} {o : Obj} (hb : w.heap[b]? = some o) : w'.heap[b]? = some o := by
  rw [Below.block h b (Array.getElem?_eq_some_iff.1 hb).1]; exact hb
theorem Ext.box {w w' : World} {A : Array Value} {T : TypeId} (h : Ext (w.alloc (.cells A T)) w') {i : Nat} {v : Value} (hv : A[i]? = some v) : w'.cell? ⟨w.heap.size, i, none⟩ = some v := by
  refine h.cell ?_
  have : (w.alloc (.cells A T)).heap[w.heap.size]? = some (.cells A T (0, 0)) := heap_alloc_new w _
  simp only [World.cell?, this]
  exact hv
theorem Ext.room {w w' : World} {o : Obj} (h : Ext (w.alloc o) w') : w.heap.size < w'.heap.size := by
  have := h.size
  simp at this
  omega
theorem Ext.of_alloc {w w' : World} {o : Obj} (h : Ext (w.alloc o) w') : Ext w w' := (Ext.alloc w o).trans h
def ArrAt (w : World) (b : Nat) (n : Nat) (f : Nat → Value) : Prop := ∃ A e, w.heap[b]? = some (.cells A e (0, 0)) ∧ A.size = n ∧ ∀ i, i < n → A[i]? = some (f i)
theorem ArrAt.cell {w : World} {b n : Nat} {f : Nat → Value} (h : ArrAt w b n f) {i : Nat} (hi : i < n) : w.cell? ⟨b, i, none⟩ = some (f i) := by
  obtain ⟨A, e, hb, _, hf⟩ := h
  simp only [World.cell?, hb]
  exact hf i hi
theorem ArrAt.free {w : World} {b n : Nat} {f : Nat → Value} (h : ArrAt w b n f) (i : Nat) : w.frozen? ⟨b, i, none⟩ = false := by
  obtain ⟨A, e, hb, _, hf⟩ := h
  simp [World.frozen?, hb]
theorem ArrAt.lt {w : World} {b n : Nat} {f : Nat → Value} (h : ArrAt w b n f) : b < w.heap.size := by
  obtain ⟨A, e, hb, _, hf⟩ := h
  exact (Array.getElem?_eq_some_iff.1 hb).1
theorem ArrAt.block {w w' : World} {b n : Nat} {f : Nat → Value} (h : ArrAt w b n f) (hb : w'.heap[b]? = w.heap[b]?) : ArrAt w' b n f := by
  obtain ⟨A, e, h1, h2⟩ := h
  exact ⟨A, e, by rw [hb]; exact h1, h2⟩
theorem ArrAt.ext {w w' : World} {b n : Nat} {f : Nat → Value} (h : ArrAt w b n f) (hE : Ext w w') : ArrAt w' b n f := h.block (Below.block hE b h.lt)
theorem ArrAt.congr {w : World} {b n : Nat} {f g : Nat → Value} (h : ArrAt w b n f) (hg : ∀ i, i < n → f i = g i) : ArrAt w b n g := by
  obtain ⟨A, e, h1, h2, h3⟩ := h
  exact ⟨A, e, h1, h2, fun i hi => by rw [h3 i hi, hg i hi]⟩
theorem ArrAt.set {w : World} {b n : Nat} {f : Nat → Value} (h : ArrAt w b n f) (i : Nat) (v : Value) : ArrAt (w.setCell ⟨b, i, none⟩ v) b n (fun j => if j = i then v else f j) := by
  obtain ⟨A, e, h1, h2, h3⟩ := h
  refine ⟨A.setIfInBounds i v, e, ?_, by simp [h2], fun j hj => ?_⟩
  · simp only [World.setCell, Array.getElem?_modify, if_true, h1, Option.map_some]; simp
  · by_cases hji : j = i
    · subst hji; simp [h2, hj]
    · rw [Array.getElem?_setIfInBounds_ne (Ne.symm hji), h3 j hj]; simp [hji]
theorem ArrAt.set_other {w : World} {b n : Nat} {f : Nat → Value} (h : ArrAt w b n f) {p : Addr} (hp : p.block ≠ b) (v : Value) : ArrAt (w.setCell p v) b n f :=
  h.block (Below.heap_setCell _ _ _ _ (Ne.symm hp))
theorem ArrAt.new (w : World) (A : Array Value) (e : TypeId) (f : Nat → Value) (n : Nat) (hn : A.size = n) (h : ∀ i, i < n → A[i]? = some (f i)) : ArrAt (w.alloc (.cells A e)) w.heap.size n f :=
  ⟨A, e, heap_alloc_new w _, hn, h⟩
theorem Elems.block {w w' : World} {b o n c : Nat} {f : Nat → Value} (h : Elems w (.slice (some ⟨b, o, none⟩) n c) n f) (hb : w'.heap[b]? = w.heap[b]?) : Elems w' (.slice (some ⟨b, o, none⟩) n c) n f := by
  obtain ⟨a, cap, hv, h1, h2, h3, h4⟩ := h
  refine ⟨a, cap, hv, h1, h2, h3, fun x hx => ⟨(h4 x hx).1, fun i hi => ?_⟩⟩
  have hc := (h4 x hx).2 i hi
  have hxb : x.block = b := by cases hv; cases hx; rfl
  rw [← hc]
  exact World.cell?_of_block (by simpa [hxb] using hb)
def bt (s : ByteArray) (i : Nat) : UInt8 := s.data.toList.getD i 0
theorem bt_get {s : ByteArray} {i : Nat} (h : i < s.size) : s[i] = bt s i := by
  have h' : i < s.data.toList.length := by simpa using h
  have : bt s i = s.data.toList[i] := by unfold bt; exact (List.getElem_eq_getD _).symm
  rw [this]; rfl
theorem drop_bt {s : ByteArray} {k : Nat} (h : k < s.size) : s.data.toList.drop k = bt s k :: s.data.toList.drop (k + 1) := by
  have h' : k < s.data.toList.length := by simpa using h
  have : bt s k = s.data.toList[k] := by unfold bt; exact (List.getElem_eq_getD _).symm
  rw [List.drop_eq_getElem_cons h', this]
theorem bt_lt (s : ByteArray) (i : Nat) : ((bt s i).toNat : Int) < 256 := by have := UInt8.toNat_lt (bt s i); omega
theorem bytes_run (w : World) (s : ByteArray) : ∃ cap W', (convert 9 28 (.string s)).run Tryd.prog w = .ok (.slice (some ⟨w.heap.size, 0, none⟩) s.size cap) W' ∧ Ext w W' ∧ w.heap.size < W'.heap.size ∧
    ∀ i, i < s.size → W'.cell? ⟨w.heap.size, i, none⟩ = some (.int .u8 ((bt s i).toNat : Nat)) := by
  refine ⟨_, _, run_bytes_of_string w _ _ 5 s Tryd.underlying9 Tryd.underlying28 Tryd.underlying5, (Ext.drew w).trans (Ext.alloc _ _), by simp, fun i hi => ?_⟩
  show (w.drew.alloc _).cell? ⟨w.drew.heap.size, i, none⟩ = _
  rw [World.cell?_alloc_mark]
  have h' : i < s.data.size := hi
  rw [bytesRow, Array.getElem?_append_left (by simpa using h')]
  simp only [Array.getElem?_map, Array.getElem?_eq_getElem h', Option.map_some]
  rw [← bt_get hi]
  rfl
def IntsAt (w : World) (v : Value) (l : List Int) : Prop := Elems w v l.length fun i => .int .i64 (li l i)
def Sizes (l : List ByteArray) : Prop := ∀ i, (ls l i).size ≤ 9223372036854775807
theorem Sizes.of {l : List ByteArray} (h : ∀ s, s ∈ l → s.size ≤ 9223372036854775807) : Sizes l := fun i => by
  by_cases hi : i < l.length
  · rw [← ls_get hi]; exact h _ (List.getElem_mem hi)
  · have : ls l i = ByteArray.empty := by simp [ls, List.getD_eq_getElem?_getD, hi]
    rw [this]; decide
theorem Sizes.mem {l : List ByteArray} (h : Sizes l) {s : ByteArray} (hs : s ∈ l) : s.size ≤ 9223372036854775807 := by
  obtain ⟨i, hi, rfl⟩ := List.mem_iff_getElem.1 hs
  rw [ls_get hi]; exact h i
def StrsAt (w : World) (v : Value) (l : List ByteArray) : Prop := (Elems w v l.length fun i => .string (ls l i)) ∧ Sizes l
theorem IntsAt.ext {w w' : World} {v : Value} {l : List Int} (h : IntsAt w v l) (hb : Ext w w') : IntsAt w' v l := h.mono hb
theorem StrsAt.ext {w w' : World} {v : Value} {l : List ByteArray} (h : StrsAt w v l) (hb : Ext w w') : StrsAt w' v l := ⟨h.1.mono hb, h.2⟩
theorem Elems.drewN {w : World} {v : Value} {n : Nat} {f : Nat → Value} (h : Elems w v n f) (m : Nat) : Elems (w.drewN m) v n f := h.mono (Ext.drewN w m)
end Go.Proofs.YtfnkciboencifaaDoor.Elder
