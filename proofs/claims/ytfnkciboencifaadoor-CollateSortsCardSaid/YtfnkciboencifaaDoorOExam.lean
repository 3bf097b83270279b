/-
  Walks: examine, Key, Compare of package collate.
-/
import Derived.Test.YtfnkciboencifaaDoorOKey
set_option linter.all false
namespace Go.Proofs.YtfnkciboencifaaDoor.Elder
open Go.RowKit Go.Shelf
def longS (x : ByteArray) : Bool := decide (4096 < x.size)
def examS (d : SpecD) (l : List ByteArray) : Int := if validD d ≠ 0 then validD d else if l.any longS then 4 else 0
theorem valid_order {d : SpecD} (h : validD d = 0) : d.order.length ≤ 64 := by
  unfold validD at h
  split at h
  · omega
  · omega
set_option maxRecDepth 100000 in
theorem examine_any (v u : Value) (d : SpecD) (l : List ByteArray) (w : World) (h : SpecAt w v d) (hu : StrsAt w u l) :
    Calls Tryd.prog 45 #[v, u] w fun e w' => e = .returned (.int .i64 (examS d l)) ∧ Ext w w' := by
  have cv := fun W hE => Lib.hid (Valid_any v d W (h.ext hE))
  have cc := fun W hE => Lib.hid (ContainsFunc_any _ enters_examine1 longS u l W (hu.ext hE) (fun W x _ => examine1_any x W))
  obtain ⟨vs, vo, rfl, hsk, hor⟩ := h
  clear hsk hor hu
  unfold examS
  generalize validD d = V at *
  generalize l.any longS = B at *
  by_cases hV : V = 0
  · subst hV
    go_enter Tryd.func45, Tryd.ntmps45
    go_wp2_with fail
    refine ((cv _ (Ext.alloc _ _)).out).mono ?_
    rintro e w1 ⟨rfl, hb⟩
    have hb0 := hb.of_alloc
    clear hb cv
    go_wp2_with fail
    refine ((cc _ hb0).out).mono ?_
    rintro e w2 ⟨rfl, hb2⟩
    have hE := Lib.hid (hb0.trans hb2)
    clear hb0 hb2 cc
    cases B
    · go_wp2_with fail
      go_ret
      exact ⟨rfl, hE.out⟩
    · go_wp2_with fail
      go_ret
      exact ⟨rfl, hE.out⟩
  · go_enter Tryd.func45, Tryd.ntmps45
    go_wp2_with fail
    refine ((cv _ (Ext.alloc _ _)).out).mono ?_
    rintro e w1 ⟨rfl, hb⟩
    have hb0 := hb.of_alloc
    clear hb cv cc
    go_wp2_with fail
    go_ret
    exact ⟨by simp, hb0⟩
theorem StrsAt.new1 (w : World) (e : TypeId) (x : ByteArray) (hx : x.size ≤ 9223372036854775807) : StrsAt (w.alloc (.cells #[.string x] e)) (.slice (some ⟨w.heap.size, 0, none⟩) 1 1) [x] :=
  ⟨⟨_, _, rfl, Nat.le_refl _, by decide, by rintro ⟨⟩, by
    rintro a ⟨⟩
    refine ⟨rfl, fun i hi => ?_⟩
    have : i = 0 := by simp at hi; omega
    subst this
    simp only [World.cell?, heap_alloc_new]
    rfl⟩, Sizes.of (by simpa using hx)⟩
theorem StrsAt.new2 (w : World) (e : TypeId) (x y : ByteArray) (hx : x.size ≤ 9223372036854775807) (hy : y.size ≤ 9223372036854775807) : StrsAt (w.alloc (.cells #[.string x, .string y] e)) (.slice (some ⟨w.heap.size, 0, none⟩) 2 2) [x, y] :=
  ⟨⟨_, _, rfl, Nat.le_refl _, by decide, by rintro ⟨⟩, by
    rintro a ⟨⟩
    refine ⟨rfl, fun i hi => ?_⟩
    simp only [World.cell?, heap_alloc_new]
    match i, hi with
    | 0, _ => rfl
    | 1, _ => rfl⟩, Sizes.of (by rintro s hs; simp at hs; rcases hs with rfl | rfl <;> assumption)⟩
def keyE (d : SpecD) (s : ByteArray) : List Int := if examS d [s] = 0 then keyS d s else []
end Go.Proofs.YtfnkciboencifaaDoor.Elder
