/-
  Walks: examine, Key, Compare of package collate.
-/
import Derived.Test.YtfnkciboencifaaDoorQKey
set_option linter.all false
namespace Go.Proofs.YtfnkciboencifaaDoor.Elder
open Go.RowKit Go.Shelf

def longS (x : ByteArray) : Bool := decide (4096 < x.size)
def examS (d : SpecD) (l : List ByteArray) : Int := if validD d ≠ 0 then validD d else if l.any longS then 4 else 0
theorem valid_order {d : SpecD} (h : validD d = 0) : d.order.length ≤ 64 := by
  unfold validD at h
  split at h
  · omega
  · omega

set_option maxRecDepth 100000 in
theorem examine_any (v u : Value) (d : SpecD) (l : List ByteArray) (w : World) (h : SpecAt w v d) (hu : StrsAt w u l) :
    Calls Tryd.prog 45 #[v, u] w fun e w' => e = .returned (.int .i64 (examS d l)) ∧ Ext w w' := by
  have cv := fun W hE => Lib.hid (Valid_any v d W (h.ext hE))
  have cc := fun W hE => Lib.hid (ContainsFunc_any _ enters_examine1 longS u l W (hu.ext hE) (fun W x _ => examine1_any x W))
  obtain ⟨vs, vo, rfl, hsk, hor⟩ := h
  clear hsk hor hu
  unfold examS
  generalize validD d = V at *
  generalize l.any longS = B at *
  by_cases hV : V = 0
  · subst hV
    go_enter Tryd.func45, Tryd.ntmps45
    go_wp2_with fail
    refine ((cv _ (Ext.alloc _ _)).out).mono ?_
    rintro e w1 ⟨rfl, hb⟩
    have hb0 := hb.of_alloc
    clear hb cv
    go_wp2_with fail
    refine ((cc _ hb0).out).mono ?_
    rintro e w2 ⟨rfl, hb2⟩
    have hE := Lib.hid (hb0.trans hb2)
    clear hb0 hb2 cc
    cases B
    · go_wp2_with fail
      go_ret
      exact ⟨rfl, hE.out⟩
    · go_wp2_with fail
      go_ret
      exact ⟨rfl, hE.out⟩
  · go_enter Tryd.func45, Tryd.ntmps45
    go_wp2_with fail
    refine ((cv _ (Ext.alloc _ _)).out).mono ?_
    rintro e w1 ⟨rfl, hb⟩
    have hb0 := hb.of_alloc
    clear hb cv cc
    go_wp2_with fail
    go_ret
    exact ⟨by simp, hb0⟩

theorem StrsAt.new1 (w : World) (e : TypeId) (x : ByteArray) (hx : x.size ≤ 9223372036854775807) : StrsAt (w.alloc (.cells #[.string x] e)) (.slice (some ⟨w.heap.size, 0, none⟩) 1 1) [x] :=
  ⟨⟨_, _, rfl, Nat.le_refl _, by decide, by rintro ⟨⟩, by
    rintro a ⟨⟩
    refine ⟨rfl, fun i hi => ?_⟩
    have : i = 0 := by simp at hi; omega
    subst this
    simp only [World.cell?, heap_alloc_new]
    rfl⟩, Sizes.of (by simpa using hx)⟩
theorem StrsAt.new2 (w : World) (e : TypeId) (x y : ByteArray) (hx : x.size ≤ 9223372036854775807) (hy : y.size ≤ 9223372036854775807) : StrsAt (w.alloc (.cells #[.string x, .string y] e)) (.slice (some ⟨w.heap.size, 0, none⟩) 2 2) [x, y] :=
  ⟨⟨_, _, rfl, Nat.le_refl _, by decide, by rintro ⟨⟩, by
    rintro a ⟨⟩
    refine ⟨rfl, fun i hi => ?_⟩
    simp only [World.cell?, heap_alloc_new]
    match i, hi with
    | 0, _ => rfl
    | 1, _ => rfl⟩, Sizes.of (by rintro s hs; simp at hs; rcases hs with rfl | rfl <;> assumption)⟩
theorem exam_ok {d : SpecD} {l : List ByteArray} (h : examS d l = 0) : d.order.length ≤ 64 ∧ ∀ x, x ∈ l → x.size ≤ 4096 := by
  unfold examS at h
  split at h
  · contradiction
  · rename_i hv
    split at h
    · omega
    · rename_i hl
      refine ⟨valid_order (by simpa using hv), fun x hx => ?_⟩
      have : longS x = false := by
        rw [Bool.eq_false_iff]
        exact fun e => hl (List.any_eq_true.2 ⟨x, hx, e⟩)
      simpa [longS] using this
def keyE (d : SpecD) (s : ByteArray) : List Int := if examS d [s] = 0 then keyS d s else []

set_option maxRecDepth 100000 in
theorem Key_any (v : Value) (d : SpecD) (s : ByteArray) (w : World) (h : SpecAt w v d) (hs : s.size ≤ 9223372036854775807) :
    Calls Tryd.prog 16 #[v, .string s] w fun e w' => ∃ u, e = .returned (.tuple #[u, .int .i64 (examS d [s])]) ∧ OwnI w' w.heap.size u (keyE d s) ∧ Ext w w' := by
  have ce := fun W hE hT => Lib.hid (examine_any v (.slice (some ⟨w.heap.size + 1, 0, none⟩) 1 1) d [s] W (h.ext hE) hT)
  have hex := fun (hx : examS d [s] = 0) => exam_ok hx
  have ck := fun W hE ho hx => Lib.hid (key_any v d s W (h.ext hE) ho hx)
  have hKE : keyE d s = if examS d [s] = 0 then keyS d s else [] := rfl
  obtain ⟨vs, vo, rfl, hsk, hor⟩ := h
  clear hsk hor
  generalize examS d [s] = V at *
  generalize keyS d s = KS at *
  generalize keyE d s = KE at *
  by_cases hV : V = 0
  · subst hV
    obtain ⟨hx1, hx2⟩ := hex rfl
    have hx3 := hx2 s (by simp)
    rw [if_pos rfl] at hKE
    have hKE' := Lib.hid hKE
    clear hKE hex hx2
    go_enter Tryd.func16, Tryd.ntmps16
    go_wp2_with fail
    have hst : StrsAt ((w.alloc (Obj.cells #[Value.bool d.words, vs, Value.bool d.numbers, vo] 33)).alloc (Obj.cells #[.string s] 9)) (.slice (some ⟨w.heap.size + 1, 0, none⟩) 1 1) [s] := by
      have := StrsAt.new1 (w.alloc (Obj.cells #[Value.bool d.words, vs, Value.bool d.numbers, vo] 33)) 9 s hs
      simpa using this
    refine ((ce _ ((Ext.alloc _ _).trans (Ext.alloc _ _)) hst).out).mono ?_
    rintro e w1 ⟨rfl, hb⟩
    have hb1 := (Ext.alloc _ _).trans hb
    have k0 := hb1.box (i := 0) rfl
    have k1 := hb1.box (i := 1) rfl
    have k2 := hb1.box (i := 2) rfl
    have k3 := hb1.box (i := 3) rfl
    have hz := hb1.room
    have hb0 := hb1.of_alloc
    clear hb hb1 ce hst
    have ck' := Lib.hid (ck w1 hb0 hx1 hx3)
    have hb0' := Lib.hid hb0
    clear ck hb0
    go_wp2_with fail
    refine ((ck'.out).out).mono ?_
    rintro e w2 ⟨u, rfl, hu, hb2⟩
    have hfin := Lib.hid (hu.lower hb0'.out.size)
    have hE := Lib.hid (hb0'.out.trans hb2)
    clear hu hb2 ck'
    go_wp2_with fail
    go_ret2
    exact ⟨_, rfl, by rw [hKE'.out]; exact hfin.out, hE.out⟩
  · rw [if_neg hV] at hKE
    subst hKE
    go_enter Tryd.func16, Tryd.ntmps16
    go_wp2_with fail
    have hst : StrsAt ((w.alloc (Obj.cells #[Value.bool d.words, vs, Value.bool d.numbers, vo] 33)).alloc (Obj.cells #[.string s] 9)) (.slice (some ⟨w.heap.size + 1, 0, none⟩) 1 1) [s] := by
      have := StrsAt.new1 (w.alloc (Obj.cells #[Value.bool d.words, vs, Value.bool d.numbers, vo] 33)) 9 s hs
      simpa using this
    refine ((ce _ ((Ext.alloc _ _).trans (Ext.alloc _ _)) hst).out).mono ?_
    rintro e w1 ⟨rfl, hb⟩
    have hE := Lib.hid (((Ext.alloc _ _).trans hb).of_alloc)
    clear hb ce hst ck
    go_wp2_with fail
    go_ret2
    exact ⟨_, rfl, OwnI.nil _ _, hE.out⟩

end Go.Proofs.YtfnkciboencifaaDoor.Elder
