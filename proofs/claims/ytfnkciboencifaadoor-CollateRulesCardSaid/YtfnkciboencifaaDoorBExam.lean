/-
  Walks: examine, Key, Compare of package collate.
-/
import Derived.Test.YtfnkciboencifaaDoorBKey
set_option linter.all false
namespace Go.Proofs.YtfnkciboencifaaDoor.Elder
open Go.RowKit Go.Shelf
def longS (x : ByteArray) : Bool := decide (4096 < x.size)
def examS (d : SpecD) (l : List ByteArray) : Int := if validD d ≠ 0 then validD d else if l.any longS then 4 else 0
theorem valid_order {d : SpecD} (h : validD d = 0) : d.order.length ≤ 64 := by
  unfold validD at h
  split at h
  · omega
  · omega
set_option maxRecDepth 100000 in
theorem examine_any (v u : Value) (d : SpecD) (l : List ByteArray) (w : World) (h : SpecAt w v d) (hu : StrsAt w u l) :
    Calls Tryd.prog 45 #[v, u] w fun e w' => e = .returned (.int .i64 (examS d l)) ∧ Ext w w' := by
  have cv := fun W hE => Lib.hid (Valid_any v d W (h.ext hE))
  have cc := fun W hE => Lib.hid (ContainsFunc_any _ enters_examine1 longS u l W (hu.ext hE) (fun W x _ => examine1_any x W))
  obtain ⟨vs, vo, rfl, hsk, hor⟩ := h
  clear hsk hor hu
  unfold examS
  generalize validD d = V at *
  generalize l.any longS = B at *
  by_cases hV : V = 0
  · subst hV
    go_enter Tryd.func45, Tryd.ntmps45
    go_wp2_with fail
    refine ((cv _ (Ext.alloc _ _)).out).mono ?_
    rintro e w1 ⟨rfl, hb⟩
    have hb0 := hb.of_alloc
    clear hb cv
    go_wp2_with fail
    refine ((cc _ hb0).out).mono ?_
    rintro e w2 ⟨rfl, hb2⟩
    have hE := Lib.hid (hb0.trans hb2)
    clear hb0 hb2 cc
    cases B
    · go_wp2_with fail
      go_ret
      exact ⟨rfl, hE.out⟩
    · go_wp2_with fail
      go_ret
      exact ⟨rfl, hE.out⟩
  · go_enter Tryd.func45, Tryd.ntmps45
    go_wp2_with fail
    refine ((cv _ (Ext.alloc _ _)).out).mono ?_
    rintro e w1 ⟨rfl, hb⟩
    have hb0 := hb.of_alloc
    clear hb cv cc
    go_wp2_with fail
    go_ret
    exact ⟨by simp, hb0⟩
theorem StrsAt.new1 (w : World) (e : TypeId) (x : ByteArray) (hx : x.size ≤ 9223372036854775807) : StrsAt (w.alloc (.cells #[.string x] e)) (.slice (some ⟨w.heap.size, 0, none⟩) 1 1) [x] :=
  ⟨⟨_, _, rfl, Nat.le_refl _, by decide, by rintro ⟨⟩, by
    rintro a ⟨⟩
    refine ⟨rfl, fun i hi => ?_⟩
    have : i = 0 := by simp at hi; omega
    subst this
    simp only [World.cell?, heap_alloc_new]
    rfl⟩, Sizes.of (by simpa using hx)⟩
theorem StrsAt.new2 (w : World) (e : TypeId) (x y : ByteArray) (hx : x.size ≤ 9223372036854775807) (hy : y.size ≤ 9223372036854775807) : StrsAt (w.alloc (.cells #[.string x, .string y] e)) (.slice (some ⟨w.heap.size, 0, none⟩) 2 2) [x, y] :=
  ⟨⟨_, _, rfl, Nat.le_refl _, by decide, by rintro ⟨⟩, by
    rintro a ⟨⟩
    refine ⟨rfl, fun i hi => ?_⟩
    simp only [World.cell?, heap_alloc_new]
    match i, hi with
    | 0, _ => rfl
    | 1, _ => rfl⟩, Sizes.of (by rintro s hs; simp at hs; rcases hs with rfl | rfl <;> assumption)⟩
theorem exam_ok {d : SpecD} {l : List ByteArray} (h : examS d l = 0) : d.order.length ≤ 64 ∧ ∀ x, x ∈ l → x.size ≤ 4096 := by
  unfold examS at h
  split at h
  · contradiction
  · rename_i hv
    split at h
    · omega
    · rename_i hl
      refine ⟨valid_order (by simpa using hv), fun x hx => ?_⟩
      have : longS x = false := by
        rw [Bool.eq_false_iff]
        exact fun e => hl (List.any_eq_true.2 ⟨x, hx, e⟩)
      simpa [longS] using this
def keyE (d : SpecD) (s : ByteArray) : List Int := if examS d [s] = 0 then keyS d s else []
def cmpE (d : SpecD) (a b : ByteArray) : Int := if examS d [a, b] = 0 then cmpL (keyS d a) (keyS d b) else 0
set_option maxRecDepth 100000 in
theorem Compare_any (v : Value) (d : SpecD) (a b : ByteArray) (w : World) (h : SpecAt w v d) (hs : a.size ≤ 9223372036854775807) (hs2 : b.size ≤ 9223372036854775807) :
    Calls Tryd.prog 20 #[v, .string a, .string b] w fun e w' => e = .returned (.tuple #[.int .i64 (cmpE d a b), .int .i64 (examS d [a, b])]) ∧ Ext w w' := by
  have ce := fun W hE hT => Lib.hid (examine_any v (.slice (some ⟨w.heap.size + 1, 0, none⟩) 2 2) d [a, b] W (h.ext hE) hT)
  have hex := fun (hx : examS d [a, b] = 0) => exam_ok hx
  have ck := fun t W hE ho hx => Lib.hid (key_any v d t W (h.ext hE) ho hx)
  have hKE : cmpE d a b = if examS d [a, b] = 0 then cmpL (keyS d a) (keyS d b) else 0 := rfl
  obtain ⟨vs, vo, rfl, hsk, hor⟩ := h
  clear hsk hor
  generalize examS d [a, b] = V at *
  generalize cmpE d a b = KE at *
  by_cases hV : V = 0
  · subst hV
    obtain ⟨hx1, hx2⟩ := hex rfl
    have hx3 := hx2 a (by simp)
    have hx4 := hx2 b (by simp)
    rw [if_pos rfl] at hKE
    have hKE' := Lib.hid hKE
    clear hKE hex hx2
    go_enter Tryd.func20, Tryd.ntmps20
    go_wp2_with fail
    have hst : StrsAt ((w.alloc (Obj.cells #[Value.bool d.words, vs, Value.bool d.numbers, vo] 33)).alloc (Obj.cells #[.string a, .string b] 9)) (.slice (some ⟨w.heap.size + 1, 0, none⟩) 2 2) [a, b] := by
      have := StrsAt.new2 (w.alloc (Obj.cells #[Value.bool d.words, vs, Value.bool d.numbers, vo] 33)) 9 a b hs hs2
      simpa using this
    refine ((ce _ ((Ext.alloc _ _).trans (Ext.alloc _ _)) hst).out).mono ?_
    rintro e w1 ⟨rfl, hb⟩
    have hb1 := (Ext.alloc _ _).trans hb
    have k0 := hb1.box (i := 0) rfl
    have k1 := hb1.box (i := 1) rfl
    have k2 := hb1.box (i := 2) rfl
    have k3 := hb1.box (i := 3) rfl
    have hz := hb1.room
    have hb0 := hb1.of_alloc
    clear hb hb1 ce hst
    have ck1 : ∀ W, Ext w1.drew W → Hid _ := fun W hW => ck a W (hb0.trans ((Ext.drew _).trans hW)) hx1 hx3
    have ck2 : ∀ W, Ext w1.drew W → Hid _ := fun W hW => ck b W (hb0.trans ((Ext.drew _).trans hW)) hx1 hx4
    have hb0' := Lib.hid hb0
    clear ck hb0
    go_wp2_with fail
    refine wp_region_growL 7 [(2, fun v W => IntsAt W v (keyS d a)), (5, fun v W => IntsAt W v (keyS d b)), (6, fun v _ => v = .int .i64 (cmpL (keyS d a) (keyS d b)))] (by kernel_rfl) (by kernel_rfl) (.cons (fun _ _ _ hE h => h.ext hE) (.cons (fun _ _ _ hE h => h.ext hE) (.cons (fun _ _ _ _ h => h) .nil))) (fun t => ?_)
    simp only [List.take_succ_cons, List.take_zero, List.drop_succ_cons, List.drop_zero]
    repeat (apply RunG.det rfl rfl; (· (intro W hW hF; have qq0 := Ext.cell hW ((Ext.drew w1).cell k0); have qq1 := Ext.cell hW ((Ext.drew w1).cell k1); have qq2 := Ext.cell hW ((Ext.drew w1).cell k2); have qq3 := Ext.cell hW ((Ext.drew w1).cell k3); clear hW hF; unfold detRun; go_simp; exact ⟨Ext.refl _, rfl⟩)); simp only [Act.put, List.setIfInBounds_toArray, List.set_cons_zero, List.set_cons_succ, Nat.reduceAdd])
    apply RunG.gen rfl rfl
    · intro W hW hF
      unfold genRun
      go_simp
      exact ((ck1 W hW).out).mono fun e w' ⟨u, h1, h2, h3⟩ => ⟨u, h1, h3, h2.elems⟩
    simp only [Act.put, List.setIfInBounds_toArray, List.set_cons_zero, List.set_cons_succ, Nat.reduceAdd]
    repeat (apply RunG.det rfl rfl; (· (intro W hW hF; have qq0 := Ext.cell hW ((Ext.drew w1).cell k0); have qq1 := Ext.cell hW ((Ext.drew w1).cell k1); have qq2 := Ext.cell hW ((Ext.drew w1).cell k2); have qq3 := Ext.cell hW ((Ext.drew w1).cell k3); clear hW hF; unfold detRun; go_simp; exact ⟨Ext.refl _, rfl⟩)); simp only [Act.put, List.setIfInBounds_toArray, List.set_cons_zero, List.set_cons_succ, Nat.reduceAdd])
    apply RunG.gen rfl rfl
    · intro W hW hF
      unfold genRun
      go_simp
      exact ((ck2 W hW).out).mono fun e w' ⟨u, h1, h2, h3⟩ => ⟨u, h1, h3, h2.elems⟩
    simp only [Act.put, List.setIfInBounds_toArray, List.set_cons_zero, List.set_cons_succ, Nat.reduceAdd]
    apply RunG.gen rfl rfl
    · intro W hW hF
      have f2 : IntsAt W (t 2) (keyS d a) := hF.get 2 rfl (by kernel_rfl) (by kernel_rfl)
      have f5 : IntsAt W (t 5) (keyS d b) := hF.get 5 rfl (by kernel_rfl) (by kernel_rfl)
      unfold genRun
      go_simp
      exact (slicesCompare_any (t 2) (t 5) _ _ W f2 f5).mono fun e w' ⟨h1, h2⟩ => ⟨_, h1, h2 ▸ Ext.refl _, rfl⟩
    simp only [Act.put, List.setIfInBounds_toArray, List.set_cons_zero, List.set_cons_succ, Nat.reduceAdd]
    refine RunG.done ?_
    intro W hW hF _
    have f6 : t 6 = .int .i64 (cmpL (keyS d a) (keyS d b)) := hF 6 (by decide) _ rfl
    rw [f6]
    have hE := Lib.hid ((hb0'.out.trans (Ext.drew _)).trans hW)
    clear hF ck1 ck2 hW
    go_wp2_with fail
    go_ret2
    exact ⟨by rw [hKE'.out]; rfl, hE.out⟩
  · rw [if_neg hV] at hKE
    subst hKE
    go_enter Tryd.func20, Tryd.ntmps20
    go_wp2_with fail
    have hst : StrsAt ((w.alloc (Obj.cells #[Value.bool d.words, vs, Value.bool d.numbers, vo] 33)).alloc (Obj.cells #[.string a, .string b] 9)) (.slice (some ⟨w.heap.size + 1, 0, none⟩) 2 2) [a, b] := by
      have := StrsAt.new2 (w.alloc (Obj.cells #[Value.bool d.words, vs, Value.bool d.numbers, vo] 33)) 9 a b hs hs2
      simpa using this
    refine ((ce _ ((Ext.alloc _ _).trans (Ext.alloc _ _)) hst).out).mono ?_
    rintro e w1 ⟨rfl, hb⟩
    have hE := Lib.hid (((Ext.alloc _ _).trans hb).of_alloc)
    clear hb ce hst ck
    go_wp2_with fail
    go_ret2
    exact ⟨rfl, hE.out⟩
end Go.Proofs.YtfnkciboencifaaDoor.Elder
