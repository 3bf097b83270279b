/-
  Plain: two appends in a region that draws its order, the second behind the first.
-/
import Derived.Test.YtfnkciboencifaaDoorBDig
set_option linter.all false
namespace Go.Proofs.YtfnkciboencifaaDoor.Elder
open Go.RowKit
theorem wp_region_growsL {P : Program} {id : Nat} {l : List Oper} {a : Act} {W : World} {Q : Exit → Act → World → Prop} (n : Nat) (G : Nat → Option (Value → World → Prop)) (Pre : Nat → World → Prop) (R : Nat → World → World → Prop) (Y : Nat → Nat → Value → Value → Prop)
    (hm : P.follows .mixedOrders = true) (hB : growB l.toArray (growDeps l) n = true)
    (hpre : ∀ i j, (i ≠ j ∨ G i = none) → ∀ w w', R j w w' → Pre i w → Pre i w') (hmono : ∀ k F, G k = some F → ∀ i, i ≠ k → ∀ v w w', R i w w' → F v w → F v w') (hY : ∀ j k u v, Y j k u v → Y k j v u) (h0 : ∀ i, Pre i W.drew)
    (h : ∀ s, RunG P l.toArray (growD (growDeps l)) G Pre R Y s (growFin P l.toArray G (Pre n) Y Q (l.drop n) s) (l.take n) 0 [] a) : (Code.region id l.toArray true).wp P Q a W :=
  wp_region_grows n G Pre R Y (growDeps l) hm hB hpre hmono hY h0 h
theorem OwnI.lower {w : World} {b b' : Nat} {v : Value} {l : List Int} (h : OwnI w b v l) (hb : b' ≤ b) : OwnI w b' v l := by
  refine ⟨h.1, h.2.imp id ?_⟩
  rintro ⟨g, cap, cur, h1, h2, h3⟩
  exact ⟨g, cap, cur, h1, Nat.le_trans hb h2, h3⟩
theorem gb_refl (w : World) (row : Option Nat) : w.grownBy w row := ⟨rfl, rfl, rfl, Nat.le_refl _, fun _ _ _ => rfl⟩
theorem gb_alloc (w : World) (o : Obj) : w.grownBy (w.alloc o) none := (Ext.alloc w o).grown
def pushPre (w4 w0 : World) (n6 n12 : Nat) (f s : Value) (m1 m2 : List Int) (k : Nat) (w : World) : Prop :=
  Ext w4 w ∧ w0.heap.size ≤ w.heap.size ∧ (k = n6 → OwnI w w4.heap.size f m1) ∧ (k = n12 → OwnI w w4.heap.size s m2)
def pushR (n6 n12 : Nat) (f s : Value) (k : Nat) (w w' : World) : Prop := w.grownBy w' (if k = n6 then f.ownBlock else if k = n12 then s.ownBlock else none)
def newInt (w0 : World) (x : Int) (v : Value) (w : World) : Prop := ∃ b, v = .slice (some ⟨b, 0, none⟩) 1 1 ∧ w0.heap.size ≤ b ∧ b < w.heap.size ∧ w.cell? ⟨b, 0, none⟩ = some (.int .i64 x)
def pushF (w4 w0 : World) (f : Value) (m : List Int) (v : Value) (w : World) : Prop := OwnI w w4.heap.size v m ∧ ∀ b, v.ownBlock = some b → f.ownBlock = some b ∨ w0.heap.size ≤ b
def pushG (w4 w0 : World) (n5 n6 n11 n12 : Nat) (f s : Value) (m1 m2 : List Int) (x y : Int) (k : Nat) : Option (Value → World → Prop) :=
  if k = n5 then some (newInt w0 x) else if k = n6 then some (pushF w4 w0 f (m1 ++ [x])) else if k = n11 then some (newInt w0 y) else if k = n12 then some (pushF w4 w0 s (m2 ++ [y])) else none
def pushY (n6 n12 : Nat) (j k : Nat) (u v : Value) : Prop := (j = n6 ∧ k = n12 ∨ j = n12 ∧ k = n6) → Apart u v
theorem pushY_symm {n6 n12 : Nat} (j k : Nat) (u v : Value) (h : pushY n6 n12 j k u v) : pushY n6 n12 k j v u := fun hjk => (h (hjk.symm.imp And.symm And.symm)).symm
section
variable {w4 w0 : World} {n5 n6 n11 n12 : Nat} {f s : Value} {m1 m2 : List Int} {x y : Int}
theorem push_pre0 (hT : Two w4 w0 f s m1 m2) (k : Nat) : pushPre w4 w0 n6 n12 f s m1 m2 k w0.drew :=
  have hd : Ext w0 w0.drew := Ext.drew w0
  ⟨hT.ext.trans hd, hd.size, fun _ => hT.fst.ext hd, fun _ => hT.snd.ext hd⟩
theorem push_pre (hT : Two w4 w0 f s m1 m2) (i j : Nat) (h : i ≠ j ∨ pushG w4 w0 n5 n6 n11 n12 f s m1 m2 x y i = none) (w w' : World) (hR : pushR n6 n12 f s j w w') (hP : pushPre w4 w0 n6 n12 f s m1 m2 i w) : pushPre w4 w0 n6 n12 f s m1 m2 i w' := by
  obtain ⟨h1, h2, h3, h4⟩ := hP
  unfold pushR at hR
  have hb7 : ∀ g, f.ownBlock = some g → w4.heap.size ≤ g := fun g hg => (hT.fst.lt g hg).1
  have hb8 : ∀ g, s.ownBlock = some g → w4.heap.size ≤ g := fun g hg => (hT.snd.lt g hg).1
  have hij : i = n6 ∨ i = n12 → i ≠ j := by
    rintro (rfl | rfl)
    · refine h.resolve_right fun hx => ?_
      unfold pushG at hx
      split at hx <;> simp at hx
    · refine h.resolve_right fun hx => ?_
      unfold pushG at hx
      split at hx
      · simp at hx
      · split at hx
        · simp at hx
        · split at hx <;> simp at hx
  refine ⟨?_, Nat.le_trans h2 hR.size, fun e => ?_, fun e => ?_⟩
  · by_cases hj6 : j = n6
    · rw [if_pos hj6] at hR; exact Ext.own h1 hR hb7
    · rw [if_neg hj6] at hR
      by_cases hj12 : j = n12
      · rw [if_pos hj12] at hR; exact Ext.own h1 hR hb8
      · rw [if_neg hj12] at hR; exact Below.grown h1 hR h1.size (fun g hg => by cases hg)
  · have hj6 : j ≠ n6 := fun e2 => hij (.inl e) (e.trans e2.symm)
    rw [if_neg hj6] at hR
    by_cases hj12 : j = n12
    · rw [if_pos hj12] at hR; exact (h3 e).kept hR hT.apart.symm.or
    · rw [if_neg hj12] at hR; exact (h3 e).kept hR (by cases f.ownBlock <;> simp)
  · have hj12 : j ≠ n12 := fun e2 => hij (.inr e) (e.trans e2.symm)
    rw [if_neg hj12] at hR
    by_cases hj6 : j = n6
    · rw [if_pos hj6] at hR; exact (h4 e).kept hR hT.apart.or
    · rw [if_neg hj6] at hR; exact (h4 e).kept hR (by cases s.ownBlock <;> simp)
theorem newInt.kept {v : Value} {w w' : World} {row : Option Nat} (h : newInt w0 x v w) (hg : w.grownBy w' row) (hr : ∀ g, row = some g → g < w0.heap.size) : newInt w0 x v w' := by
  obtain ⟨b, rfl, h1, h2, h3⟩ := h
  refine ⟨b, rfl, h1, Nat.lt_of_lt_of_le h2 hg.size, ?_⟩
  rw [← h3]
  exact World.cell?_of_block (by
    refine hg.block b h2 fun e => ?_
    have := hr b e.symm
    omega)
theorem pushF.kept {v : Value} {m : List Int} {w w' : World} {row : Option Nat} (h : pushF w4 w0 f m v w) (hg : w.grownBy w' row) (hr : ∀ g, row = some g → g < w0.heap.size ∧ f.ownBlock ≠ some g) : pushF w4 w0 f m v w' := by
  refine ⟨h.1.kept hg ?_, h.2⟩
  cases hv : v.ownBlock with
  | none => exact .inl rfl
  | some b =>
    refine .inr fun e => ?_
    have h1 := hr b e.symm
    rcases h.2 b hv with h2 | h2
    · exact h1.2 h2
    · omega
theorem push_mono (hT : Two w4 w0 f s m1 m2) (k : Nat) (F : Value → World → Prop) (hk : pushG w4 w0 n5 n6 n11 n12 f s m1 m2 x y k = some F) (i : Nat) (hi : i ≠ k) (v : Value) (w w' : World) (hR : pushR n6 n12 f s i w w') (hF : F v w) : F v w' := by
  have hb7 : ∀ g, f.ownBlock = some g → g < w0.heap.size := fun g hg => (hT.fst.lt g hg).2
  have hb8 : ∀ g, s.ownBlock = some g → g < w0.heap.size := fun g hg => (hT.snd.lt g hg).2
  unfold pushR at hR
  have hrow : ∀ g, (if i = n6 then f.ownBlock else if i = n12 then s.ownBlock else none) = some g → g < w0.heap.size := fun g hg => by
    split at hg
    · exact hb7 g hg
    · split at hg
      · exact hb8 g hg
      · cases hg
  unfold pushG at hk
  split at hk
  · obtain rfl := Option.some.inj hk
    exact newInt.kept hF hR hrow
  · split at hk
    · obtain rfl := Option.some.inj hk
      rename_i _ hk6
      refine pushF.kept hF hR fun g hg => ⟨hrow g hg, ?_⟩
      rw [if_neg (fun e => hi (e.trans hk6.symm))] at hg
      split at hg
      · exact fun e => hT.apart g e hg
      · cases hg
    · split at hk
      · obtain rfl := Option.some.inj hk
        exact newInt.kept hF hR hrow
      · split at hk
        · obtain rfl := Option.some.inj hk
          rename_i hk12
          refine pushF.kept hF hR fun g hg => ⟨hrow g hg, ?_⟩
          by_cases hi6 : i = n6
          · rw [if_pos hi6] at hg
            exact fun e => hT.apart g hg e
          · rw [if_neg hi6, if_neg (fun e => hi (e.trans hk12.symm))] at hg
            cases hg
        · cases hk
theorem push_apart (hT : Two w4 w0 f s m1 m2) {m : List Int} {u v : Value} {w : World} (hu : pushF w4 w0 f m u w) (hn : Near w s v) : Apart u v := fun g h1 h2 => by
  have hb8 : ∀ g, s.ownBlock = some g → g < w0.heap.size := fun g hg => (hT.snd.lt g hg).2
  have hlt := (hu.1.lt g h1).2
  rcases hn g h2 with h3 | h3
  · rcases hu.2 g h1 with h4 | h4
    · exact hT.apart g h4 h3
    · have := hb8 g h3; omega
  · omega
theorem Two.swap (hT : Two w4 w0 f s m1 m2) : Two w4 w0 s f m2 m1 := ⟨hT.snd, hT.fst, hT.apart.symm, hT.ext⟩
theorem newInt.new (w : World) (e : TypeId) (x : Int) (h : w0.heap.size ≤ w.heap.size) : newInt w0 x (.slice (some ⟨w.heap.size, 0, none⟩) 1 1) (w.alloc (.cells #[.int .i64 x] e)) :=
  ⟨_, rfl, h, by simp, by simp only [World.cell?, heap_alloc_new]; rfl⟩
theorem newInt.ints {v : Value} {w : World} (h : newInt w0 x v w) : IntsAt w v [x] := by
  obtain ⟨b, rfl, _, _, h3⟩ := h
  exact IntsAt.one (Nat.le_refl _) (by decide) h3
theorem pushF.of {v : Value} {m : List Int} {w w' : World} (hw : w0.heap.size ≤ w.heap.size) (h : OwnI w' w4.heap.size v m) (hn : Near w f v) : pushF w4 w0 f m v w' :=
  ⟨h, fun b hb => (hn b hb).imp id (fun h => Nat.le_trans hw h)⟩
end
end Go.Proofs.YtfnkciboencifaaDoor.Elder
