/-
  Ground of the clean machine: plain values, how they stand in memory, and how that lasts.
-/
import Derived.Below
import Derived.WalkSmall
import Derived.Laws.AppendOwn
import Derived.Laws.MakeOwn
import Derived.Laws.IdiomCopy
set_option linter.all false
namespace Go.Proofs.YtfnkciboencifaaDoor
open Go Go.RowKit

/-- Plain values: what the clean machine computes with. -/
inductive PV where
  | junk
  | atom (v : Value)
  | agg (l : List PV)
  | tup (l : List PV)
  | sl (sz : Nat) (l : List PV)
  | own (sz : Nat) (l : List PV)
  | ob (i sz off len : Nat)
  | ptr (i sz k c : Nat)
  | fptr (sz : Nat) (l : List PV) (k c : Nat)
  | fn (f : FuncId) (cap : List PV)
instance : Inhabited PV := ⟨.junk⟩

def PV.cells : PV → List PV
  | .agg l => l
  | v => [v]
/-- It takes one cell of memory. -/
def PV.one : PV → Bool
  | .atom v => v.oneCell'
  | .sl _ _ | .ob _ _ _ _ | .ptr _ _ _ _ | .fptr _ _ _ _ | .fn _ _ => true
  | _ => false

/-- Own objects: rows of elements of sz cells each. -/
structure AO where
  sz : Nat
  els : List PV
instance : Inhabited AO := ⟨⟨0, []⟩⟩

/-- Where a call began: the world, and the blocks of before that it may write. -/
structure Home where
  w : World
  M : Nat → Prop
def Home.own (B : Home) (b : Nat) : Prop := B.w.heap.size ≤ b ∨ B.M b
def bsize (w : World) (b : Nat) : Nat := match w.heap[b]? with | some (.cells A _ _) => A.size | _ => 0

/-- How a plain value stands in memory. D: the numbers of own objects that have a place; μ: their blocks; F: the blocks that are not written any more. -/
inductive Rep (D : Nat → Prop) (μ : Nat → Option Nat) (F : Nat → Prop) (w : World) : PV → Value → Prop where
  | junk (v : Value) : Rep D μ F w .junk v
  | atom (v : Value) : Rep D μ F w (.atom v) v
  | agg (l : List PV) (vs : Array Value) : vs.size = l.length → (∀ i (h : i < l.length), Rep D μ F w l[i] (vs.getD i undef)) → Rep D μ F w (.agg l) (.agg vs)
  | tup (l : List PV) (vs : Array Value) : vs.size = l.length → (∀ i (h : i < l.length), Rep D μ F w l[i] (vs.getD i undef)) → Rep D μ F w (.tup l) (.tuple vs)
  | sl0 (sz : Nat) (a : Option Addr) (cap : Nat) : cap ≤ maxLen → (a = none → cap = 0) → (∀ x, a = some x → x.spot = none) → Rep D μ F w (.sl sz []) (.slice a 0 cap)
  | sl (sz : Nat) (l : List PV) (b off cap : Nat) (g : Nat → Value) : F b → l.length ≤ cap → cap ≤ maxLen → (∀ j, j < l.length * sz → w.cell? ⟨b, off + j, none⟩ = some (g j)) →
      (∀ k (h : k < l.length), l[k].cells.length = sz) → (∀ k (h : k < l.length) c (hc : c < l[k].cells.length), Rep D μ F w (l[k].cells[c]) (g (k * sz + c))) →
      Rep D μ F w (.sl sz l) (.slice (some ⟨b, off, none⟩) l.length cap)
  | ob (i sz off len cap b : Nat) : D i → μ i = some b → len ≤ cap → cap ≤ maxLen → (off + cap) * sz ≤ bsize w b → Rep D μ F w (.ob i sz off len) (.slice (some ⟨b, off * sz, none⟩) len cap)
  | obn (i sz : Nat) : D i → μ i = none → Rep D μ F w (.ob i sz 0 0) (.slice none 0 0)
  | ptr (i sz k c b : Nat) : D i → μ i = some b → Rep D μ F w (.ptr i sz k c) (.pointer (some ⟨b, k * sz + c, none⟩))
  | fptr (sz : Nat) (l : List PV) (k c : Nat) (b off : Nat) (g : Nat → Value) : F b → (∀ j, j < l.length * sz → w.cell? ⟨b, off + j, none⟩ = some (g j)) →
      (∀ k (h : k < l.length), l[k].cells.length = sz) → (∀ k (h : k < l.length) c (hc : c < l[k].cells.length), Rep D μ F w (l[k].cells[c]) (g (k * sz + c))) →
      Rep D μ F w (.fptr sz l k c) (.pointer (some ⟨b, off + (k * sz + c), none⟩))
  | fn (f : FuncId) (cap : List PV) (vs : Array Value) : vs.size = cap.length → (∀ i (h : i < cap.length), Rep D μ F w cap[i] (vs.getD i undef)) → Rep D μ F w (.fn f cap) (.func (.func f) #[] vs)

theorem Rep.one {D : Nat → Prop} {μ : Nat → Option Nat} {F : Nat → Prop} {w : World} {p : PV} {v : Value} (h : Rep D μ F w p v) (h1 : p.one = true) : v.oneCell' = true := by
  cases h <;> first | rfl | exact h1 | cases h1

/-- What was there stays: no block shrinks, what is frozen is not written. -/
structure Stay (F : Nat → Prop) (w w' : World) : Prop where
  size : ∀ b, bsize w b ≤ bsize w' b
  cell : ∀ b c v, F b → w.cell? ⟨b, c, none⟩ = some v → w'.cell? ⟨b, c, none⟩ = some v

theorem Stay.refl (F : Nat → Prop) (w : World) : Stay F w w := ⟨fun _ => Nat.le_refl _, fun _ _ _ _ h => h⟩
theorem Stay.trans {F F' : Nat → Prop} {a b c : World} (h : Stay F a b) (k : Stay F' b c) (hF : ∀ b, F b → F' b) : Stay F a c :=
  ⟨fun x => Nat.le_trans (h.size x) (k.size x), fun x y v hx hv => k.cell x y v (hF x hx) (h.cell x y v hx hv)⟩
theorem bsize_of {w w' : World} {b : Nat} (h : w'.heap[b]? = w.heap[b]?) : bsize w' b = bsize w b := by simp [bsize, h]
theorem Stay.of_blocks {F : Nat → Prop} {w w' : World} (h : ∀ b, b < w.heap.size → w'.heap[b]? = w.heap[b]?) : Stay F w w' := by
  refine ⟨fun b => ?_, fun b c v _ hv => ?_⟩
  · by_cases hb : b < w.heap.size
    · rw [bsize_of (h b hb)]; exact Nat.le_refl _
    · have : bsize w b = 0 := by simp [bsize, Array.getElem?_eq_none (Nat.le_of_not_lt hb)]
      rw [this]; exact Nat.zero_le _
  · have hb := World.block_lt_of_cell? w _ hv
    rw [World.cell?_of_block (h b hb)]; exact hv
theorem Stay.below {F : Nat → Prop} {w w' : World} (h : Below w.heap.size w w') : Stay F w w' := Stay.of_blocks h.block
theorem Stay.of_block {F : Nat → Prop} {w w' : World} (g : Nat) (hg : ¬ F g) (hs : bsize w g ≤ bsize w' g) (h : ∀ b, b < w.heap.size → b ≠ g → w'.heap[b]? = w.heap[b]?) : Stay F w w' := by
  refine ⟨fun b => ?_, fun b c v hF hv => ?_⟩
  · by_cases hbg : b = g
    · subst hbg; exact hs
    · by_cases hb : b < w.heap.size
      · rw [bsize_of (h b hb hbg)]; exact Nat.le_refl _
      · have : bsize w b = 0 := by simp [bsize, Array.getElem?_eq_none (Nat.le_of_not_lt hb)]
        rw [this]; exact Nat.zero_le _
  · have hb := World.block_lt_of_cell? w _ hv
    rw [World.cell?_of_block (h b hb (fun e => hg (e ▸ hF)))]; exact hv

/-- What may not be written is as it was. -/
structure Ext (B : Home) (w : World) : Prop where
  os : w.os = B.w.os
  tape : w.tape = B.w.tape
  output : w.output = B.w.output
  size : B.w.heap.size ≤ w.heap.size
  block : ∀ k, k < B.w.heap.size → ¬ B.M k → w.heap[k]? = B.w.heap[k]?
  sizes : ∀ b, bsize B.w b ≤ bsize w b
theorem bsize_below {w w' : World} (h : Below w.heap.size w w') (b : Nat) : bsize w b ≤ bsize w' b := (Stay.below (F := fun _ => False) h).size b
theorem Ext.refl (w : World) (M : Nat → Prop) : Ext ⟨w, M⟩ w := ⟨rfl, rfl, rfl, Nat.le_refl _, fun _ _ _ => rfl, fun _ => Nat.le_refl _⟩
theorem Ext.trans {B : Home} {a b : World} (h : Ext B a) (k : Below a.heap.size a b) : Ext B b :=
  ⟨k.os.trans h.os, k.tape.trans h.tape, k.output.trans h.output, Nat.le_trans h.size k.size, fun i hi hM => (k.block i (Nat.lt_of_lt_of_le hi h.size)).trans (h.block i hi hM), fun b => Nat.le_trans (h.sizes b) (bsize_below k b)⟩
theorem Ext.below {w w' : World} {M : Nat → Prop} (h : Ext ⟨w, M⟩ w') (hM : ∀ b, ¬ M b) : Below w.heap.size w w' := ⟨h.os, h.tape, h.output, h.size, fun k hk => h.block k hk (hM k)⟩
theorem Ext.own_lt {B : Home} {w : World} (h : Ext B w) (b : Nat) (hb : w.heap.size ≤ b) : B.own b := .inl (Nat.le_trans h.size hb)
theorem bsize_setCell (w : World) (p : Addr) (u : Value) (b : Nat) : bsize w b ≤ bsize (w.setCell p u) b := by
  by_cases hb : b = p.block
  · subst hb
    simp only [bsize, World.setCell, Array.getElem?_modify, if_true]
    cases h : w.heap[p.block]? with
    | none => simp
    | some o => cases o <;> simp <;> first | omega | (split <;> simp)
  · rw [bsize_of (Below.heap_setCell _ _ _ _ hb)]; exact Nat.le_refl _
theorem Ext.setCell {B : Home} {a : World} (h : Ext B a) {p : Addr} (hp : B.own p.block) (u : Value) : Ext B (a.setCell p u) := by
  refine ⟨h.os, h.tape, h.output, by simpa [World.setCell] using h.size, fun k hk hM => ?_, fun b => Nat.le_trans (h.sizes b) (bsize_setCell _ _ _ _)⟩
  rw [Below.heap_setCell _ _ _ _ (by rintro rfl; exact hp.elim (fun h => by omega) hM)]
  exact h.block k hk hM

theorem Rep.stay {D D' : Nat → Prop} {μ μ' : Nat → Option Nat} {F F' : Nat → Prop} {w w' : World} {p : PV} {v : Value} (h : Rep D μ F w p v) (hs : Stay F w w') (hD : ∀ i, D i → D' i ∧ μ' i = μ i) (hF : ∀ b, F b → F' b) :
    Rep D' μ' F' w' p v := by
  induction h with
  | junk v => exact .junk v
  | atom v => exact .atom v
  | agg l vs h1 _ ih => exact .agg l vs h1 ih
  | tup l vs h1 _ ih => exact .tup l vs h1 ih
  | sl0 sz a cap h1 h2 h3 => exact .sl0 sz a cap h1 h2 h3
  | sl sz l b off cap g h1 h2 h3 h4 h5 _ ih => exact .sl sz l b off cap g (hF b h1) h2 h3 (fun j hj => hs.cell _ _ _ h1 (h4 j hj)) h5 ih
  | ob i sz off len cap b h1 hb h2 h3 h4 =>
    obtain ⟨d1, d2⟩ := hD i h1
    exact .ob i sz off len cap b d1 (d2.trans hb) h2 h3 (Nat.le_trans h4 (hs.size _))
  | obn i sz h1 hb =>
    obtain ⟨d1, d2⟩ := hD i h1
    exact .obn i sz d1 (d2.trans hb)
  | ptr i sz k c b h1 hb =>
    obtain ⟨d1, d2⟩ := hD i h1
    exact .ptr i sz k c b d1 (d2.trans hb)
  | fptr sz l k c b off g h1 h2 h3 _ ih => exact .fptr sz l k c b off g (hF b h1) (fun j hj => hs.cell _ _ _ h1 (h2 j hj)) h3 ih
  | fn f cap vs h1 _ ih => exact .fn f cap vs h1 ih

/-- An own object stands in its block. -/
def ObjOk (D : Nat → Prop) (μ : Nat → Option Nat) (F : Nat → Prop) (w : World) (b : Nat) (o : AO) : Prop :=
  ∃ A e, w.heap[b]? = some (.cells A e (0, 0)) ∧ o.els.length * o.sz ≤ A.size ∧ (∀ k (h : k < o.els.length), o.els[k].cells.length = o.sz) ∧
    ∀ k (h : k < o.els.length) c (hc : c < o.els[k].cells.length), Rep D μ F w (o.els[k].cells[c]) (A.getD (k * o.sz + c) undef)

theorem ObjOk.stay {D D' : Nat → Prop} {μ μ' : Nat → Option Nat} {F F' : Nat → Prop} {w w' : World} {b : Nat} {o : AO} (h : ObjOk D μ F w b o) (hs : Stay F w w') (hD : ∀ i, D i → D' i ∧ μ' i = μ i) (hF : ∀ b, F b → F' b)
    (hb : w'.heap[b]? = w.heap[b]?) : ObjOk D' μ' F' w' b o := by
  obtain ⟨A, e, h1, h2, h3, h4⟩ := h
  exact ⟨A, e, by rw [hb]; exact h1, h2, h3, fun k hk c hc => (h4 k hk c hc).stay hs hD hF⟩

/-- Where an own object stands: in its block, or, an empty one, nowhere. -/
def Stands (D : Nat → Prop) (μ : Nat → Option Nat) (F : Nat → Prop) (w : World) (o : AO) : Option Nat → Prop
  | some b => ObjOk D μ F w b o
  | none => o.els = []

/-- All own objects stand in memory, each in a block of its own that is not frozen. -/
structure HeapSim (w0 : Home) (F0 : Nat → Prop) (D : Nat → Prop) (μ : Nat → Option Nat) (F : Nat → Prop) (H : Nat → Option AO) (w : World) : Prop where
  objs : ∀ i o, H i = some o → D i ∧ Stands D μ F w o (μ i)
  inj : ∀ i j o o' b, H i = some o → H j = some o' → μ i = some b → μ j = some b → i = j
  own : ∀ i o b, H i = some o → μ i = some b → w0.own b ∧ ¬ F b
  ext : Ext w0 w
  f0 : ∀ b, F b → F0 b ∨ w0.own b
  fsz : ∀ b, F b → b < w.heap.size

section
variable {w0 : Home} {F0 D D' : Nat → Prop} {μ μ' : Nat → Option Nat} {F F' : Nat → Prop} {H H' : Nat → Option AO} {w w' : World}

theorem HeapSim.ok (h : HeapSim w0 F0 D μ F H w) {i : Nat} {o : AO} {b : Nat} (hi : H i = some o) (hb : μ i = some b) : ObjOk D μ F w b o := by
  have := (h.objs i o hi).2
  rw [hb] at this
  exact this
theorem ObjOk.lt {b : Nat} {o : AO} (h : ObjOk D μ F w b o) : b < w.heap.size := by
  obtain ⟨A, e, h1, _⟩ := h
  exact (Array.getElem?_eq_some_iff.1 h1).1

theorem HeapSim.step (h : HeapSim w0 F0 D μ F H w)
    (hs : Stay F w w') (hD : ∀ i, D i → D' i ∧ μ' i = μ i) (hF : ∀ b, F b → F' b) (hB : Ext w0 w') (hf0 : ∀ b, F' b → F0 b ∨ w0.own b) (hfs : ∀ b, F' b → b < w'.heap.size)
    (hH : ∀ i o, H' i = some o → (H i = some o ∧ ∀ b, μ i = some b → w'.heap[b]? = w.heap[b]? ∧ ¬ F' b) ∨
      (D' i ∧ Stands D' μ' F' w' o (μ' i) ∧ ∀ b, μ' i = some b → w0.own b ∧ ¬ F' b ∧ ∀ j o', j ≠ i → H' j = some o' → μ' j ≠ some b)) : HeapSim w0 F0 D' μ' F' H' w' := by
  refine ⟨fun i o hi => ?_, fun i j o o' b hi hj hib hjb => ?_, fun i o b hi hib => ?_, hB, hf0, hfs⟩
  · rcases hH i o hi with ⟨h1, h2⟩ | ⟨h1, h2, _⟩
    · obtain ⟨d, ok⟩ := h.objs i o h1
      obtain ⟨d1, d2⟩ := hD i d
      refine ⟨d1, ?_⟩
      rw [d2]
      cases hm : μ i with
      | none => rw [hm] at ok; exact ok
      | some b => rw [hm] at ok; exact ObjOk.stay ok hs hD hF (h2 b hm).1
    · exact ⟨h1, h2⟩
  · apply Classical.byContradiction
    intro hne
    rcases hH i o hi with ⟨h1, _⟩ | ⟨_, _, h1⟩
    · rcases hH j o' hj with ⟨h2, _⟩ | ⟨_, _, h2⟩
      · have d1 := (hD i (h.objs i o h1).1).2
        have d2 := (hD j (h.objs j o' h2).1).2
        exact hne (h.inj i j o o' b h1 h2 (by rw [← d1]; exact hib) (by rw [← d2]; exact hjb))
      · exact (h2 b hjb).2.2 i o hne hi hib
    · exact (h1 b hib).2.2 j o' (fun e => hne e.symm) hj hjb
  · rcases hH i o hi with ⟨h1, h3⟩ | ⟨_, _, h1⟩
    · have d1 := (hD i (h.objs i o h1).1).2
      rw [d1] at hib
      exact ⟨(h.own i o b h1 hib).1, (h3 b hib).2⟩
    · exact ⟨(h1 b hib).1, (h1 b hib).2.1⟩

theorem HeapSim.drop (h : HeapSim w0 F0 D μ F H w) (hH : ∀ i o, H' i = some o → H i = some o) : HeapSim w0 F0 D μ F H' w :=
  ⟨fun i o hi => h.objs i o (hH i o hi), fun i j o o' b hi hj => h.inj i j o o' b (hH i o hi) (hH j o' hj), fun i o b hi => h.own i o b (hH i o hi), h.ext, h.f0, h.fsz⟩
theorem HeapSim.still (h : HeapSim w0 F0 D μ F H w) (hb : Below w.heap.size w w') : HeapSim w0 F0 D μ F H w' :=
  h.step (Stay.below hb) (fun i hi => ⟨hi, rfl⟩) (fun _ hb => hb) (h.ext.trans hb) h.f0 (fun b hb' => Nat.lt_of_lt_of_le (h.fsz b hb') hb.size)
    (fun i o hi => .inl ⟨hi, fun b hib => ⟨hb.block _ (h.ok hi hib).lt, (h.own i o b hi hib).2⟩⟩)

/-- One more name in a table. -/
def upd {α : Type} (f : Nat → α) (i : Nat) (x : α) : Nat → α := fun j => if j = i then x else f j
theorem upd_same {α : Type} (f : Nat → α) (i : Nat) (x : α) : upd f i x i = x := if_pos rfl
theorem upd_other {α : Type} (f : Nat → α) {i j : Nat} (x : α) (h : j ≠ i) : upd f i x j = f j := if_neg h
def also (D : Nat → Prop) (i : Nat) : Nat → Prop := fun j => D j ∨ j = i
theorem also_ok (m : Option Nat) {i : Nat} (hi : ¬ D i) : ∀ j, D j → also D i j ∧ upd μ i m j = μ j := fun _ hj => ⟨.inl hj, upd_other _ _ (fun e => hi (e ▸ hj))⟩

/-- A new own object. -/
theorem HeapSim.add (h : HeapSim w0 F0 D μ F H w) (i : Nat) (hi : ¬ D i) (o : AO) (m : Option Nat)
    (hs : Stay F w w') (hB : Ext w0 w') (hsz : w.heap.size ≤ w'.heap.size) (hok : Stands D μ F w' o m)
    (hb : ∀ b, m = some b → w0.own b ∧ ¬ F b ∧ ∀ j o', H j = some o' → μ j ≠ some b)
    (hoth : ∀ j o' b, H j = some o' → μ j = some b → w'.heap[b]? = w.heap[b]?) : HeapSim w0 F0 (also D i) (upd μ i m) F (upd H i (some o)) w' := by
  refine h.step hs (also_ok m hi) (fun _ hb => hb) hB h.f0 (fun b hb => Nat.lt_of_lt_of_le (h.fsz b hb) hsz) fun j o' hj => ?_
  by_cases hji : j = i
  · subst hji
    rw [upd_same] at hj
    obtain rfl := Option.some.inj hj
    rw [upd_same]
    refine .inr ⟨.inr rfl, ?_, fun b hbm => ⟨(hb b hbm).1, (hb b hbm).2.1, fun k o2 hk hk2 => ?_⟩⟩
    · cases m with
      | none => exact hok
      | some b => exact ObjOk.stay hok (Stay.refl _ _) (also_ok _ hi) (fun _ hb => hb) rfl
    · rw [upd_other _ _ hk] at hk2 ⊢
      exact (hb b hbm).2.2 k o2 hk2
  · rw [upd_other _ _ hji] at hj
    exact .inl ⟨hj, fun b hjb => ⟨hoth j o' b hj hjb, (h.own j o' b hj hjb).2⟩⟩

/-- An own object written. -/
theorem HeapSim.set (h : HeapSim w0 F0 D μ F H w) (i : Nat) (o0 : AO) (b : Nat) (hi : H i = some o0) (hib : μ i = some b) (o : AO)
    (hs : Stay F w w') (hB : Ext w0 w') (hsz : w.heap.size ≤ w'.heap.size) (hok : ObjOk D μ F w' b o)
    (hoth : ∀ c, c < w.heap.size → c ≠ b → w'.heap[c]? = w.heap[c]?) : HeapSim w0 F0 D μ F (upd H i (some o)) w' := by
  refine h.step hs (fun j hj => ⟨hj, rfl⟩) (fun _ hb => hb) hB h.f0 (fun b hb => Nat.lt_of_lt_of_le (h.fsz b hb) hsz) fun j o' hj => ?_
  by_cases hji : j = i
  · subst hji
    rw [upd_same] at hj
    obtain rfl := Option.some.inj hj
    refine .inr ⟨(h.objs j o0 hi).1, by rw [hib]; exact hok, fun c hc => ⟨(h.own j o0 c hi hc).1, (h.own j o0 c hi hc).2, fun k o2 hk hk2 e => ?_⟩⟩
    rw [upd_other _ _ hk] at hk2
    exact hk (h.inj k j o2 o0 c hk2 hi e hc)
  · rw [upd_other _ _ hji] at hj
    exact .inl ⟨hj, fun c hc => ⟨hoth c (h.ok hj hc).lt (fun e => hji (h.inj j i o' o0 c hj hi hc (e ▸ hib))), (h.own j o' c hj hc).2⟩⟩
end
end Go.Proofs.YtfnkciboencifaaDoor

