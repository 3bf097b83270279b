/-
  The clean machine: loads, stores and appends of own objects, in memory.
-/
import Derived.Test.YtfnkciboencifaaDoorPV0
set_option linter.all false
namespace Go.Proofs.YtfnkciboencifaaDoor
open Go Go.RowKit

section
variable {P : Program} {w0 : Home} {F0 D D' : Nat → Prop} {μ μ' : Nat → Option Nat} {F F' : Nat → Prop} {H H' : Nat → Option AO} {w w' : World}

theorem getD_lt {A : Array Value} {i : Nat} (h : i < A.size) : A[i]? = some (A.getD i undef) := by simp [h]
theorem cellget (l : List PV) (k : Nat) (h : k < l.length) : l.getD k .junk = l[k] := by simp [List.getD_eq_getElem?_getD, h]

/-- A value's cells. -/
theorem Rep.cells {p : PV} {v : Value} (h : Rep D μ F w p v) (h1 : p.cells.all PV.one = true) :
    v.cells.size = p.cells.length ∧ (∀ c (hc : c < p.cells.length), Rep D μ F w p.cells[c] (v.cells.getD c undef)) ∧ v.cells.all (·.oneCell') = true := by
  by_cases ha : ∃ l, p = .agg l
  · obtain ⟨l, rfl⟩ := ha
    cases h with
    | agg l vs hs hr =>
      refine ⟨hs, hr, ?_⟩
      rw [Array.all_eq_true_iff_forall_mem]
      intro x hx
      obtain ⟨i, hi, rfl⟩ := Array.mem_iff_getElem.1 hx
      change i < vs.size at hi
      have := hr i (by omega)
      have e : vs.getD i undef = vs[i] := by simp [hi]
      rw [e] at this
      exact this.one (List.all_eq_true.1 h1 _ (List.getElem_mem _))
  · have hp : p.cells = [p] := by cases p <;> first | rfl | exact absurd ⟨_, rfl⟩ ha
    rw [hp] at h1 ⊢
    have h1' : p.one = true := by simpa using h1
    have hv := h.one h1'
    have hvc : v.cells = #[v] := by cases v <;> first | rfl | cases hv
    rw [hvc]
    refine ⟨rfl, fun c hc => ?_, by simp [hv]⟩
    have : c = 0 := by simp at hc; omega
    subst this
    exact h

theorem mul_cell {k n sz c : Nat} (hk : k < n) (hc : c < sz) : k * sz + c < n * sz := by
  have : (k + 1) * sz ≤ n * sz := Nat.mul_le_mul_right _ hk
  rw [Nat.add_mul] at this
  omega

/-- A cell of an own object. -/
theorem ObjOk.cell {b : Nat} {o : AO} (h : ObjOk D μ F w b o) {k : Nat} (hk : k < o.els.length) {c : Nat} (hc : c < o.els[k].cells.length) :
    ∃ v, w.cell? ⟨b, k * o.sz + c, none⟩ = some v ∧ w.frozen? ⟨b, k * o.sz + c, none⟩ = false ∧ Rep D μ F w o.els[k].cells[c] v := by
  obtain ⟨A, e, h1, h2, h3, h4⟩ := h
  have hlt : k * o.sz + c < A.size := Nat.lt_of_lt_of_le (mul_cell hk (by rw [← h3 k hk]; exact hc)) h2
  exact ⟨_, by simp only [World.cell?, h1]; exact getD_lt hlt, by simp [World.frozen?, h1], h4 k hk c hc⟩

/-- A new block. -/
theorem ObjOk.alloc (A : Array Value) (e : TypeId) (o : AO) (hl : o.els.length * o.sz ≤ A.size) (hc : ∀ k (h : k < o.els.length), o.els[k].cells.length = o.sz)
    (hr : ∀ k (h : k < o.els.length) c (hc : c < o.els[k].cells.length), Rep D μ F w (o.els[k].cells[c]) (A.getD (k * o.sz + c) undef)) : ObjOk D μ F (w.alloc (.cells A e)) w.heap.size o :=
  ⟨A, e, heap_alloc_new w _, hl, hc, fun k hk c hc => (hr k hk c hc).stay (Stay.below ((Below.refl _ _).alloc (Nat.le_refl _) _)) (fun _ h => ⟨h, rfl⟩) (fun _ h => h)⟩

theorem HeapSim.alloc (h : HeapSim w0 F0 D μ F H w) (i : Nat) (hi : ¬ D i) (A : Array Value) (e : TypeId) (o : AO) (hl : o.els.length * o.sz ≤ A.size) (hc : ∀ k (h : k < o.els.length), o.els[k].cells.length = o.sz)
    (hr : ∀ k (h : k < o.els.length) c (hc : c < o.els[k].cells.length), Rep D μ F w (o.els[k].cells[c]) (A.getD (k * o.sz + c) undef)) :
    HeapSim w0 F0 (also D i) (upd μ i (some w.heap.size)) F (upd H i (some o)) (w.alloc (.cells A e)) := by
  have hb : Below w.heap.size w (w.alloc (.cells A e)) := (Below.refl _ _).alloc (Nat.le_refl _) _
  refine h.add i hi o (some w.heap.size) (Stay.below hb) (h.ext.trans hb) hb.size (ObjOk.alloc A e o hl hc hr) (fun b hbe => ?_) (fun j o' b hj hjb => hb.block _ (h.ok hj hjb).lt)
  cases hbe
  refine ⟨.inl h.ext.size, fun hF => ?_, fun j o' hj e => ?_⟩
  · exact absurd (h.fsz _ hF) (Nat.lt_irrefl _)
  · exact absurd (h.ok hj e).lt (Nat.lt_irrefl _)

theorem HeapSim.unborn (h : HeapSim w0 F0 D μ F H w) (i : Nat) (hi : ¬ D i) (sz : Nat) : HeapSim w0 F0 (also D i) (upd μ i none) F (upd H i (some ⟨sz, []⟩)) w :=
  h.add i hi _ none (Stay.refl _ _) h.ext (Nat.le_refl _) rfl (fun _ h => by cases h) (fun _ _ _ _ _ => rfl)

/-- Cells of one block set in a row. -/
theorem setCells_other (b : Nat) : ∀ (vs : List Value) (o : Nat) (w : World) (k : Nat), k ≠ b → (w.setCells b o vs).heap[k]? = w.heap[k]?
  | [], _, _, _, _ => rfl
  | v :: r, o, w, k, hk => by rw [World.setCells, setCells_other b r (o + 1) _ k hk, Below.heap_setCell _ _ _ _ hk]
theorem setCells_size (b : Nat) : ∀ (vs : List Value) (o : Nat) (w : World), (w.setCells b o vs).heap.size = w.heap.size
  | [], _, _ => rfl
  | v :: r, o, w => by rw [World.setCells, setCells_size b r (o + 1)]; simp
theorem setCells_block (b : Nat) : ∀ (vs : List Value) (o : Nat) (w : World) (A : Array Value) (e : TypeId) (z : Nat × Nat), w.heap[b]? = some (.cells A e z) →
    ∃ A', (w.setCells b o vs).heap[b]? = some (.cells A' e z) ∧ A'.size = A.size ∧ ∀ j, A'.getD j undef = if o ≤ j ∧ j < o + vs.length ∧ j < A.size then vs.getD (j - o) undef else A.getD j undef
  | [], o, w, A, e, z, h => ⟨A, h, rfl, fun j => by rw [if_neg (by simp; omega)]⟩
  | v :: r, o, w, A, e, z, h => by
    have h1 : (w.setCell ⟨b, o, none⟩ v).heap[b]? = some (.cells (A.setIfInBounds o v) e z) := by
      simp only [World.setCell, Array.getElem?_modify, if_true, h, Option.map_some]; simp
    obtain ⟨A', g1, g2, g3⟩ := setCells_block b r (o + 1) _ _ e z h1
    refine ⟨A', g1, by rw [g2]; simp, fun j => ?_⟩
    rw [g3 j]
    simp only [Array.size_setIfInBounds, List.length_cons]
    by_cases hj : j = o
    · subst hj
      rw [if_neg (by omega)]
      by_cases hlt : j < A.size
      · rw [if_pos ⟨Nat.le_refl _, by omega, hlt⟩]; simp [Array.getD_eq_getD_getElem?, hlt]
      · rw [if_neg (by omega)]; simp [Array.getD_eq_getD_getElem?, hlt]
    · have hg : (A.setIfInBounds o v).getD j undef = A.getD j undef := by
        simp only [Array.getD_eq_getD_getElem?, Array.getElem?_setIfInBounds_ne (Ne.symm hj)]
      rw [hg]
      by_cases hc : o + 1 ≤ j ∧ j < o + 1 + r.length ∧ j < A.size
      · rw [if_pos hc, if_pos ⟨by omega, by omega, hc.2.2⟩]
        rw [show j - o = (j - (o + 1)) + 1 by omega, List.getD_cons_succ]
      · rw [if_neg hc, if_neg (by omega)]
theorem setCells_below {b : Nat} (h : Ext w0 w) (hB : w0.own b) (vs : List Value) (o : Nat) : Ext w0 (w.setCells b o vs) := by
  induction vs generalizing o w with
  | nil => exact h
  | cons v r ih => exact ih (h.setCell (p := ⟨b, o, none⟩) hB v) (o + 1)
theorem setCells_stay {b : Nat} (hb : ¬ F b) (vs : List Value) (o : Nat) (A : Array Value) (e : TypeId) (z : Nat × Nat) (h : w.heap[b]? = some (.cells A e z)) : Stay F w (w.setCells b o vs) := by
  obtain ⟨A', g1, g2, _⟩ := setCells_block b vs o w A e z h
  exact Stay.of_block b hb (by simp only [bsize, h, g1, g2]; exact Nat.le_refl _) (fun c _ hc => setCells_other b vs o w c hc)

/-- An own object written at some cells. -/
theorem HeapSim.store (h : HeapSim w0 F0 D μ F H w) (i : Nat) (o0 o : AO) (b : Nat) (hi : H i = some o0) (hib : μ i = some b) (at_ : Nat) (vs : List Value) (hsz : o.sz = o0.sz) (hln : o.els.length = o0.els.length)
    (hcl : ∀ k (h : k < o.els.length), o.els[k].cells.length = o.sz)
    (hin : ∀ k (h : k < o.els.length) c (hc : c < o.els[k].cells.length), at_ ≤ k * o.sz + c → k * o.sz + c < at_ + vs.length → Rep D μ F w o.els[k].cells[c] (vs.getD (k * o.sz + c - at_) undef))
    (hout : ∀ k (h : k < o.els.length) c (hc : c < o.els[k].cells.length), ¬ (at_ ≤ k * o.sz + c ∧ k * o.sz + c < at_ + vs.length) → ∃ (h2 : k < o0.els.length) (h3 : c < o0.els[k].cells.length), o.els[k].cells[c] = o0.els[k].cells[c]) :
    HeapSim w0 F0 D μ F (upd H i (some o)) (w.setCells b at_ vs) ∧ Stay F w (w.setCells b at_ vs) := by
  obtain ⟨A, e, h1, h2, h3, h4⟩ := h.ok hi hib
  obtain ⟨hB, hF⟩ := h.own i o0 b hi hib
  obtain ⟨A', g1, g2, g3⟩ := setCells_block b vs at_ w A e (0, 0) h1
  have hst := setCells_stay hF vs at_ A e (0, 0) h1
  refine ⟨h.set i o0 b hi hib o hst (setCells_below h.ext hB vs at_) (by rw [setCells_size]; exact Nat.le_refl _) ?_ (fun c _ hc => setCells_other b vs at_ w c hc), hst⟩
  refine ⟨A', e, g1, by rw [g2, hln, hsz]; exact h2, hcl, fun k hk c hc => ?_⟩
  have hlt : k * o.sz + c < A.size := Nat.lt_of_lt_of_le (mul_cell hk (by rw [← hcl k hk]; exact hc)) (by rw [hln, hsz]; exact h2)
  have stay : ∀ {p v}, Rep D μ F w p v → Rep D μ F (w.setCells b at_ vs) p v := fun hr => hr.stay hst (fun _ h => ⟨h, rfl⟩) (fun _ h => h)
  rw [g3]
  by_cases hc2 : at_ ≤ k * o.sz + c ∧ k * o.sz + c < at_ + vs.length
  · rw [if_pos ⟨hc2.1, hc2.2, hlt⟩]
    exact stay (hin k hk c hc hc2.1 hc2.2)
  · rw [if_neg (fun h => hc2 ⟨h.1, h.2.1⟩)]
    obtain ⟨q1, q2, q3⟩ := hout k hk c hc hc2
    rw [q3, hsz]
    exact stay (h4 k q1 c q2)

/-- The cells of a row of elements, as one list. -/
def flat (l : List PV) : List PV := l.flatMap PV.cells
theorem flat_length (l : List PV) (sz : Nat) (h : ∀ k (h : k < l.length), l[k].cells.length = sz) : (flat l).length = l.length * sz := by
  induction l with
  | nil => simp [flat]
  | cons a l ih =>
    have h0 := h 0 (by simp)
    simp only [List.getElem_cons_zero] at h0
    have := ih (fun k hk => by have := h (k + 1) (by simp; omega); simpa using this)
    simp only [flat, List.flatMap_cons, List.length_append] at this ⊢
    rw [this, h0, List.length_cons, Nat.add_mul]; omega
theorem flat_get (l : List PV) (sz : Nat) (h : ∀ k (h : k < l.length), l[k].cells.length = sz) : ∀ k (hk : k < l.length) c (hc : c < l[k].cells.length), (flat l)[k * sz + c]? = some (l[k].cells[c]) := by
  induction l with
  | nil => intro k hk; simp at hk
  | cons a l ih =>
    have h0 := h 0 (by simp)
    simp only [List.getElem_cons_zero] at h0
    have ih' := ih (fun k hk => by have := h (k + 1) (by simp; omega); simpa using this)
    intro k hk c hc
    cases k with
    | zero =>
      simp only [List.getElem_cons_zero] at hc ⊢
      simp only [flat, List.flatMap_cons, Nat.zero_mul, Nat.zero_add]
      rw [List.getElem?_append_left hc, List.getElem?_eq_getElem hc]
    | succ k =>
      simp only [List.getElem_cons_succ] at hc ⊢
      have := ih' k (by simpa using hk) c hc
      simp only [flat, List.flatMap_cons] at this ⊢
      rw [List.getElem?_append_right (by rw [h0, Nat.add_mul]; omega), ← this]
      congr 1
      rw [h0, Nat.add_mul]; omega
theorem flat_split (l : List PV) (sz : Nat) (h : ∀ k (h : k < l.length), l[k].cells.length = sz) {j : Nat} (hj : j < l.length * sz) :
    ∃ (k : Nat) (hk : k < l.length) (c : Nat) (_ : c < l[k].cells.length), j = k * sz + c := by
  have hs : 0 < sz := by
    rcases Nat.eq_zero_or_pos sz with h0 | h0
    · subst h0; simp at hj
    · exact h0
  have hk : j / sz < l.length := (Nat.div_lt_iff_lt_mul hs).2 hj
  exact ⟨j / sz, hk, j % sz, by rw [h _ hk]; exact Nat.mod_lt _ hs, by rw [Nat.mul_comm]; exact (Nat.div_add_mod j sz).symm⟩
end
end Go.Proofs.YtfnkciboencifaaDoor

