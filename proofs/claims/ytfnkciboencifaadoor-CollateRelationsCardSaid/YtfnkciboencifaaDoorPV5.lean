/-
  The clean machine: values built of parts, rows built of parts, appends.
-/
import Derived.Test.YtfnkciboencifaaDoorPV4
import Derived.Laws.Tables
import Derived.Great.BuildSlice
set_option linter.all false
namespace Go.Proofs.YtfnkciboencifaaDoor
open Go Go.RowKit

def spl (l : List PV) (off : Nat) (cs : List PV) : List PV := l.take off ++ cs ++ l.drop (off + cs.length)
theorem spl_length {l : List PV} {off : Nat} {cs : List PV} (h : off + cs.length ≤ l.length) : (spl l off cs).length = l.length := by unfold spl; simp; omega
theorem spl_get {l : List PV} {off : Nat} {cs : List PV} (h : off + cs.length ≤ l.length) (j : Nat) : (spl l off cs)[j]? = if off ≤ j ∧ j < off + cs.length then cs[j - off]? else l[j]? := by
  unfold spl
  by_cases h1 : j < off
  · rw [if_neg (by omega), List.getElem?_append_left (by simp; omega), List.getElem?_append_left (by simp; omega)]; simp [h1]
  · by_cases h2 : j < off + cs.length
    · rw [if_pos (by omega), List.getElem?_append_left (by simp; omega), List.getElem?_append_right (by simp; omega)]
      congr 1; simp; omega
    · rw [if_neg (by omega), List.getElem?_append_right (by simp; omega)]
      simp only [List.length_append, List.length_take, List.getElem?_drop]
      congr 1; omega

def CellsRep (D : Nat → Prop) (μ : Nat → Option Nat) (F : Nat → Prop) (w : World) (L : List PV) (A : Array Value) : Prop := A.size = L.length ∧ ∀ j x, L[j]? = some x → Rep D μ F w x (A.getD j undef)

theorem foldSet (off : Nat) : ∀ (l : List Value) (k : Nat) (A : Array Value), ((l.zipIdx k).foldl (fun cs (x : Value × Nat) => cs.setIfInBounds (off + x.2) x.1) A).size = A.size ∧
    ∀ j, ((l.zipIdx k).foldl (fun cs (x : Value × Nat) => cs.setIfInBounds (off + x.2) x.1) A).getD j undef = if off + k ≤ j ∧ j < off + k + l.length ∧ j < A.size then l.getD (j - (off + k)) undef else A.getD j undef
  | [], k, A => ⟨rfl, fun j => by rw [if_neg (by simp; omega)]; rfl⟩
  | v :: r, k, A => by
    obtain ⟨h1, h2⟩ := foldSet off r (k + 1) (A.setIfInBounds (off + k) v)
    simp only [List.zipIdx_cons, List.foldl_cons]
    refine ⟨by rw [h1]; simp, fun j => ?_⟩
    rw [h2 j]
    simp only [Array.size_setIfInBounds, List.length_cons]
    by_cases hj : j = off + k
    · subst hj
      rw [if_neg (by omega)]
      by_cases hlt : off + k < A.size
      · rw [if_pos ⟨Nat.le_refl _, by omega, hlt⟩]; simp [Array.getD_eq_getD_getElem?, hlt]
      · rw [if_neg (by omega)]; simp [Array.getD_eq_getD_getElem?, hlt]
    · have hg : (A.setIfInBounds (off + k) v).getD j undef = A.getD j undef := by
        simp only [Array.getD_eq_getD_getElem?, Array.getElem?_setIfInBounds_ne (Ne.symm hj)]
      rw [hg]
      by_cases hc : off + (k + 1) ≤ j ∧ j < off + (k + 1) + r.length ∧ j < A.size
      · rw [if_pos hc, if_pos ⟨by omega, by omega, hc.2.2⟩]
        rw [show j - (off + k) = (j - (off + (k + 1))) + 1 by omega, List.getD_cons_succ]
      · rw [if_neg hc, if_neg (by omega)]

/-- Parts put into a row of cells. -/
def putAll (place : Nat → Option (Nat × Nat)) : List PV → List (Nat × PV) → Option (List PV)
  | L, [] => some L
  | L, (i, v) :: r => match place i with
    | some (off, size) => if v.cells.length = size ∧ off + size ≤ L.length ∧ v.cells.all PV.one = true then putAll place (spl L off v.cells) r else none
    | none => none

theorem fill_rep {D : Nat → Prop} {μ : Nat → Option Nat} {F : Nat → Prop} {w : World} {place : Nat → Option (Nat × Nat)} : ∀ (ps : List (Nat × PV)) (vs : List (Nat × Value)) (L L' : List PV) (A : Array Value), CellsRep D μ F w L A →
    vs.length = ps.length → (∀ (j : Nat) (p : Nat × PV) (u : Nat × Value), ps[j]? = some p → vs[j]? = some u → p.1 = u.1 ∧ Rep D μ F w p.2 u.2) → putAll place L ps = some L' →
    ∃ A', Instr.fill place A vs = some A' ∧ CellsRep D μ F w L' A'
  | [], [], L, L', A, h, _, _, hp => by simp [putAll] at hp; subst hp; exact ⟨A, rfl, h⟩
  | (i, v) :: r, (i', u) :: us, L, L', A, h, hl, hr, hp => by
    obtain ⟨h0, h0r⟩ := hr 0 (i, v) (i', u) rfl rfl
    simp only at h0 h0r
    subst h0
    unfold putAll at hp
    cases hpl : place i with
    | none => simp [hpl] at hp
    | some os =>
      obtain ⟨off, size⟩ := os
      simp only [hpl] at hp
      split at hp
      · rename_i hc
        obtain ⟨c1, c2, c3⟩ := hc
        subst c1
        obtain ⟨q1, q2, q3⟩ := h0r.cells c3
        have hf := foldSet off u.cells.toList 0 A
        have e : u.cells.zipIdx.foldl (fun cs (x : Value × Nat) => cs.setIfInBounds (off + x.2) x.1) A = (u.cells.toList.zipIdx 0).foldl (fun cs (x : Value × Nat) => cs.setIfInBounds (off + x.2) x.1) A := by
          rw [← Array.foldl_toList, Array.toList_zipIdx]
        rw [← e] at hf
        obtain ⟨f1, f2⟩ := hf
        have hstep : CellsRep D μ F w (spl L off v.cells) (u.cells.zipIdx.foldl (fun cs (x : Value × Nat) => cs.setIfInBounds (off + x.2) x.1) A) := by
          refine ⟨by rw [f1, h.1, spl_length c2], fun j x hx => ?_⟩
          rw [spl_get c2] at hx
          rw [f2 j]
          simp only [Nat.add_zero, Array.length_toList, q1]
          by_cases hj : off ≤ j ∧ j < off + v.cells.length
          · rw [if_pos hj] at hx
            rw [if_pos ⟨hj.1, hj.2, by rw [h.1]; omega⟩]
            have hlt : j - off < v.cells.length := by omega
            rw [List.getElem?_eq_getElem hlt] at hx
            cases hx
            have := q2 (j - off) hlt
            simpa [Array.getD_eq_getD_getElem?, List.getD_eq_getElem?_getD] using this
          · rw [if_neg hj] at hx
            rw [if_neg (fun hh => hj ⟨hh.1, hh.2.1⟩)]
            exact h.2 j x hx
        obtain ⟨A', g1, g2⟩ := fill_rep r us (spl L off v.cells) L' _ hstep (by simpa using hl) (fun j p u' hp hu => hr (j + 1) p u' (by simpa using hp) (by simpa using hu)) hp
        refine ⟨A', ?_, g2⟩
        unfold Instr.fill
        rw [hpl]
        have hno : ¬ (u.cells.size ≠ v.cells.length || off + u.cells.size > A.size) = true := by
          rw [q1, h.1]; simp; omega
        simp only [hno, Bool.false_eq_true, if_false]
        exact g1
      · cases hp
  | [], _ :: _, _, _, _, _, hl, _, _ => by simp at hl
  | _ :: _, [], _, _, _, _, hl, _, _ => by simp at hl

theorem CellsRep.zero {D : Nat → Prop} {μ : Nat → Option Nat} {F : Nat → Prop} {w : World} (v : Value) (h : v.cells.all (·.oneCell') = true) : CellsRep D μ F w (pvOf v).cells v.cells := by
  rw [pvOf_cells v h]
  refine ⟨by simp, fun j x hx => ?_⟩
  rw [List.getElem?_map] at hx
  cases hv : v.cells.toList[j]? with
  | none => rw [hv] at hx; cases hx
  | some u =>
    rw [hv] at hx
    cases hx
    have : v.cells.getD j undef = u := by
      rw [Array.getElem?_toList] at hv
      simp [Array.getD_eq_getD_getElem?, hv]
    rw [this]; exact .atom _

theorem flat_set (els : List PV) (sz : Nat) (h : ∀ k (h : k < els.length), els[k].cells.length = sz) : ∀ (i : Nat) (v : PV), i < els.length → v.cells.length = sz → flat (els.set i v) = spl (flat els) (i * sz) v.cells := by
  induction els with
  | nil => intro i v hi; simp at hi
  | cons a l ih =>
    have h0 : a.cells.length = sz := h 0 (by simp)
    have ih' := ih (fun k hk => by have := h (k + 1) (by simp; omega); simpa using this)
    intro i v hi hv
    cases i with
    | zero =>
      simp only [List.set_cons_zero, flat, List.flatMap_cons, Nat.zero_mul, spl, List.take_zero, List.nil_append, Nat.zero_add, hv]
      rw [← h0, List.drop_left]
    | succ i =>
      have := ih' i v (by simpa using hi) hv
      simp only [List.set_cons_succ, flat, List.flatMap_cons, spl] at this ⊢
      rw [this]
      have e1 : (i + 1) * sz = a.cells.length + i * sz := by rw [Nat.add_mul, h0]; omega
      have e2 : a.cells.length + i * sz + v.cells.length = a.cells.length + (i * sz + v.cells.length) := by omega
      rw [e1, e2, List.take_length_add_append, List.drop_length_add_append]
      simp [List.append_assoc]

theorem rows_of_flat {D : Nat → Prop} {μ : Nat → Option Nat} {F : Nat → Prop} {w : World} {els : List PV} {sz : Nat} {A : Array Value} (h : ∀ k (h : k < els.length), els[k].cells.length = sz) (hc : CellsRep D μ F w (flat els) A) :
    ∀ k (hk : k < els.length) c (hc : c < els[k].cells.length), Rep D μ F w (els[k].cells[c]) (A.getD (k * sz + c) undef) := fun k hk c hc' => hc.2 _ _ (flat_get els sz h k hk c hc')

section
variable {P : Program}
def tPlace (P : Program) (t : TypeId) (i : Nat) : Option (Nat × Nat) :=
  match P.underlying t with
  | some (.array _ e) => (P.info? e).map fun ie => (i * ie.size, ie.size)
  | some (.struct fs) => (fs[i]?).bind fun f => (P.info? f.type).map fun x => (f.offset, x.size)
  | _ => none

theorem mapM_get {α β : Type} (f : α → Option β) : ∀ (l : List α) (r : List β), l.mapM f = some r → ∀ (i : Nat), r[i]? = (l[i]?).bind f
  | [], r, h, i => by simp at h; subst h; simp
  | a :: l, r, h, i => by
    simp only [List.mapM_cons, Option.bind_eq_bind, Option.pure_def] at h
    cases ha : f a with
    | none => simp [ha] at h
    | some b =>
      cases hl : l.mapM f with
      | none => simp [ha, hl] at h
      | some r' =>
        simp [ha, hl] at h
        subst h
        cases i with
        | zero => simp [ha]
        | succ i => simpa using mapM_get f l r' hl i
/-- All its fields' types are known. -/
def tKnown (P : Program) (t : TypeId) : Bool :=
  match P.underlying t with
  | some (.array _ e) => (P.info? e).isSome
  | some (.struct fs) => (fs.toList.mapM (fun f => (P.info? f.type).map fun i => (f.offset, i.size))).isSome
  | _ => false

def evParts (S : St) (ps : Array (Nat × Operand)) : List (Nat × PV) := ps.toList.map fun p => (p.1, S.ev p.2)

theorem parts_rep {D : Nat → Prop} {μ : Nat → Option Nat} {F : Nat → Prop} {w : World} {S : St} {a : Act} {ps : Array (Nat × Operand)} (hx : ∀ x, x ∈ (ps.toList.map (·.2)) → Rep D μ F w (S.ev x) (a.eval x)) :
    (ps.map fun (i, x) => (i, a.eval x)).toList.length = (evParts S ps).length ∧ ∀ (j : Nat) (p : Nat × PV) (u : Nat × Value), (evParts S ps)[j]? = some p → (ps.map fun (i, x) => (i, a.eval x)).toList[j]? = some u → p.1 = u.1 ∧ Rep D μ F w p.2 u.2 := by
  refine ⟨by simp [evParts], fun j p u hp hu => ?_⟩
  simp only [evParts, List.getElem?_map, Array.toList_map] at hp hu
  cases hj : ps.toList[j]? with
  | none => rw [hj] at hp; cases hp
  | some q =>
    rw [hj] at hp hu
    cases hp; cases hu
    exact ⟨rfl, hx q.2 (List.mem_map.2 ⟨q, List.mem_of_getElem? hj, rfl⟩)⟩

theorem Sound.build {t : TypeId} {ps : Array (Nat × Operand)} {S : St} {z : PV} {L : List PV} (hz : tZero P t z) (hk : tKnown P t = true) (hL : putAll (tPlace P t) z.cells (evParts S ps) = some L) : Sound P (.build t ps) S (.agg L) e0 :=
  Sound.quiet fun op a w0 F0 D μ F H w hop hH hxs hr => by
    obtain ⟨i, v, hi, hv, rfl, hsz, h1⟩ := hz
    obtain ⟨p1, p2⟩ := parts_rep (D := D) (μ := μ) (F := F) (w := w) (S := S) (a := a) (ps := ps) (fun x hx => hxs x (by simpa [Op.operands] using hx))
    obtain ⟨A, hA, hrep⟩ := fill_rep (D := D) (μ := μ) (F := F) (w := w) (place := tPlace P t) _ _ _ _ _ (CellsRep.zero v h1) p1 p2 hL
    have hb : P.built t (ps.map fun (i, x) => (i, a.eval x)).toList = some A := by
      unfold Program.built
      unfold tKnown at hk
      cases hu : P.underlying t with
      | none => rw [hu] at hk; cases hk
      | some d =>
        cases d <;> try (rw [hu] at hk; cases hk; done)
        case array n e =>
          rw [hu] at hk
          obtain ⟨ie, hie⟩ := Option.isSome_iff_exists.1 hk
          have : tPlace P t = fun i => some (i * ie.size, ie.size) := by funext i; simp [tPlace, hu, hie]
          rw [this] at hA
          simp only [hi, hv, hie]; exact hA
        case struct fs =>
          rw [hu] at hk
          obtain ⟨pl, hpl⟩ := Option.isSome_iff_exists.1 hk
          have : tPlace P t = fun i => pl.toArray[i]? := by
            funext i
            have := mapM_get _ _ _ hpl i
            simp only [tPlace, hu, List.getElem?_toArray, this, Array.getElem?_toList]
          rw [this] at hA
          simp only [hi, hv, hpl]; exact hA
    refine ⟨.agg A, by unfold execOp; simp [hop, run_build w t _ A hb], .agg _ _ hrep.1 fun j hj => hrep.2 j _ (List.getElem?_eq_getElem hj)⟩

def setParts (els : List PV) (ps : List (Nat × PV)) : List PV := ps.foldl (fun l p => l.set p.1 p.2) els
theorem putAll_set (sz : Nat) : ∀ (ps : List (Nat × PV)) (els : List PV), (∀ k (h : k < els.length), els[k].cells.length = sz) → (∀ p, p ∈ ps → p.1 < els.length ∧ p.2.cells.length = sz ∧ p.2.cells.all PV.one = true) →
    putAll (fun i => some (i * sz, sz)) (flat els) ps = some (flat (setParts els ps)) ∧ (setParts els ps).length = els.length ∧ ∀ k (h : k < (setParts els ps).length), (setParts els ps)[k].cells.length = sz
  | [], els, h, _ => ⟨rfl, rfl, h⟩
  | (i, v) :: r, els, h, hp => by
    obtain ⟨h1, h2, h3⟩ := hp (i, v) (by simp)
    simp only at h1 h2 h3
    have hfl := flat_length els sz h
    have hi : i * sz + sz ≤ els.length * sz := by have : (i + 1) * sz ≤ els.length * sz := Nat.mul_le_mul_right _ h1; rw [Nat.add_mul] at this; omega
    have hs := flat_set els sz h i v h1 h2
    have h' : ∀ k (hk : k < (els.set i v).length), (els.set i v)[k].cells.length = sz := fun k hk => by
      simp only [List.getElem_set]; split
      · exact h2
      · exact h k (by simpa using hk)
    obtain ⟨g1, g2, g3⟩ := putAll_set sz r (els.set i v) h' (fun p hpm => by rw [List.length_set]; exact hp p (by simp [hpm]))
    refine ⟨?_, by simpa [setParts] using g2, by simpa [setParts] using g3⟩
    unfold putAll
    simp only
    rw [if_pos ⟨h2, by rw [hfl]; exact hi, h3⟩, ← hs, g1]
    rfl

theorem Sound.buildSlice {t e : TypeId} {n : Nat} {ps : Array (Nat × Operand)} {S : St} {z : PV} (he : tElem P t = some e) (hz : tZero P e z) (hn : n * z.cells.length ≤ 16777216) (hn2 : n ≤ 16777216) (hps : ∀ p, p ∈ evParts S ps → p.1 < n ∧ p.2.cells.length = z.cells.length ∧ p.2.cells.all PV.one = true) :
    Sound P (.buildSlice t n ps) S (.ob S.nx z.cells.length 0 n) ⟨[⟨z.cells.length, setParts (List.replicate n z) (evParts S ps)⟩], [], [], []⟩ :=
  Sound.makes fun op a w0 F0 D μ F H w hop hH hxs _ hD => by
    obtain ⟨i, v, hi, hv, rfl, hsz, h1⟩ := hz
    have hcl := pvOf_cells v h1
    have hlen : (pvOf v).cells.length = i.size := by rw [hcl]; simpa using hsz
    rw [hlen] at hn hps ⊢
    obtain ⟨p1, p2⟩ := parts_rep (D := D) (μ := μ) (F := F) (w := w) (S := S) (a := a) (ps := ps) (fun x hx => hxs x (by simpa [Op.operands] using hx))
    have hrl : ∀ k (h : k < (List.replicate n (pvOf v)).length), (List.replicate n (pvOf v))[k].cells.length = i.size := fun k hk => by simp [hlen]
    obtain ⟨g1, g2, g3⟩ := putAll_set i.size (evParts S ps) (List.replicate n (pvOf v)) hrl (fun p hp => by simpa using hps p hp)
    have hms : (madeCells v.cells (n * i.size)).size = n * i.size := size_madeCells _ _
    have hzero : CellsRep D μ F w (flat (List.replicate n (pvOf v))) (madeCells v.cells (n * i.size)) := by
      refine ⟨by rw [hms, flat_length _ i.size hrl]; simp, fun j x hx => ?_⟩
      have hj : j < n * i.size := by
        have := (List.getElem?_eq_some_iff.1 hx).1
        rw [flat_length _ i.size hrl] at this; simpa using this
      obtain ⟨k, hk, c, hc, rfl⟩ := flat_split (List.replicate n (pvOf v)) i.size hrl (by simpa using hj)
      rw [flat_get _ i.size hrl k hk c hc] at hx
      have hk' : k < n := by simpa using hk
      simp only [List.getElem_replicate] at hx hc
      have hcc : c < i.size := by rw [← hlen]; exact hc
      have e1 : (madeCells v.cells (n * i.size)).getD (k * i.size + c) undef = v.cells[c]'(by omega) := by
        unfold Array.getD
        rw [dif_pos (by rw [hms]; exact hj)]
        simp only [madeCells, Array.getInternal_eq_getElem, Array.getElem_map, Array.getElem_range]
        have : (k * i.size + c) % v.cells.size = c := by rw [hsz, Nat.mul_comm, Nat.mul_add_mod, Nat.mod_eq_of_lt hcc]
        rw [this]
        exact getElem!_pos v.cells c (by omega)
      rw [e1]
      cases hx
      have : (pvOf v).cells[c] = .atom (v.cells[c]'(by omega)) := by simp [hcl]
      rw [this]
      exact .atom _
    obtain ⟨A, hA, hrep⟩ := fill_rep (D := D) (μ := μ) (F := F) (w := w) _ _ _ _ _ hzero p1 p2 g1
    have hrun : (Instr.buildSlice t n (ps.map fun (i, x) => (i, a.eval x))).run P w = .ok (.slice (some ⟨w.heap.size, 0, none⟩) n n) (w.alloc (.cells A e)) := by
      by_cases h0 : n * i.size = 0
      · have hA' : Instr.fill (fun x => some (x * i.size, i.size)) ((Array.range 0).map ((#[] : Array Value)[· % (#[] : Array Value).size]!)) (ps.map fun (i, x) => (i, a.eval x)).toList = some A := by
          have e2 : madeCells v.cells (n * i.size) = (Array.range 0).map ((#[] : Array Value)[· % (#[] : Array Value).size]!) := by
            rw [h0]; simp [madeCells, Array.range_zero']
          rw [← e2]; exact hA
        simp only [Array.range_zero', List.map_toArray] at hA'
        simp [Instr.buildSlice, run_underlying (und_elem he), sizeOf, typeInfo, hi, h0, newRow, Array.range_zero'] at hA' ⊢
        simp [hA']
      · exact run_buildSlice w t e n _ A i v (und_elem he) hi hv (by omega) h0 hA
    have hsl : (setParts (List.replicate n (pvOf v)) (evParts S ps)).length = n := by rw [g2]; simp
    have hAs : A.size = n * i.size := by rw [hrep.1, flat_length _ i.size g3, hsl]
    have hS := hH.alloc S.nx hD A e ⟨i.size, setParts (List.replicate n (pvOf v)) (evParts S ps)⟩ (by simp only [hsl, hAs]; exact Nat.le_refl _) g3 (rows_of_flat g3 hrep)
    refine ⟨.slice (some ⟨w.heap.size, 0, none⟩) n n, w.alloc (.cells A e), some w.heap.size, ?_, ?_, hS, Stay.below ((Below.refl _ _).alloc (Nat.le_refl _) _)⟩
    · unfold execOp; simp only [hop, Sem.run_bind, hrun, Result.andThen_ok, Sem.run_pure]
    · have := Rep.ob (D := also D S.nx) (μ := upd μ S.nx (some w.heap.size)) (F := F) (w := w.alloc (.cells A e)) S.nx i.size 0 n n w.heap.size (.inr rfl) (upd_same _ _ _) (Nat.le_refl _) (by unfold maxLen; omega)
        (by simp only [bsize, heap_alloc_new, hAs]; simp)
      simpa using this
end
end Go.Proofs.YtfnkciboencifaaDoor

