/-
  A law for a region that draws its order, whose operations only read or make new memory (calls, loads, new blocks), before a tail whose order is forced.
  Each operation is shown once, in the order of the text, in every later world; the law says that then every order serves.
-/
import Derived.Below
import Derived.StillTail
import Derived.WalkSmall
set_option linter.all false
namespace Go.Proofs.YtfnkciboencifaaDoor.Elder
open Go.RowKit

/-- All that was there stays. -/
def Ext (w w' : World) : Prop := Below w.heap.size w w'
theorem Ext.refl (w : World) : Ext w w := Below.refl _ _
theorem Ext.trans {a b c : World} (h : Ext a b) (k : Ext b c) : Ext a c := Below.trans h (Below.mono k h.size)

section
variable {P : Program} {ops : Array Oper}

/-- The operation yields just c, and nothing that was there changes. -/
def detUpon (R : World → World → Prop) (w : World) (c : Value) : Result Next → Prop
  | .ok (.value v) w' => R w w' ∧ v = c
  | .ok .skip w' => R w w' ∧ undef = c
  | _ => False
def detRun (P : Program) (R : World → World → Prop) (o : Oper) (a : Act) (w : World) (c : Value) : Prop := detUpon R w c ((execOp a.eval o).run P w)
/-- The operation, or the function that it calls, yields some value of which F holds, and nothing that was there changes. -/
def genUpon (P : Program) (R : World → World → Prop) (w : World) (F : Value → World → Prop) : Result Next → Prop
  | .ok (.value v) w' => R w w' ∧ F v w'
  | .ok .skip w' => R w w' ∧ F undef w'
  | .ok (.enter f args) w' => Calls P f args w' (fun e w'' => ∃ v, e = .returned v ∧ R w w'' ∧ F v w'')
  | _ => False
def genRun (P : Program) (R : World → World → Prop) (o : Oper) (a : Act) (w : World) (F : Value → World → Prop) : Prop := genUpon P R w F ((execOp a.eval o).run P w)

def Facts (D : Nat → List Nat) (G : Nat → Option (Value → World → Prop)) (s : Nat → Value) (k : Nat) (K : List Nat) (w : World) : Prop :=
  ∀ j, j ∈ K → j ∈ D k → ∀ F, G j = some F → F (s j) w

theorem Facts.get {D : Nat → List Nat} {G : Nat → Option (Value → World → Prop)} {s : Nat → Value} {k : Nat} {K : List Nat} {w : World} (h : Facts D G s k K w) (j : Nat) {F : Value → World → Prop} (hG : G j = some F)
    (hK : K.contains j = true) (hD : (D k).contains j = true) : F (s j) w := h j (List.contains_iff_mem.1 hK) (List.contains_iff_mem.1 hD) F hG

/-- .. and how the value stands to those of the others that have come up. -/
def withY (G : Nat → Option (Value → World → Prop)) (Y : Nat → Nat → Value → Value → Prop) (k : Nat) (w : World) (F : Value → World → Prop) (v : Value) (w' : World) : Prop :=
  F v w' ∧ ∀ j Fj, j ≠ k → G j = some Fj → ∀ u, Fj u w → Y j k u v
def yTrue (_ _ : Nat) (_ _ : Value) : Prop := True

inductive RunG (P : Program) (ops : Array Oper) (D : Nat → List Nat) (G : Nat → Option (Value → World → Prop)) (Pre : Nat → World → Prop) (R : Nat → World → World → Prop) (Y : Nat → Nat → Value → Value → Prop) (s : Nat → Value) (fin : Act → List Nat → Prop) :
    List Oper → Nat → List Nat → Act → Prop where
  | done {k : Nat} {K : List Nat} {a : Act} : fin a K → RunG P ops D G Pre R Y s fin [] k K a
  | det {o : Oper} {rest : List Oper} {k : Nat} {K : List Nat} {a : Act} {c : Value} : Region.wanted o (yielded ops a.tmps) = true → G k = none →
      (∀ w, Pre k w → Facts D G s k K w → detRun P (R k) o a w c) → RunG P ops D G Pre R Y s fin rest (k + 1) K (a.put o.dst c) → RunG P ops D G Pre R Y s fin (o :: rest) k K a
  | genY {o : Oper} {rest : List Oper} {k : Nat} {K : List Nat} {a : Act} {F : Value → World → Prop} : Region.wanted o (yielded ops a.tmps) = true → G k = some F →
      (∀ w, Pre k w → Facts D G s k K w → genRun P (R k) o a w (withY G Y k w F)) → RunG P ops D G Pre R Y s fin rest (k + 1) (k :: K) (a.put o.dst (s k)) → RunG P ops D G Pre R Y s fin (o :: rest) k K a
  | skip {o : Oper} {rest : List Oper} {k : Nat} {K : List Nat} {a : Act} : Region.wanted o (yielded ops a.tmps) = false →
      RunG P ops D G Pre R Y s fin rest (k + 1) K (a.put o.dst undef) → RunG P ops D G Pre R Y s fin (o :: rest) k K a

theorem genRun_mono {R : World → World → Prop} {o : Oper} {a : Act} {w : World} {F F' : Value → World → Prop} (h : ∀ v w', F v w' → F' v w') (hr : genRun P R o a w F) : genRun P R o a w F' := by
  unfold genRun at *
  generalize (execOp a.eval o).run P w = r at *
  cases r with
  | halt x w' => simp only [genUpon] at hr
  | ok x w' =>
    cases x <;> simp only [genUpon] at hr ⊢
    · exact ⟨hr.1, h _ _ hr.2⟩
    · exact ⟨hr.1, h _ _ hr.2⟩
    · exact hr.mono fun e w'' ⟨v, h1, h2, h3⟩ => ⟨v, h1, h2, h _ _ h3⟩

theorem RunG.gen {D : Nat → List Nat} {G : Nat → Option (Value → World → Prop)} {Pre : Nat → World → Prop} {R : Nat → World → World → Prop} {s : Nat → Value} {fin : Act → List Nat → Prop}
    {o : Oper} {rest : List Oper} {k : Nat} {K : List Nat} {a : Act} {F : Value → World → Prop} (hw : Region.wanted o (yielded ops a.tmps) = true) (hG : G k = some F)
    (h : ∀ w, Pre k w → Facts D G s k K w → genRun P (R k) o a w F) (hr : RunG P ops D G Pre R yTrue s fin rest (k + 1) (k :: K) (a.put o.dst (s k))) : RunG P ops D G Pre R yTrue s fin (o :: rest) k K a :=
  .genY hw hG (fun w hP hF => genRun_mono (fun _ _ hf => ⟨hf, fun _ _ _ _ _ _ => trivial⟩) (h w hP hF)) hr

def dstAt (ops : Array Oper) (m : Nat) : Option Tmp := (ops[m]?).bind (·.dst)

def frames (ops : Array Oper) (a : Act) (vals : Nat → Value) : Nat → Act
  | 0 => a
  | m + 1 => (frames ops a vals m).put (dstAt ops m) (vals m)

theorem frames_congr (a : Act) {v u : Nat → Value} : ∀ m, (∀ j, j < m → v j = u j) → frames ops a v m = frames ops a u m
  | 0, _ => rfl
  | m + 1, h => by unfold frames; rw [frames_congr a m (fun j hj => h j (by omega)), h m (by omega)]

def Live (ops : Array Oper) (G : Nat → Option (Value → World → Prop)) (a0 : Act) (vals : Nat → Value) (j : Nat) : Prop :=
  (∃ F, G j = some F) ∧ ∃ o, ops[j]? = some o ∧ Region.wanted o (yielded ops (frames ops a0 vals j).tmps) = true

def FactsL (ops : Array Oper) (D : Nat → List Nat) (G : Nat → Option (Value → World → Prop)) (a0 : Act) (s vals : Nat → Value) (m : Nat) (w : World) : Prop :=
  ∀ j, j ∈ D m → Live ops G a0 vals j → ∀ F, G j = some F → F (s j) w

def OkAt (P : Program) (ops : Array Oper) (D : Nat → List Nat) (G : Nat → Option (Value → World → Prop)) (Pre : Nat → World → Prop) (R : Nat → World → World → Prop) (Y : Nat → Nat → Value → Value → Prop) (a0 : Act) (s vals : Nat → Value) (m : Nat) : Prop :=
  ∃ o, ops[m]? = some o ∧
   ((Region.wanted o (yielded ops (frames ops a0 vals m).tmps) = true ∧ G m = none ∧ ∀ w, Pre m w → FactsL ops D G a0 s vals m w → detRun P (R m) o (frames ops a0 vals m) w (vals m)) ∨
    (Region.wanted o (yielded ops (frames ops a0 vals m).tmps) = true ∧ vals m = s m ∧ ∃ F, G m = some F ∧ ∀ w, Pre m w → FactsL ops D G a0 s vals m w → genRun P (R m) o (frames ops a0 vals m) w (withY G Y m w F)) ∨
    (Region.wanted o (yielded ops (frames ops a0 vals m).tmps) = false ∧ vals m = undef))

theorem Live.congr {G : Nat → Option (Value → World → Prop)} {a0 : Act} {v u : Nat → Value} {j : Nat} (h : ∀ m, m < j → v m = u m) (hl : Live ops G a0 v j) : Live ops G a0 u j := by
  obtain ⟨h1, o, h2, h3⟩ := hl
  exact ⟨h1, o, h2, by rw [← frames_congr a0 j h]; exact h3⟩

theorem OkAt.congr {D : Nat → List Nat} {G : Nat → Option (Value → World → Prop)} {Pre : Nat → World → Prop} {R : Nat → World → World → Prop} {Y : Nat → Nat → Value → Value → Prop} {a0 : Act} {s v u : Nat → Value} {m : Nat} (hD : ∀ j, j ∈ D m → j < m) (h : ∀ j, j ≤ m → v j = u j)
    (hok : OkAt P ops D G Pre R Y a0 s v m) : OkAt P ops D G Pre R Y a0 s u m := by
  obtain ⟨o, ho, hc⟩ := hok
  have hf := frames_congr (ops := ops) a0 m (fun j hj => h j (by omega))
  have hF : ∀ w, FactsL ops D G a0 s u m w → FactsL ops D G a0 s v m w := fun w hw j hj hl => hw j hj (hl.congr (fun i hi => h i (by have := hD j hj; omega)))
  refine ⟨o, ho, ?_⟩
  rw [← hf, ← h m (Nat.le_refl _)]
  rcases hc with ⟨h1, h2, h3⟩ | ⟨h1, h2, F, h3, h4⟩ | ⟨h1, h2⟩
  · exact .inl ⟨h1, h2, fun w hE hw => h3 w hE (hF w hw)⟩
  · exact .inr (.inl ⟨h1, h2, F, h3, fun w hE hw => h4 w hE (hF w hw)⟩)
  · exact .inr (.inr ⟨h1, h2⟩)

theorem RunG.extract {D : Nat → List Nat} {G : Nat → Option (Value → World → Prop)} {Pre : Nat → World → Prop} {R : Nat → World → World → Prop} {Y : Nat → Nat → Value → Value → Prop} {s : Nat → Value} {fin : Act → List Nat → Prop} {a0 : Act}
    {l : List Oper} {k : Nat} {K : List Nat} {a : Act} (h : RunG P ops D G Pre R Y s fin l k K a) :
    ∀ (v0 : Nat → Value), frames ops a0 v0 k = a → (∀ j, j ∈ K → j < k ∧ Live ops G a0 v0 j) → (∀ j, j < l.length → l[j]? = ops[k + j]?) →
    ∃ vals : Nat → Value, (∀ m, m < k → vals m = v0 m) ∧ (∀ m, k ≤ m → m < k + l.length → OkAt P ops D G Pre R Y a0 s vals m) ∧
      ∃ K', (∀ j, j ∈ K' → j < k + l.length ∧ Live ops G a0 vals j) ∧ fin (frames ops a0 vals (k + l.length)) K' := by
  induction h with
  | done hf =>
    intro v0 ha hK _
    exact ⟨v0, fun _ _ => rfl, fun m h1 h2 => by simp at h2; omega, _, hK, by simp only [List.length_nil, Nat.add_zero]; rw [ha]; exact hf⟩
  | @det o rest k K a c hw hg hr _ ih =>
    intro v0 ha hK hl
    have ho : ops[k]? = some o := by simpa using (hl 0 (by simp)).symm
    let v1 : Nat → Value := fun m => if m = k then c else v0 m
    have e1 : ∀ m, m < k → v1 m = v0 m := fun m hm => if_neg (by omega)
    have e2 : v1 k = c := if_pos rfl
    have hf1 : frames ops a0 v1 k = a := by rw [frames_congr a0 k e1, ha]
    obtain ⟨vals, g1, g2, K', g3, g4⟩ := ih v1 (by unfold frames; rw [hf1, e2]; simp [dstAt, ho])
      (fun j hj => ⟨by have := (hK j hj).1; omega, (hK j hj).2.congr (fun m hm => (e1 m (by have := (hK j hj).1; omega)).symm)⟩)
      (fun j hj => by have := hl (j + 1) (by simpa using hj); simpa [Nat.add_assoc, Nat.add_comm 1 j] using this)
    refine ⟨vals, fun m hm => by rw [g1 m (by omega), e1 m hm], fun m h1 h2 => ?_, K', fun j hj => ⟨by have := (g3 j hj).1; simp only [List.length_cons]; omega, (g3 j hj).2⟩, by
      rw [show k + (o :: rest).length = k + 1 + rest.length by simp only [List.length_cons]; omega]; exact g4⟩
    rcases Nat.lt_or_ge k m with hm | hm
    · exact g2 m (by omega) (by simp only [List.length_cons] at h2; omega)
    · have hmk : m = k := by omega
      subst hmk
      have hfv : frames ops a0 vals m = a := by rw [frames_congr a0 m (fun j hj => by rw [g1 j (by omega), e1 j hj]), ha]
      refine ⟨o, ho, .inl ⟨by rw [hfv]; exact hw, hg, fun w hE hF => ?_⟩⟩
      rw [hfv, g1 m (by omega), e2]
      exact hr w hE (fun j hj hjd F hGF => hF j hjd ((hK j hj).2.congr (fun i hi => by rw [g1 i (by have := (hK j hj).1; omega), e1 i (by have := (hK j hj).1; omega)])) F hGF)
  | @genY o rest k K a F hw hg hr _ ih =>
    intro v0 ha hK hl
    have ho : ops[k]? = some o := by simpa using (hl 0 (by simp)).symm
    let v1 : Nat → Value := fun m => if m = k then s k else v0 m
    have e1 : ∀ m, m < k → v1 m = v0 m := fun m hm => if_neg (by omega)
    have e2 : v1 k = s k := if_pos rfl
    have hf1 : frames ops a0 v1 k = a := by rw [frames_congr a0 k e1, ha]
    obtain ⟨vals, g1, g2, K', g3, g4⟩ := ih v1 (by unfold frames; rw [hf1, e2]; simp [dstAt, ho])
      (fun j hj => by
        rcases List.mem_cons.1 hj with rfl | hj
        · exact ⟨by omega, ⟨_, hg⟩, o, ho, by rw [hf1]; exact hw⟩
        · exact ⟨by have := (hK j hj).1; omega, (hK j hj).2.congr (fun m hm => (e1 m (by have := (hK j hj).1; omega)).symm)⟩)
      (fun j hj => by have := hl (j + 1) (by simpa using hj); simpa [Nat.add_assoc, Nat.add_comm 1 j] using this)
    refine ⟨vals, fun m hm => by rw [g1 m (by omega), e1 m hm], fun m h1 h2 => ?_, K', fun j hj => ⟨by have := (g3 j hj).1; simp only [List.length_cons]; omega, (g3 j hj).2⟩, by
      rw [show k + (o :: rest).length = k + 1 + rest.length by simp only [List.length_cons]; omega]; exact g4⟩
    rcases Nat.lt_or_ge k m with hm | hm
    · exact g2 m (by omega) (by simp only [List.length_cons] at h2; omega)
    · have hmk : m = k := by omega
      subst hmk
      have hfv : frames ops a0 vals m = a := by rw [frames_congr a0 m (fun j hj => by rw [g1 j (by omega), e1 j hj]), ha]
      refine ⟨o, ho, .inr (.inl ⟨by rw [hfv]; exact hw, by rw [g1 m (by omega), e2], F, hg, fun w hE hF => ?_⟩)⟩
      rw [hfv]
      exact hr w hE (fun j hj hjd F hGF => hF j hjd ((hK j hj).2.congr (fun i hi => by rw [g1 i (by have := (hK j hj).1; omega), e1 i (by have := (hK j hj).1; omega)])) F hGF)
  | @skip o rest k K a hw _ ih =>
    intro v0 ha hK hl
    have ho : ops[k]? = some o := by simpa using (hl 0 (by simp)).symm
    let v1 : Nat → Value := fun m => if m = k then undef else v0 m
    have e1 : ∀ m, m < k → v1 m = v0 m := fun m hm => if_neg (by omega)
    have e2 : v1 k = undef := if_pos rfl
    have hf1 : frames ops a0 v1 k = a := by rw [frames_congr a0 k e1, ha]
    obtain ⟨vals, g1, g2, K', g3, g4⟩ := ih v1 (by unfold frames; rw [hf1, e2]; simp [dstAt, ho])
      (fun j hj => ⟨by have := (hK j hj).1; omega, (hK j hj).2.congr (fun m hm => (e1 m (by have := (hK j hj).1; omega)).symm)⟩)
      (fun j hj => by have := hl (j + 1) (by simpa using hj); simpa [Nat.add_assoc, Nat.add_comm 1 j] using this)
    refine ⟨vals, fun m hm => by rw [g1 m (by omega), e1 m hm], fun m h1 h2 => ?_, K', fun j hj => ⟨by have := (g3 j hj).1; simp only [List.length_cons]; omega, (g3 j hj).2⟩, by
      rw [show k + (o :: rest).length = k + 1 + rest.length by simp only [List.length_cons]; omega]; exact g4⟩
    rcases Nat.lt_or_ge k m with hm | hm
    · exact g2 m (by omega) (by simp only [List.length_cons] at h2; omega)
    · have hmk : m = k := by omega
      subst hmk
      have hfv : frames ops a0 vals m = a := by rw [frames_congr a0 m (fun j hj => by rw [g1 j (by omega), e1 j hj]), ha]
      exact ⟨o, ho, .inr (.inr ⟨by rw [hfv]; exact hw, by rw [g1 m (by omega), e2]⟩)⟩

def Agrees (ops : Array Oper) (a0 : Act) (n : Nat) (L : Nat → Prop) (vals : Nat → Value) (a : Act) : Prop :=
  a.defers = a0.defers ∧ a.tmps.size = a0.tmps.size ∧ (∀ j, j < n → L j → ∀ t, dstAt ops j = some t → t < a0.tmps.size → a.tmps[t]? = some (vals j)) ∧
    ∀ t, (∀ j, j < n → L j → dstAt ops j ≠ some t) → a.tmps[t]? = a0.tmps[t]?

structure GrowOk (ops : Array Oper) (D : Nat → List Nat) (n : Nat) : Prop where
  size : n ≤ ops.size
  edge : ∀ m o, m < n → ops[m]? = some o → ∀ e ∈ o.after, Region.binds .any e = true → e.on < m
  sub : ∀ m o, ops[m]? = some o → ∀ j, j ∈ D m → ∃ e ∈ o.after, Region.binds .any e = true ∧ (e.on = j ∨ j ∈ D e.on)
  reads : ∀ i j o, i < j → j < n → ops[j]? = some o → ∀ t, dstAt ops i = some t → t ∈ o.looksAt ops → i ∈ D j
  over : ∀ i j o, i < j → j < n → ops[i]? = some o → ∀ t, dstAt ops j = some t → t ∈ o.looksAt ops → i ∈ D j
  apart : ∀ i j t, i < n → j < n → dstAt ops i = some t → dstAt ops j = some t → i = j
  tail : ∀ t, n ≤ t → t < ops.size → ∀ i, i < n → i ∈ D t
  noSel : Region.noSelect ops = true
  seq : Region.seqB .any ops (ops.size - n) n (Array.replicate n true ++ Array.replicate (ops.size - n) false) = true

theorem Act.put_get (a : Act) (d : Option Tmp) (v : Value) (t : Tmp) : (a.put d v).tmps[t]? = if d = some t ∧ t < a.tmps.size then some v else a.tmps[t]? := by
  cases d with
  | none => simp [Act.put]
  | some d =>
    simp only [Act.put, Array.getElem?_setIfInBounds, Option.some.injEq]
    by_cases h : d = t
    · subst h
      by_cases h2 : d < a.tmps.size <;> simp [h2]
    · simp [h]
theorem Act.put_size (a : Act) (d : Option Tmp) (v : Value) : (a.put d v).tmps.size = a.tmps.size := by cases d <;> simp [Act.put]
theorem Act.put_def (a : Act) (d : Option Tmp) (v : Value) : (a.put d v).defers = a.defers := by cases d <;> simp [Act.put]

theorem Agrees.put {a0 : Act} {n : Nat} {D : Nat → List Nat} (ok : GrowOk ops D n) {L : Nat → Prop} {vals : Nat → Value} {a : Act} (h : Agrees ops a0 n L vals a) {i : Nat} (hi : i < n) (_hL : ¬ L i) {v : Value} (hv : vals i = v) :
    Agrees ops a0 n (fun j => L j ∨ j = i) vals (a.put (dstAt ops i) v) := by
  obtain ⟨h1, h2, h3, h4⟩ := h
  refine ⟨by rw [Act.put_def, h1], by rw [Act.put_size, h2], fun j hj hLj t ht hts => ?_, fun t ht => ?_⟩
  · rw [Act.put_get]
    by_cases hd : dstAt ops i = some t
    · have : j = i := ok.apart j i t hj hi ht hd
      subst this
      rw [if_pos ⟨hd, by rw [h2]; exact hts⟩, hv]
    · rw [if_neg (fun h => hd h.1)]
      rcases hLj with hLj | rfl
      · exact h3 j hj hLj t ht hts
      · exact absurd ht hd
  · rw [Act.put_get, if_neg (fun h => ht i hi (.inr rfl) h.1)]
    exact h4 t (fun j hj hLj => ht j hj (.inl hLj))

theorem count_off {p q : Nat → Bool} {i : Nat} (hp : p i = true) (hq : q i = false) (he : ∀ j, j ≠ i → q j = p j) : ∀ n, i < n → (List.range n).countP q + 1 = (List.range n).countP p
  | 0, h => by omega
  | n + 1, h => by
    rw [List.range_succ, List.countP_append, List.countP_append]
    by_cases hn : i = n
    · subst hn
      have : (List.range i).countP q = (List.range i).countP p := List.countP_congr fun j hj => by rw [he j (by have := List.mem_range.1 hj; omega)]
      simp [hp, hq, this]
    · have := count_off hp hq he n (by omega)
      have h2 : [n].countP q = [n].countP p := by simp [List.countP_cons, he n (Ne.symm hn)]
      omega

def growFin (P : Program) (ops : Array Oper) (G : Nat → Option (Value → World → Prop)) (Fin : World → Prop) (Y : Nat → Nat → Value → Value → Prop) (Q : Exit → Act → World → Prop) (tail : List Oper) (s : Nat → Value) (a : Act) (K : List Nat) : Prop :=
  ∀ w, Fin w → (∀ j, j ∈ K → ∀ F, G j = some F → F (s j) w) → (∀ j k, j ∈ K → k ∈ K → j ≠ k → Y j k (s j) (s k)) → wpList P ops Q tail a w

structure GrowInv (P : Program) (ops : Array Oper) (D : Nat → List Nat) (G : Nat → Option (Value → World → Prop)) (Pre : Nat → World → Prop) (R : Nat → World → World → Prop) (Y : Nat → Nat → Value → Value → Prop) (Q : Exit → Act → World → Prop) (tail : List Oper) (a0 : Act) (n : Nat)
    (listed : Array Bool) (a : Act) (w : World) (s vals : Nat → Value) : Prop where
  size : listed.size = ops.size
  tail0 : ∀ t, n ≤ t → t < ops.size → listed.getD t false = false
  closed : ∀ m, listed.getD m false = true → ∀ j, j ∈ D m → listed.getD j false = true
  ok : ∀ m, m < n → OkAt P ops D G Pre R Y a0 s vals m
  fin : ∃ K', (∀ j, j ∈ K' → j < n ∧ Live ops G a0 vals j) ∧ growFin P ops G (Pre n) Y Q tail s (frames ops a0 vals n) K'
  agrees : Agrees ops a0 n (fun j => listed.getD j false = true) vals a
  pre : ∀ j, (listed.getD j false = false ∨ G j = none) → Pre j w
  facts : ∀ j, j < n → listed.getD j false = true → Live ops G a0 vals j → ∀ F, G j = some F → F (s j) w
  pairs : ∀ j k, j < n → k < n → listed.getD j false = true → listed.getD k false = true → Live ops G a0 vals j → Live ops G a0 vals k → j ≠ k → Y j k (s j) (s k)

theorem getD_set_iff {listed : Array Bool} {i j : Nat} (hi : i < listed.size) : ((listed.setIfInBounds i true).getD j false = true) = (listed.getD j false = true ∨ j = i) := by
  apply propext
  by_cases h : i = j
  · subst h; simp [hi]
  · rw [getD_set_ne false h]; constructor
    · exact .inl
    · rintro (h2 | h2)
      · exact h2
      · exact absurd h2.symm h

theorem getD_true_false {listed : Array Bool} {j : Nat} (hj : j < listed.size) : listed.getD j true = listed.getD j false := by simp [hj]

/-- The certificate: of each operation all that must have come up before it. -/
def growD (Dl : List (List Nat)) (m : Nat) : List Nat := Dl.getD m []
def growDeps (ops : List Oper) : List (List Nat) :=
  ops.foldl (init := []) fun acc o => acc ++ [(o.after.toList.filter (Region.binds .any ·)).foldl (init := []) fun l e => (l ++ e.on :: acc.getD e.on []).eraseDups]
def growB (ops : Array Oper) (Dl : List (List Nat)) (n : Nat) : Bool :=
  decide (n ≤ ops.size) && Region.noSelect ops && Region.seqB .any ops (ops.size - n) n (Array.replicate n true ++ Array.replicate (ops.size - n) false) &&
  (decide (Dl.length ≤ ops.size) && ((List.range ops.size).all fun m =>
    (match ops[m]? with
      | none => true
      | some o => (decide (n ≤ m) || o.after.all fun e => !Region.binds .any e || decide (e.on < m)) &&
        ((growD Dl m).all fun j => decide (j < m) && o.after.any fun e => Region.binds .any e && (e.on == j || (growD Dl e.on).contains j)) &&
        (decide (m < n) || (List.range n).all fun i => (growD Dl m).contains i)))) &&
  ((List.range n).all fun j => (List.range j).all fun i =>
    match ops[i]?, ops[j]? with
    | some oi, some oj =>
      (match oi.dst with | some t => (!(oj.looksAt ops).contains t || (growD Dl j).contains i) && oj.dst != some t | none => true) &&
      (match oj.dst with | some t => !(oi.looksAt ops).contains t || (growD Dl j).contains i | none => true)
    | _, _ => true)

theorem growB_ok {l : List Oper} {Dl : List (List Nat)} {n : Nat} (h : growB l.toArray Dl n = true) : GrowOk l.toArray (growD Dl) n ∧ ∀ m j, j ∈ growD Dl m → j < m := by
  unfold growB at h
  simp only [Bool.and_eq_true, decide_eq_true_eq, List.all_eq_true, List.mem_range] at h
  obtain ⟨⟨⟨⟨h1, h2⟩, h3⟩, h4, h5⟩, h6⟩ := h
  have hlt : ∀ m j, j ∈ growD Dl m → j < m := fun m j hj => by
    have hm : m < l.toArray.size := by
      rcases Nat.lt_or_ge m Dl.length with h | h
      · omega
      · have : growD Dl m = [] := by unfold growD; simp [h]
        rw [this] at hj; cases hj
    have := h5 m hm
    rw [Array.getElem?_eq_getElem hm] at this
    simp only [Bool.and_eq_true, List.all_eq_true, decide_eq_true_eq] at this
    exact (this.1.2 j hj).1
  have hpair : ∀ i j oi oj, i < j → j < n → l.toArray[i]? = some oi → l.toArray[j]? = some oj →
      (∀ t, oi.dst = some t → (t ∈ oj.looksAt l.toArray → i ∈ growD Dl j) ∧ oj.dst ≠ some t) ∧ (∀ t, oj.dst = some t → t ∈ oi.looksAt l.toArray → i ∈ growD Dl j) := fun i j oi oj hij hj hoi hoj => by
    have := h6 j hj i hij
    rw [hoi, hoj] at this
    simp only [Bool.and_eq_true] at this
    constructor
    · intro t ht
      rw [ht] at this
      have h7 := this.1
      simp only [Bool.and_eq_true, Bool.or_eq_true, Bool.not_eq_true', List.contains_eq_mem, decide_eq_true_eq, decide_eq_false_iff_not, bne_iff_ne] at h7
      exact ⟨fun hx => h7.1.resolve_left (fun h => h hx), h7.2⟩
    · intro t ht hx
      rw [ht] at this
      have h7 := this.2
      simp only [Bool.or_eq_true, Bool.not_eq_true', List.contains_eq_mem, decide_eq_true_eq, decide_eq_false_iff_not] at h7
      exact h7.resolve_left (fun h => h hx)
  have hat : ∀ i t, dstAt l.toArray i = some t → ∃ o, l.toArray[i]? = some o ∧ o.dst = some t := fun i t h => by
    unfold dstAt at h
    cases ho : l.toArray[i]? with
    | none => rw [ho] at h; cases h
    | some o => rw [ho] at h; exact ⟨o, rfl, h⟩
  refine ⟨⟨h1, ?_, ?_, ?_, ?_, ?_, ?_, h2, h3⟩, hlt⟩
  · intro m o hm ho e he hb
    have := h5 m (by omega)
    rw [ho] at this
    simp only [Bool.and_eq_true, Bool.or_eq_true, decide_eq_true_eq] at this
    have h7 := this.1.1.resolve_left (by omega)
    have h8 := Array.all_eq_true_iff_forall_mem.1 h7 e he
    simpa [hb] using h8
  · intro m o ho j hj
    have hm : m < l.toArray.size := (Array.getElem?_eq_some_iff.1 ho).1
    have := h5 m hm
    rw [ho] at this
    simp only [Bool.and_eq_true, List.all_eq_true, decide_eq_true_eq] at this
    have h7 := (this.1.2 j hj).2
    obtain ⟨e, he, h8⟩ := Array.any_eq_true'.1 h7
    simp only [Bool.and_eq_true, Bool.or_eq_true, beq_iff_eq, List.contains_eq_mem, decide_eq_true_eq] at h8
    exact ⟨e, he, h8.1, h8.2⟩
  · intro i j o hij hj ho t ht hx
    obtain ⟨oi, hoi, hdi⟩ := hat i t ht
    exact ((hpair i j oi o hij hj hoi ho).1 t hdi).1 hx
  · intro i j o hij hj ho t ht hx
    obtain ⟨oj, hoj, hdj⟩ := hat j t ht
    exact (hpair i j o oj hij hj ho hoj).2 t hdj hx
  · intro i j t hi hj hti htj
    obtain ⟨oi, hoi, hdi⟩ := hat i t hti
    obtain ⟨oj, hoj, hdj⟩ := hat j t htj
    rcases Nat.lt_trichotomy i j with h | h | h
    · exact absurd hdj ((hpair i j oi oj h hj hoi hoj).1 t hdi).2
    · exact h
    · exact absurd hdi ((hpair j i oj oi h hi hoj hoi).1 t hdj).2
  · intro t ht hts i hi
    have := h5 t hts
    rw [Array.getElem?_eq_getElem hts] at this
    simp only [Bool.and_eq_true, Bool.or_eq_true, decide_eq_true_eq, List.all_eq_true, List.mem_range, List.contains_eq_mem] at this
    exact (this.2.resolve_left (by omega)) i hi

def GrowMono (L : List (Nat × (Value → World → Prop))) : Prop := ∀ p, p ∈ L → ∀ v w w', Ext w w' → p.2 v w → p.2 v w'
theorem GrowMono.nil : GrowMono [] := fun _ h => by cases h
theorem GrowMono.cons {k : Nat} {F : Value → World → Prop} {L : List (Nat × (Value → World → Prop))} (h : ∀ v w w', Ext w w' → F v w → F v w') (hL : GrowMono L) : GrowMono ((k, F) :: L) := fun p hp => by
  rcases List.mem_cons.1 hp with rfl | hp
  · exact h
  · exact hL p hp
end
end Go.Proofs.YtfnkciboencifaaDoor.Elder

