/-
  A law for a region that draws its order, whose operations only read or make new memory (calls, loads, new blocks), before a tail whose order is forced.
  Each operation is shown once, in the order of the text, in every later world; the law says that then every order serves.
-/
import Derived.Below
import Derived.StillTail
import Derived.WalkSmall
set_option linter.all false
namespace Go.Proofs.YtfnkciboencifaaDoor.Elder
open Go.RowKit
def Ext (w w' : World) : Prop := Below w.heap.size w w'
theorem Ext.refl (w : World) : Ext w w := Below.refl _ _
theorem Ext.trans {a b c : World} (h : Ext a b) (k : Ext b c) : Ext a c := Below.trans h (Below.mono k h.size)
section
variable {P : Program} {ops : Array Oper}
def detUpon (R : World → World → Prop) (w : World) (c : Value) : Result Next → Prop
  | .ok (.value v) w' => R w w' ∧ v = c
  | .ok .skip w' => R w w' ∧ undef = c
  | _ => False
def detRun (P : Program) (R : World → World → Prop) (o : Oper) (a : Act) (w : World) (c : Value) : Prop := detUpon R w c ((execOp a.eval o).run P w)
def genUpon (P : Program) (R : World → World → Prop) (w : World) (F : Value → World → Prop) : Result Next → Prop
  | .ok (.value v) w' => R w w' ∧ F v w'
  | .ok .skip w' => R w w' ∧ F undef w'
  | .ok (.enter f args) w' => Calls P f args w' (fun e w'' => ∃ v, e = .returned v ∧ R w w'' ∧ F v w'')
  | _ => False
def genRun (P : Program) (R : World → World → Prop) (o : Oper) (a : Act) (w : World) (F : Value → World → Prop) : Prop := genUpon P R w F ((execOp a.eval o).run P w)
def Facts (D : Nat → List Nat) (G : Nat → Option (Value → World → Prop)) (s : Nat → Value) (k : Nat) (K : List Nat) (w : World) : Prop :=
  ∀ j, j ∈ K → j ∈ D k → ∀ F, G j = some F → F (s j) w
theorem Facts.get {D : Nat → List Nat} {G : Nat → Option (Value → World → Prop)} {s : Nat → Value} {k : Nat} {K : List Nat} {w : World} (h : Facts D G s k K w) (j : Nat) {F : Value → World → Prop} (hG : G j = some F)
    (hK : K.contains j = true) (hD : (D k).contains j = true) : F (s j) w := h j (List.contains_iff_mem.1 hK) (List.contains_iff_mem.1 hD) F hG
def withY (G : Nat → Option (Value → World → Prop)) (Y : Nat → Nat → Value → Value → Prop) (k : Nat) (w : World) (F : Value → World → Prop) (v : Value) (w' : World) : Prop :=
  F v w' ∧ ∀ j Fj, j ≠ k → G j = some Fj → ∀ u, Fj u w → Y j k u v
def yTrue (_ _ : Nat) (_ _ : Value) : Prop := True
inductive RunG (P : Program) (ops : Array Oper) (D : Nat → List Nat) (G : Nat → Option (Value → World → Prop)) (Pre : Nat → World → Prop) (R : Nat → World → World → Prop) (Y : Nat → Nat → Value → Value → Prop) (s : Nat → Value) (fin : Act → List Nat → Prop) :
    List Oper → Nat → List Nat → Act → Prop where
  | done {k : Nat} {K : List Nat} {a : Act} : fin a K → RunG P ops D G Pre R Y s fin [] k K a
  | det {o : Oper} {rest : List Oper} {k : Nat} {K : List Nat} {a : Act} {c : Value} : Region.wanted o (yielded ops a.tmps) = true → G k = none →
      (∀ w, Pre k w → Facts D G s k K w → detRun P (R k) o a w c) → RunG P ops D G Pre R Y s fin rest (k + 1) K (a.put o.dst c) → RunG P ops D G Pre R Y s fin (o :: rest) k K a
  | genY {o : Oper} {rest : List Oper} {k : Nat} {K : List Nat} {a : Act} {F : Value → World → Prop} : Region.wanted o (yielded ops a.tmps) = true → G k = some F →
      (∀ w, Pre k w → Facts D G s k K w → genRun P (R k) o a w (withY G Y k w F)) → RunG P ops D G Pre R Y s fin rest (k + 1) (k :: K) (a.put o.dst (s k)) → RunG P ops D G Pre R Y s fin (o :: rest) k K a
  | skip {o : Oper} {rest : List Oper} {k : Nat} {K : List Nat} {a : Act} : Region.wanted o (yielded ops a.tmps) = false →
      RunG P ops D G Pre R Y s fin rest (k + 1) K (a.put o.dst undef) → RunG P ops D G Pre R Y s fin (o :: rest) k K a
theorem genRun_mono {R : World → World → Prop} {o : Oper} {a : Act} {w : World} {F F' : Value → World → Prop} (h : ∀ v w', F v w' → F' v w') (hr : genRun P R o a w F) : genRun P R o a w F' := by
  unfold genRun at *
  generalize (execOp a.eval o).run P w = r at *
  cases r with
  | halt x w' => simp only [genUpon] at hr
  | ok x w' =>
    cases x <;> simp only [genUpon] at hr ⊢
    · exact ⟨hr.1, h _ _ hr.2⟩
    · exact ⟨hr.1, h _ _ hr.2⟩
    · exact hr.mono fun e w'' ⟨v, h1, h2, h3⟩ => ⟨v, h1, h2, h _ _ h3⟩
theorem RunG.gen {D : Nat → List Nat} {G : Nat → Option (Value → World → Prop)} {Pre : Nat → World → Prop} {R : Nat → World → World → Prop} {s : Nat → Value} {fin : Act → List Nat → Prop}
    {o : Oper} {rest : List Oper} {k : Nat} {K : List Nat} {a : Act} {F : Value → World → Prop} (hw : Region.wanted o (yielded ops a.tmps) = true) (hG : G k = some F)
    (h : ∀ w, Pre k w → Facts D G s k K w → genRun P (R k) o a w F) (hr : RunG P ops D G Pre R yTrue s fin rest (k + 1) (k :: K) (a.put o.dst (s k))) : RunG P ops D G Pre R yTrue s fin (o :: rest) k K a :=
  .genY hw hG (fun w hP hF => genRun_mono (fun _ _ hf => ⟨hf, fun _ _ _ _ _ _ => trivial⟩) (h w hP hF)) hr
def dstAt (ops : Array Oper) (m : Nat) : Option Tmp := (ops[m]?).bind (·.dst)
def frames (ops : Array Oper) (a : Act) (vals : Nat → Value) : Nat → Act
  | 0 => a
  | m + 1 => (frames ops a vals m).put (dstAt ops m) (vals m)
theorem frames_congr (a : Act) {v u : Nat → Value} : ∀ m, (∀ j, j < m → v j = u j) → frames ops a v m = frames ops a u m
  | 0, _ => rfl
  | m + 1, h => by unfold frames; rw [frames_congr a m (fun j hj => h j (by omega)), h m (by omega)]
def Live (ops : Array Oper) (G : Nat → Option (Value → World → Prop)) (a0 : Act) (vals : Nat → Value) (j : Nat) : Prop :=
  (∃ F, G j = some F) ∧ ∃ o, ops[j]? = some o ∧ Region.wanted o (yielded ops (frames ops a0 vals j).tmps) = true
def FactsL (ops : Array Oper) (D : Nat → List Nat) (G : Nat → Option (Value → World → Prop)) (a0 : Act) (s vals : Nat → Value) (m : Nat) (w : World) : Prop :=
  ∀ j, j ∈ D m → Live ops G a0 vals j → ∀ F, G j = some F → F (s j) w
def OkAt (P : Program) (ops : Array Oper) (D : Nat → List Nat) (G : Nat → Option (Value → World → Prop)) (Pre : Nat → World → Prop) (R : Nat → World → World → Prop) (Y : Nat → Nat → Value → Value → Prop) (a0 : Act) (s vals : Nat → Value) (m : Nat) : Prop :=
  ∃ o, ops[m]? = some o ∧
   ((Region.wanted o (yielded ops (frames ops a0 vals m).tmps) = true ∧ G m = none ∧ ∀ w, Pre m w → FactsL ops D G a0 s vals m w → detRun P (R m) o (frames ops a0 vals m) w (vals m)) ∨
    (Region.wanted o (yielded ops (frames ops a0 vals m).tmps) = true ∧ vals m = s m ∧ ∃ F, G m = some F ∧ ∀ w, Pre m w → FactsL ops D G a0 s vals m w → genRun P (R m) o (frames ops a0 vals m) w (withY G Y m w F)) ∨
    (Region.wanted o (yielded ops (frames ops a0 vals m).tmps) = false ∧ vals m = undef))
theorem Live.congr {G : Nat → Option (Value → World → Prop)} {a0 : Act} {v u : Nat → Value} {j : Nat} (h : ∀ m, m < j → v m = u m) (hl : Live ops G a0 v j) : Live ops G a0 u j := by
  obtain ⟨h1, o, h2, h3⟩ := hl
  exact ⟨h1, o, h2, by rw [← frames_congr a0 j h]; exact h3⟩
theorem OkAt.congr {D : Nat → List Nat} {G : Nat → Option (Value → World → Prop)} {Pre : Nat → World → Prop} {R : Nat → World → World → Prop} {Y : Nat → Nat → Value → Value → Prop} {a0 : Act} {s v u : Nat → Value} {m : Nat} (hD : ∀ j, j ∈ D m → j < m) (h : ∀ j, j ≤ m → v j = u j)
    (hok : OkAt P ops D G Pre R Y a0 s v m) : OkAt P ops D G Pre R Y a0 s u m := by
  obtain ⟨o, ho, hc⟩ := hok
  have hf := frames_congr (ops := ops) a0 m (fun j hj => h j (by omega))
  have hF : ∀ w, FactsL ops D G a0 s u m w → FactsL ops D G a0 s v m w := fun w hw j hj hl => hw j hj (hl.congr (fun i hi => h i (by have := hD j hj; omega)))
  refine ⟨o, ho, ?_⟩
  rw [← hf, ← h m (Nat.le_refl _)]
  rcases hc with ⟨h1, h2, h3⟩ | ⟨h1, h2, F, h3, h4⟩ | ⟨h1, h2⟩
  · exact .inl ⟨h1, h2, fun w hE hw => h3 w hE (hF w hw)⟩
  · exact .inr (.inl ⟨h1, h2, F, h3, fun w hE hw => h4 w hE (hF w hw)⟩)
  · exact .inr (.inr ⟨h1, h2⟩)
theorem RunG.extract {D : Nat → List Nat} {G : Nat → Option (Value → World → Prop)} {Pre : Nat → World → Prop} {R : Nat → World → World → Prop} {Y : Nat → Nat → Value → Value → Prop} {s : Nat → Value} {fin : Act → List Nat → Prop} {a0 : Act}
    {l : List Oper} {k : Nat} {K : List Nat} {a : Act} (h : RunG P ops D G Pre R Y s fin l k K a) :
    ∀ (v0 : Nat → Value), frames ops a0 v0 k = a → (∀ j, j ∈ K → j < k ∧ Live ops G a0 v0 j) → (∀ j, j < l.length → l[j]? = ops[k + j]?) →
    ∃ vals : Nat → Value, (∀ m, m < k → vals m = v0 m) ∧ (∀ m, k ≤ m → m < k + l.length → OkAt P ops D G Pre R Y a0 s vals m) ∧
      ∃ K', (∀ j, j ∈ K' → j < k + l.length ∧ Live ops G a0 vals j) ∧ fin (frames ops a0 vals (k + l.length)) K' := by
  induction h with
  | done hf =>
    intro v0 ha hK _
    exact ⟨v0, fun _ _ => rfl, fun m h1 h2 => by simp at h2; omega, _, hK, by simp only [List.length_nil, Nat.add_zero]; rw [ha]; exact hf⟩
  | @det o rest k K a c hw hg hr _ ih =>
    intro v0 ha hK hl
    have ho : ops[k]? = some o := by simpa using (hl 0 (by simp)).symm
    let v1 : Nat → Value := fun m => if m = k then c else v0 m
    have e1 : ∀ m, m < k → v1 m = v0 m := fun m hm => if_neg (by omega)
    have e2 : v1 k = c := if_pos rfl
    have hf1 : frames ops a0 v1 k = a := by rw [frames_congr a0 k e1, ha]
    obtain ⟨vals, g1, g2, K', g3, g4⟩ := ih v1 (by unfold frames; rw [hf1, e2]; simp [dstAt, ho])
      (fun j hj => ⟨by have := (hK j hj).1; omega, (hK j hj).2.congr (fun m hm => (e1 m (by have := (hK j hj).1; omega)).symm)⟩)
      (fun j hj => by have := hl (j + 1) (by simpa using hj); simpa [Nat.add_assoc, Nat.add_comm 1 j] using this)
    refine ⟨vals, fun m hm => by rw [g1 m (by omega), e1 m hm], fun m h1 h2 => ?_, K', fun j hj => ⟨by have := (g3 j hj).1; simp only [List.length_cons]; omega, (g3 j hj).2⟩, by
      rw [show k + (o :: rest).length = k + 1 + rest.length by simp only [List.length_cons]; omega]; exact g4⟩
    rcases Nat.lt_or_ge k m with hm | hm
    · exact g2 m (by omega) (by simp only [List.length_cons] at h2; omega)
    · have hmk : m = k := by omega
      subst hmk
      have hfv : frames ops a0 vals m = a := by rw [frames_congr a0 m (fun j hj => by rw [g1 j (by omega), e1 j hj]), ha]
      refine ⟨o, ho, .inl ⟨by rw [hfv]; exact hw, hg, fun w hE hF => ?_⟩⟩
      rw [hfv, g1 m (by omega), e2]
      exact hr w hE (fun j hj hjd F hGF => hF j hjd ((hK j hj).2.congr (fun i hi => by rw [g1 i (by have := (hK j hj).1; omega), e1 i (by have := (hK j hj).1; omega)])) F hGF)
  | @genY o rest k K a F hw hg hr _ ih =>
    intro v0 ha hK hl
    have ho : ops[k]? = some o := by simpa using (hl 0 (by simp)).symm
    let v1 : Nat → Value := fun m => if m = k then s k else v0 m
    have e1 : ∀ m, m < k → v1 m = v0 m := fun m hm => if_neg (by omega)
    have e2 : v1 k = s k := if_pos rfl
    have hf1 : frames ops a0 v1 k = a := by rw [frames_congr a0 k e1, ha]
    obtain ⟨vals, g1, g2, K', g3, g4⟩ := ih v1 (by unfold frames; rw [hf1, e2]; simp [dstAt, ho])
      (fun j hj => by
        rcases List.mem_cons.1 hj with rfl | hj
        · exact ⟨by omega, ⟨_, hg⟩, o, ho, by rw [hf1]; exact hw⟩
        · exact ⟨by have := (hK j hj).1; omega, (hK j hj).2.congr (fun m hm => (e1 m (by have := (hK j hj).1; omega)).symm)⟩)
      (fun j hj => by have := hl (j + 1) (by simpa using hj); simpa [Nat.add_assoc, Nat.add_comm 1 j] using this)
    refine ⟨vals, fun m hm => by rw [g1 m (by omega), e1 m hm], fun m h1 h2 => ?_, K', fun j hj => ⟨by have := (g3 j hj).1; simp only [List.length_cons]; omega, (g3 j hj).2⟩, by
      rw [show k + (o :: rest).length = k + 1 + rest.length by simp only [List.length_cons]; omega]; exact g4⟩
    rcases Nat.lt_or_ge k m with hm | hm
    · exact g2 m (by omega) (by simp only [List.length_cons] at h2; omega)
    · have hmk : m = k := by omega
      subst hmk
      have hfv : frames ops a0 vals m = a := by rw [frames_congr a0 m (fun j hj => by rw [g1 j (by omega), e1 j hj]), ha]
      refine ⟨o, ho, .inr (.inl ⟨by rw [hfv]; exact hw, by rw [g1 m (by omega), e2], F, hg, fun w hE hF => ?_⟩)⟩
      rw [hfv]
      exact hr w hE (fun j hj hjd F hGF => hF j hjd ((hK j hj).2.congr (fun i hi => by rw [g1 i (by have := (hK j hj).1; omega), e1 i (by have := (hK j hj).1; omega)])) F hGF)
  | @skip o rest k K a hw _ ih =>
    intro v0 ha hK hl
    have ho : ops[k]? = some o := by simpa using (hl 0 (by simp)).symm
    let v1 : Nat → Value := fun m => if m = k then undef else v0 m
    have e1 : ∀ m, m < k → v1 m = v0 m := fun m hm => if_neg (by omega)
    have e2 : v1 k = undef := if_pos rfl
    have hf1 : frames ops a0 v1 k = a := by rw [frames_congr a0 k e1, ha]
    obtain ⟨vals, g1, g2, K', g3, g4⟩ := ih v1 (by unfold frames; rw [hf1, e2]; simp [dstAt, ho])
      (fun j hj => ⟨by have := (hK j hj).1; omega, (hK j hj).2.congr (fun m hm => (e1 m (by have := (hK j hj).1; omega)).symm)⟩)
      (fun j hj => by have := hl (j + 1) (by simpa using hj); simpa [Nat.add_assoc, Nat.add_comm 1 j] using this)
    refine ⟨vals, fun m hm => by rw [g1 m (by omega), e1 m hm], fun m h1 h2 => ?_, K', fun j hj => ⟨by have := (g3 j hj).1; simp only [List.length_cons]; omega, (g3 j hj).2⟩, by
      rw [show k + (o :: rest).length = k + 1 + rest.length by simp only [List.length_cons]; omega]; exact g4⟩
    rcases Nat.lt_or_ge k m with hm | hm
    · exact g2 m (by omega) (by simp only [List.length_cons] at h2; omega)
    · have hmk : m = k := by omega
      subst hmk
      have hfv : frames ops a0 vals m = a := by rw [frames_congr a0 m (fun j hj => by rw [g1 j (by omega), e1 j hj]), ha]
      exact ⟨o, ho, .inr (.inr ⟨by rw [hfv]; exact hw, by rw [g1 m (by omega), e2]⟩)⟩
def Agrees (ops : Array Oper) (a0 : Act) (n : Nat) (L : Nat → Prop) (vals : Nat → Value) (a : Act) : Prop :=
  a.defers = a0.defers ∧ a.tmps.size = a0.tmps.size ∧ (∀ j, j < n → L j → ∀ t, dstAt ops j = some t → t < a0.tmps.size → a.tmps[t]? = some (vals j)) ∧
    ∀ t, (∀ j, j < n → L j → dstAt ops j ≠ some t) → a.tmps[t]? = a0.tmps[t]?
structure GrowOk (ops : Array Oper) (D : Nat → List Nat) (n : Nat) : Prop where
  size : n ≤ ops.size
  edge : ∀ m o, m < n → ops[m]? = some o → ∀ e ∈ o.after, Region.binds .any e = true → e.on < m
  sub : ∀ m o, ops[m]? = some o → ∀ j, j ∈ D m → ∃ e ∈ o.after, Region.binds .any e = true ∧ (e.on = j ∨ j ∈ D e.on)
  reads : ∀ i j o, i < j → j < n → ops[j]? = some o → ∀ t, dstAt ops i = some t → t ∈ o.looksAt ops → i ∈ D j
  over : ∀ i j o, i < j → j < n → ops[i]? = some o → ∀ t, dstAt ops j = some t → t ∈ o.looksAt ops → i ∈ D j
  apart : ∀ i j t, i < n → j < n → dstAt ops i = some t → dstAt ops j = some t → i = j
  tail : ∀ t, n ≤ t → t < ops.size → ∀ i, i < n → i ∈ D t
  noSel : Region.noSelect ops = true
  seq : Region.seqB .any ops (ops.size - n) n (Array.replicate n true ++ Array.replicate (ops.size - n) false) = true
theorem Act.put_get (a : Act) (d : Option Tmp) (v : Value) (t : Tmp) : (a.put d v).tmps[t]? = if d = some t ∧ t < a.tmps.size then some v else a.tmps[t]? := by
  cases d with
  | none => simp [Act.put]
  | some d =>
    simp only [Act.put, Array.getElem?_setIfInBounds, Option.some.injEq]
    by_cases h : d = t
    · subst h
      by_cases h2 : d < a.tmps.size <;> simp [h2]
    · simp [h]
theorem Act.put_size (a : Act) (d : Option Tmp) (v : Value) : (a.put d v).tmps.size = a.tmps.size := by cases d <;> simp [Act.put]
theorem Act.put_def (a : Act) (d : Option Tmp) (v : Value) : (a.put d v).defers = a.defers := by cases d <;> simp [Act.put]
theorem Agrees.put {a0 : Act} {n : Nat} {D : Nat → List Nat} (ok : GrowOk ops D n) {L : Nat → Prop} {vals : Nat → Value} {a : Act} (h : Agrees ops a0 n L vals a) {i : Nat} (hi : i < n) (_hL : ¬ L i) {v : Value} (hv : vals i = v) :
    Agrees ops a0 n (fun j => L j ∨ j = i) vals (a.put (dstAt ops i) v) := by
  obtain ⟨h1, h2, h3, h4⟩ := h
  refine ⟨by rw [Act.put_def, h1], by rw [Act.put_size, h2], fun j hj hLj t ht hts => ?_, fun t ht => ?_⟩
  · rw [Act.put_get]
    by_cases hd : dstAt ops i = some t
    · have : j = i := ok.apart j i t hj hi ht hd
      subst this
      rw [if_pos ⟨hd, by rw [h2]; exact hts⟩, hv]
    · rw [if_neg (fun h => hd h.1)]
      rcases hLj with hLj | rfl
      · exact h3 j hj hLj t ht hts
      · exact absurd ht hd
  · rw [Act.put_get, if_neg (fun h => ht i hi (.inr rfl) h.1)]
    exact h4 t (fun j hj hLj => ht j hj (.inl hLj))
theorem frames_agrees {a0 : Act} {n : Nat} {D : Nat → List Nat} (ok : GrowOk ops D n) (vals : Nat → Value) : ∀ m, m ≤ n → Agrees ops a0 n (fun j => j < m) vals (frames ops a0 vals m)
  | 0, _ => ⟨rfl, rfl, fun j _ h => by omega, fun _ _ => rfl⟩
  | m + 1, hm => by
    have h := (frames_agrees (a0 := a0) ok vals m (by omega)).put ok (i := m) (by omega) (by omega) rfl
    have e : (fun j => j < m ∨ j = m) = (fun j => j < m + 1) := by funext j; exact propext ⟨fun h => by omega, fun h => by omega⟩
    rw [e] at h
    exact h
theorem same_run (o : Oper) (hs : ∀ cs b, o.op ≠ .select cs b) {a b : Act} (h : ∀ t ∈ o.looksAt ops, a.tmps[t]? = b.tmps[t]?) :
    execOp a.eval o = execOp b.eval o ∧ Region.wanted o (yielded ops a.tmps) = Region.wanted o (yielded ops b.tmps) := by
  refine ⟨execOp_congr o hs fun x hx => ?_, ?_⟩
  · cases x with
    | tmp t =>
      have := h t (List.mem_append_left _ (List.mem_filterMap.2 ⟨.tmp t, by simpa using hx, rfl⟩))
      simp only [Act.eval, Array.getD_eq_getD_getElem?, this]
    | _ => rfl
  · unfold Region.wanted
    cases hg : o.guard with
    | none => rfl
    | some gw =>
      obtain ⟨g, want⟩ := gw
      have : yielded ops a.tmps g = yielded ops b.tmps g := by
        unfold yielded
        cases ht : (ops[g]?).bind (·.dst) with
        | none => rfl
        | some t =>
          have := h t (List.mem_append_right _ (by simp [hg, ht]))
          simp only [Option.bind_some, this]
      simp only [this]
theorem looks_alike {a0 : Act} {n : Nat} {D : Nat → List Nat} (ok : GrowOk ops D n) {L : Nat → Prop} (hcl : ∀ m, L m → ∀ j, j ∈ D m → L j) {vals : Nat → Value} {a : Act} (h : Agrees ops a0 n L vals a)
    {i : Nat} (hi : i < n) {o : Oper} (ho : ops[i]? = some o) (hu : ¬ L i) (hd : ∀ j, j ∈ D i → L j) : ∀ t ∈ o.looksAt ops, a.tmps[t]? = (frames ops a0 vals i).tmps[t]? := by
  intro t ht
  obtain ⟨_, h2, h3, h4⟩ := h
  obtain ⟨_, f2, f3, f4⟩ := frames_agrees (a0 := a0) ok vals i (by omega)
  by_cases hts : t < a0.tmps.size
  · by_cases hw : ∃ j, j < n ∧ dstAt ops j = some t
    · obtain ⟨j, hj, hdj⟩ := hw
      rcases Nat.lt_trichotomy j i with hlt | rfl | hgt
      · have hjD := ok.reads j i o hlt hi ho t hdj ht
        rw [h3 j hj (hd j hjD) t hdj hts, f3 j hj hlt t hdj hts]
      · rw [h4 t (fun m hm hLm e => by have := ok.apart m j t hm hj e hdj; subst this; exact hu hLm), f4 t (fun m hm hmi e => by have := ok.apart m j t hm hj e hdj; omega)]
      · have hiD := ok.over i j o hgt hj ho t hdj ht
        have hnL : ¬ L j := fun hL => hu (hcl j hL i hiD)
        rw [h4 t (fun m hm hLm e => by have := ok.apart m j t hm hj e hdj; subst this; exact hnL hLm), f4 t (fun m hm hmi e => by have := ok.apart m j t hm hj e hdj; omega)]
    · rw [h4 t (fun m hm _ e => hw ⟨m, hm, e⟩), f4 t (fun m hm _ e => hw ⟨m, hm, e⟩)]
  · have hts' := Nat.le_of_not_lt hts
    rw [Array.getElem?_eq_none (by rw [h2]; exact hts'), Array.getElem?_eq_none (by rw [f2]; exact hts')]
theorem runs_alike {D : Nat → List Nat} {G : Nat → Option (Value → World → Prop)} {Pre : Nat → World → Prop} {R : Nat → World → World → Prop} {Y : Nat → Nat → Value → Value → Prop} {a0 : Act} {n : Nat} (ok : GrowOk ops D n) {L : Nat → Prop} (hcl : ∀ m, L m → ∀ j, j ∈ D m → L j)
    {s s' v v' : Nat → Value} {i : Nat} (hs : ∀ j, j ≠ i → s' j = s j) (hu : ¬ L i) {w : World} (hE : ∀ j, G j = none → Pre j w) (hF : ∀ j, j < n → L j → Live ops G a0 v j → ∀ F, G j = some F → F (s j) w)
    (h : ∀ m, m < n → OkAt P ops D G Pre R Y a0 s v m) (h' : ∀ m, m < n → OkAt P ops D G Pre R Y a0 s' v' m) (hlt : ∀ m j, j ∈ D m → j < m) :
    ∀ j, j < n → (∀ m, m ∈ D j → L m) → j ≠ i → v' j = v j ∧ (Live ops G a0 v' j → Live ops G a0 v j) ∧ (∀ o, ops[j]? = some o → Region.wanted o (yielded ops (frames ops a0 v' j).tmps) = Region.wanted o (yielded ops (frames ops a0 v j).tmps)) := by
  intro j
  induction j using Nat.strongRecOn with
  | _ j ih =>
    intro hj hDj hji
    obtain ⟨o, ho, hc⟩ := h j hj
    obtain ⟨o', ho', hc'⟩ := h' j hj
    obtain rfl : o' = o := Option.some.inj (ho'.symm.trans ho)
    have hsame : ∀ t ∈ o'.looksAt ops, (frames ops a0 v' j).tmps[t]? = (frames ops a0 v j).tmps[t]? := by
      intro t ht
      obtain ⟨_, f2, f3, f4⟩ := frames_agrees (a0 := a0) ok v j (by omega)
      obtain ⟨_, g2, g3, g4⟩ := frames_agrees (a0 := a0) ok v' j (by omega)
      by_cases hts : t < a0.tmps.size
      · by_cases hw : ∃ m, m < j ∧ dstAt ops m = some t
        · obtain ⟨m, hm, hdm⟩ := hw
          have hmD := ok.reads m j o' hm hj ho t hdm ht
          have hLm := hDj m hmD
          rw [f3 m (by omega) hm t hdm hts, g3 m (by omega) hm t hdm hts, (ih m hm (by omega) (fun q hq => hcl m hLm q hq) (fun e => hu (e ▸ hLm))).1]
        · rw [f4 t (fun m _ hm e => hw ⟨m, hm, e⟩), g4 t (fun m _ hm e => hw ⟨m, hm, e⟩)]
      · have hts' := Nat.le_of_not_lt hts
        rw [Array.getElem?_eq_none (by rw [g2]; exact hts'), Array.getElem?_eq_none (by rw [f2]; exact hts')]
    obtain ⟨hx, hwt⟩ := same_run o' (fun cs b => Region.noSelect_spec ok.noSel j o' cs b ho) hsame
    have hlive : Live ops G a0 v' j → Live ops G a0 v j := fun ⟨q1, o2, q2, q3⟩ => by
      obtain rfl : o2 = o' := Option.some.inj (q2.symm.trans ho)
      exact ⟨q1, o2, q2, by rw [← hwt]; exact q3⟩
    refine ⟨?_, hlive, fun o2 ho2 => by obtain rfl : o2 = o' := Option.some.inj (ho2.symm.trans ho); exact hwt⟩
    have hfl : FactsL ops D G a0 s v j w := fun m hm hlm F hG => hF m (by have := hlt j m hm; omega) (hDj m hm) hlm F hG
    have hfl' : FactsL ops D G a0 s' v' j w := fun m hm hlm F hG => by
      have hmj := hlt j m hm
      have hLm := hDj m hm
      have hmi : m ≠ i := fun e => hu (e ▸ hLm)
      rw [hs m hmi]
      exact hF m (by omega) hLm ((ih m hmj (by omega) (fun q hq => hcl m hLm q hq) hmi).2.1 hlm) F hG
    rcases hc with ⟨c1, c2, c3⟩ | ⟨c1, c2, F, c3, c4⟩ | ⟨c1, c2⟩
    · rcases hc' with ⟨d1, d2, d3⟩ | ⟨d1, d2, F', d3, d4⟩ | ⟨d1, d2⟩
      · have r1 := c3 w (hE j c2) hfl
        have r2 := d3 w (hE j c2) hfl'
        unfold detRun at r1 r2
        rw [hx] at r2
        generalize (execOp (frames ops a0 v j).eval o').run P w = r at r1 r2
        cases r with
        | ok x w' => cases x <;> simp only [detUpon] at r1 r2 <;> exact r2.2.symm.trans r1.2
        | halt x w' => simp only [detUpon] at r1
      · rw [c2] at d3; cases d3
      · rw [hwt, c1] at d1; cases d1
    · rcases hc' with ⟨d1, d2, d3⟩ | ⟨d1, d2, F', d3, d4⟩ | ⟨d1, d2⟩
      · rw [c3] at d2; cases d2
      · rw [d2, c2, hs j hji]
      · rw [hwt, c1] at d1; cases d1
    · rcases hc' with ⟨d1, d2, d3⟩ | ⟨d1, d2, F', d3, d4⟩ | ⟨d1, d2⟩
      · rw [hwt, c1] at d1; cases d1
      · rw [hwt, c1] at d1; cases d1
      · rw [d2, c2]
theorem count_off {p q : Nat → Bool} {i : Nat} (hp : p i = true) (hq : q i = false) (he : ∀ j, j ≠ i → q j = p j) : ∀ n, i < n → (List.range n).countP q + 1 = (List.range n).countP p
  | 0, h => by omega
  | n + 1, h => by
    rw [List.range_succ, List.countP_append, List.countP_append]
    by_cases hn : i = n
    · subst hn
      have : (List.range i).countP q = (List.range i).countP p := List.countP_congr fun j hj => by rw [he j (by have := List.mem_range.1 hj; omega)]
      simp [hp, hq, this]
    · have := count_off hp hq he n (by omega)
      have h2 : [n].countP q = [n].countP p := by simp [List.countP_cons, he n (Ne.symm hn)]
      omega
def growFin (P : Program) (ops : Array Oper) (G : Nat → Option (Value → World → Prop)) (Fin : World → Prop) (Y : Nat → Nat → Value → Value → Prop) (Q : Exit → Act → World → Prop) (tail : List Oper) (s : Nat → Value) (a : Act) (K : List Nat) : Prop :=
  ∀ w, Fin w → (∀ j, j ∈ K → ∀ F, G j = some F → F (s j) w) → (∀ j k, j ∈ K → k ∈ K → j ≠ k → Y j k (s j) (s k)) → wpList P ops Q tail a w
structure GrowInv (P : Program) (ops : Array Oper) (D : Nat → List Nat) (G : Nat → Option (Value → World → Prop)) (Pre : Nat → World → Prop) (R : Nat → World → World → Prop) (Y : Nat → Nat → Value → Value → Prop) (Q : Exit → Act → World → Prop) (tail : List Oper) (a0 : Act) (n : Nat)
    (listed : Array Bool) (a : Act) (w : World) (s vals : Nat → Value) : Prop where
  size : listed.size = ops.size
  tail0 : ∀ t, n ≤ t → t < ops.size → listed.getD t false = false
  closed : ∀ m, listed.getD m false = true → ∀ j, j ∈ D m → listed.getD j false = true
  ok : ∀ m, m < n → OkAt P ops D G Pre R Y a0 s vals m
  fin : ∃ K', (∀ j, j ∈ K' → j < n ∧ Live ops G a0 vals j) ∧ growFin P ops G (Pre n) Y Q tail s (frames ops a0 vals n) K'
  agrees : Agrees ops a0 n (fun j => listed.getD j false = true) vals a
  pre : ∀ j, (listed.getD j false = false ∨ G j = none) → Pre j w
  facts : ∀ j, j < n → listed.getD j false = true → Live ops G a0 vals j → ∀ F, G j = some F → F (s j) w
  pairs : ∀ j k, j < n → k < n → listed.getD j false = true → listed.getD k false = true → Live ops G a0 vals j → Live ops G a0 vals k → j ≠ k → Y j k (s j) (s k)
theorem getD_set_iff {listed : Array Bool} {i j : Nat} (hi : i < listed.size) : ((listed.setIfInBounds i true).getD j false = true) = (listed.getD j false = true ∨ j = i) := by
  apply propext
  by_cases h : i = j
  · subst h; simp [hi]
  · rw [getD_set_ne false h]; constructor
    · exact .inl
    · rintro (h2 | h2)
      · exact h2
      · exact absurd h2.symm h
theorem Agrees.eq_frames {a0 : Act} {n : Nat} {D : Nat → List Nat} (ok : GrowOk ops D n) {L : Nat → Prop} (hL : ∀ j, j < n → L j) {vals : Nat → Value} {a : Act} (h : Agrees ops a0 n L vals a) : a = frames ops a0 vals n := by
  obtain ⟨h1, h2, h3, h4⟩ := h
  obtain ⟨f1, f2, f3, f4⟩ := frames_agrees (a0 := a0) ok vals n (Nat.le_refl _)
  have ht : a.tmps = (frames ops a0 vals n).tmps := by
    apply Array.ext_getElem?
    intro t
    by_cases hts : t < a0.tmps.size
    · by_cases hw : ∃ j, j < n ∧ dstAt ops j = some t
      · obtain ⟨j, hj, hd⟩ := hw
        rw [h3 j hj (hL j hj) t hd hts, f3 j hj hj t hd hts]
      · rw [h4 t (fun m hm _ e => hw ⟨m, hm, e⟩), f4 t (fun m hm _ e => hw ⟨m, hm, e⟩)]
    · have hts' := Nat.le_of_not_lt hts
      rw [Array.getElem?_eq_none (by rw [h2]; exact hts'), Array.getElem?_eq_none (by rw [f2]; exact hts')]
  cases a
  cases hfr : frames ops a0 vals n
  rw [hfr] at ht f1
  simp only at ht h1 f1
  rw [ht, h1, f1]
theorem getD_true_false {listed : Array Bool} {j : Nat} (hj : j < listed.size) : listed.getD j true = listed.getD j false := by simp [hj]
theorem grow_step {D : Nat → List Nat} {G : Nat → Option (Value → World → Prop)} {Pre : Nat → World → Prop} {R : Nat → World → World → Prop} {Y : Nat → Nat → Value → Value → Prop} {Q : Exit → Act → World → Prop} {tail : List Oper} {a0 : Act} {n : Nat} (ok : GrowOk ops D n) (hlt : ∀ m j, j ∈ D m → j < m)
    (hpre : ∀ i j, (i ≠ j ∨ G i = none) → ∀ w w', R j w w' → Pre i w → Pre i w')
    (hmono : ∀ k F, G k = some F → ∀ i, i ≠ k → ∀ v w w', R i w w' → F v w → F v w') (hY : ∀ j k u v, Y j k u v → Y k j v u)
    (hrun : ∀ s, ∃ vals, (∀ m, m < n → OkAt P ops D G Pre R Y a0 s vals m) ∧ ∃ K', (∀ j, j ∈ K' → j < n ∧ Live ops G a0 vals j) ∧ growFin P ops G (Pre n) Y Q tail s (frames ops a0 vals n) K')
    {listed : Array Bool} {a : Act} {w : World} {s vals : Nat → Value} (I : GrowInv P ops D G Pre R Y Q tail a0 n listed a w s vals) {i : Nat} (hr : i ∈ Region.ready .any ops listed) (hi : i < n) {K : Act → World → Prop}
    (h : ∀ a' w' s' vals', GrowInv P ops D G Pre R Y Q tail a0 n (listed.setIfInBounds i true) a' w' s' vals' → K a' w') : wpOp P ops Q i K a w := by
  obtain ⟨hun, o, ho, hall⟩ := mem_ready.1 hr
  have hio : i < ops.size := (Array.getElem?_eq_some_iff.1 ho).1
  have his : i < listed.size := by rw [I.size]; exact hio
  have hu : ¬ listed.getD i false = true := by rw [← getD_true_false his, hun]; exact fun h => by cases h
  have hd : ∀ j, j ∈ D i → listed.getD j false = true := fun j hj => by
    obtain ⟨e, he, hb, hon⟩ := ok.sub i o ho j hj
    have h1 := hall e he hb
    rcases hon with rfl | hon
    · exact h1
    · exact I.closed _ h1 j hon
  obtain ⟨hx, hwt⟩ := same_run (ops := ops) o (fun cs b => Region.noSelect_spec ok.noSel i o cs b ho) (looks_alike ok I.closed I.agrees hi ho hu hd)
  have hdst : dstAt ops i = o.dst := by simp [dstAt, ho]
  have hcl' : ∀ m, (listed.setIfInBounds i true).getD m false = true → ∀ j, j ∈ D m → (listed.setIfInBounds i true).getD j false = true := fun m hm j hj => by
    rw [getD_set_iff his] at hm ⊢
    rcases hm with hm | rfl
    · exact .inl (I.closed m hm j hj)
    · exact .inl (hd j hj)
  have ht0 : ∀ t, n ≤ t → t < ops.size → (listed.setIfInBounds i true).getD t false = false := fun t h1 h2 => by rw [getD_set_ne false (by omega)]; exact I.tail0 t h1 h2
  have hfl : FactsL ops D G a0 s vals i w := fun j hj hlv F hG => I.facts j (by have := hlt i j hj; omega) (hd j hj) hlv F hG
  obtain ⟨o2, ho2, hc⟩ := I.ok i hi
  obtain rfl : o2 = o := Option.some.inj (ho2.symm.trans ho)
  have hui : listed.getD i false = false := by rw [← getD_true_false his]; exact hun
  have hpre' : ∀ w', R i w w' → ∀ j, ((listed.setIfInBounds i true).getD j false = false ∨ G j = none) → Pre j w' := fun w' hR j hj => by
    by_cases hji : j = i
    · subst hji
      rcases hj with hj | hj
      · have : (listed.setIfInBounds j true).getD j false = true := by rw [getD_set_iff his]; exact .inr rfl
        rw [this] at hj; cases hj
      · exact hpre j j (.inr hj) w w' hR (I.pre j (.inr hj))
    · refine hpre j i (.inl hji) w w' hR (I.pre j ?_)
      rcases hj with hj | hj
      · rw [getD_set_ne false (Ne.symm hji)] at hj; exact .inl hj
      · exact .inr hj
  have hset : (fun j => listed.getD j false = true ∨ j = i) = (fun j => (listed.setIfInBounds i true).getD j false = true) := by funext j; exact (getD_set_iff his).symm
  unfold wpOp
  simp only [ho, hwt]
  rcases hc with ⟨c1, c2, c3⟩ | ⟨c1, c2, F, c3, c4⟩ | ⟨c1, c2⟩
  · rw [if_pos c1]
    refine .inl ?_
    have r := c3 w (I.pre i (.inl hui)) hfl
    unfold detRun at r
    unfold Oper.wp
    rw [hx]
    generalize (execOp (frames ops a0 vals i).eval o2).run P w = res at r
    cases res with
    | halt x w' => simp only [detUpon] at r
    | ok x w' =>
      have go : ∀ v, R i w w' → v = vals i → K (a.put o2.dst v) w' := fun v hE hv => by
        refine h _ w' s vals ⟨by simp [I.size], ht0, hcl', I.ok, I.fin, ?_, hpre' w' hE, ?_, fun j k hj hk hLj hLk hlj hlk hne => ?_⟩
        · rw [← hdst, ← hset]; exact I.agrees.put ok hi hu hv.symm
        · intro j hj hL hlv F hG
          rw [getD_set_iff his] at hL
          rcases hL with hL | rfl
          · exact hmono j F hG i (fun e => hu (e ▸ hL)) _ _ _ hE (I.facts j hj hL hlv F hG)
          · rw [c2] at hG; cases hG
        · rw [getD_set_iff his] at hLj hLk
          rcases hLj with hLj | rfl
          · rcases hLk with hLk | rfl
            · exact I.pairs j k hj hk hLj hLk hlj hlk hne
            · obtain ⟨⟨F, hF⟩, _⟩ := hlk; rw [c2] at hF; cases hF
          · obtain ⟨⟨F, hF⟩, _⟩ := hlj; rw [c2] at hF; cases hF
      cases x <;> simp only [detUpon] at r <;> simp only [Oper.upon] <;> exact go _ r.1 r.2
  · rw [if_pos c1]
    refine .inl ?_
    have r := c4 w (I.pre i (.inl hui)) hfl
    have go : ∀ v w', R i w w' → withY G Y i w F v w' → K (a.put o2.dst v) w' := fun v w' hE hFY => by
      obtain ⟨hFv, hYv⟩ := hFY
      let s' : Nat → Value := fun m => if m = i then v else s m
      have hs' : ∀ j, j ≠ i → s' j = s j := fun j hj => if_neg hj
      obtain ⟨v', q1, q2⟩ := hrun s'
      have hF' : ∀ j, j < n → listed.getD j false = true → Live ops G a0 vals j → ∀ F, G j = some F → F (s j) w' := fun j hj hL hlv F hG => hmono j F hG i (fun e => hu (e ▸ hL)) _ _ _ hE (I.facts j hj hL hlv F hG)
      have hEw : ∀ j, G j = none → Pre j w' := fun j hj => hpre' w' hE j (.inr hj)
      have al := runs_alike ok I.closed hs' hu hEw hF' I.ok q1 hlt
      have hli : ∀ t ∈ o2.looksAt ops, (frames ops a0 v' i).tmps[t]? = (frames ops a0 vals i).tmps[t]? := by
        intro t ht
        obtain ⟨_, f2, f3, f4⟩ := frames_agrees (a0 := a0) ok vals i (by omega)
        obtain ⟨_, g2, g3, g4⟩ := frames_agrees (a0 := a0) ok v' i (by omega)
        by_cases hts : t < a0.tmps.size
        · by_cases hw : ∃ m, m < i ∧ dstAt ops m = some t
          · obtain ⟨m, hm, hdm⟩ := hw
            have hmD := ok.reads m i o2 hm hi ho t hdm ht
            rw [f3 m (by omega) hm t hdm hts, g3 m (by omega) hm t hdm hts, (al m (by omega) (fun q hq => I.closed m (hd m hmD) q hq) (by omega)).1]
          · rw [f4 t (fun m _ hm e => hw ⟨m, hm, e⟩), g4 t (fun m _ hm e => hw ⟨m, hm, e⟩)]
        · have hts' := Nat.le_of_not_lt hts
          rw [Array.getElem?_eq_none (by rw [g2]; exact hts'), Array.getElem?_eq_none (by rw [f2]; exact hts')]
      obtain ⟨_, hwt'⟩ := same_run o2 (fun cs b => Region.noSelect_spec ok.noSel i o2 cs b ho) hli
      have hvi : v' i = v := by
        obtain ⟨o3, ho3, hc3⟩ := q1 i hi
        obtain rfl : o3 = o2 := Option.some.inj (ho3.symm.trans ho)
        rcases hc3 with ⟨d1, d2, _⟩ | ⟨d1, d2, _⟩ | ⟨d1, d2⟩
        · rw [c3] at d2; cases d2
        · rw [d2]; exact if_pos rfl
        · rw [hwt', c1] at d1; cases d1
      refine h _ w' s' v' ⟨by simp [I.size], ht0, hcl', q1, q2, ?_, hpre' w' hE, ?_, fun j k hj hk hLj hLk hlj hlk hne => ?_⟩
      · rw [← hdst, ← hset]
        have hag : Agrees ops a0 n (fun j => listed.getD j false = true) v' a := by
          obtain ⟨h1, h2, h3, h4⟩ := I.agrees
          refine ⟨h1, h2, fun j hj hL t ht hts => ?_, h4⟩
          rw [h3 j hj hL t ht hts, (al j hj (fun q hq => I.closed j hL q hq) (fun e => hu (e ▸ hL))).1]
        exact hag.put ok hi hu hvi
      · intro j hj hL hlv F2 hG
        rw [getD_set_iff his] at hL
        by_cases hji : j = i
        · subst hji
          rw [c3] at hG
          obtain rfl := Option.some.inj hG
          show F (s' j) w'
          rw [show s' j = v from if_pos rfl]
          exact hFv
        · have hL' := hL.resolve_right hji
          rw [hs' j hji]
          exact hF' j hj hL' ((al j hj (fun q hq => I.closed j hL' q hq) hji).2.1 hlv) F2 hG
      · rw [getD_set_iff his] at hLj hLk
        have old : ∀ j, j < n → (listed.getD j false = true ∨ j = i) → j ≠ i → Live ops G a0 v' j → listed.getD j false = true ∧ Live ops G a0 vals j ∧ s' j = s j := fun j hj hL hji hlv =>
          ⟨hL.resolve_right hji, (al j hj (fun q hq => I.closed j (hL.resolve_right hji) q hq) hji).2.1 hlv, hs' j hji⟩
        have hsi : s' i = v := if_pos rfl
        by_cases hji : j = i
        · subst hji
          obtain ⟨g1, g2, g3⟩ := old k hk hLk (Ne.symm hne) hlk
          obtain ⟨Fk, hGk⟩ := g2.1
          rw [hsi, g3]
          exact hY _ _ _ _ (hYv k Fk (Ne.symm hne) hGk _ (I.facts k hk g1 g2 Fk hGk))
        · obtain ⟨g1, g2, g3⟩ := old j hj hLj hji hlj
          by_cases hki : k = i
          · subst hki
            obtain ⟨Fj, hGj⟩ := g2.1
            rw [hsi, g3]
            exact hYv j Fj hji hGj _ (I.facts j hj g1 g2 Fj hGj)
          · obtain ⟨e1, e2, e3⟩ := old k hk hLk hki hlk
            rw [g3, e3]
            exact I.pairs j k hj hk g1 e1 g2 e2 hne
    unfold genRun at r
    unfold Oper.wp
    rw [hx]
    generalize (execOp (frames ops a0 vals i).eval o2).run P w = res at r
    cases res with
    | halt x w' => simp only [genUpon] at r
    | ok x w' =>
      cases x <;> simp only [genUpon] at r
      · simp only [Oper.upon]; exact go _ _ r.1 r.2
      · simp only [Oper.upon]; exact go _ _ r.1 r.2
      · simp only [Oper.upon]
        exact r.mono fun e w'' ⟨v, he, hE, hv⟩ => by subst he; exact go v w'' hE hv
  · rw [if_neg (by rw [c1]; exact fun h => by cases h)]
    refine h _ w s vals ⟨by simp [I.size], ht0, hcl', I.ok, I.fin, ?_, fun j hj => I.pre j ?_, ?_, fun j k hj hk hLj hLk hlj hlk hne => ?_⟩
    · rw [← hdst, ← hset]; exact I.agrees.put ok hi hu c2
    · rcases hj with hj | hj
      · by_cases hji : j = i
        · subst hji; exact .inl hui
        · rw [getD_set_ne false (Ne.symm hji)] at hj; exact .inl hj
      · exact .inr hj
    · intro j hj hL hlv F hG
      rw [getD_set_iff his] at hL
      rcases hL with hL | rfl
      · exact I.facts j hj hL hlv F hG
      · obtain ⟨_, o3, ho3, hw3⟩ := hlv
        obtain rfl : o3 = o2 := Option.some.inj (ho3.symm.trans ho)
        rw [c1] at hw3; cases hw3
    · have dead : ¬ Live ops G a0 vals i := fun ⟨_, o3, ho3, hw3⟩ => by
        obtain rfl : o3 = o2 := Option.some.inj (ho3.symm.trans ho)
        rw [c1] at hw3; cases hw3
      rw [getD_set_iff his] at hLj hLk
      exact I.pairs j k hj hk (hLj.resolve_right (fun e => dead (e ▸ hlj))) (hLk.resolve_right (fun e => dead (e ▸ hlk))) hlj hlk hne
theorem grow_all {D : Nat → List Nat} {G : Nat → Option (Value → World → Prop)} {Pre : Nat → World → Prop} {R : Nat → World → World → Prop} {Y : Nat → Nat → Value → Value → Prop} {Q : Exit → Act → World → Prop} {tail : List Oper} {a0 : Act} {n : Nat} (ok : GrowOk ops D n) (hlt : ∀ m j, j ∈ D m → j < m)
    (htl : ∀ j, tail[j]? = ops[n + j]?)
    (hpre : ∀ i j, (i ≠ j ∨ G i = none) → ∀ w w', R j w w' → Pre i w → Pre i w')
    (hmono : ∀ k F, G k = some F → ∀ i, i ≠ k → ∀ v w w', R i w w' → F v w → F v w') (hY : ∀ j k u v, Y j k u v → Y k j v u)
    (hrun : ∀ s, ∃ vals, (∀ m, m < n → OkAt P ops D G Pre R Y a0 s vals m) ∧ ∃ K', (∀ j, j ∈ K' → j < n ∧ Live ops G a0 vals j) ∧ growFin P ops G (Pre n) Y Q tail s (frames ops a0 vals n) K') :
    ∀ f (listed : Array Bool) (a : Act) (w : World) (s vals : Nat → Value), GrowInv P ops D G Pre R Y Q tail a0 n listed a w s vals → (List.range n).countP (fun j => !listed.getD j false) = f →
      wpAny P .any ops Q (f + tail.length) listed a w
  | 0, listed, a, w, s, vals, I, hf => by
    have hL : ∀ j, j < n → listed.getD j false = true := fun j hj => by
      have := List.countP_eq_zero.1 hf j (List.mem_range.2 hj)
      simpa using this
    obtain ⟨K', hK, hfin⟩ := I.fin
    have hn0 : ∀ listed : Array Bool, listed.size = ops.size → (∀ t, n ≤ t → t < ops.size → listed.getD t false = false) → listed.getD n false = false := fun l h1 h2 => by
      rcases Nat.lt_or_ge n ops.size with h | h
      · exact h2 n (Nat.le_refl _) h
      · simp [Array.getElem?_eq_none (by omega : l.size ≤ n)]
    rw [I.agrees.eq_frames ok hL, Nat.zero_add]
    have hlen : tail.length = ops.size - n := by
      have h1 : tail[ops.size - n]? = none := by rw [htl]; exact Array.getElem?_eq_none (by have := ok.size; omega)
      have h2 := List.getElem?_eq_none_iff.1 h1
      rcases Nat.lt_or_ge tail.length (ops.size - n) with h | h
      · have h3 : tail[tail.length]? = none := List.getElem?_eq_none_iff.2 (Nat.le_refl _)
        rw [htl] at h3
        have := Array.getElem?_eq_none_iff.1 h3
        have := ok.size
        omega
      · omega
    have hlist : listed = Array.replicate n true ++ Array.replicate (ops.size - n) false := by
      have hn := ok.size
      apply Array.ext
      · simp [I.size]; omega
      · intro j h1 h2
        rcases Nat.lt_or_ge j n with hjn | hjn
        · have h3 : listed[j] = true := by have := hL j hjn; simpa [h1] using this
          exact h3.trans (by rw [Array.getElem_append_left (by simpa using hjn)]; simp)
        · have h3 : listed[j] = false := by have := I.tail0 j hjn (by rw [← I.size]; exact h1); simpa [h1] using this
          exact h3.trans (by rw [Array.getElem_append_right (by simpa using hjn)]; simp)
    refine wpAny_of_seq tail n listed _ w htl (by rw [hlist, hlen]; exact ok.seq) (hfin w (I.pre n (.inl (hn0 listed I.size I.tail0))) (fun j hj F hG => I.facts j (hK j hj).1 (hL j (hK j hj).1) (hK j hj).2 F hG) (fun j k hj hk hne => I.pairs j k (hK j hj).1 (hK k hk).1 (hL j (hK j hj).1) (hL k (hK k hk).1) (hK j hj).2 (hK k hk).2 hne))
  | f + 1, listed, a, w, s, vals, I, hf => by
    have hex : ∃ j, j < n ∧ listed.getD j false = false := by
      have hp : 0 < (List.range n).countP (fun j => !listed.getD j false) := by omega
      obtain ⟨j, hj, hj2⟩ := List.countP_pos_iff.1 hp
      exact ⟨j, List.mem_range.1 hj, by simpa using hj2⟩
    have hsmall : ∀ j, j < n → listed.getD j false = false → Region.ready .any ops listed ≠ [] := by
      intro j
      induction j using Nat.strongRecOn with
      | _ j ih =>
        intro hj hjf
        have hjo : j < ops.size := by have := ok.size; omega
        have hol : ops[j]? = some ops[j] := Array.getElem?_eq_getElem hjo
        by_cases hb : ∀ e ∈ ops[j].after, Region.binds .any e = true → listed.getD e.on false = true
        · intro hnil
          have : j ∈ Region.ready .any ops listed := mem_ready.2 ⟨by rw [getD_true_false (by rw [I.size]; exact hjo)]; exact hjf, _, hol, hb⟩
          rw [hnil] at this
          cases this
        · have : ∃ e, e ∈ ops[j].after ∧ Region.binds .any e = true ∧ ¬ listed.getD e.on false = true := by
            apply Classical.byContradiction
            intro hne
            exact hb fun e he hbe => Classical.byContradiction fun hx => hne ⟨e, he, hbe, hx⟩
          obtain ⟨e, he, hbe, hx⟩ := this
          have := ok.edge j _ hj hol e he hbe
          exact ih e.on this (by omega) (by simpa using hx)
    obtain ⟨j0, hj0, hj0f⟩ := hex
    rw [show f + 1 + tail.length = (f + tail.length) + 1 by omega]
    refine ⟨fun h0 => absurd h0 (hsmall j0 hj0 hj0f), fun i hi => ?_⟩
    obtain ⟨hun, o, ho, hall⟩ := mem_ready.1 hi
    have hio : i < ops.size := (Array.getElem?_eq_some_iff.1 ho).1
    have hin : i < n := by
      rcases Nat.lt_or_ge i n with h | h
      · exact h
      · exfalso
        have hD := ok.tail i h hio j0 hj0
        obtain ⟨e, he, hb, hon⟩ := ok.sub i o ho j0 hD
        have h1 := hall e he hb
        have h2 : listed.getD j0 false = true := by
          rcases hon with rfl | hon
          · exact h1
          · exact I.closed _ h1 j0 hon
        rw [hj0f] at h2
        cases h2
    have his : i < listed.size := by rw [I.size]; exact hio
    refine grow_step ok hlt hpre hmono hY hrun I hi hin fun a' w' s' vals' I' => grow_all ok hlt htl hpre hmono hY hrun f _ a' w' s' vals' I' ?_
    have hui : listed.getD i false = false := by rw [← getD_true_false his]; exact hun
    have := count_off (p := fun j => !listed.getD j false) (q := fun j => !(listed.setIfInBounds i true).getD j false) (i := i) (by simp only [hui]; rfl)
      (by have : (listed.setIfInBounds i true).getD i false = true := by rw [getD_set_iff his]; exact .inr rfl
          simp only [this]; rfl)
      (fun j hj => by simp only [getD_set_ne false (Ne.symm hj)]) n hin
    omega
def growD (Dl : List (List Nat)) (m : Nat) : List Nat := Dl.getD m []
def growDeps (ops : List Oper) : List (List Nat) :=
  ops.foldl (init := []) fun acc o => acc ++ [(o.after.toList.filter (Region.binds .any ·)).foldl (init := []) fun l e => (l ++ e.on :: acc.getD e.on []).eraseDups]
def growB (ops : Array Oper) (Dl : List (List Nat)) (n : Nat) : Bool :=
  decide (n ≤ ops.size) && Region.noSelect ops && Region.seqB .any ops (ops.size - n) n (Array.replicate n true ++ Array.replicate (ops.size - n) false) &&
  (decide (Dl.length ≤ ops.size) && ((List.range ops.size).all fun m =>
    (match ops[m]? with
      | none => true
      | some o => (decide (n ≤ m) || o.after.all fun e => !Region.binds .any e || decide (e.on < m)) &&
        ((growD Dl m).all fun j => decide (j < m) && o.after.any fun e => Region.binds .any e && (e.on == j || (growD Dl e.on).contains j)) &&
        (decide (m < n) || (List.range n).all fun i => (growD Dl m).contains i)))) &&
  ((List.range n).all fun j => (List.range j).all fun i =>
    match ops[i]?, ops[j]? with
    | some oi, some oj =>
      (match oi.dst with | some t => (!(oj.looksAt ops).contains t || (growD Dl j).contains i) && oj.dst != some t | none => true) &&
      (match oj.dst with | some t => !(oi.looksAt ops).contains t || (growD Dl j).contains i | none => true)
    | _, _ => true)
theorem growB_ok {l : List Oper} {Dl : List (List Nat)} {n : Nat} (h : growB l.toArray Dl n = true) : GrowOk l.toArray (growD Dl) n ∧ ∀ m j, j ∈ growD Dl m → j < m := by
  unfold growB at h
  simp only [Bool.and_eq_true, decide_eq_true_eq, List.all_eq_true, List.mem_range] at h
  obtain ⟨⟨⟨⟨h1, h2⟩, h3⟩, h4, h5⟩, h6⟩ := h
  have hlt : ∀ m j, j ∈ growD Dl m → j < m := fun m j hj => by
    have hm : m < l.toArray.size := by
      rcases Nat.lt_or_ge m Dl.length with h | h
      · omega
      · have : growD Dl m = [] := by unfold growD; simp [h]
        rw [this] at hj; cases hj
    have := h5 m hm
    rw [Array.getElem?_eq_getElem hm] at this
    simp only [Bool.and_eq_true, List.all_eq_true, decide_eq_true_eq] at this
    exact (this.1.2 j hj).1
  have hpair : ∀ i j oi oj, i < j → j < n → l.toArray[i]? = some oi → l.toArray[j]? = some oj →
      (∀ t, oi.dst = some t → (t ∈ oj.looksAt l.toArray → i ∈ growD Dl j) ∧ oj.dst ≠ some t) ∧ (∀ t, oj.dst = some t → t ∈ oi.looksAt l.toArray → i ∈ growD Dl j) := fun i j oi oj hij hj hoi hoj => by
    have := h6 j hj i hij
    rw [hoi, hoj] at this
    simp only [Bool.and_eq_true] at this
    constructor
    · intro t ht
      rw [ht] at this
      have h7 := this.1
      simp only [Bool.and_eq_true, Bool.or_eq_true, Bool.not_eq_true', List.contains_eq_mem, decide_eq_true_eq, decide_eq_false_iff_not, bne_iff_ne] at h7
      exact ⟨fun hx => h7.1.resolve_left (fun h => h hx), h7.2⟩
    · intro t ht hx
      rw [ht] at this
      have h7 := this.2
      simp only [Bool.or_eq_true, Bool.not_eq_true', List.contains_eq_mem, decide_eq_true_eq, decide_eq_false_iff_not] at h7
      exact h7.resolve_left (fun h => h hx)
  have hat : ∀ i t, dstAt l.toArray i = some t → ∃ o, l.toArray[i]? = some o ∧ o.dst = some t := fun i t h => by
    unfold dstAt at h
    cases ho : l.toArray[i]? with
    | none => rw [ho] at h; cases h
    | some o => rw [ho] at h; exact ⟨o, rfl, h⟩
  refine ⟨⟨h1, ?_, ?_, ?_, ?_, ?_, ?_, h2, h3⟩, hlt⟩
  · intro m o hm ho e he hb
    have := h5 m (by omega)
    rw [ho] at this
    simp only [Bool.and_eq_true, Bool.or_eq_true, decide_eq_true_eq] at this
    have h7 := this.1.1.resolve_left (by omega)
    have h8 := Array.all_eq_true_iff_forall_mem.1 h7 e he
    simpa [hb] using h8
  · intro m o ho j hj
    have hm : m < l.toArray.size := (Array.getElem?_eq_some_iff.1 ho).1
    have := h5 m hm
    rw [ho] at this
    simp only [Bool.and_eq_true, List.all_eq_true, decide_eq_true_eq] at this
    have h7 := (this.1.2 j hj).2
    obtain ⟨e, he, h8⟩ := Array.any_eq_true'.1 h7
    simp only [Bool.and_eq_true, Bool.or_eq_true, beq_iff_eq, List.contains_eq_mem, decide_eq_true_eq] at h8
    exact ⟨e, he, h8.1, h8.2⟩
  · intro i j o hij hj ho t ht hx
    obtain ⟨oi, hoi, hdi⟩ := hat i t ht
    exact ((hpair i j oi o hij hj hoi ho).1 t hdi).1 hx
  · intro i j o hij hj ho t ht hx
    obtain ⟨oj, hoj, hdj⟩ := hat j t ht
    exact (hpair i j o oj hij hj ho hoj).2 t hdj hx
  · intro i j t hi hj hti htj
    obtain ⟨oi, hoi, hdi⟩ := hat i t hti
    obtain ⟨oj, hoj, hdj⟩ := hat j t htj
    rcases Nat.lt_trichotomy i j with h | h | h
    · exact absurd hdj ((hpair i j oi oj h hj hoi hoj).1 t hdi).2
    · exact h
    · exact absurd hdi ((hpair j i oj oi h hi hoj hoi).1 t hdj).2
  · intro t ht hts i hi
    have := h5 t hts
    rw [Array.getElem?_eq_getElem hts] at this
    simp only [Bool.and_eq_true, Bool.or_eq_true, decide_eq_true_eq, List.all_eq_true, List.mem_range, List.contains_eq_mem] at this
    exact (this.2.resolve_left (by omega)) i hi
theorem wp_region_grows {id : Nat} {l : List Oper} {a : Act} {W : World} {Q : Exit → Act → World → Prop} (n : Nat) (G : Nat → Option (Value → World → Prop)) (Pre : Nat → World → Prop) (R : Nat → World → World → Prop) (Y : Nat → Nat → Value → Value → Prop)
    (Dl : List (List Nat)) (hm : P.follows .mixedOrders = true) (hB : growB l.toArray Dl n = true)
    (hpre : ∀ i j, (i ≠ j ∨ G i = none) → ∀ w w', R j w w' → Pre i w → Pre i w') (hmono : ∀ k F, G k = some F → ∀ i, i ≠ k → ∀ v w w', R i w w' → F v w → F v w') (hY : ∀ j k u v, Y j k u v → Y k j v u) (h0 : ∀ i, Pre i W.drew)
    (h : ∀ s, RunG P l.toArray (growD Dl) G Pre R Y s (growFin P l.toArray G (Pre n) Y Q (l.drop n) s) (l.take n) 0 [] a) : (Code.region id l.toArray true).wp P Q a W := by
  obtain ⟨ok, hlt⟩ := growB_ok hB
  have hn : n ≤ l.length := by have := ok.size; simpa using this
  have htk : (l.take n).length = n := by simp; omega
  have hrun : ∀ s, ∃ vals, (∀ m, m < n → OkAt P l.toArray (growD Dl) G Pre R Y a s vals m) ∧ ∃ K', (∀ j, j ∈ K' → j < n ∧ Live l.toArray G a vals j) ∧ growFin P l.toArray G (Pre n) Y Q (l.drop n) s (frames l.toArray a vals n) K' := fun s => by
    obtain ⟨vals, _, g2, K', g3, g4⟩ := (h s).extract (a0 := a) (fun _ => undef) rfl (fun j hj => by cases hj) (fun j hj => by rw [htk] at hj; simp [hj])
    rw [htk, Nat.zero_add] at g2 g3 g4
    exact ⟨vals, fun m hm => g2 m (Nat.zero_le _) hm, K', g3, g4⟩
  obtain ⟨vals, q1, q2⟩ := hrun (fun _ => undef)
  have hcount : ∀ m, (List.range m).countP (fun j => !(Array.replicate l.toArray.size false).getD j false) = m := fun m => by
    have : (List.range m).countP (fun j => !(Array.replicate l.toArray.size false).getD j false) = (List.range m).length :=
      List.countP_eq_length.2 fun j _ => by rw [getD_replicate_false]; rfl
    rw [this, List.length_range]
  have hfuel : n + (l.drop n).length = l.toArray.size := by simp; omega
  have hno : ∀ j, ¬ (Array.replicate l.toArray.size false).getD j false = true := fun j hL => by rw [getD_replicate_false] at hL; cases hL
  have I0 : GrowInv P l.toArray (growD Dl) G Pre R Y Q (l.drop n) a n (Array.replicate l.toArray.size false) a W.drew (fun _ => undef) vals :=
    { size := by simp
      tail0 := fun t _ _ => getD_replicate_false _ _
      closed := fun m hm => absurd hm (hno m)
      ok := q1
      fin := q2
      agrees := ⟨rfl, rfl, fun j _ hL => absurd hL (hno j), fun _ _ => rfl⟩
      pre := fun j _ => h0 j
      facts := fun j _ hL => absurd hL (hno j)
      pairs := fun j _ _ _ hL => absurd hL (hno j) }
  refine wp_region_any hm ?_
  have := grow_all ok hlt (fun j => by simp [List.getElem?_drop]) hpre hmono hY hrun n _ a W.drew (fun _ => undef) vals I0 (hcount n)
  rw [hfuel] at this
  exact this
theorem wp_region_grow {id : Nat} {l : List Oper} {a : Act} {W : World} {Q : Exit → Act → World → Prop} (n : Nat) (G : Nat → Option (Value → World → Prop)) (Dl : List (List Nat)) (hm : P.follows .mixedOrders = true)
    (hB : growB l.toArray Dl n = true) (hmono : ∀ k F, G k = some F → ∀ v w w', Ext w w' → F v w → F v w')
    (h : ∀ s, RunG P l.toArray (growD Dl) G (fun _ => Ext W.drew) (fun _ => Ext) yTrue s (growFin P l.toArray G (Ext W.drew) yTrue Q (l.drop n) s) (l.take n) 0 [] a) : (Code.region id l.toArray true).wp P Q a W :=
  wp_region_grows n G (fun _ => Ext W.drew) (fun _ => Ext) yTrue Dl hm hB (fun _ _ _ _ _ hR hE => hE.trans hR) (fun k F hk _ _ v w w' hR hF => hmono k F hk v w w' hR hF) (fun _ _ _ _ _ => trivial) (fun _ => Ext.refl _) h
def growG (L : List (Nat × (Value → World → Prop))) (k : Nat) : Option (Value → World → Prop) := (L.find? fun p => p.1 == k).map (·.2)
def GrowMono (L : List (Nat × (Value → World → Prop))) : Prop := ∀ p, p ∈ L → ∀ v w w', Ext w w' → p.2 v w → p.2 v w'
theorem GrowMono.nil : GrowMono [] := fun _ h => by cases h
theorem GrowMono.cons {k : Nat} {F : Value → World → Prop} {L : List (Nat × (Value → World → Prop))} (h : ∀ v w w', Ext w w' → F v w → F v w') (hL : GrowMono L) : GrowMono ((k, F) :: L) := fun p hp => by
  rcases List.mem_cons.1 hp with rfl | hp
  · exact h
  · exact hL p hp
theorem growG_mono {L : List (Nat × (Value → World → Prop))} (h : GrowMono L) (k : Nat) (F : Value → World → Prop) (hk : growG L k = some F) (v : Value) (w w' : World) (hE : Ext w w') (hF : F v w) : F v w' := by
  unfold growG at hk
  cases hf : L.find? (fun p => p.1 == k) with
  | none => rw [hf] at hk; cases hk
  | some p =>
    rw [hf] at hk
    obtain rfl := Option.some.inj hk
    exact h p (List.mem_of_find?_eq_some hf) v w w' hE hF
theorem wp_region_growL {id : Nat} {l : List Oper} {a : Act} {W : World} {Q : Exit → Act → World → Prop} (n : Nat) (L : List (Nat × (Value → World → Prop))) (hm : P.follows .mixedOrders = true)
    (hB : growB l.toArray (growDeps l) n = true) (hmono : GrowMono L)
    (h : ∀ s, RunG P l.toArray (growD (growDeps l)) (growG L) (fun _ => Ext W.drew) (fun _ => Ext) yTrue s (growFin P l.toArray (growG L) (Ext W.drew) yTrue Q (l.drop n) s) (l.take n) 0 [] a) : (Code.region id l.toArray true).wp P Q a W :=
  wp_region_grow n (growG L) (growDeps l) hm hB (fun k F hk v w w' hE hF => growG_mono hmono k F hk v w w' hE hF) h
end
end Go.Proofs.YtfnkciboencifaaDoor.Elder
