/-
  The clean machine: a region that draws its order, by what holds when some of its operations have come up.
-/
import Derived.Test.YtfnkciboencifaaDoorPVP
import Derived.StillTail
set_option linter.all false
namespace Go.Proofs.YtfnkciboencifaaDoor
open Go Go.RowKit

section
variable {P : Program} {ops : Array Oper}
def dstAt (ops : Array Oper) (m : Nat) : Option Tmp := (ops[m]?).bind (·.dst)


structure GrowOk (ops : Array Oper) (D : Nat → List Nat) (n : Nat) : Prop where
  size : n ≤ ops.size
  edge : ∀ m o, m < n → ops[m]? = some o → ∀ e ∈ o.after, Region.binds .any e = true → e.on < m
  sub : ∀ m o, ops[m]? = some o → ∀ j, j ∈ D m → ∃ e ∈ o.after, Region.binds .any e = true ∧ (e.on = j ∨ j ∈ D e.on)
  reads : ∀ i j o, i < j → j < n → ops[j]? = some o → ∀ t, dstAt ops i = some t → t ∈ o.looksAt ops → i ∈ D j
  over : ∀ i j o, i < j → j < n → ops[i]? = some o → ∀ t, dstAt ops j = some t → t ∈ o.looksAt ops → i ∈ D j
  apart : ∀ i j t, i < n → j < n → dstAt ops i = some t → dstAt ops j = some t → i = j
  tail : ∀ t, n ≤ t → t < ops.size → ∀ i, i < n → i ∈ D t
  noSel : Region.noSelect ops = true
  seq : Region.seqB .any ops (ops.size - n) n (Array.replicate n true ++ Array.replicate (ops.size - n) false) = true

theorem Act.put_get (a : Act) (d : Option Tmp) (v : Value) (t : Tmp) : (a.put d v).tmps[t]? = if d = some t ∧ t < a.tmps.size then some v else a.tmps[t]? := by
  cases d with
  | none => simp [Act.put]
  | some d =>
    simp only [Act.put, Array.getElem?_setIfInBounds, Option.some.injEq]
    by_cases h : d = t
    · subst h
      by_cases h2 : d < a.tmps.size <;> simp [h2]
    · simp [h]
theorem Act.put_size (a : Act) (d : Option Tmp) (v : Value) : (a.put d v).tmps.size = a.tmps.size := by cases d <;> simp [Act.put]
theorem Act.put_def (a : Act) (d : Option Tmp) (v : Value) : (a.put d v).defers = a.defers := by cases d <;> simp [Act.put]


theorem count_off {p q : Nat → Bool} {i : Nat} (hp : p i = true) (hq : q i = false) (he : ∀ j, j ≠ i → q j = p j) : ∀ n, i < n → (List.range n).countP q + 1 = (List.range n).countP p
  | 0, h => by omega
  | n + 1, h => by
    rw [List.range_succ, List.countP_append, List.countP_append]
    by_cases hn : i = n
    · subst hn
      have : (List.range i).countP q = (List.range i).countP p := List.countP_congr fun j hj => by rw [he j (by have := List.mem_range.1 hj; omega)]
      simp [hp, hq, this]
    · have := count_off hp hq he n (by omega)
      have h2 : [n].countP q = [n].countP p := by simp [List.countP_cons, he n (Ne.symm hn)]
      omega


theorem getD_set_iff {listed : Array Bool} {i j : Nat} (hi : i < listed.size) : ((listed.setIfInBounds i true).getD j false = true) = (listed.getD j false = true ∨ j = i) := by
  apply propext
  by_cases h : i = j
  · subst h; simp [hi]
  · rw [getD_set_ne false h]; constructor
    · exact .inl
    · rintro (h2 | h2)
      · exact h2
      · exact absurd h2.symm h


theorem getD_true_false {listed : Array Bool} {j : Nat} (hj : j < listed.size) : listed.getD j true = listed.getD j false := by simp [hj]


/-- The certificate: of each operation all that must have come up before it. -/
def growD (Dl : List (List Nat)) (m : Nat) : List Nat := Dl.getD m []
def growDeps (ops : List Oper) : List (List Nat) :=
  ops.foldl (init := []) fun acc o => acc ++ [(o.after.toList.filter (Region.binds .any ·)).foldl (init := []) fun l e => (l ++ e.on :: acc.getD e.on []).eraseDups]
def growB (ops : Array Oper) (Dl : List (List Nat)) (n : Nat) : Bool :=
  decide (n ≤ ops.size) && Region.noSelect ops && Region.seqB .any ops (ops.size - n) n (Array.replicate n true ++ Array.replicate (ops.size - n) false) &&
  (decide (Dl.length ≤ ops.size) && ((List.range ops.size).all fun m =>
    (match ops[m]? with
      | none => true
      | some o => (decide (n ≤ m) || o.after.all fun e => !Region.binds .any e || decide (e.on < m)) &&
        ((growD Dl m).all fun j => decide (j < m) && o.after.any fun e => Region.binds .any e && (e.on == j || (growD Dl e.on).contains j)) &&
        (decide (m < n) || (List.range n).all fun i => (growD Dl m).contains i)))) &&
  ((List.range n).all fun j => (List.range j).all fun i =>
    match ops[i]?, ops[j]? with
    | some oi, some oj =>
      (match oi.dst with | some t => (!(oj.looksAt ops).contains t || (growD Dl j).contains i) && oj.dst != some t | none => true) &&
      (match oj.dst with | some t => !(oi.looksAt ops).contains t || (growD Dl j).contains i | none => true)
    | _, _ => true)

theorem growB_ok {l : List Oper} {Dl : List (List Nat)} {n : Nat} (h : growB l.toArray Dl n = true) : GrowOk l.toArray (growD Dl) n ∧ ∀ m j, j ∈ growD Dl m → j < m := by
  unfold growB at h
  simp only [Bool.and_eq_true, decide_eq_true_eq, List.all_eq_true, List.mem_range] at h
  obtain ⟨⟨⟨⟨h1, h2⟩, h3⟩, h4, h5⟩, h6⟩ := h
  have hlt : ∀ m j, j ∈ growD Dl m → j < m := fun m j hj => by
    have hm : m < l.toArray.size := by
      rcases Nat.lt_or_ge m Dl.length with h | h
      · omega
      · have : growD Dl m = [] := by unfold growD; simp [h]
        rw [this] at hj; cases hj
    have := h5 m hm
    rw [Array.getElem?_eq_getElem hm] at this
    simp only [Bool.and_eq_true, List.all_eq_true, decide_eq_true_eq] at this
    exact (this.1.2 j hj).1
  have hpair : ∀ i j oi oj, i < j → j < n → l.toArray[i]? = some oi → l.toArray[j]? = some oj →
      (∀ t, oi.dst = some t → (t ∈ oj.looksAt l.toArray → i ∈ growD Dl j) ∧ oj.dst ≠ some t) ∧ (∀ t, oj.dst = some t → t ∈ oi.looksAt l.toArray → i ∈ growD Dl j) := fun i j oi oj hij hj hoi hoj => by
    have := h6 j hj i hij
    rw [hoi, hoj] at this
    simp only [Bool.and_eq_true] at this
    constructor
    · intro t ht
      rw [ht] at this
      have h7 := this.1
      simp only [Bool.and_eq_true, Bool.or_eq_true, Bool.not_eq_true', List.contains_eq_mem, decide_eq_true_eq, decide_eq_false_iff_not, bne_iff_ne] at h7
      exact ⟨fun hx => h7.1.resolve_left (fun h => h hx), h7.2⟩
    · intro t ht hx
      rw [ht] at this
      have h7 := this.2
      simp only [Bool.or_eq_true, Bool.not_eq_true', List.contains_eq_mem, decide_eq_true_eq, decide_eq_false_iff_not] at h7
      exact h7.resolve_left (fun h => h hx)
  have hat : ∀ i t, dstAt l.toArray i = some t → ∃ o, l.toArray[i]? = some o ∧ o.dst = some t := fun i t h => by
    unfold dstAt at h
    cases ho : l.toArray[i]? with
    | none => rw [ho] at h; cases h
    | some o => rw [ho] at h; exact ⟨o, rfl, h⟩
  refine ⟨⟨h1, ?_, ?_, ?_, ?_, ?_, ?_, h2, h3⟩, hlt⟩
  · intro m o hm ho e he hb
    have := h5 m (by omega)
    rw [ho] at this
    simp only [Bool.and_eq_true, Bool.or_eq_true, decide_eq_true_eq] at this
    have h7 := this.1.1.resolve_left (by omega)
    have h8 := Array.all_eq_true_iff_forall_mem.1 h7 e he
    simpa [hb] using h8
  · intro m o ho j hj
    have hm : m < l.toArray.size := (Array.getElem?_eq_some_iff.1 ho).1
    have := h5 m hm
    rw [ho] at this
    simp only [Bool.and_eq_true, List.all_eq_true, decide_eq_true_eq] at this
    have h7 := (this.1.2 j hj).2
    obtain ⟨e, he, h8⟩ := Array.any_eq_true'.1 h7
    simp only [Bool.and_eq_true, Bool.or_eq_true, beq_iff_eq, List.contains_eq_mem, decide_eq_true_eq] at h8
    exact ⟨e, he, h8.1, h8.2⟩
  · intro i j o hij hj ho t ht hx
    obtain ⟨oi, hoi, hdi⟩ := hat i t ht
    exact ((hpair i j oi o hij hj hoi ho).1 t hdi).1 hx
  · intro i j o hij hj ho t ht hx
    obtain ⟨oj, hoj, hdj⟩ := hat j t ht
    exact (hpair i j o oj hij hj ho hoj).2 t hdj hx
  · intro i j t hi hj hti htj
    obtain ⟨oi, hoi, hdi⟩ := hat i t hti
    obtain ⟨oj, hoj, hdj⟩ := hat j t htj
    rcases Nat.lt_trichotomy i j with h | h | h
    · exact absurd hdj ((hpair i j oi oj h hj hoi hoj).1 t hdi).2
    · exact h
    · exact absurd hdi ((hpair j i oj oi h hi hoj hoi).1 t hdj).2
  · intro t ht hts i hi
    have := h5 t hts
    rw [Array.getElem?_eq_getElem hts] at this
    simp only [Bool.and_eq_true, Bool.or_eq_true, decide_eq_true_eq, List.all_eq_true, List.mem_range, List.contains_eq_mem] at this
    exact (this.2.resolve_left (by omega)) i hi


/-- A region that draws its order: what holds when some operations have come up, whichever. -/
theorem wpAny_inv {D : Nat → List Nat} {Q : Exit → Act → World → Prop} {tail : List Oper} {n : Nat} (ok : GrowOk ops D n) (htl : ∀ j, tail[j]? = ops[n + j]?) (I : (Nat → Prop) → Act → World → Prop)
    (hstep : ∀ (L : Nat → Prop) a w i, (∀ m, L m → ∀ j, j ∈ D m → L j) → ¬ L i → i < n → (∀ j, j ∈ D i → L j) → I L a w → ∀ K : Act → World → Prop, (∀ a' w', I (fun j => L j ∨ j = i) a' w' → K a' w') → wpOp P ops Q i K a w)
    (hfin : ∀ (L : Nat → Prop) a w, (∀ j, j < n → L j) → (∀ j, L j → j < n) → I L a w → wpList P ops Q tail a w) :
    ∀ f (listed : Array Bool) (a : Act) (w : World), listed.size = ops.size → (∀ t, n ≤ t → t < ops.size → listed.getD t false = false) → (∀ m, listed.getD m false = true → ∀ j, j ∈ D m → listed.getD j false = true) →
      I (fun j => listed.getD j false = true) a w → (List.range n).countP (fun j => !listed.getD j false) = f → wpAny P .any ops Q (f + tail.length) listed a w
  | 0, listed, a, w, hsz, ht0, hcl, hI, hf => by
    have hL : ∀ j, j < n → listed.getD j false = true := fun j hj => by
      have := List.countP_eq_zero.1 hf j (List.mem_range.2 hj)
      simpa using this
    have hlt : ∀ j, listed.getD j false = true → j < n := fun j hj => by
      rcases Nat.lt_or_ge j n with h | h
      · exact h
      · by_cases h2 : j < ops.size
        · rw [ht0 j h h2] at hj; cases hj
        · simp [Array.getElem?_eq_none (by omega : listed.size ≤ j)] at hj
    rw [Nat.zero_add]
    have hlen : tail.length = ops.size - n := by
      have h1 : tail[ops.size - n]? = none := by rw [htl]; exact Array.getElem?_eq_none (by have := ok.size; omega)
      have h2 := List.getElem?_eq_none_iff.1 h1
      rcases Nat.lt_or_ge tail.length (ops.size - n) with h | h
      · have h3 : tail[tail.length]? = none := List.getElem?_eq_none_iff.2 (Nat.le_refl _)
        rw [htl] at h3
        have := Array.getElem?_eq_none_iff.1 h3
        have := ok.size
        omega
      · omega
    have hlist : listed = Array.replicate n true ++ Array.replicate (ops.size - n) false := by
      have hn := ok.size
      apply Array.ext
      · simp [hsz]; omega
      · intro j h1 h2
        rcases Nat.lt_or_ge j n with hjn | hjn
        · have h3 : listed[j] = true := by have := hL j hjn; simpa [h1] using this
          exact h3.trans (by rw [Array.getElem_append_left (by simpa using hjn)]; simp)
        · have h3 : listed[j] = false := by have := ht0 j hjn (by rw [← hsz]; exact h1); simpa [h1] using this
          exact h3.trans (by rw [Array.getElem_append_right (by simpa using hjn)]; simp)
    exact wpAny_of_seq tail n listed _ w htl (by rw [hlist, hlen]; exact ok.seq) (hfin _ a w hL hlt hI)
  | f + 1, listed, a, w, hsz, ht0, hcl, hI, hf => by
    have hex : ∃ j, j < n ∧ listed.getD j false = false := by
      have hp : 0 < (List.range n).countP (fun j => !listed.getD j false) := by omega
      obtain ⟨j, hj, hj2⟩ := List.countP_pos_iff.1 hp
      exact ⟨j, List.mem_range.1 hj, by simpa using hj2⟩
    have hsmall : ∀ j, j < n → listed.getD j false = false → Region.ready .any ops listed ≠ [] := by
      intro j
      induction j using Nat.strongRecOn with
      | _ j ih =>
        intro hj hjf
        have hjo : j < ops.size := by have := ok.size; omega
        have hol : ops[j]? = some ops[j] := Array.getElem?_eq_getElem hjo
        by_cases hb : ∀ e ∈ ops[j].after, Region.binds .any e = true → listed.getD e.on false = true
        · intro hnil
          have : j ∈ Region.ready .any ops listed := mem_ready.2 ⟨by rw [getD_true_false (by rw [hsz]; exact hjo)]; exact hjf, _, hol, hb⟩
          rw [hnil] at this
          cases this
        · have : ∃ e, e ∈ ops[j].after ∧ Region.binds .any e = true ∧ ¬ listed.getD e.on false = true := by
            apply Classical.byContradiction
            intro hne
            exact hb fun e he hbe => Classical.byContradiction fun hx => hne ⟨e, he, hbe, hx⟩
          obtain ⟨e, he, hbe, hx⟩ := this
          have := ok.edge j _ hj hol e he hbe
          exact ih e.on this (by omega) (by simpa using hx)
    obtain ⟨j0, hj0, hj0f⟩ := hex
    rw [show f + 1 + tail.length = (f + tail.length) + 1 by omega]
    refine ⟨fun h0 => absurd h0 (hsmall j0 hj0 hj0f), fun i hi => ?_⟩
    obtain ⟨hun, o, ho, hall⟩ := mem_ready.1 hi
    have hio : i < ops.size := (Array.getElem?_eq_some_iff.1 ho).1
    have hd : ∀ j, j ∈ D i → listed.getD j false = true := fun j hj => by
      obtain ⟨e, he, hb, hon⟩ := ok.sub i o ho j hj
      have h1 := hall e he hb
      rcases hon with rfl | hon
      · exact h1
      · exact hcl _ h1 j hon
    have hin : i < n := by
      rcases Nat.lt_or_ge i n with h | h
      · exact h
      · exfalso
        have h2 := hd j0 (ok.tail i h hio j0 hj0)
        rw [hj0f] at h2
        cases h2
    have his : i < listed.size := by rw [hsz]; exact hio
    have hui : listed.getD i false = false := by rw [← getD_true_false his]; exact hun
    have hset : (fun j => listed.getD j false = true ∨ j = i) = (fun j => (listed.setIfInBounds i true).getD j false = true) := by funext j; exact (getD_set_iff his).symm
    refine hstep _ a w i hcl (by rw [hui]; exact fun h => by cases h) hin hd hI _ fun a' w' I' => wpAny_inv ok htl I hstep hfin f _ a' w' (by simp [hsz]) (fun t h1 h2 => by rw [getD_set_ne false (by omega)]; exact ht0 t h1 h2) (fun m hm j hj => ?_) (by rw [← hset]; exact I') ?_
    · rw [getD_set_iff his] at hm ⊢
      rcases hm with hm | rfl
      · exact .inl (hcl m hm j hj)
      · exact .inl (hd j hj)
    · have := count_off (p := fun j => !listed.getD j false) (q := fun j => !(listed.setIfInBounds i true).getD j false) (i := i) (by simp only [hui]; rfl)
        (by have : (listed.setIfInBounds i true).getD i false = true := by rw [getD_set_iff his]; exact .inr rfl
            simp only [this]; rfl)
        (fun j hj => by simp only [getD_set_ne false (Ne.symm hj)]) n hin
      omega

theorem region_inv {id : Nat} {l : List Oper} {a : Act} {W : World} {Q : Exit → Act → World → Prop} (n : Nat) (Dl : List (List Nat)) (hm : P.follows .mixedOrders = true) (hB : growB l.toArray Dl n = true) (I : (Nat → Prop) → Act → World → Prop)
    (h0 : I (fun _ => False) a W.drew)
    (hstep : ∀ (L : Nat → Prop) a w i, (∀ m, L m → ∀ j, j ∈ growD Dl m → L j) → ¬ L i → i < n → (∀ j, j ∈ growD Dl i → L j) → I L a w → ∀ K : Act → World → Prop, (∀ a' w', I (fun j => L j ∨ j = i) a' w' → K a' w') → wpOp P l.toArray Q i K a w)
    (hfin : ∀ (L : Nat → Prop) a w, (∀ j, j < n → L j) → (∀ j, L j → j < n) → I L a w → wpList P l.toArray Q (l.drop n) a w) : (Code.region id l.toArray true).wp P Q a W := by
  obtain ⟨ok, hlt⟩ := growB_ok hB
  have hn : n ≤ l.length := by have := ok.size; simpa using this
  have hcount : ∀ m, (List.range m).countP (fun j => !(Array.replicate l.toArray.size false).getD j false) = m := fun m => by
    have : (List.range m).countP (fun j => !(Array.replicate l.toArray.size false).getD j false) = (List.range m).length :=
      List.countP_eq_length.2 fun j _ => by rw [getD_replicate_false]; rfl
    rw [this, List.length_range]
  have hfuel : n + (l.drop n).length = l.toArray.size := by simp; omega
  have hno : (fun j => (Array.replicate l.toArray.size false).getD j false = true) = fun _ => False := by funext j; rw [getD_replicate_false]; simp
  refine wp_region_any hm ?_
  have := wpAny_inv ok (fun j => by simp [List.getElem?_drop]) I hstep hfin n (Array.replicate l.toArray.size false) a W.drew (by simp) (fun t _ _ => getD_replicate_false _ _) (fun m hm => by rw [getD_replicate_false] at hm; cases hm) (by rw [hno]; exact h0) (hcount n)
  rw [hfuel] at this
  exact this
end
end Go.Proofs.YtfnkciboencifaaDoor

