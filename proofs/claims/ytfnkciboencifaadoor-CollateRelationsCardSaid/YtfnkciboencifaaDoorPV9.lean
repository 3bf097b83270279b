/-
  The clean machine: calls of functions that only compute.
-/
import Derived.Test.YtfnkciboencifaaDoorPV8
set_option linter.all false
namespace Go.Proofs.YtfnkciboencifaaDoor
open Go Go.RowKit

def Enters (P : Program) (f : FuncId) : Prop := ∀ args w, (callFunc f args).run P w = .ok (.enter f args) w

/-- What stands behind a call: the result, and new rows of its own. -/
def ResIs (F : Nat → Prop) (w w' : World) (r : PV) (os : List AO) (v : Value) : Prop :=
  ∃ (ν : Nat → Option Nat) (F' : Nat → Prop), Rep (· < os.length) ν F' w' r v ∧ (∀ i o, os[i]? = some o → Stands (· < os.length) ν F' w' o (ν i)) ∧
    (∀ i b, i < os.length → ν i = some b → w.heap.size ≤ b ∧ ¬ F' b) ∧ (∀ i j b, i < os.length → j < os.length → ν i = some b → ν j = some b → i = j) ∧ (∀ b, F' b → (F b ∨ w.heap.size ≤ b) ∧ b < w'.heap.size)

/-- The function only computes: at these arguments it answers this. -/
def PureCall (P : Program) (f : FuncId) (args : List PV) (r : PV) (os : List AO) : Prop :=
  ∀ (D : Nat → Prop) (μ : Nat → Option Nat) (F : Nat → Prop) (w : World) (vs : Array Value), vs.size = args.length → (∀ i (h : i < args.length), Rep D μ F w args[i] (vs.getD i undef)) → (∀ b, F b → b < w.heap.size) →
    Calls P f vs w fun e w' => ∃ v, e = .returned v ∧ Below w.heap.size w w' ∧ ResIs F w w' r os v

def AO.ren (ρ : Nat → Nat) (o : AO) : AO := ⟨o.sz, o.els.map (PV.ren ρ)⟩

theorem Stands.ren {D D' : Nat → Prop} {μ μ' : Nat → Option Nat} {F : Nat → Prop} {w : World} {o : AO} {m : Option Nat} {ρ : Nat → Nat} (h : Stands D μ F w o m) (hD : ∀ i, D i → D' (ρ i) ∧ μ' (ρ i) = μ i) : Stands D' μ' F w (o.ren ρ) m := by
  cases m with
  | none => have h' : o.els = [] := h; show (o.ren ρ).els = []; simp [AO.ren, h']
  | some b =>
    obtain ⟨A, e, h1, h2, h3, h4⟩ := h
    refine ⟨A, e, h1, by simpa [AO.ren] using h2, fun k hk => ?_, fun k hk c hc => ?_⟩
    · have hk' : k < o.els.length := by simpa [AO.ren] using hk
      have := h3 k hk'
      simp only [AO.ren, getElem_map', ren_cells, List.length_map]; exact this
    · have hk' : k < o.els.length := by simpa [AO.ren] using hk
      have hc' : c < o.els[k].cells.length := by simpa [AO.ren, ren_cells] using hc
      have e : (o.ren ρ).els[k].cells[c] = (o.els[k].cells[c]).ren ρ := by simp [AO.ren, ren_cells]
      rw [e]; exact (h4 k hk' c hc').ren hD

theorem Stands.flat {D : Nat → Prop} {μ : Nat → Option Nat} {F F' : Nat → Prop} {w : World} {o : AO} {m : Option Nat} (h : Stands D μ F w o m) (hf : o.els.all PV.flatB = true) : Stands D μ F' w o m := by
  cases m with
  | none => exact h
  | some b =>
    obtain ⟨A, e, h1, h2, h3, h4⟩ := h
    exact ⟨A, e, h1, h2, h3, fun k hk c hc => (h4 k hk c hc).flatAny (all_get (flat_cells (all_get hf k hk)) c hc)⟩
theorem Stands.stay {D D' : Nat → Prop} {μ μ' : Nat → Option Nat} {F F' : Nat → Prop} {w w' : World} {o : AO} {m : Option Nat} (h : Stands D μ F w o m) (hs : Stay F w w') (hD : ∀ i, D i → D' i ∧ μ' i = μ i) (hF : ∀ b, F b → F' b)
    (hb : ∀ b, m = some b → w'.heap[b]? = w.heap[b]?) : Stands D' μ' F' w' o m := by
  cases m with
  | none => exact h
  | some b => exact ObjOk.stay h hs hD hF (hb b rfl)

section
variable {P : Program}

/-- Which own objects are looked at. -/
def reach (H : Nat → Option AO) : Nat → PV → List Nat
  | 0, _ => []
  | n + 1, .agg l => l.flatMap (reach H n)
  | n + 1, .tup l => l.flatMap (reach H n)
  | n + 1, .fn _ l => l.flatMap (reach H n)
  | n + 1, .ob i _ _ _ => i :: (match H i with | some o => o.els.flatMap (reach H n) | none => [])
  | n + 1, .ptr i _ _ _ => i :: (match H i with | some o => o.els.flatMap (reach H n) | none => [])
  | _ + 1, _ => []

theorem sealed_reach {H H' : Nat → Option AO} (keep : Nat → Bool) : ∀ (n : Nat) (p : PV), (∀ i, i ∈ reach H n p → H' i = H i) → sealed H' keep n p = sealed H keep n p := by
  intro n
  induction n with
  | zero => intro p _; rfl
  | succ n ih =>
    intro p h
    cases p with
    | agg l => simp only [sealed, reach] at h ⊢; congr 1; exact List.map_congr_left fun q hq => ih q (fun i hi => h i (List.mem_flatMap.2 ⟨q, hq, hi⟩))
    | tup l => simp only [sealed, reach] at h ⊢; congr 1; exact List.map_congr_left fun q hq => ih q (fun i hi => h i (List.mem_flatMap.2 ⟨q, hq, hi⟩))
    | fn f l => simp only [sealed, reach] at h ⊢; congr 1; exact List.map_congr_left fun q hq => ih q (fun i hi => h i (List.mem_flatMap.2 ⟨q, hq, hi⟩))
    | ob i sz off len =>
      simp only [sealed, reach] at h ⊢
      rw [h i (List.mem_cons_self ..)]
      cases hi : H i with
      | none => rfl
      | some o =>
        simp only [hi] at h ⊢
        split
        · rfl
        · split
          · congr 1
            exact List.map_congr_left fun q hq => ih q (fun j hj => h j (List.mem_cons_of_mem _ (List.mem_flatMap.2 ⟨q, List.mem_of_mem_drop (List.mem_of_mem_take hq), hj⟩)))
          · rfl
    | ptr i sz k c =>
      simp only [sealed, reach] at h ⊢
      rw [h i (List.mem_cons_self ..)]
      cases hi : H i with
      | none => rfl
      | some o =>
        simp only [hi] at h ⊢
        split
        · rfl
        · split
          · congr 1
            exact List.map_congr_left fun q hq => ih q (fun j hj => h j (List.mem_cons_of_mem _ (List.mem_flatMap.2 ⟨q, hq, hj⟩)))
          · rfl
    | _ => rfl

end
/-- Other numbers for own objects. -/
def rmap (L : List Nat) (nx : Nat) (i : Nat) : Nat := (L[i]?).getD (nx + i)

theorem lk_mem {α : Type} : ∀ {l : List (Nat × α)} {i : Nat} {x : α}, lk l i = some x → (i, x) ∈ l
  | [], _, _, h => by cases h
  | (j, y) :: t, i, x, h => by
    unfold lk at h
    split at h
    · rename_i hj; subst hj; cases h; exact List.mem_cons_self ..
    · exact List.mem_cons_of_mem _ (lk_mem h)

theorem Stands.ren_inv {D D' : Nat → Prop} {μ μ' : Nat → Option Nat} {F : Nat → Prop} {w : World} {o : AO} {m : Option Nat} {ρ : Nat → Nat} (h : Stands D μ F w (o.ren ρ) m) (hD : ∀ i, D (ρ i) → D' i ∧ μ' i = μ (ρ i)) : Stands D' μ' F w o m := by
  cases m with
  | none =>
    have h' : (o.ren ρ).els = [] := h
    show o.els = []
    simpa [AO.ren] using h'
  | some b =>
    obtain ⟨A, e, h1, h2, h3, h4⟩ := h
    refine ⟨A, e, h1, by simpa [AO.ren] using h2, fun k hk => ?_, fun k hk c hc => ?_⟩
    · have := h3 k (by simpa [AO.ren] using hk)
      simpa [AO.ren, ren_cells] using this
    · have := h4 k (by simpa [AO.ren] using hk) c (by simpa [AO.ren, ren_cells] using hc)
      exact this.ren_inv hD _ (by simp [AO.ren, ren_cells])

theorem rmap_in {L : List Nat} {nx i : Nat} {D : Nat → Prop} (hD : ∀ i, D i → i < nx) (h : D (rmap L nx i)) : ∃ hi : i < L.length, rmap L nx i = L[i] := by
  by_cases hi : i < L.length
  · exact ⟨hi, by simp [rmap, hi]⟩
  · have : rmap L nx i = nx + i := by simp [rmap, hi]
    rw [this] at h
    have := hD _ h
    omega
theorem nodup_inj {L : List Nat} (h : L.Nodup) {i j : Nat} (hi : i < L.length) (hj : j < L.length) (he : L[i] = L[j]) : i = j := by
  rcases Nat.lt_trichotomy i j with hlt | heq | hgt
  · exact absurd he (List.pairwise_iff_getElem.1 h i j hi hj hlt)
  · exact heq
  · exact absurd he.symm (List.pairwise_iff_getElem.1 h j i hj hi hgt)

theorem cells_sealed {w0 : Home} {F0 D : Nat → Prop} {μ : Nat → Option Nat} {F : Nat → Prop} {H : Nat → Option AO} {w : World} (hH : HeapSim w0 F0 D μ F H w) (keep : Nat → Bool) (F2 : Nat → Prop) (hF : ∀ b, F b → F2 b) (hO : ∀ i o b, keep i = false → H i = some o → μ i = some b → F2 b)
    (k : Nat) (p : PV) (val : Nat → Value) (h : ∀ c (hc : c < p.cells.length), Rep D μ F w p.cells[c] (val c)) : ∀ c (hc : c < (sealed H keep k p).cells.length), Rep D μ F2 w (sealed H keep k p).cells[c] (val c) := fun c hc => by
  have hc' : c < p.cells.length := by rw [sealed_len] at hc; exact hc
  rcases sealed_cells H keep k p with ⟨l, rfl, hn⟩ | ⟨hs, hn⟩ | ⟨g1, g2⟩
  · obtain ⟨m, rfl⟩ : ∃ m, k = m + 1 := ⟨k - 1, by omega⟩
    have e3 : (sealed H keep (m + 1) (.agg l)).cells = l.map (sealed H keep m) := rfl
    rw [gl e3 hc, List.getElem_map]
    exact Rep.sealed hH keep F2 hF hO m _ _ (h c hc')
  · rw [gl hs hc]
    exact (h c hc').stay (Stay.refl _ _) (fun _ h => ⟨h, rfl⟩) hF
  · have hc0 : c = 0 := by rw [g1] at hc'; simpa using hc'
    subst hc0
    rw [gl g2 hc, List.getElem_cons_zero]
    have := h 0 hc'
    rw [gl g1 hc', List.getElem_cons_zero] at this
    exact Rep.sealed hH keep F2 hF hO k _ _ this


section
variable {P : Program}
def newIds (n k : Nat) (D : Nat → Prop) : Nat → Prop := fun i => D i ∨ (n ≤ i ∧ i < n + k)
def newMap (n k : Nat) (μ ν : Nat → Option Nat) : Nat → Option Nat := fun i => if n ≤ i ∧ i < n + k then ν (i - n) else μ i

theorem Sound.callPure {fo : Operand} {xs : Array Operand} {ts : Array TypeId} {S : St} {f : FuncId} {n : Nat} {r : PV} {os : List AO} {rd : List Nat} {cap : List PV} (hfo : S.ev fo = .fn f cap) (hen : Enters P f)
    (hc : PureCall P f ((xs.toList.map S.ev ++ cap).map (sealed S.obj (fun _ => false) n)) r os)
    (hfl : noObL (xs.toList.map S.ev ++ cap) = true ∨ (r.flatB = true ∧ os.all (fun o => o.els.all PV.flatB) = true))
    (hrd : ∀ p, p ∈ xs.toList.map S.ev ++ cap → ∀ i, i ∈ reach S.obj n p → i ∈ rd) :
    Sound P (.call ⟨.value fo, xs, ts⟩) S (r.ren (· + S.nx)) ⟨os.map (AO.ren (· + S.nx)), [], [], rd⟩ := by
  intro o a w0 F0 D μ F H w ho hH hxs hr hD next Q hn
  have hpf := hxs fo (by simp [Op.operands, Call.operands])
  rw [hfo] at hpf
  have hxa : ∀ x, x ∈ xs.toList → Rep D μ F w (S.ev x) (a.eval x) := fun x hx => hxs x (by simp only [Op.operands, Call.operands]; simp at hx ⊢; exact .inr hx)
  generalize hef : a.eval fo = u at hpf
  cases hpf with
  | fn _ _ cvs hcs hcr =>
    have hval : ∀ i (h : i < (xs.toList.map S.ev ++ cap).length), Rep D μ F w ((xs.toList.map S.ev ++ cap)[i]) ((xs.map a.eval ++ cvs).getD i undef) := fun i h => by
      by_cases hi : i < xs.size
      · have e1 : (xs.toList.map S.ev ++ cap)[i] = S.ev xs[i] := by rw [List.getElem_append_left (by simpa using hi)]; simp
        have e2 : (xs.map a.eval ++ cvs).getD i undef = a.eval xs[i] := by simp [Array.getD_eq_getD_getElem?, Array.getElem?_append, hi]
        rw [e1, e2]
        exact hxa _ (by simp)
      · have hi2 : i - xs.size < cap.length := by simp at h; omega
        have e1 : (xs.toList.map S.ev ++ cap)[i] = cap[i - xs.size] := by rw [List.getElem_append_right (by simpa using hi)]; simp
        have e2 : (xs.map a.eval ++ cvs).getD i undef = cvs.getD (i - xs.size) undef := by simp [Array.getD_eq_getD_getElem?, Array.getElem?_append, hi]
        rw [e1, e2]
        exact hcr _ hi2
    have hex : (execOp a.eval o).run P w = .ok (.enter f (xs.map a.eval ++ cvs)) w := by
      have := hen (xs.map a.eval ++ cvs) w
      unfold execOp
      simp only [ho, resolve, hef, Deferred.ofValue, Sem.run_bind, Sem.run_pure, Result.andThen_ok, invoke]
      simpa using this
    unfold Oper.wp
    rw [hex]
    simp only [Oper.upon]
    -- the frozen blocks that the call may look at
    have hsame : ∀ p, p ∈ xs.toList.map S.ev ++ cap → sealed H (fun _ => false) n p = sealed S.obj (fun _ => false) n p := fun p hp => sealed_reach _ n _ (fun i hi => hr i (hrd p hp i hi))
    have main : ∀ (F2 : Nat → Prop), (∀ b, F b → F2 b) → (∀ b, F2 b → b < w.heap.size) → (∀ i (h : i < ((xs.toList.map S.ev ++ cap).map (sealed S.obj (fun _ => false) n)).length), Rep D μ F2 w (((xs.toList.map S.ev ++ cap).map (sealed S.obj (fun _ => false) n))[i]) ((xs.map a.eval ++ cvs).getD i undef)) →
        ((∀ b, F2 b → F b) ∨ (r.flatB = true ∧ os.all (fun o => o.els.all PV.flatB) = true)) → Calls P f (xs.map a.eval ++ cvs) w fun | .returned v, w'' => next (a.put o.dst v) w'' | .panicked chain, w'' => Q (.panic chain) a w'' | .outgrown, _ => LetsOut Q := by
      intro F2 hF2 hF2s hargs hwhich
      refine (hc D μ F2 w (xs.map a.eval ++ cvs) (by simp [hcs]) hargs hF2s).mono fun e w' he => ?_
      obtain ⟨v, rfl, hb, ν, F', h1, h2, h3, h4, h5⟩ := he
      show next (a.put o.dst v) w'
      -- the frozen blocks behind the call
      obtain ⟨F3, hF3, h1', h2', h5', h3'⟩ : ∃ F3 : Nat → Prop, (∀ b, F b → F3 b) ∧ Rep (· < os.length) ν F3 w' r v ∧ (∀ i o, os[i]? = some o → Stands (· < os.length) ν F3 w' o (ν i)) ∧ (∀ b, F3 b → (F b ∨ w.heap.size ≤ b) ∧ b < w'.heap.size) ∧
          (∀ i b, i < os.length → ν i = some b → w.heap.size ≤ b ∧ ¬ F3 b) := by
        rcases hwhich with hw | ⟨hw1, hw2⟩
        · refine ⟨fun b => F b ∨ F' b, fun b h => .inl h, h1.stay (Stay.refl _ _) (fun _ h => ⟨h, rfl⟩) (fun _ h => .inr h), fun i o hi => (h2 i o hi).stay (Stay.refl _ _) (fun _ h => ⟨h, rfl⟩) (fun _ h => .inr h) (fun _ _ => rfl), fun b hbF => ?_, fun i b hi hib => ?_⟩
          · rcases hbF with hbF | hbF
            · exact ⟨.inl hbF, Nat.lt_of_lt_of_le (hH.fsz b hbF) hb.size⟩
            · exact ⟨(h5 b hbF).1.imp (hw b) id, (h5 b hbF).2⟩
          · refine ⟨(h3 i b hi hib).1, fun hbF => hbF.elim (fun h => ?_) (h3 i b hi hib).2⟩
            have := hH.fsz b h
            have := (h3 i b hi hib).1
            omega
        · refine ⟨F, fun b h => h, h1.flatAny hw1, fun i o hi => (h2 i o hi).flat (List.all_eq_true.1 hw2 _ (List.mem_of_getElem? hi)), fun b hbF => ⟨.inl hbF, Nat.lt_of_lt_of_le (hH.fsz b hbF) hb.size⟩, fun i b hi hib => ⟨(h3 i b hi hib).1, fun h => ?_⟩⟩
          have := hH.fsz b h
          have := (h3 i b hi hib).1
          omega
      have hlen : (os.map (AO.ren (· + S.nx))).length = os.length := by simp
      have hDn : ∀ k, k < os.length → ¬ D (S.nx + k) := fun k hk => hD k (by rw [hlen]; exact hk)
      have hold : ∀ i, D i → newIds S.nx os.length D i ∧ newMap S.nx os.length μ ν i = μ i := fun i hi => ⟨.inl hi, by
        unfold newMap
        rw [if_neg]
        rintro ⟨g1, g2⟩
        have := hDn (i - S.nx) (by omega)
        rw [show S.nx + (i - S.nx) = i by omega] at this
        exact this hi⟩
      have hnew : ∀ i, i < os.length → newIds S.nx os.length D (i + S.nx) ∧ newMap S.nx os.length μ ν (i + S.nx) = ν i := fun i hi => ⟨.inr ⟨by omega, by omega⟩, by unfold newMap; rw [if_pos ⟨by omega, by omega⟩]; congr 1; omega⟩
      have hst : Stay F w w' := Stay.below hb
      refine hn v w' (newIds S.nx os.length D) (newMap S.nx os.length μ ν) F3 (h1'.ren hnew) ?_ hst hold hF3 (fun i hi => by rw [hlen]; exact hi)
      refine hH.step hst hold hF3 (hH.ext.trans hb) (fun b hbF => (h5' b hbF).1.elim (hH.f0 b) (fun h => .inr (hH.ext.own_lt _ h))) (fun b hbF => (h5' b hbF).2) fun i ob hi => ?_
      unfold Eff.app at hi
      simp only [lk, List.not_mem_nil, if_false] at hi
      by_cases hin : S.nx ≤ i ∧ i < S.nx + (os.map (AO.ren (· + S.nx))).length
      · rw [if_pos hin] at hi
        rw [hlen] at hin
        obtain ⟨j, rfl⟩ : ∃ j, i = j + S.nx := ⟨i - S.nx, by omega⟩
        have hj : j < os.length := by omega
        rw [show j + S.nx - S.nx = j by omega, List.getElem?_map, List.getElem?_eq_getElem hj] at hi
        cases hi
        right
        obtain ⟨g1, g2⟩ := hnew j hj
        rw [g2]
        refine ⟨g1, (h2' j _ (List.getElem?_eq_getElem hj)).ren hnew, fun b hjb => ⟨hH.ext.own_lt _ (h3' j b hj hjb).1, (h3' j b hj hjb).2, fun k o2 hk hk2 hkb => ?_⟩⟩
        unfold Eff.app at hk2
        simp only [lk, List.not_mem_nil, if_false] at hk2
        by_cases hkin : S.nx ≤ k ∧ k < S.nx + (os.map (AO.ren (· + S.nx))).length
        · rw [hlen] at hkin
          obtain ⟨m, rfl⟩ : ∃ m, k = m + S.nx := ⟨k - S.nx, by omega⟩
          rw [(hnew m (by omega)).2] at hkb
          exact hk (by rw [h4 m j b (by omega) hj hkb hjb])
        · rw [if_neg hkin] at hk2
          rw [(hold k (hH.objs k o2 hk2).1).2] at hkb
          have := (hH.ok hk2 hkb).lt
          have := (h3' j b hj hjb).1
          omega
      · rw [if_neg hin] at hi
        refine .inl ⟨hi, fun b hib => ⟨hb.block _ (hH.ok hi hib).lt, fun hbF => ?_⟩⟩
        rcases (h5' b hbF).1 with h | h
        · exact (hH.own i ob b hi hib).2 h
        · have := (hH.ok hi hib).lt
          omega
    have argget : ∀ i (h : i < ((xs.toList.map S.ev ++ cap).map (sealed S.obj (fun _ => false) n)).length), ∃ p, p ∈ xs.toList.map S.ev ++ cap ∧ ((xs.toList.map S.ev ++ cap).map (sealed S.obj (fun _ => false) n))[i] = sealed S.obj (fun _ => false) n p ∧ Rep D μ F w p ((xs.map a.eval ++ cvs).getD i undef) := fun i h => by
      have hi : i < (xs.toList.map S.ev ++ cap).length := by simpa using h
      exact ⟨(xs.toList.map S.ev ++ cap)[i], List.getElem_mem hi, by rw [List.getElem_map], hval i hi⟩
    rcases hfl with hno | hfl
    · refine main F (fun _ h => h) hH.fsz (fun i h => ?_) (.inl (fun _ h => h))
      obtain ⟨p, hp, e1, e2⟩ := argget i h
      rw [e1, noOb_sealed _ _ _ _ (by rw [noObL_all] at hno; exact List.all_eq_true.1 hno _ hp)]
      exact e2
    · refine main (fun b => F b ∨ ∃ i o, H i = some o ∧ μ i = some b) (fun _ h => .inl h) (fun b hbF => hbF.elim (hH.fsz b) (fun ⟨i, o, hi, hib⟩ => (hH.ok hi hib).lt)) (fun i h => ?_) (.inr hfl)
      obtain ⟨p, hp, e1, e2⟩ := argget i h
      rw [e1, ← hsame p hp]
      exact Rep.sealed hH (fun _ => false) _ (fun _ h => .inl h) (fun i o b _ hi hib => .inr ⟨i, o, hi, hib⟩) n _ _ e2
end
end Go.Proofs.YtfnkciboencifaaDoor

