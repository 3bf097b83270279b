/-
  The clean machine: calls of functions that only compute.
-/
import Derived.Test.YtfnkciboencifaaDoorBV8
import Derived.StillTail
set_option linter.all false
namespace Go.Proofs.YtfnkciboencifaaDoor
open Go Go.RowKit
def Enters (P : Program) (f : FuncId) : Prop := ∀ args w, (callFunc f args).run P w = .ok (.enter f args) w
def ResIs (F : Nat → Prop) (w w' : World) (r : PV) (os : List AO) (v : Value) : Prop :=
  ∃ (ν : Nat → Option Nat) (F' : Nat → Prop), Rep (· < os.length) ν F' w' r v ∧ (∀ i o, os[i]? = some o → Stands (· < os.length) ν F' w' o (ν i)) ∧
    (∀ i b, i < os.length → ν i = some b → w.heap.size ≤ b ∧ ¬ F' b) ∧ (∀ i j b, i < os.length → j < os.length → ν i = some b → ν j = some b → i = j) ∧ (∀ b, F' b → (F b ∨ w.heap.size ≤ b) ∧ b < w'.heap.size)
def PureCall (P : Program) (f : FuncId) (args : List PV) (r : PV) (os : List AO) : Prop :=
  ∀ (D : Nat → Prop) (μ : Nat → Option Nat) (F : Nat → Prop) (w : World) (vs : Array Value), vs.size = args.length → (∀ i (h : i < args.length), Rep D μ F w args[i] (vs.getD i undef)) → (∀ b, F b → b < w.heap.size) →
    Calls P f vs w fun e w' => ∃ v, e = .returned v ∧ Below w.heap.size w w' ∧ ResIs F w w' r os v
def AO.ren (ρ : Nat → Nat) (o : AO) : AO := ⟨o.sz, o.els.map (PV.ren ρ)⟩
theorem Stands.ren {D D' : Nat → Prop} {μ μ' : Nat → Option Nat} {F : Nat → Prop} {w : World} {o : AO} {m : Option Nat} {ρ : Nat → Nat} (h : Stands D μ F w o m) (hD : ∀ i, D i → D' (ρ i) ∧ μ' (ρ i) = μ i) : Stands D' μ' F w (o.ren ρ) m := by
  cases m with
  | none => have h' : o.els = [] := h; show (o.ren ρ).els = []; simp [AO.ren, h']
  | some b =>
    obtain ⟨A, e, h1, h2, h3, h4⟩ := h
    refine ⟨A, e, h1, by simpa [AO.ren] using h2, fun k hk => ?_, fun k hk c hc => ?_⟩
    · have hk' : k < o.els.length := by simpa [AO.ren] using hk
      have := h3 k hk'
      simp only [AO.ren, getElem_map', ren_cells, List.length_map]; exact this
    · have hk' : k < o.els.length := by simpa [AO.ren] using hk
      have hc' : c < o.els[k].cells.length := by simpa [AO.ren, ren_cells] using hc
      have e : (o.ren ρ).els[k].cells[c] = (o.els[k].cells[c]).ren ρ := by simp [AO.ren, ren_cells]
      rw [e]; exact (h4 k hk' c hc').ren hD
theorem Stands.flat {D : Nat → Prop} {μ : Nat → Option Nat} {F F' : Nat → Prop} {w : World} {o : AO} {m : Option Nat} (h : Stands D μ F w o m) (hf : o.els.all PV.flatB = true) : Stands D μ F' w o m := by
  cases m with
  | none => exact h
  | some b =>
    obtain ⟨A, e, h1, h2, h3, h4⟩ := h
    exact ⟨A, e, h1, h2, h3, fun k hk c hc => (h4 k hk c hc).flatAny (all_get (flat_cells (all_get hf k hk)) c hc)⟩
theorem Stands.stay {D D' : Nat → Prop} {μ μ' : Nat → Option Nat} {F F' : Nat → Prop} {w w' : World} {o : AO} {m : Option Nat} (h : Stands D μ F w o m) (hs : Stay F w w') (hD : ∀ i, D i → D' i ∧ μ' i = μ i) (hF : ∀ b, F b → F' b)
    (hb : ∀ b, m = some b → w'.heap[b]? = w.heap[b]?) : Stands D' μ' F' w' o m := by
  cases m with
  | none => exact h
  | some b => exact ObjOk.stay h hs hD hF (hb b rfl)
section
variable {P : Program}
def reach (H : Nat → Option AO) : Nat → PV → List Nat
  | 0, _ => []
  | n + 1, .agg l => l.flatMap (reach H n)
  | n + 1, .tup l => l.flatMap (reach H n)
  | n + 1, .fn _ l => l.flatMap (reach H n)
  | n + 1, .ob i _ _ _ => i :: (match H i with | some o => o.els.flatMap (reach H n) | none => [])
  | n + 1, .ptr i _ _ _ => i :: (match H i with | some o => o.els.flatMap (reach H n) | none => [])
  | _ + 1, _ => []
theorem sealed_reach {H H' : Nat → Option AO} (keep : Nat → Bool) : ∀ (n : Nat) (p : PV), (∀ i, i ∈ reach H n p → H' i = H i) → sealed H' keep n p = sealed H keep n p := by
  intro n
  induction n with
  | zero => intro p _; rfl
  | succ n ih =>
    intro p h
    cases p with
    | agg l => simp only [sealed, reach] at h ⊢; congr 1; exact List.map_congr_left fun q hq => ih q (fun i hi => h i (List.mem_flatMap.2 ⟨q, hq, hi⟩))
    | tup l => simp only [sealed, reach] at h ⊢; congr 1; exact List.map_congr_left fun q hq => ih q (fun i hi => h i (List.mem_flatMap.2 ⟨q, hq, hi⟩))
    | fn f l => simp only [sealed, reach] at h ⊢; congr 1; exact List.map_congr_left fun q hq => ih q (fun i hi => h i (List.mem_flatMap.2 ⟨q, hq, hi⟩))
    | ob i sz off len =>
      simp only [sealed, reach] at h ⊢
      rw [h i (List.mem_cons_self ..)]
      cases hi : H i with
      | none => rfl
      | some o =>
        simp only [hi] at h ⊢
        split
        · rfl
        · split
          · congr 1
            exact List.map_congr_left fun q hq => ih q (fun j hj => h j (List.mem_cons_of_mem _ (List.mem_flatMap.2 ⟨q, List.mem_of_mem_drop (List.mem_of_mem_take hq), hj⟩)))
          · rfl
    | ptr i sz k c =>
      simp only [sealed, reach] at h ⊢
      rw [h i (List.mem_cons_self ..)]
      cases hi : H i with
      | none => rfl
      | some o =>
        simp only [hi] at h ⊢
        split
        · rfl
        · split
          · congr 1
            exact List.map_congr_left fun q hq => ih q (fun j hj => h j (List.mem_cons_of_mem _ (List.mem_flatMap.2 ⟨q, hq, hj⟩)))
          · rfl
    | _ => rfl
end
def rmap (L : List Nat) (nx : Nat) (i : Nat) : Nat := (L[i]?).getD (nx + i)
theorem lk_mem {α : Type} : ∀ {l : List (Nat × α)} {i : Nat} {x : α}, lk l i = some x → (i, x) ∈ l
  | [], _, _, h => by cases h
  | (j, y) :: t, i, x, h => by
    unfold lk at h
    split at h
    · rename_i hj; subst hj; cases h; exact List.mem_cons_self ..
    · exact List.mem_cons_of_mem _ (lk_mem h)
theorem Stands.ren_inv {D D' : Nat → Prop} {μ μ' : Nat → Option Nat} {F : Nat → Prop} {w : World} {o : AO} {m : Option Nat} {ρ : Nat → Nat} (h : Stands D μ F w (o.ren ρ) m) (hD : ∀ i, D (ρ i) → D' i ∧ μ' i = μ (ρ i)) : Stands D' μ' F w o m := by
  cases m with
  | none =>
    have h' : (o.ren ρ).els = [] := h
    show o.els = []
    simpa [AO.ren] using h'
  | some b =>
    obtain ⟨A, e, h1, h2, h3, h4⟩ := h
    refine ⟨A, e, h1, by simpa [AO.ren] using h2, fun k hk => ?_, fun k hk c hc => ?_⟩
    · have := h3 k (by simpa [AO.ren] using hk)
      simpa [AO.ren, ren_cells] using this
    · have := h4 k (by simpa [AO.ren] using hk) c (by simpa [AO.ren, ren_cells] using hc)
      exact this.ren_inv hD _ (by simp [AO.ren, ren_cells])
theorem rmap_in {L : List Nat} {nx i : Nat} {D : Nat → Prop} (hD : ∀ i, D i → i < nx) (h : D (rmap L nx i)) : ∃ hi : i < L.length, rmap L nx i = L[i] := by
  by_cases hi : i < L.length
  · exact ⟨hi, by simp [rmap, hi]⟩
  · have : rmap L nx i = nx + i := by simp [rmap, hi]
    rw [this] at h
    have := hD _ h
    omega
theorem nodup_inj {L : List Nat} (h : L.Nodup) {i j : Nat} (hi : i < L.length) (hj : j < L.length) (he : L[i] = L[j]) : i = j := by
  rcases Nat.lt_trichotomy i j with hlt | heq | hgt
  · exact absurd he (List.pairwise_iff_getElem.1 h i j hi hj hlt)
  · exact heq
  · exact absurd he.symm (List.pairwise_iff_getElem.1 h j i hj hi hgt)
theorem cells_sealed {w0 : Home} {F0 D : Nat → Prop} {μ : Nat → Option Nat} {F : Nat → Prop} {H : Nat → Option AO} {w : World} (hH : HeapSim w0 F0 D μ F H w) (keep : Nat → Bool) (F2 : Nat → Prop) (hF : ∀ b, F b → F2 b) (hO : ∀ i o b, keep i = false → H i = some o → μ i = some b → F2 b)
    (k : Nat) (p : PV) (val : Nat → Value) (h : ∀ c (hc : c < p.cells.length), Rep D μ F w p.cells[c] (val c)) : ∀ c (hc : c < (sealed H keep k p).cells.length), Rep D μ F2 w (sealed H keep k p).cells[c] (val c) := fun c hc => by
  have hc' : c < p.cells.length := by rw [sealed_len] at hc; exact hc
  rcases sealed_cells H keep k p with ⟨l, rfl, hn⟩ | ⟨hs, hn⟩ | ⟨g1, g2⟩
  · obtain ⟨m, rfl⟩ : ∃ m, k = m + 1 := ⟨k - 1, by omega⟩
    have e3 : (sealed H keep (m + 1) (.agg l)).cells = l.map (sealed H keep m) := rfl
    rw [gl e3 hc, List.getElem_map]
    exact Rep.sealed hH keep F2 hF hO m _ _ (h c hc')
  · rw [gl hs hc]
    exact (h c hc').stay (Stay.refl _ _) (fun _ h => ⟨h, rfl⟩) hF
  · have hc0 : c = 0 := by rw [g1] at hc'; simpa using hc'
    subst hc0
    rw [gl g2 hc, List.getElem_cons_zero]
    have := h 0 hc'
    rw [gl g1 hc', List.getElem_cons_zero] at this
    exact Rep.sealed hH keep F2 hF hO k _ _ this
section
variable {P : Program}
def newIds (n k : Nat) (D : Nat → Prop) : Nat → Prop := fun i => D i ∨ (n ≤ i ∧ i < n + k)
def newMap (n k : Nat) (μ ν : Nat → Option Nat) : Nat → Option Nat := fun i => if n ≤ i ∧ i < n + k then ν (i - n) else μ i
theorem Sound.callPure {fo : Operand} {xs : Array Operand} {ts : Array TypeId} {S : St} {f : FuncId} {n : Nat} {r : PV} {os : List AO} {rd : List Nat} {cap : List PV} (hfo : S.ev fo = .fn f cap) (hen : Enters P f)
    (hc : PureCall P f ((xs.toList.map S.ev ++ cap).map (sealed S.obj (fun _ => false) n)) r os)
    (hfl : noObL (xs.toList.map S.ev ++ cap) = true ∨ (r.flatB = true ∧ os.all (fun o => o.els.all PV.flatB) = true))
    (hrd : ∀ p, p ∈ xs.toList.map S.ev ++ cap → ∀ i, i ∈ reach S.obj n p → i ∈ rd) :
    Sound P (.call ⟨.value fo, xs, ts⟩) S (r.ren (· + S.nx)) ⟨os.map (AO.ren (· + S.nx)), [], [], rd⟩ := by
  intro o a w0 F0 D μ F H w ho hH hxs hr hD next Q hn
  have hpf := hxs fo (by simp [Op.operands, Call.operands])
  rw [hfo] at hpf
  have hxa : ∀ x, x ∈ xs.toList → Rep D μ F w (S.ev x) (a.eval x) := fun x hx => hxs x (by simp only [Op.operands, Call.operands]; simp at hx ⊢; exact .inr hx)
  generalize hef : a.eval fo = u at hpf
  cases hpf with
  | fn _ _ cvs hcs hcr =>
    have hval : ∀ i (h : i < (xs.toList.map S.ev ++ cap).length), Rep D μ F w ((xs.toList.map S.ev ++ cap)[i]) ((xs.map a.eval ++ cvs).getD i undef) := fun i h => by
      by_cases hi : i < xs.size
      · have e1 : (xs.toList.map S.ev ++ cap)[i] = S.ev xs[i] := by rw [List.getElem_append_left (by simpa using hi)]; simp
        have e2 : (xs.map a.eval ++ cvs).getD i undef = a.eval xs[i] := by simp [Array.getD_eq_getD_getElem?, Array.getElem?_append, hi]
        rw [e1, e2]
        exact hxa _ (by simp)
      · have hi2 : i - xs.size < cap.length := by simp at h; omega
        have e1 : (xs.toList.map S.ev ++ cap)[i] = cap[i - xs.size] := by rw [List.getElem_append_right (by simpa using hi)]; simp
        have e2 : (xs.map a.eval ++ cvs).getD i undef = cvs.getD (i - xs.size) undef := by simp [Array.getD_eq_getD_getElem?, Array.getElem?_append, hi]
        rw [e1, e2]
        exact hcr _ hi2
    have hex : (execOp a.eval o).run P w = .ok (.enter f (xs.map a.eval ++ cvs)) w := by
      have := hen (xs.map a.eval ++ cvs) w
      unfold execOp
      simp only [ho, resolve, hef, Deferred.ofValue, Sem.run_bind, Sem.run_pure, Result.andThen_ok, invoke]
      simpa using this
    unfold Oper.wp
    rw [hex]
    simp only [Oper.upon]
    -- the frozen blocks that the call may look at
    have hsame : ∀ p, p ∈ xs.toList.map S.ev ++ cap → sealed H (fun _ => false) n p = sealed S.obj (fun _ => false) n p := fun p hp => sealed_reach _ n _ (fun i hi => hr i (hrd p hp i hi))
    have main : ∀ (F2 : Nat → Prop), (∀ b, F b → F2 b) → (∀ b, F2 b → b < w.heap.size) → (∀ i (h : i < ((xs.toList.map S.ev ++ cap).map (sealed S.obj (fun _ => false) n)).length), Rep D μ F2 w (((xs.toList.map S.ev ++ cap).map (sealed S.obj (fun _ => false) n))[i]) ((xs.map a.eval ++ cvs).getD i undef)) →
        ((∀ b, F2 b → F b) ∨ (r.flatB = true ∧ os.all (fun o => o.els.all PV.flatB) = true)) → Calls P f (xs.map a.eval ++ cvs) w fun | .returned v, w'' => next (a.put o.dst v) w'' | .panicked chain, w'' => Q (.panic chain) a w'' | .outgrown, _ => LetsOut Q := by
      intro F2 hF2 hF2s hargs hwhich
      refine (hc D μ F2 w (xs.map a.eval ++ cvs) (by simp [hcs]) hargs hF2s).mono fun e w' he => ?_
      obtain ⟨v, rfl, hb, ν, F', h1, h2, h3, h4, h5⟩ := he
      show next (a.put o.dst v) w'
      -- the frozen blocks behind the call
      obtain ⟨F3, hF3, h1', h2', h5', h3'⟩ : ∃ F3 : Nat → Prop, (∀ b, F b → F3 b) ∧ Rep (· < os.length) ν F3 w' r v ∧ (∀ i o, os[i]? = some o → Stands (· < os.length) ν F3 w' o (ν i)) ∧ (∀ b, F3 b → (F b ∨ w.heap.size ≤ b) ∧ b < w'.heap.size) ∧
          (∀ i b, i < os.length → ν i = some b → w.heap.size ≤ b ∧ ¬ F3 b) := by
        rcases hwhich with hw | ⟨hw1, hw2⟩
        · refine ⟨fun b => F b ∨ F' b, fun b h => .inl h, h1.stay (Stay.refl _ _) (fun _ h => ⟨h, rfl⟩) (fun _ h => .inr h), fun i o hi => (h2 i o hi).stay (Stay.refl _ _) (fun _ h => ⟨h, rfl⟩) (fun _ h => .inr h) (fun _ _ => rfl), fun b hbF => ?_, fun i b hi hib => ?_⟩
          · rcases hbF with hbF | hbF
            · exact ⟨.inl hbF, Nat.lt_of_lt_of_le (hH.fsz b hbF) hb.size⟩
            · exact ⟨(h5 b hbF).1.imp (hw b) id, (h5 b hbF).2⟩
          · refine ⟨(h3 i b hi hib).1, fun hbF => hbF.elim (fun h => ?_) (h3 i b hi hib).2⟩
            have := hH.fsz b h
            have := (h3 i b hi hib).1
            omega
        · refine ⟨F, fun b h => h, h1.flatAny hw1, fun i o hi => (h2 i o hi).flat (List.all_eq_true.1 hw2 _ (List.mem_of_getElem? hi)), fun b hbF => ⟨.inl hbF, Nat.lt_of_lt_of_le (hH.fsz b hbF) hb.size⟩, fun i b hi hib => ⟨(h3 i b hi hib).1, fun h => ?_⟩⟩
          have := hH.fsz b h
          have := (h3 i b hi hib).1
          omega
      have hlen : (os.map (AO.ren (· + S.nx))).length = os.length := by simp
      have hDn : ∀ k, k < os.length → ¬ D (S.nx + k) := fun k hk => hD k (by rw [hlen]; exact hk)
      have hold : ∀ i, D i → newIds S.nx os.length D i ∧ newMap S.nx os.length μ ν i = μ i := fun i hi => ⟨.inl hi, by
        unfold newMap
        rw [if_neg]
        rintro ⟨g1, g2⟩
        have := hDn (i - S.nx) (by omega)
        rw [show S.nx + (i - S.nx) = i by omega] at this
        exact this hi⟩
      have hnew : ∀ i, i < os.length → newIds S.nx os.length D (i + S.nx) ∧ newMap S.nx os.length μ ν (i + S.nx) = ν i := fun i hi => ⟨.inr ⟨by omega, by omega⟩, by unfold newMap; rw [if_pos ⟨by omega, by omega⟩]; congr 1; omega⟩
      have hst : Stay F w w' := Stay.below hb
      refine hn v w' (newIds S.nx os.length D) (newMap S.nx os.length μ ν) F3 (h1'.ren hnew) ?_ hst hold hF3 (fun i hi => by rw [hlen]; exact hi)
      refine hH.step hst hold hF3 (hH.ext.trans hb) (fun b hbF => (h5' b hbF).1.elim (hH.f0 b) (fun h => .inr (hH.ext.own_lt _ h))) (fun b hbF => (h5' b hbF).2) fun i ob hi => ?_
      unfold Eff.app at hi
      simp only [lk, List.not_mem_nil, if_false] at hi
      by_cases hin : S.nx ≤ i ∧ i < S.nx + (os.map (AO.ren (· + S.nx))).length
      · rw [if_pos hin] at hi
        rw [hlen] at hin
        obtain ⟨j, rfl⟩ : ∃ j, i = j + S.nx := ⟨i - S.nx, by omega⟩
        have hj : j < os.length := by omega
        rw [show j + S.nx - S.nx = j by omega, List.getElem?_map, List.getElem?_eq_getElem hj] at hi
        cases hi
        right
        obtain ⟨g1, g2⟩ := hnew j hj
        rw [g2]
        refine ⟨g1, (h2' j _ (List.getElem?_eq_getElem hj)).ren hnew, fun b hjb => ⟨hH.ext.own_lt _ (h3' j b hj hjb).1, (h3' j b hj hjb).2, fun k o2 hk hk2 hkb => ?_⟩⟩
        unfold Eff.app at hk2
        simp only [lk, List.not_mem_nil, if_false] at hk2
        by_cases hkin : S.nx ≤ k ∧ k < S.nx + (os.map (AO.ren (· + S.nx))).length
        · rw [hlen] at hkin
          obtain ⟨m, rfl⟩ : ∃ m, k = m + S.nx := ⟨k - S.nx, by omega⟩
          rw [(hnew m (by omega)).2] at hkb
          exact hk (by rw [h4 m j b (by omega) hj hkb hjb])
        · rw [if_neg hkin] at hk2
          rw [(hold k (hH.objs k o2 hk2).1).2] at hkb
          have := (hH.ok hk2 hkb).lt
          have := (h3' j b hj hjb).1
          omega
      · rw [if_neg hin] at hi
        refine .inl ⟨hi, fun b hib => ⟨hb.block _ (hH.ok hi hib).lt, fun hbF => ?_⟩⟩
        rcases (h5' b hbF).1 with h | h
        · exact (hH.own i ob b hi hib).2 h
        · have := (hH.ok hi hib).lt
          omega
    have argget : ∀ i (h : i < ((xs.toList.map S.ev ++ cap).map (sealed S.obj (fun _ => false) n)).length), ∃ p, p ∈ xs.toList.map S.ev ++ cap ∧ ((xs.toList.map S.ev ++ cap).map (sealed S.obj (fun _ => false) n))[i] = sealed S.obj (fun _ => false) n p ∧ Rep D μ F w p ((xs.map a.eval ++ cvs).getD i undef) := fun i h => by
      have hi : i < (xs.toList.map S.ev ++ cap).length := by simpa using h
      exact ⟨(xs.toList.map S.ev ++ cap)[i], List.getElem_mem hi, by rw [List.getElem_map], hval i hi⟩
    rcases hfl with hno | hfl
    · refine main F (fun _ h => h) hH.fsz (fun i h => ?_) (.inl (fun _ h => h))
      obtain ⟨p, hp, e1, e2⟩ := argget i h
      rw [e1, noOb_sealed _ _ _ _ (by rw [noObL_all] at hno; exact List.all_eq_true.1 hno _ hp)]
      exact e2
    · refine main (fun b => F b ∨ ∃ i o, H i = some o ∧ μ i = some b) (fun _ h => .inl h) (fun b hbF => hbF.elim (hH.fsz b) (fun ⟨i, o, hi, hib⟩ => (hH.ok hi hib).lt)) (fun i h => ?_) (.inr hfl)
      obtain ⟨p, hp, e1, e2⟩ := argget i h
      rw [e1, ← hsame p hp]
      exact Rep.sealed hH (fun _ => false) _ (fun _ h => .inl h) (fun i o b _ hi hib => .inr ⟨i, o, hi, hib⟩) n _ _ e2
end
end Go.Proofs.YtfnkciboencifaaDoor
set_option linter.all false
namespace Go.Proofs.YtfnkciboencifaaDoor
open Go Go.RowKit
set_option linter.unusedVariables false
def ProcCall (P : Program) (f : FuncId) (args : List PV) (hp : List AO) (r : PV) (hp' : List (Option AO)) (os : List AO) : Prop :=
  hp'.length = hp.length ∧ ∀ (μ : Nat → Option Nat) (F : Nat → Prop) (w : World) (vs : Array Value), HeapSim ⟨w, fun b => ∃ i, i < hp.length ∧ μ i = some b⟩ F (· < hp.length) μ F (fun i => hp[i]?) w →
    vs.size = args.length → (∀ i (h : i < args.length), Rep (· < hp.length) μ F w args[i] (vs.getD i undef)) →
    Calls P f vs w fun e w' => ∃ v, e = .returned v ∧ ∃ (μ' : Nat → Option Nat) (F' : Nat → Prop), Rep (· < hp.length + os.length) μ' F' w' r v ∧
      HeapSim ⟨w, fun b => ∃ i, i < hp.length ∧ μ i = some b⟩ F (· < hp.length + os.length) μ' F' (fun i => ((hp' ++ os.map some)[i]?).join) w' ∧ (∀ i, i < hp.length → μ' i = μ i)
def pmap (L : List Nat) (nx : Nat) (i : Nat) : Nat := (L[i]?).getD (nx + (i - L.length))
def procSet (ρ : Nat → Nat) : List Nat → List (Option AO) → List (Nat × AO)
  | i :: L, some o :: h => (i, o.ren ρ) :: procSet ρ L h
  | _ :: L, none :: h => procSet ρ L h
  | _, _ => []
def procDel : List Nat → List (Option AO) → List Nat
  | _ :: L, some _ :: h => procDel L h
  | i :: L, none :: h => i :: procDel L h
  | _, _ => []
theorem procSet_not (ρ : Nat → Nat) {x : Nat} : ∀ (L : List Nat) (h : List (Option AO)), x ∉ L → lk (procSet ρ L h) x = none ∧ x ∉ procDel L h
  | [], h, _ => by cases h <;> simp [procSet, procDel, lk]
  | i :: L, [], _ => by simp [procSet, procDel, lk]
  | i :: L, m :: h, hx => by
    have hx2 : x ∉ L := fun h => hx (List.mem_cons_of_mem _ h)
    have hxi : i ≠ x := fun e => hx (by rw [e]; exact List.mem_cons_self ..)
    obtain ⟨a, b⟩ := procSet_not ρ L h hx2
    cases m with
    | some o => exact ⟨by rw [procSet, lk, if_neg hxi]; exact a, by rw [procDel]; exact b⟩
    | none => exact ⟨by rw [procSet]; exact a, by rw [procDel, List.mem_cons]; exact fun h => h.elim (fun e => hxi e.symm) b⟩
theorem procSet_at (ρ : Nat → Nat) : ∀ (L : List Nat) (h : List (Option AO)), L.Nodup → ∀ (j : Nat) (i : Nat) (m : Option AO), L[j]? = some i → h[j]? = some m → lk (procSet ρ L h) i = m.map (AO.ren ρ) ∧ (m = none → i ∈ procDel L h) ∧ (m ≠ none → i ∉ procDel L h)
  | [], h, _, j, i, m, hL, _ => by simp at hL
  | k :: L, [], _, j, i, m, _, hh => by simp at hh
  | k :: L, m0 :: h, hn, j, i, m, hL, hh => by
    rw [List.nodup_cons] at hn
    cases j with
    | zero =>
      simp only [List.getElem?_cons_zero, Option.some.injEq] at hL hh
      subst hL; subst hh
      cases m0 with
      | some o => exact ⟨by rw [procSet, lk, if_pos rfl]; rfl, (fun e => by cases e), fun _ => by rw [procDel]; exact (procSet_not ρ L h hn.1).2⟩
      | none => exact ⟨by rw [procSet]; exact (procSet_not ρ L h hn.1).1, (fun _ => by rw [procDel]; exact List.mem_cons_self ..), fun e => absurd rfl e⟩
    | succ j =>
      simp only [List.getElem?_cons_succ] at hL hh
      have hki : k ≠ i := fun e => hn.1 (by rw [e]; exact List.mem_of_getElem? hL)
      obtain ⟨a, b, c⟩ := procSet_at ρ L h hn.2 j i m hL hh
      cases m0 with
      | some o => exact ⟨by rw [procSet, lk, if_neg hki]; exact a, (fun e => by rw [procDel]; exact b e), fun e => by rw [procDel]; exact c e⟩
      | none => exact ⟨by rw [procSet]; exact a, (fun e => by rw [procDel]; exact List.mem_cons_of_mem _ (b e)), fun e => by rw [procDel, List.mem_cons]; exact fun h => h.elim (fun e' => hki e'.symm) (c e)⟩
structure Lent (S : St) (L : List Nat) (n : Nat) (vals args : List PV) (hp : List AO) : Prop where
  nodup : L.Nodup
  len : L.length = hp.length
  args : vals.map (sealed S.obj (fun i => L.contains i) n) = args.map (PV.ren (rmap L S.nx))
  objs : ∀ i o, hp[i]? = some o → ∃ o', S.obj (rmap L S.nx i) = some o' ∧ o'.sz = o.sz ∧ o'.els.map (sealed S.obj (fun i => L.contains i) n) = o.els.map (PV.ren (rmap L S.nx))
section
variable {P : Program} {w0 : Home} {F0 D D' : Nat → Prop} {μ μ' : Nat → Option Nat} {F F' : Nat → Prop} {H H' : Nat → Option AO} {w w' : World}
theorem cells_keep (p : PV) (val : Nat → Value) (hF : ∀ b, F b → F' b) (h : ∀ c (hc : c < p.cells.length), Rep D μ F w p.cells[c] (val c)) : ∀ c (hc : c < p.cells.length), Rep D μ F' w p.cells[c] (val c) :=
  fun c hc => (h c hc).stay (Stay.refl _ _) (fun _ h => ⟨h, rfl⟩) hF
def lentF (H : Nat → Option AO) (μ : Nat → Option Nat) (F : Nat → Prop) (L : List Nat) (n : Nat) (b : Nat) : Prop := F b ∨ (n ≠ 0 ∧ ∃ i o, L.contains i = false ∧ H i = some o ∧ μ i = some b)
theorem lent_rep (hH : HeapSim w0 F0 D μ F H w) (L : List Nat) (n : Nat) {p : PV} {v : Value} (h : Rep D μ F w p v) : Rep D μ (lentF H μ F L n) w (sealed H (fun i => L.contains i) n p) v := by
  cases n with
  | zero => exact h.stay (Stay.refl _ _) (fun _ h => ⟨h, rfl⟩) (fun _ h => .inl h)
  | succ n => exact Rep.sealed hH _ _ (fun _ h => .inl h) (fun i o b h1 h2 h3 => .inr ⟨by omega, i, o, h1, h2, h3⟩) _ _ _ h
theorem lent_cells (hH : HeapSim w0 F0 D μ F H w) (L : List Nat) (n : Nat) (p : PV) (val : Nat → Value) (h : ∀ c (hc : c < p.cells.length), Rep D μ F w p.cells[c] (val c)) :
    ∀ c (hc : c < (sealed H (fun i => L.contains i) n p).cells.length), Rep D μ (lentF H μ F L n) w (sealed H (fun i => L.contains i) n p).cells[c] (val c) := by
  cases n with
  | zero => exact cells_keep p val (fun _ h => .inl h) h
  | succ n => exact cells_sealed hH _ _ (fun _ h => .inl h) (fun i o b h1 h2 h3 => .inr ⟨by omega, i, o, h1, h2, h3⟩) _ p val h
theorem lent_stands (hH : HeapSim w0 F0 D μ F H w) (L : List Nat) (n : Nat) {o o' : AO} {ρ : Nat → Nat} {m : Option Nat} (hst : Stands D μ F w o' m) (h2 : o'.sz = o.sz) (h3 : o'.els.map (sealed H (fun i => L.contains i) n) = o.els.map (PV.ren ρ)) :
    Stands D μ (lentF H μ F L n) w (o.ren ρ) m := by
  cases m with
  | none =>
    have h' : o'.els = [] := hst
    show (o.ren ρ).els = []
    unfold AO.ren
    rw [← h3, h']; rfl
  | some b =>
    obtain ⟨A, e, a1, a2, a3, a4⟩ := hst
    have hlen : o.els.length = o'.els.length := by have := congrArg List.length h3; simpa using this.symm
    have hek : ∀ kk (hk : kk < (o.ren ρ).els.length), (o.ren ρ).els[kk] = sealed H (fun i => L.contains i) n (o'.els[kk]'(by simp [AO.ren] at hk; omega)) := fun kk hk => by
      have e1 : (o.ren ρ).els = o'.els.map (sealed H (fun i => L.contains i) n) := h3.symm
      rw [gl e1 hk, List.getElem_map]
    refine ⟨A, e, a1, ?_, fun kk hk => ?_, fun kk hk c hc => ?_⟩
    · simp only [AO.ren, List.length_map]; rw [hlen, ← h2]; exact a2
    · rw [hek kk hk, sealed_len, a3]; exact h2
    · have hkk : kk < o'.els.length := by simp [AO.ren] at hk; omega
      have e2 : (o.ren ρ).els[kk].cells = (sealed H (fun i => L.contains i) n o'.els[kk]).cells := by rw [hek kk hk]
      rw [gl e2 hc]
      have := lent_cells hH L n o'.els[kk] (fun c => A.getD (kk * o'.sz + c) undef) (fun c hc => a4 kk hkk c hc) c (by rw [← e2]; exact hc)
      have e3 : (o.ren ρ).sz = o'.sz := h2.symm
      rw [e3]; exact this
def flatO : Option AO → Bool
  | some o => o.els.all PV.flatB
  | none => true
theorem pmap_old {L : List Nat} {nx i : Nat} (h : i < L.length) : pmap L nx i = L[i] := by simp [pmap, h]
theorem pmap_new {L : List Nat} {nx i : Nat} (h : L.length ≤ i) : pmap L nx i = nx + (i - L.length) := by simp [pmap, h]
theorem rmap_old {L : List Nat} {nx i : Nat} (h : i < L.length) : rmap L nx i = L[i] := by simp [rmap, h]
theorem Ext.trans2 {B : Home} {a b : World} {M : Nat → Prop} (h : Ext B a) (k : Ext ⟨a, M⟩ b) (hM : ∀ b, M b → B.own b) : Ext B b :=
  ⟨k.os.trans h.os, k.tape.trans h.tape, k.output.trans h.output, Nat.le_trans h.size k.size,
    fun i hi hn => (k.block i (Nat.lt_of_lt_of_le hi h.size) (fun hm => (hM i hm).elim (fun h => by omega) hn)).trans (h.block i hi hn), fun b => Nat.le_trans (h.sizes b) (k.sizes b)⟩
theorem Sound.callProc {fo : Operand} {xs : Array Operand} {ts : Array TypeId} {S : St} {f : FuncId} {n : Nat} {cap args : List PV} {hp : List AO} {r : PV} {hp' : List (Option AO)} {os : List AO} {L : List Nat} {rd : List Nat}
    (hfo : S.ev fo = .fn f cap) (hen : Enters P f) (hc : ProcCall P f args hp r hp' os) (hl : Lent S L n (xs.toList.map S.ev ++ cap) args hp)
    (hfl : n = 0 ∨ (r.flatB = true ∧ os.all (fun o => o.els.all PV.flatB) = true ∧ hp'.all flatO = true)) :
    SoundI P (.call ⟨.value fo, xs, ts⟩) S (r.ren (pmap L S.nx)) ⟨os.map (AO.ren (pmap L S.nx)), procDel L hp', procSet (pmap L S.nx) L hp', rd⟩ := by
  intro o a w0 F0 D μ F w ho hH hxs hD next Q hn
  have hpf := hxs fo (by simp [Op.operands, Call.operands])
  rw [hfo] at hpf
  have hxa : ∀ x, x ∈ xs.toList → Rep D μ F w (S.ev x) (a.eval x) := fun x hx => hxs x (by simp only [Op.operands, Call.operands]; simp at hx ⊢; exact .inr hx)
  generalize hef : a.eval fo = u at hpf
  cases hpf with
  | fn _ _ cvs hcs hcr =>
    have hval : ∀ i (h : i < (xs.toList.map S.ev ++ cap).length), Rep D μ F w ((xs.toList.map S.ev ++ cap)[i]) ((xs.map a.eval ++ cvs).getD i undef) := fun i h => by
      by_cases hi : i < xs.size
      · have e1 : (xs.toList.map S.ev ++ cap)[i] = S.ev xs[i] := by rw [List.getElem_append_left (by simpa using hi)]; simp
        have e2 : (xs.map a.eval ++ cvs).getD i undef = a.eval xs[i] := by simp [Array.getD_eq_getD_getElem?, Array.getElem?_append, hi]
        rw [e1, e2]
        exact hxa _ (by simp)
      · have hi2 : i - xs.size < cap.length := by simp at h; omega
        have e1 : (xs.toList.map S.ev ++ cap)[i] = cap[i - xs.size] := by rw [List.getElem_append_right (by simpa using hi)]; simp
        have e2 : (xs.map a.eval ++ cvs).getD i undef = cvs.getD (i - xs.size) undef := by simp [Array.getD_eq_getD_getElem?, Array.getElem?_append, hi]
        rw [e1, e2]
        exact hcr _ hi2
    have hex : (execOp a.eval o).run P w = .ok (.enter f (xs.map a.eval ++ cvs)) w := by
      have := hen (xs.map a.eval ++ cvs) w
      unfold execOp
      simp only [ho, resolve, hef, Deferred.ofValue, Sem.run_bind, Sem.run_pure, Result.andThen_ok, invoke]
      simpa using this
    unfold Oper.wp
    rw [hex]
    simp only [Oper.upon]
    obtain ⟨hlen', hcall⟩ := hc
    have hLk := hl.len
    have hlt : ∀ i, i < hp.length → ∃ hi : i < L.length, rmap L S.nx i = L[i] := fun i hi => ⟨by omega, rmap_old _⟩
    have hLobj : ∀ i (hi : i < hp.length), ∃ o', S.obj (rmap L S.nx i) = some o' ∧ D (rmap L S.nx i) ∧ Stands D μ (lentF S.obj μ F L n) w ((hp[i]).ren (rmap L S.nx)) (μ (rmap L S.nx i)) := fun i hi => by
      obtain ⟨o', h1, h2, h3⟩ := hl.objs i _ (List.getElem?_eq_getElem hi)
      obtain ⟨g1, g2⟩ := hH.objs _ _ h1
      exact ⟨o', h1, g1, lent_stands hH L n g2 h2 h3⟩
    have hDr : ∀ i, D (rmap L S.nx i) → i < hp.length ∧ μ (rmap L S.nx i) = μ (rmap L S.nx i) := fun i hi => ⟨by have := (rmap_in hD hi).1; omega, rfl⟩
    have hFs : ∀ b, lentF S.obj μ F L n b → b < w.heap.size := fun b hb => hb.elim (hH.fsz b) (fun ⟨_, i, o, _, h2, h3⟩ => (hH.ok h2 h3).lt)
    have hnF : ∀ i b, i < hp.length → μ (rmap L S.nx i) = some b → ¬ lentF S.obj μ F L n b := fun i b hi hib hb => by
      obtain ⟨o', h1, _⟩ := hLobj i hi
      rcases hb with hb | ⟨_, j, o2, g1, g2, g3⟩
      · exact (hH.own _ _ b h1 hib).2 hb
      · have := hH.inj _ _ _ _ b h1 g2 hib g3
        obtain ⟨hiL, e⟩ := hlt i hi
        rw [← this, e] at g1
        have := List.contains_iff_mem.2 (List.getElem_mem hiL)
        rw [g1] at this; cases this
    have hHc : HeapSim ⟨w, fun b => ∃ i, i < hp.length ∧ μ (rmap L S.nx i) = some b⟩ (lentF S.obj μ F L n) (· < hp.length) (fun i => μ (rmap L S.nx i)) (lentF S.obj μ F L n) (fun i => hp[i]?) w := by
      refine ⟨fun i ob hi => ?_, fun i j ob ob' b hi hj hib hjb => ?_, fun i ob b hi hib => ?_, Ext.refl _ _, fun b hb => .inl hb, hFs⟩
      · have hik := (List.getElem?_eq_some_iff.1 hi).1
        obtain ⟨o', h1, h2, h3⟩ := hLobj i hik
        rw [(List.getElem?_eq_some_iff.1 hi).2] at h3
        exact ⟨hik, h3.ren_inv hDr⟩
      · have hik := (List.getElem?_eq_some_iff.1 hi).1
        have hjk := (List.getElem?_eq_some_iff.1 hj).1
        obtain ⟨o1, h1, _⟩ := hLobj i hik
        obtain ⟨o2, h2, _⟩ := hLobj j hjk
        have e := hH.inj _ _ _ _ b h1 h2 hib hjb
        obtain ⟨hi2, e1⟩ := hlt i hik
        obtain ⟨hj2, e2⟩ := hlt j hjk
        rw [e1, e2] at e
        exact nodup_inj hl.nodup hi2 hj2 e
      · have hik := (List.getElem?_eq_some_iff.1 hi).1
        exact ⟨.inr ⟨i, hik, hib⟩, hnF i b hik hib⟩
    have hargs : ∀ i (h : i < args.length), Rep (· < hp.length) (fun i => μ (rmap L S.nx i)) (lentF S.obj μ F L n) w args[i] ((xs.map a.eval ++ cvs).getD i undef) := fun i h => by
      have hla : args.length = (xs.toList.map S.ev ++ cap).length := by have := congrArg List.length hl.args; simpa using this.symm
      have h1 := lent_rep hH L n (hval i (by omega))
      have e : (args.map (PV.ren (rmap L S.nx)))[i]'(by simpa using h) = sealed S.obj (fun i => L.contains i) n ((xs.toList.map S.ev ++ cap)[i]'(by omega)) := by
        have e1 : args.map (PV.ren (rmap L S.nx)) = (xs.toList.map S.ev ++ cap).map (sealed S.obj (fun i => L.contains i) n) := hl.args.symm
        rw [gl e1, List.getElem_map]
      rw [← e, List.getElem_map] at h1
      exact h1.ren_inv hDr _ rfl
    have hla : (xs.map a.eval ++ cvs).size = args.length := by have := congrArg List.length hl.args; simp at this ⊢; omega
    refine (hcall _ _ w _ hHc hla hargs).mono fun e w' he => ?_
    obtain ⟨v, rfl, μ', F', h1, h2, h3⟩ := he
    show next (a.put o.dst v) w'
    have hMown : ∀ b, (∃ i, i < hp.length ∧ μ (rmap L S.nx i) = some b) → w0.own b ∧ ¬ F b := fun b ⟨i, hi, hib⟩ => by
      obtain ⟨o', g1, _⟩ := hLobj i hi
      exact hH.own _ _ b g1 hib
    have hunl : ∀ i ob b, L.contains i = false → S.obj i = some ob → μ i = some b → b < w.heap.size ∧ ¬ ∃ i, i < hp.length ∧ μ (rmap L S.nx i) = some b := fun i ob b g1 g2 g3 => by
      refine ⟨(hH.ok g2 g3).lt, fun ⟨j, hj, hjb⟩ => ?_⟩
      obtain ⟨o', q1, _⟩ := hLobj j hj
      have := hH.inj _ _ _ _ b g2 q1 g3 hjb
      obtain ⟨hjL, e⟩ := hlt j hj
      rw [this, e] at g1
      have := List.contains_iff_mem.2 (List.getElem_mem hjL)
      rw [g1] at this; cases this
    obtain ⟨F3, hF3, h1', h2', h5', h6', h7'⟩ : ∃ F3 : Nat → Prop, (∀ b, F b → F3 b) ∧ Rep (· < hp.length + os.length) μ' F3 w' r v ∧ (∀ i o, ((hp' ++ os.map some)[i]?).join = some o → Stands (· < hp.length + os.length) μ' F3 w' o (μ' i)) ∧
        (∀ b, F3 b → (F b ∨ w.heap.size ≤ b ∨ ∃ i, i < hp.length ∧ μ (rmap L S.nx i) = some b) ∧ b < w'.heap.size) ∧ (∀ i o b, ((hp' ++ os.map some)[i]?).join = some o → μ' i = some b → ¬ F3 b) ∧
        (∀ i ob b, L.contains i = false → S.obj i = some ob → μ i = some b → ¬ F3 b) := by
      have hnotF : ∀ i o b, ((hp' ++ os.map some)[i]?).join = some o → μ' i = some b → ¬ F b := fun i o b hi hib hbF => by
        rcases (h2.own i o b hi hib).1 with h | h
        · have := hH.fsz b hbF
          have : w.heap.size ≤ b := h
          omega
        · exact (hMown b h).2 hbF
      rcases hfl with hn0 | ⟨hf1, hf2, hf3⟩
      · have hF' : ∀ b, F' b → F b ∨ w.heap.size ≤ b ∨ ∃ i, i < hp.length ∧ μ (rmap L S.nx i) = some b := fun b hb => by
          rcases h2.f0 b hb with (h | h) | h
          · exact .inl h
          · exact absurd hn0 h.1
          · exact .inr h
        refine ⟨fun b => F b ∨ F' b, fun b h => .inl h, h1.stay (Stay.refl _ _) (fun _ h => ⟨h, rfl⟩) (fun _ h => .inr h), fun i o hi => ((h2.objs i o hi).2).stay (Stay.refl _ _) (fun _ h => ⟨h, rfl⟩) (fun _ h => .inr h) (fun _ _ => rfl), fun b hbF => ?_, fun i o b hi hib hbF => ?_, fun i ob b g1 g2 g3 hbF => ?_⟩
        · rcases hbF with hbF | hbF
          · exact ⟨.inl hbF, Nat.lt_of_lt_of_le (hH.fsz b hbF) h2.ext.size⟩
          · exact ⟨hF' b hbF, h2.fsz b hbF⟩
        · exact hbF.elim (hnotF i o b hi hib) (h2.own i o b hi hib).2
        · obtain ⟨q1, q2⟩ := hunl i ob b g1 g2 g3
          rcases hbF with hbF | hbF
          · exact (hH.own i ob b g2 g3).2 hbF
          · rcases hF' b hbF with h | h | h
            · exact (hH.own i ob b g2 g3).2 h
            · omega
            · exact q2 h
      · refine ⟨F, fun b h => h, h1.flatAny hf1, fun i o hi => ((h2.objs i o hi).2).flat ?_, fun b hbF => ⟨.inl hbF, Nat.lt_of_lt_of_le (hH.fsz b hbF) h2.ext.size⟩, hnotF, fun i ob b g1 g2 g3 => (hH.own i ob b g2 g3).2⟩
        cases hx : (hp' ++ os.map some)[i]? with
        | none => rw [hx] at hi; cases hi
        | some m =>
          rw [hx] at hi
          have hm : m = some o := hi
          subst hm
          rcases List.mem_append.1 (List.mem_of_getElem? hx) with hm | hm
          · exact List.all_eq_true.1 hf3 _ hm
          · obtain ⟨o2, ho2, e⟩ := List.mem_map.1 hm
            cases e
            exact List.all_eq_true.1 hf2 _ ho2
    have hst : Stay F w w' := ⟨h2.ext.sizes, fun b c u hbF hu => by
      rw [World.cell?_of_block (h2.ext.block b (hH.fsz b hbF) (fun hm => (hMown b hm).2 hbF))]; exact hu⟩
    have hlen2 : (os.map (AO.ren (pmap L S.nx))).length = os.length := by simp
    have hold : ∀ i, D i → newIds S.nx os.length D i ∧ newMap S.nx os.length μ (fun j => μ' (hp.length + j)) i = μ i := fun i hi => ⟨.inl hi, by
      unfold newMap
      rw [if_neg]
      rintro ⟨g1, g2⟩
      have := hD i hi
      omega⟩
    have hnew : ∀ i, i < hp.length + os.length → newIds S.nx os.length D (pmap L S.nx i) ∧ newMap S.nx os.length μ (fun j => μ' (hp.length + j)) (pmap L S.nx i) = μ' i := fun i hi => by
      by_cases hik : i < hp.length
      · obtain ⟨hiL, e⟩ := hlt i hik
        obtain ⟨o', _, g2, _⟩ := hLobj i hik
        rw [e] at g2
        have := hold _ g2
        rw [pmap_old hiL]
        refine ⟨this.1, this.2.trans ?_⟩
        rw [h3 i hik, e]
      · rw [pmap_new (by omega)]
        refine ⟨.inr ⟨by omega, by omega⟩, ?_⟩
        unfold newMap
        rw [if_pos ⟨by omega, by omega⟩]
        show μ' _ = _
        congr 1; omega
    have key : ∀ j ob, (Eff.mk (os.map (AO.ren (pmap L S.nx))) (procDel L hp') (procSet (pmap L S.nx) L hp') rd).app S.nx S.obj j = some ob →
        (∃ c oc, c < hp.length + os.length ∧ ((hp' ++ os.map some)[c]?).join = some oc ∧ j = pmap L S.nx c ∧ ob = oc.ren (pmap L S.nx)) ∨ (L.contains j = false ∧ S.obj j = some ob) := fun j ob hj => by
      unfold Eff.app at hj
      simp only at hj
      by_cases hin : S.nx ≤ j ∧ j < S.nx + (os.map (AO.ren (pmap L S.nx))).length
      · rw [if_pos hin] at hj
        rw [hlen2] at hin
        have hjm : j - S.nx < os.length := by omega
        rw [List.getElem?_map, List.getElem?_eq_getElem hjm] at hj
        cases hj
        refine .inl ⟨hp.length + (j - S.nx), os[j - S.nx], by omega, ?_, ?_, rfl⟩
        · rw [List.getElem?_append_right (by omega), hlen', Nat.add_sub_cancel_left, List.getElem?_map, List.getElem?_eq_getElem hjm]; rfl
        · rw [pmap_new (by omega)]; omega
      · rw [if_neg hin] at hj
        by_cases hjL : j ∈ L
        · obtain ⟨c, hc, rfl⟩ := List.getElem_of_mem hjL
          have hck : c < hp'.length := by omega
          obtain ⟨p1, p2, p3⟩ := procSet_at (pmap L S.nx) L hp' hl.nodup c L[c] hp'[c] (List.getElem?_eq_getElem hc) (List.getElem?_eq_getElem hck)
          rw [p1] at hj
          cases hm : hp'[c] with
          | none => rw [hm] at hj p2; simp only [Option.map_none] at hj; rw [if_pos (p2 rfl)] at hj; cases hj
          | some oc =>
            rw [hm] at hj
            simp only [Option.map_some, Option.some.injEq] at hj
            refine .inl ⟨c, oc, by omega, ?_, (pmap_old hc).symm, hj.symm⟩
            rw [List.getElem?_append_left hck, List.getElem?_eq_getElem hck, hm]; rfl
        · obtain ⟨p1, p2⟩ := procSet_not (pmap L S.nx) L hp' hjL
          rw [p1] at hj
          simp only [if_neg p2] at hj
          refine .inr ⟨?_, hj⟩
          cases hcn : L.contains j with
          | false => rfl
          | true => exact absurd (List.contains_iff_mem.1 hcn) hjL
    refine hn v w' (newIds S.nx os.length D) (newMap S.nx os.length μ (fun j => μ' (hp.length + j))) F3 (h1'.ren hnew) ?_ hst hold hF3 (fun i hi => by rw [hlen2]; exact hi)
    refine hH.step hst hold hF3 (hH.ext.trans2 h2.ext (fun b hb => (hMown b hb).1)) (fun b hbF => ?_) (fun b hbF => (h5' b hbF).2) fun i ob hi => ?_
    · rcases (h5' b hbF).1 with h | h | h
      · exact hH.f0 b h
      · exact .inr (hH.ext.own_lt _ h)
      · exact .inr (hMown b h).1
    rcases key i ob hi with ⟨c, oc, hc, hoc, rfl, rfl⟩ | ⟨g1, g2⟩
    · obtain ⟨q1, q2⟩ := hnew c hc
      right
      rw [q2]
      refine ⟨q1, (h2' c oc hoc).ren hnew, fun b hcb => ⟨?_, h6' c oc b hoc hcb, fun j o2 hj hj2 hjb => ?_⟩⟩
      · rcases (h2.own c oc b hoc hcb).1 with h | h
        · exact hH.ext.own_lt _ h
        · exact (hMown b h).1
      · rcases key j o2 hj2 with ⟨c', oc', hc', hoc', rfl, rfl⟩ | ⟨g1, g2⟩
        · rw [(hnew c' hc').2] at hjb
          exact hj (by rw [h2.inj c' c oc' oc b hoc' hoc hjb hcb])
        · rw [(hold j (hH.objs j o2 g2).1).2] at hjb
          obtain ⟨q3, q4⟩ := hunl j o2 b g1 g2 hjb
          rcases (h2.own c oc b hoc hcb).1 with h | h
          · have : w.heap.size ≤ b := h
            omega
          · exact q4 h
    · left
      refine ⟨g2, fun b hib => ⟨?_, h7' i ob b g1 g2 hib⟩⟩
      obtain ⟨q3, q4⟩ := hunl i ob b g1 g2 hib
      exact h2.ext.block b q3 q4
end
end Go.Proofs.YtfnkciboencifaaDoor
set_option linter.all false
namespace Go.Proofs.YtfnkciboencifaaDoor
open Go Go.RowKit
section
variable {P : Program} {ops : Array Oper}
def dstAt (ops : Array Oper) (m : Nat) : Option Tmp := (ops[m]?).bind (·.dst)
structure GrowOk (ops : Array Oper) (D : Nat → List Nat) (n : Nat) : Prop where
  size : n ≤ ops.size
  edge : ∀ m o, m < n → ops[m]? = some o → ∀ e ∈ o.after, Region.binds .any e = true → e.on < m
  sub : ∀ m o, ops[m]? = some o → ∀ j, j ∈ D m → ∃ e ∈ o.after, Region.binds .any e = true ∧ (e.on = j ∨ j ∈ D e.on)
  reads : ∀ i j o, i < j → j < n → ops[j]? = some o → ∀ t, dstAt ops i = some t → t ∈ o.looksAt ops → i ∈ D j
  over : ∀ i j o, i < j → j < n → ops[i]? = some o → ∀ t, dstAt ops j = some t → t ∈ o.looksAt ops → i ∈ D j
  apart : ∀ i j t, i < n → j < n → dstAt ops i = some t → dstAt ops j = some t → i = j
  tail : ∀ t, n ≤ t → t < ops.size → ∀ i, i < n → i ∈ D t
  noSel : Region.noSelect ops = true
  seq : Region.seqB .any ops (ops.size - n) n (Array.replicate n true ++ Array.replicate (ops.size - n) false) = true
theorem Act.put_get (a : Act) (d : Option Tmp) (v : Value) (t : Tmp) : (a.put d v).tmps[t]? = if d = some t ∧ t < a.tmps.size then some v else a.tmps[t]? := by
  cases d with
  | none => simp [Act.put]
  | some d =>
    simp only [Act.put, Array.getElem?_setIfInBounds, Option.some.injEq]
    by_cases h : d = t
    · subst h
      by_cases h2 : d < a.tmps.size <;> simp [h2]
    · simp [h]
theorem Act.put_size (a : Act) (d : Option Tmp) (v : Value) : (a.put d v).tmps.size = a.tmps.size := by cases d <;> simp [Act.put]
theorem Act.put_def (a : Act) (d : Option Tmp) (v : Value) : (a.put d v).defers = a.defers := by cases d <;> simp [Act.put]
theorem same_run (o : Oper) (hs : ∀ cs b, o.op ≠ .select cs b) {a b : Act} (h : ∀ t ∈ o.looksAt ops, a.tmps[t]? = b.tmps[t]?) :
    execOp a.eval o = execOp b.eval o ∧ Region.wanted o (yielded ops a.tmps) = Region.wanted o (yielded ops b.tmps) := by
  refine ⟨execOp_congr o hs fun x hx => ?_, ?_⟩
  · cases x with
    | tmp t =>
      have := h t (List.mem_append_left _ (List.mem_filterMap.2 ⟨.tmp t, by simpa using hx, rfl⟩))
      simp only [Act.eval, Array.getD_eq_getD_getElem?, this]
    | _ => rfl
  · unfold Region.wanted
    cases hg : o.guard with
    | none => rfl
    | some gw =>
      obtain ⟨g, want⟩ := gw
      have : yielded ops a.tmps g = yielded ops b.tmps g := by
        unfold yielded
        cases ht : (ops[g]?).bind (·.dst) with
        | none => rfl
        | some t =>
          have := h t (List.mem_append_right _ (by simp [hg, ht]))
          simp only [Option.bind_some, this]
      simp only [this]
theorem count_off {p q : Nat → Bool} {i : Nat} (hp : p i = true) (hq : q i = false) (he : ∀ j, j ≠ i → q j = p j) : ∀ n, i < n → (List.range n).countP q + 1 = (List.range n).countP p
  | 0, h => by omega
  | n + 1, h => by
    rw [List.range_succ, List.countP_append, List.countP_append]
    by_cases hn : i = n
    · subst hn
      have : (List.range i).countP q = (List.range i).countP p := List.countP_congr fun j hj => by rw [he j (by have := List.mem_range.1 hj; omega)]
      simp [hp, hq, this]
    · have := count_off hp hq he n (by omega)
      have h2 : [n].countP q = [n].countP p := by simp [List.countP_cons, he n (Ne.symm hn)]
      omega
theorem getD_set_iff {listed : Array Bool} {i j : Nat} (hi : i < listed.size) : ((listed.setIfInBounds i true).getD j false = true) = (listed.getD j false = true ∨ j = i) := by
  apply propext
  by_cases h : i = j
  · subst h; simp [hi]
  · rw [getD_set_ne false h]; constructor
    · exact .inl
    · rintro (h2 | h2)
      · exact h2
      · exact absurd h2.symm h
theorem getD_true_false {listed : Array Bool} {j : Nat} (hj : j < listed.size) : listed.getD j true = listed.getD j false := by simp [hj]
def growD (Dl : List (List Nat)) (m : Nat) : List Nat := Dl.getD m []
def growDeps (ops : List Oper) : List (List Nat) :=
  ops.foldl (init := []) fun acc o => acc ++ [(o.after.toList.filter (Region.binds .any ·)).foldl (init := []) fun l e => (l ++ e.on :: acc.getD e.on []).eraseDups]
def growB (ops : Array Oper) (Dl : List (List Nat)) (n : Nat) : Bool :=
  decide (n ≤ ops.size) && Region.noSelect ops && Region.seqB .any ops (ops.size - n) n (Array.replicate n true ++ Array.replicate (ops.size - n) false) &&
  (decide (Dl.length ≤ ops.size) && ((List.range ops.size).all fun m =>
    (match ops[m]? with
      | none => true
      | some o => (decide (n ≤ m) || o.after.all fun e => !Region.binds .any e || decide (e.on < m)) &&
        ((growD Dl m).all fun j => decide (j < m) && o.after.any fun e => Region.binds .any e && (e.on == j || (growD Dl e.on).contains j)) &&
        (decide (m < n) || (List.range n).all fun i => (growD Dl m).contains i)))) &&
  ((List.range n).all fun j => (List.range j).all fun i =>
    match ops[i]?, ops[j]? with
    | some oi, some oj =>
      (match oi.dst with | some t => (!(oj.looksAt ops).contains t || (growD Dl j).contains i) && oj.dst != some t | none => true) &&
      (match oj.dst with | some t => !(oi.looksAt ops).contains t || (growD Dl j).contains i | none => true)
    | _, _ => true)
theorem growB_ok {l : List Oper} {Dl : List (List Nat)} {n : Nat} (h : growB l.toArray Dl n = true) : GrowOk l.toArray (growD Dl) n ∧ ∀ m j, j ∈ growD Dl m → j < m := by
  unfold growB at h
  simp only [Bool.and_eq_true, decide_eq_true_eq, List.all_eq_true, List.mem_range] at h
  obtain ⟨⟨⟨⟨h1, h2⟩, h3⟩, h4, h5⟩, h6⟩ := h
  have hlt : ∀ m j, j ∈ growD Dl m → j < m := fun m j hj => by
    have hm : m < l.toArray.size := by
      rcases Nat.lt_or_ge m Dl.length with h | h
      · omega
      · have : growD Dl m = [] := by unfold growD; simp [h]
        rw [this] at hj; cases hj
    have := h5 m hm
    rw [Array.getElem?_eq_getElem hm] at this
    simp only [Bool.and_eq_true, List.all_eq_true, decide_eq_true_eq] at this
    exact (this.1.2 j hj).1
  have hpair : ∀ i j oi oj, i < j → j < n → l.toArray[i]? = some oi → l.toArray[j]? = some oj →
      (∀ t, oi.dst = some t → (t ∈ oj.looksAt l.toArray → i ∈ growD Dl j) ∧ oj.dst ≠ some t) ∧ (∀ t, oj.dst = some t → t ∈ oi.looksAt l.toArray → i ∈ growD Dl j) := fun i j oi oj hij hj hoi hoj => by
    have := h6 j hj i hij
    rw [hoi, hoj] at this
    simp only [Bool.and_eq_true] at this
    constructor
    · intro t ht
      rw [ht] at this
      have h7 := this.1
      simp only [Bool.and_eq_true, Bool.or_eq_true, Bool.not_eq_true', List.contains_eq_mem, decide_eq_true_eq, decide_eq_false_iff_not, bne_iff_ne] at h7
      exact ⟨fun hx => h7.1.resolve_left (fun h => h hx), h7.2⟩
    · intro t ht hx
      rw [ht] at this
      have h7 := this.2
      simp only [Bool.or_eq_true, Bool.not_eq_true', List.contains_eq_mem, decide_eq_true_eq, decide_eq_false_iff_not] at h7
      exact h7.resolve_left (fun h => h hx)
  have hat : ∀ i t, dstAt l.toArray i = some t → ∃ o, l.toArray[i]? = some o ∧ o.dst = some t := fun i t h => by
    unfold dstAt at h
    cases ho : l.toArray[i]? with
    | none => rw [ho] at h; cases h
    | some o => rw [ho] at h; exact ⟨o, rfl, h⟩
  refine ⟨⟨h1, ?_, ?_, ?_, ?_, ?_, ?_, h2, h3⟩, hlt⟩
  · intro m o hm ho e he hb
    have := h5 m (by omega)
    rw [ho] at this
    simp only [Bool.and_eq_true, Bool.or_eq_true, decide_eq_true_eq] at this
    have h7 := this.1.1.resolve_left (by omega)
    have h8 := Array.all_eq_true_iff_forall_mem.1 h7 e he
    simpa [hb] using h8
  · intro m o ho j hj
    have hm : m < l.toArray.size := (Array.getElem?_eq_some_iff.1 ho).1
    have := h5 m hm
    rw [ho] at this
    simp only [Bool.and_eq_true, List.all_eq_true, decide_eq_true_eq] at this
    have h7 := (this.1.2 j hj).2
    obtain ⟨e, he, h8⟩ := Array.any_eq_true'.1 h7
    simp only [Bool.and_eq_true, Bool.or_eq_true, beq_iff_eq, List.contains_eq_mem, decide_eq_true_eq] at h8
    exact ⟨e, he, h8.1, h8.2⟩
  · intro i j o hij hj ho t ht hx
    obtain ⟨oi, hoi, hdi⟩ := hat i t ht
    exact ((hpair i j oi o hij hj hoi ho).1 t hdi).1 hx
  · intro i j o hij hj ho t ht hx
    obtain ⟨oj, hoj, hdj⟩ := hat j t ht
    exact (hpair i j o oj hij hj ho hoj).2 t hdj hx
  · intro i j t hi hj hti htj
    obtain ⟨oi, hoi, hdi⟩ := hat i t hti
    obtain ⟨oj, hoj, hdj⟩ := hat j t htj
    rcases Nat.lt_trichotomy i j with h | h | h
    · exact absurd hdj ((hpair i j oi oj h hj hoi hoj).1 t hdi).2
    · exact h
    · exact absurd hdi ((hpair j i oj oi h hi hoj hoi).1 t hdj).2
  · intro t ht hts i hi
    have := h5 t hts
    rw [Array.getElem?_eq_getElem hts] at this
    simp only [Bool.and_eq_true, Bool.or_eq_true, decide_eq_true_eq, List.all_eq_true, List.mem_range, List.contains_eq_mem] at this
    exact (this.2.resolve_left (by omega)) i hi
theorem wpAny_inv {D : Nat → List Nat} {Q : Exit → Act → World → Prop} {tail : List Oper} {n : Nat} (ok : GrowOk ops D n) (htl : ∀ j, tail[j]? = ops[n + j]?) (I : (Nat → Prop) → Act → World → Prop)
    (hstep : ∀ (L : Nat → Prop) a w i, (∀ m, L m → ∀ j, j ∈ D m → L j) → ¬ L i → i < n → (∀ j, j ∈ D i → L j) → I L a w → ∀ K : Act → World → Prop, (∀ a' w', I (fun j => L j ∨ j = i) a' w' → K a' w') → wpOp P ops Q i K a w)
    (hfin : ∀ (L : Nat → Prop) a w, (∀ j, j < n → L j) → (∀ j, L j → j < n) → I L a w → wpList P ops Q tail a w) :
    ∀ f (listed : Array Bool) (a : Act) (w : World), listed.size = ops.size → (∀ t, n ≤ t → t < ops.size → listed.getD t false = false) → (∀ m, listed.getD m false = true → ∀ j, j ∈ D m → listed.getD j false = true) →
      I (fun j => listed.getD j false = true) a w → (List.range n).countP (fun j => !listed.getD j false) = f → wpAny P .any ops Q (f + tail.length) listed a w
  | 0, listed, a, w, hsz, ht0, hcl, hI, hf => by
    have hL : ∀ j, j < n → listed.getD j false = true := fun j hj => by
      have := List.countP_eq_zero.1 hf j (List.mem_range.2 hj)
      simpa using this
    have hlt : ∀ j, listed.getD j false = true → j < n := fun j hj => by
      rcases Nat.lt_or_ge j n with h | h
      · exact h
      · by_cases h2 : j < ops.size
        · rw [ht0 j h h2] at hj; cases hj
        · simp [Array.getElem?_eq_none (by omega : listed.size ≤ j)] at hj
    rw [Nat.zero_add]
    have hlen : tail.length = ops.size - n := by
      have h1 : tail[ops.size - n]? = none := by rw [htl]; exact Array.getElem?_eq_none (by have := ok.size; omega)
      have h2 := List.getElem?_eq_none_iff.1 h1
      rcases Nat.lt_or_ge tail.length (ops.size - n) with h | h
      · have h3 : tail[tail.length]? = none := List.getElem?_eq_none_iff.2 (Nat.le_refl _)
        rw [htl] at h3
        have := Array.getElem?_eq_none_iff.1 h3
        have := ok.size
        omega
      · omega
    have hlist : listed = Array.replicate n true ++ Array.replicate (ops.size - n) false := by
      have hn := ok.size
      apply Array.ext
      · simp [hsz]; omega
      · intro j h1 h2
        rcases Nat.lt_or_ge j n with hjn | hjn
        · have h3 : listed[j] = true := by have := hL j hjn; simpa [h1] using this
          exact h3.trans (by rw [Array.getElem_append_left (by simpa using hjn)]; simp)
        · have h3 : listed[j] = false := by have := ht0 j hjn (by rw [← hsz]; exact h1); simpa [h1] using this
          exact h3.trans (by rw [Array.getElem_append_right (by simpa using hjn)]; simp)
    exact wpAny_of_seq tail n listed _ w htl (by rw [hlist, hlen]; exact ok.seq) (hfin _ a w hL hlt hI)
  | f + 1, listed, a, w, hsz, ht0, hcl, hI, hf => by
    have hex : ∃ j, j < n ∧ listed.getD j false = false := by
      have hp : 0 < (List.range n).countP (fun j => !listed.getD j false) := by omega
      obtain ⟨j, hj, hj2⟩ := List.countP_pos_iff.1 hp
      exact ⟨j, List.mem_range.1 hj, by simpa using hj2⟩
    have hsmall : ∀ j, j < n → listed.getD j false = false → Region.ready .any ops listed ≠ [] := by
      intro j
      induction j using Nat.strongRecOn with
      | _ j ih =>
        intro hj hjf
        have hjo : j < ops.size := by have := ok.size; omega
        have hol : ops[j]? = some ops[j] := Array.getElem?_eq_getElem hjo
        by_cases hb : ∀ e ∈ ops[j].after, Region.binds .any e = true → listed.getD e.on false = true
        · intro hnil
          have : j ∈ Region.ready .any ops listed := mem_ready.2 ⟨by rw [getD_true_false (by rw [hsz]; exact hjo)]; exact hjf, _, hol, hb⟩
          rw [hnil] at this
          cases this
        · have : ∃ e, e ∈ ops[j].after ∧ Region.binds .any e = true ∧ ¬ listed.getD e.on false = true := by
            apply Classical.byContradiction
            intro hne
            exact hb fun e he hbe => Classical.byContradiction fun hx => hne ⟨e, he, hbe, hx⟩
          obtain ⟨e, he, hbe, hx⟩ := this
          have := ok.edge j _ hj hol e he hbe
          exact ih e.on this (by omega) (by simpa using hx)
    obtain ⟨j0, hj0, hj0f⟩ := hex
    rw [show f + 1 + tail.length = (f + tail.length) + 1 by omega]
    refine ⟨fun h0 => absurd h0 (hsmall j0 hj0 hj0f), fun i hi => ?_⟩
    obtain ⟨hun, o, ho, hall⟩ := mem_ready.1 hi
    have hio : i < ops.size := (Array.getElem?_eq_some_iff.1 ho).1
    have hd : ∀ j, j ∈ D i → listed.getD j false = true := fun j hj => by
      obtain ⟨e, he, hb, hon⟩ := ok.sub i o ho j hj
      have h1 := hall e he hb
      rcases hon with rfl | hon
      · exact h1
      · exact hcl _ h1 j hon
    have hin : i < n := by
      rcases Nat.lt_or_ge i n with h | h
      · exact h
      · exfalso
        have h2 := hd j0 (ok.tail i h hio j0 hj0)
        rw [hj0f] at h2
        cases h2
    have his : i < listed.size := by rw [hsz]; exact hio
    have hui : listed.getD i false = false := by rw [← getD_true_false his]; exact hun
    have hset : (fun j => listed.getD j false = true ∨ j = i) = (fun j => (listed.setIfInBounds i true).getD j false = true) := by funext j; exact (getD_set_iff his).symm
    refine hstep _ a w i hcl (by rw [hui]; exact fun h => by cases h) hin hd hI _ fun a' w' I' => wpAny_inv ok htl I hstep hfin f _ a' w' (by simp [hsz]) (fun t h1 h2 => by rw [getD_set_ne false (by omega)]; exact ht0 t h1 h2) (fun m hm j hj => ?_) (by rw [← hset]; exact I') ?_
    · rw [getD_set_iff his] at hm ⊢
      rcases hm with hm | rfl
      · exact .inl (hcl m hm j hj)
      · exact .inl (hd j hj)
    · have := count_off (p := fun j => !listed.getD j false) (q := fun j => !(listed.setIfInBounds i true).getD j false) (i := i) (by simp only [hui]; rfl)
        (by have : (listed.setIfInBounds i true).getD i false = true := by rw [getD_set_iff his]; exact .inr rfl
            simp only [this]; rfl)
        (fun j hj => by simp only [getD_set_ne false (Ne.symm hj)]) n hin
      omega
theorem region_inv {id : Nat} {l : List Oper} {a : Act} {W : World} {Q : Exit → Act → World → Prop} (n : Nat) (Dl : List (List Nat)) (hm : P.follows .mixedOrders = true) (hB : growB l.toArray Dl n = true) (I : (Nat → Prop) → Act → World → Prop)
    (h0 : I (fun _ => False) a W.drew)
    (hstep : ∀ (L : Nat → Prop) a w i, (∀ m, L m → ∀ j, j ∈ growD Dl m → L j) → ¬ L i → i < n → (∀ j, j ∈ growD Dl i → L j) → I L a w → ∀ K : Act → World → Prop, (∀ a' w', I (fun j => L j ∨ j = i) a' w' → K a' w') → wpOp P l.toArray Q i K a w)
    (hfin : ∀ (L : Nat → Prop) a w, (∀ j, j < n → L j) → (∀ j, L j → j < n) → I L a w → wpList P l.toArray Q (l.drop n) a w) : (Code.region id l.toArray true).wp P Q a W := by
  obtain ⟨ok, hlt⟩ := growB_ok hB
  have hn : n ≤ l.length := by have := ok.size; simpa using this
  have hcount : ∀ m, (List.range m).countP (fun j => !(Array.replicate l.toArray.size false).getD j false) = m := fun m => by
    have : (List.range m).countP (fun j => !(Array.replicate l.toArray.size false).getD j false) = (List.range m).length :=
      List.countP_eq_length.2 fun j _ => by rw [getD_replicate_false]; rfl
    rw [this, List.length_range]
  have hfuel : n + (l.drop n).length = l.toArray.size := by simp; omega
  have hno : (fun j => (Array.replicate l.toArray.size false).getD j false = true) = fun _ => False := by funext j; rw [getD_replicate_false]; simp
  refine wp_region_any hm ?_
  have := wpAny_inv ok (fun j => by simp [List.getElem?_drop]) I hstep hfin n (Array.replicate l.toArray.size false) a W.drew (by simp) (fun t _ _ => getD_replicate_false _ _) (fun m hm => by rw [getD_replicate_false] at hm; cases hm) (by rw [hno]; exact h0) (hcount n)
  rw [hfuel] at this
  exact this
end
end Go.Proofs.YtfnkciboencifaaDoor
