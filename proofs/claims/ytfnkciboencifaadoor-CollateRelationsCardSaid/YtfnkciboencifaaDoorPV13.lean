/-
  The clean machine: code, and the functions that only compute.
-/
import Derived.Test.YtfnkciboencifaaDoorPV12
import Derived.Deep.LoopGhost
set_option linter.all false
namespace Go.Proofs.YtfnkciboencifaaDoor
open Go Go.RowKit

/-- From this state on the code comes to such a state. -/
def Tri (P : Program) (n : Nat) (c : Code) (S : St) (Q : Exit → St → Prop) : Prop :=
  ∀ (w0 : Home) (F0 D : Nat → Prop) (μ : Nat → Option Nat) (F : Nat → Prop) (G : List Value) (a : Act) (w : World), Sim w0 F0 D μ F G S n a w →
    c.wp P (fun e a' w' => ∃ S' D' μ' F', Q e S' ∧ Sim w0 F0 D' μ' F' G S' n a' w') a w

section
variable {P : Program} {n : Nat} {S : St} {Q : Exit → St → Prop}

theorem Tri.mono {c : Code} {Q' : Exit → St → Prop} (h : Tri P n c S Q') (hq : ∀ e S', Q' e S' → Q e S') : Tri P n c S Q := fun w0 F0 D μ F G a w hS =>
  wp_mono (h w0 F0 D μ F G a w hS) fun e a' w' ⟨S', D', μ', F', h1, h2⟩ => ⟨S', D', μ', F', hq e S' h1, h2⟩

theorem Tri.skip (h : Q .normal S) : Tri P n .skip S Q := fun _ _ D μ F _ _ _ hS => wp_skip ⟨S, D, μ, F, h, hS⟩
theorem Tri.ret (h : Q .ret S) : Tri P n .ret S Q := fun _ _ D μ F _ _ _ hS => wp_ret ⟨S, D, μ, F, h, hS⟩
theorem Tri.exit {id : Nat} (h : Q (.exit id) S) : Tri P n (.exit id) S Q := fun _ _ D μ F _ _ _ hS => wp_exit ⟨S, D, μ, F, h, hS⟩

def thenQ (next : St → Prop) (Q : Exit → St → Prop) : Exit → St → Prop
  | .normal, S => next S
  | e, S => Q e S
theorem Tri.seq {x y : Code} (h : Tri P n x S (thenQ (fun S' => Tri P n y S' Q) Q)) : Tri P n (.seq x y) S Q := fun w0 F0 D μ F G a w hS => by
  refine wp_seq (wp_mono (h w0 F0 D μ F G a w hS) fun e a' w' ⟨S', D', μ', F', h1, h2⟩ => ?_)
  cases e with
  | normal => exact h1 w0 F0 D' μ' F' G a' w' h2
  | exit id => exact ⟨S', D', μ', F', h1, h2⟩
  | goto l => exact ⟨S', D', μ', F', h1, h2⟩
  | ret => exact ⟨S', D', μ', F', h1, h2⟩
  | panic ch => exact ⟨S', D', μ', F', h1, h2⟩
  | outgrown => exact ⟨S', D', μ', F', h1, h2⟩

theorem Tri.cond {c : Operand} {x y : Code} {t : Bool} (hc : S.ev c = .atom (.bool t)) (ht : t = true → Tri P n x S Q) (hf : t = false → Tri P n y S Q) : Tri P n (.cond c x y) S Q := fun w0 F0 D μ F G a w hS =>
  wp_cond_split (ev_atom (hS.evs c) hc) (fun h => ht h w0 F0 D μ F G a w hS) (fun h => hf h w0 F0 D μ F G a w hS)

def blockQ (id : Nat) (Q : Exit → St → Prop) : Exit → St → Prop
  | .exit id', S => if id' = id then Q .normal S else Q (.exit id') S
  | e, S => Q e S
theorem Tri.block {id : Nat} {c : Code} (h : Tri P n c S (blockQ id Q)) : Tri P n (.block id c) S Q := fun w0 F0 D μ F G a w hS => by
  refine wp_block (wp_mono (h w0 F0 D μ F G a w hS) fun e a' w' ⟨S', D', μ', F', h1, h2⟩ => ?_)
  cases e with
  | exit id' =>
    have h1' : (if id' = id then Q .normal S' else Q (.exit id') S') := h1
    show (if id' = id then (∃ S' D' μ' F', Q .normal S' ∧ Sim w0 F0 D' μ' F' G S' n a' w') else (∃ S' D' μ' F', Q (.exit id') S' ∧ Sim w0 F0 D' μ' F' G S' n a' w'))
    by_cases he : id' = id
    · rw [if_pos he] at h1' ⊢; exact ⟨S', D', μ', F', h1', h2⟩
    · rw [if_neg he] at h1' ⊢; exact ⟨S', D', μ', F', h1', h2⟩
  | normal => exact ⟨S', D', μ', F', h1, h2⟩
  | goto l => exact ⟨S', D', μ', F', h1, h2⟩
  | ret => exact ⟨S', D', μ', F', h1, h2⟩
  | panic ch => exact ⟨S', D', μ', F', h1, h2⟩
  | outgrown => exact ⟨S', D', μ', F', h1, h2⟩

/-- Where an operation writes there is a slot. -/
def dstOk (n : Nat) (l : List Oper) : Bool := l.all fun o => match o.dst with | some d => decide (d < n) | none => true
theorem dstOk_spec {l : List Oper} (h : dstOk n l = true) : ∀ o, o ∈ l → ∀ d, o.dst = some d → d < n := fun o ho d hd => by
  have := List.all_eq_true.1 h o ho
  rw [hd] at this
  simpa using this

/-- The same state, written otherwise. -/
structure SEq (S S' : St) : Prop where
  get : S.get = S'.get
  obj : S.obj = S'.obj
  nx : S.nx = S'.nx
  gh : S.gh = S'.gh
theorem SEq.refl (S : St) : SEq S S := ⟨rfl, rfl, rfl, rfl⟩
theorem Sim.seq {w0 : Home} {F0 D : Nat → Prop} {μ : Nat → Option Nat} {F : Nat → Prop} {G : List Value} {a : Act} {w : World} {S' : St} (hS : Sim w0 F0 D μ F G S n a w) (h : SEq S S') : Sim w0 F0 D μ F G S' n a w := by
  refine ⟨hS.defers, hS.size, fun s => by rw [← h.get]; exact hS.env s, by rw [← h.obj]; exact hS.heap, fun i hi => by rw [← h.nx]; exact hS.ids i hi, by rw [← h.gh]; exact hS.ghl, fun i hi => ?_⟩
  have := hS.gh i (by rw [h.gh]; exact hi)
  rwa [gl h.gh] at this

theorem Tri.region {id : Nat} {l : List Oper} (hd : dstOk n l = true) (h : vOps P l.toArray l S (fun S1 => ∃ S', SEq S1 S' ∧ Q .normal S')) : Tri P n (.region id l.toArray false) S Q := fun w0 F0 D μ F G a w hS =>
  wp_region_list (vOps_sound l S D μ F a w (dstOk_spec hd) h hS fun S1 D' μ' F' a' w' ⟨S', he, hK⟩ hS' => ⟨S', D', μ', F', hK, hS'.seq he⟩)
theorem Tri.draw {id : Nat} {l : List Oper} (n0 : Nat) (Dl : List (List Nat)) (hm : P.follows .mixedOrders = true) (hB : growB l.toArray Dl n0 = true) (hd : dstOk n l = true)
    (h : vOpsT P l.toArray (l.take n0) S [] (fun S1 tr => trOk S.nx Dl tr = true ∧ vOps P l.toArray (l.drop n0) S1 (fun S1 => ∃ S', SEq S1 S' ∧ Q .normal S'))) : Tri P n (.region id l.toArray true) S Q := fun w0 F0 D μ F G a w hS =>
  draw_sound n0 Dl hm hB (dstOk_spec hd) h hS fun S1 D' μ' F' a' w' ⟨S', he, hK⟩ hS' => ⟨S', D', μ', F', hK, hS'.seq he⟩

/-- S says at least what S' says, by other numbers; rows that S' does not name are frozen. -/
structure LeqS (k : Nat) (L : List Nat) (S S' : St) : Prop where
  env : ∀ p, p ∈ S'.env → sealed S.obj (fun i => L.contains i) k (S.get p.1) = p.2.ren (rmap L S.nx)
  hp : ∀ p, p ∈ S'.hp → ∀ o, p.2 = some o → p.1 < L.length ∧ ∃ o', S.obj (rmap L S.nx p.1) = some o' ∧ o'.sz = o.sz ∧ o'.els.map (sealed S.obj (fun i => L.contains i) k) = o.els.map (PV.ren (rmap L S.nx))
  nx : S'.nx = L.length
  nodup : L.Nodup
  ghl : S'.gh.length = S.gh.length
  gh : ∀ i (h : i < S'.gh.length) (h2 : i < S.gh.length), sealed S.obj (fun i => L.contains i) k (S.gh[i]) = S'.gh[i].ren (rmap L S.nx)
def Leq (L : List Nat) (S S' : St) : Prop := ∃ k, LeqS k L S S'

/-- The frozen blocks, when only the rows of L are kept. -/
def frz (S : St) (L : List Nat) (μ : Nat → Option Nat) (F : Nat → Prop) (b : Nat) : Prop := F b ∨ ∃ i o, L.contains i = false ∧ S.obj i = some o ∧ μ i = some b

theorem Stands.frz {w0 : Home} {F0 D : Nat → Prop} {μ : Nat → Option Nat} {F : Nat → Prop} {w : World} {L : List Nat} {k : Nat} {o o' : AO} {m : Option Nat} (hH : HeapSim w0 F0 D μ F S.obj w) (hst : Stands D μ F w o' m)
    (h2 : o'.sz = o.sz) (h3 : o'.els.map (sealed S.obj (fun i => L.contains i) k) = o.els.map (PV.ren (rmap L S.nx))) : Stands D μ (frz S L μ F) w (o.ren (rmap L S.nx)) m := by
  have hF : ∀ b, F b → Go.Proofs.YtfnkciboencifaaDoor.frz S L μ F b := fun b h => .inl h
  have hO : ∀ i o b, L.contains i = false → S.obj i = some o → μ i = some b → Go.Proofs.YtfnkciboencifaaDoor.frz S L μ F b := fun i o b h1 h2 h3 => .inr ⟨i, o, h1, h2, h3⟩
  cases m with
  | none =>
    have h' : o'.els = [] := hst
    show (o.ren (rmap L S.nx)).els = []
    unfold AO.ren
    rw [← h3, h']; rfl
  | some b =>
    obtain ⟨A, e, a1, a2, a3, a4⟩ := hst
    have hlen : o.els.length = o'.els.length := by have := congrArg List.length h3; simpa using this.symm
    have hek : ∀ kk (hk : kk < (o.ren (rmap L S.nx)).els.length), (o.ren (rmap L S.nx)).els[kk] = sealed S.obj (fun i => L.contains i) k (o'.els[kk]'(by simp [AO.ren] at hk; omega)) := fun kk hk => by
      have e1 : (o.ren (rmap L S.nx)).els = o'.els.map (sealed S.obj (fun i => L.contains i) k) := h3.symm
      rw [gl e1 hk, List.getElem_map]
    refine ⟨A, e, a1, ?_, fun kk hk => ?_, fun kk hk c hc => ?_⟩
    · simp only [AO.ren, List.length_map]; rw [hlen, ← h2]; exact a2
    · rw [hek kk hk, sealed_len, a3]; exact h2
    · have hkk : kk < o'.els.length := by simp [AO.ren] at hk; omega
      have e2 : (o.ren (rmap L S.nx)).els[kk].cells = (sealed S.obj (fun i => L.contains i) k o'.els[kk]).cells := by rw [hek kk hk]
      rw [gl e2 hc]
      have := cells_sealed hH (fun i => L.contains i) _ hF hO k o'.els[kk] (fun c => A.getD (kk * o'.sz + c) undef) (fun c hc => a4 kk hkk c hc) c (by rw [← e2]; exact hc)
      have e3 : (o.ren (rmap L S.nx)).sz = o'.sz := h2.symm
      rw [e3]; exact this

theorem Sim.leq {w0 : Home} {F0 D : Nat → Prop} {μ : Nat → Option Nat} {F : Nat → Prop} {G : List Value} {a : Act} {w : World} {L : List Nat} {S' : St} (hS : Sim w0 F0 D μ F G S n a w) (h : Leq L S S') :
    Sim w0 F0 (fun i => D (rmap L S.nx i)) (fun i => μ (rmap L S.nx i)) (frz S L μ F) G S' n a w := by
  obtain ⟨k, h⟩ := h
  have hD : ∀ i, D (rmap L S.nx i) → D (rmap L S.nx i) ∧ μ (rmap L S.nx i) = μ (rmap L S.nx i) := fun i hi => ⟨hi, rfl⟩
  have hF : ∀ b, F b → frz S L μ F b := fun b h => .inl h
  have hO : ∀ i o b, L.contains i = false → S.obj i = some o → μ i = some b → frz S L μ F b := fun i o b h1 h2 h3 => .inr ⟨i, o, h1, h2, h3⟩
  have hobj : ∀ i o, S'.obj i = some o → i < L.length ∧ ∃ o', S.obj (rmap L S.nx i) = some o' ∧ o'.sz = o.sz ∧ o'.els.map (sealed S.obj (fun i => L.contains i) k) = o.els.map (PV.ren (rmap L S.nx)) := fun i o hi => by
    unfold St.obj at hi
    cases hl : lk S'.hp i with
    | none => rw [hl] at hi; cases hi
    | some x =>
      rw [hl] at hi
      have hx : x = some o := hi
      exact h.hp (i, x) (lk_mem hl) o hx
  have hget : ∀ i, i < L.length → rmap L S.nx i ∈ L := fun i hi => by
    have e : rmap L S.nx i = L[i] := by simp [rmap, hi]
    rw [e]; exact List.getElem_mem hi
  have hno : ∀ i b o', i < L.length → S.obj (rmap L S.nx i) = some o' → μ (rmap L S.nx i) = some b → ¬ frz S L μ F b := fun i b o' hi h1 hib hbF => by
    rcases hbF with h | ⟨j, o2, g1, g2, g3⟩
    · exact (hS.heap.own _ _ b h1 hib).2 h
    · have := hS.heap.inj _ _ _ _ b h1 g2 hib g3
      rw [← this] at g1
      have := List.contains_iff_mem.2 (hget i hi)
      rw [g1] at this
      cases this
  refine ⟨hS.defers, hS.size, fun s => ?_, ⟨fun i o hi => ?_, fun i j o o' b hi hj hib hjb => ?_, fun i o b hi hib => ?_, hS.heap.ext, fun b hb => ?_, fun b hb => ?_⟩, fun i hi => ?_, by rw [h.ghl]; exact hS.ghl, fun i hi => ?_⟩
  · cases hl : lk S'.env s with
    | none => rw [show S'.get s = .junk by simp [St.get, hl]]; exact .junk _
    | some p =>
      rw [show S'.get s = p by simp [St.get, hl]]
      have := Rep.sealed hS.heap (fun i => L.contains i) _ hF hO k _ _ (hS.env s)
      rw [h.env (s, p) (lk_mem hl)] at this
      exact this.ren_inv hD _ rfl
  · obtain ⟨h0, o', h1, h2, h3⟩ := hobj i o hi
    obtain ⟨g1, g2⟩ := hS.heap.objs _ _ h1
    exact ⟨g1, (Stands.frz hS.heap g2 h2 h3).ren_inv hD⟩
  · obtain ⟨h0, o1, h1, h2, h3⟩ := hobj i o hi
    obtain ⟨k0, o2, k1, k2, k3⟩ := hobj j o' hj
    have e := hS.heap.inj _ _ _ _ b h1 k1 hib hjb
    exact nodup_inj h.nodup h0 k0 (by simpa [rmap, h0, k0] using e)
  · obtain ⟨h0, o', h1, h2, h3⟩ := hobj i o hi
    exact ⟨(hS.heap.own _ _ b h1 hib).1, hno i b o' h0 h1 hib⟩
  · rcases hb with h | ⟨i, o, h1, h2, h3⟩
    · exact hS.heap.f0 b h
    · exact .inr (hS.heap.own i o b h2 h3).1
  · rcases hb with h | ⟨i, o, h1, h2, h3⟩
    · exact hS.heap.fsz b h
    · exact (hS.heap.ok h2 h3).lt
  · rw [h.nx]
    exact (rmap_in hS.ids hi).1
  · have hi2 : i < S.gh.length := by rw [← h.ghl]; exact hi
    have := Rep.sealed hS.heap (fun i => L.contains i) _ hF hO k _ _ (hS.gh i hi2)
    rw [h.gh i hi hi2] at this
    exact this.ren_inv hD _ rfl

theorem Tri.weak {c : Code} {L : List Nat} {S' : St} (h : Leq L S S') (ht : Tri P n c S' Q) : Tri P n c S Q := fun w0 F0 _ _ _ G a w hS => ht w0 F0 _ _ _ G a w (hS.leq h)

def loopQ {α : Type} (S0 : α → St) (m : α → Nat) (x : α) (Q : Exit → St → Prop) : Exit → St → Prop := thenQ (fun S' => ∃ y L, m y < m x ∧ Leq L S' (S0 y)) Q
theorem Tri.loop {α : Type} {body : Code} (S0 : α → St) (m : α → Nat) (x0 : α) (L : List Nat) (h0 : Leq L S (S0 x0)) (h : ∀ x, Tri P n body (S0 x) (loopQ S0 m x Q)) : Tri P n (.loop body) S Q := fun w0 F0 D μ F G a w hS => by
  refine wp_loop_ghost (fun k a w => ∃ x D μ F, m x = k ∧ Sim w0 F0 D μ F G (S0 x) n a w) (m x0) ⟨x0, _, _, _, rfl, hS.leq h0⟩ fun k a w ⟨x, D, μ, F, hk, hSx⟩ => ?_
  refine wp_mono (h x w0 F0 D μ F G a w hSx) fun e a' w' ⟨S', D', μ', F', h1, h2⟩ => ?_
  cases e with
  | normal =>
    obtain ⟨y, L', hlt, hle⟩ := h1
    exact ⟨m y, by rw [← hk]; exact hlt, y, _, _, _, rfl, h2.leq hle⟩
  | exit id => exact ⟨S', D', μ', F', h1, h2⟩
  | goto l => exact ⟨S', D', μ', F', h1, h2⟩
  | ret => exact ⟨S', D', μ', F', h1, h2⟩
  | panic ch => exact ⟨S', D', μ', F', h1, h2⟩
  | outgrown => exact ⟨S', D', μ', F', h1, h2⟩

/-- The slots of the results. -/
def retV (S : St) : List Nat → PV
  | [t] => S.get t
  | ts => .tup (ts.map S.get)
theorem run_results {w : World} {fn : Func} {ts : List Nat} (hr : fn.results = (ts.map ResultVar.tmp).toArray) {D : Nat → Prop} {μ : Nat → Option Nat} {F : Nat → Prop} {tmps : Array Value} (he : ∀ s, Rep D μ F w (S.get s) (tmps.getD s undef)) :
    ∃ v, (results fn tmps).run P w = .ok v w ∧ Rep D μ F w (retV S ts) v := by
  have hm : ∀ (f : ResultVar → Sem Value), (∀ t, (f (.tmp t)).run P w = .ok (tmps.getD t undef) w) → ∀ (l : List Nat), ((l.map ResultVar.tmp).mapM f).run P w = .ok (l.map fun t => tmps.getD t undef) w := by
    intro f hf l
    induction l with
    | nil => simp
    | cons t l ih => rw [List.map_cons, List.mapM_cons]; simp only [Sem.run_bind, hf, Result.andThen_ok, ih, Sem.run_pure]; rfl
  have hrun : (results fn tmps).run P w = .ok (if h : (ts.map fun t => tmps.getD t undef).toArray.size = 1 then (ts.map fun t => tmps.getD t undef).toArray[0] else .tuple (ts.map fun t => tmps.getD t undef).toArray) w := by
    unfold results
    rw [hr, Array.mapM_eq_mapM_toList, Sem.run_bind, Sem.run_map, hm _ (fun t => rfl)]
    rfl
  refine ⟨_, hrun, ?_⟩
  match ts with
  | [t] => simp [retV]; simpa [Array.getD_eq_getD_getElem?] using he t
  | [] => simp [retV]; exact .tup _ _ rfl (fun i hi => by simp at hi)
  | a :: b :: r =>
    rw [dif_neg (by simp)]
    refine .tup _ _ (by simp) fun i hi => ?_
    have hi' : i < (a :: b :: r).length := by simpa using hi
    have e : ((a :: b :: r).map fun t => tmps.getD t undef).toArray.getD i undef = tmps.getD ((a :: b :: r)[i]) undef := by
      rw [Array.getD_eq_getD_getElem?, List.getElem?_toArray, List.getElem?_map, List.getElem?_eq_getElem hi']; rfl
    rw [e, List.getElem_map]
    exact he _

/-- The state yields the result. -/
def ResOk (S : St) (ts : List Nat) (r : PV) (os : List AO) : Prop :=
  ∃ (L : List Nat) (k : Nat), L.length = os.length ∧ L.Nodup ∧ sealed S.obj (fun i => L.contains i) k (retV S ts) = r.ren (rmap L S.nx) ∧
    ∀ i o, os[i]? = some o → ∃ o', S.obj (rmap L S.nx i) = some o' ∧ o'.sz = o.sz ∧ o'.els.map (sealed S.obj (fun i => L.contains i) k) = o.els.map (PV.ren (rmap L S.nx))

theorem ResOk.is {w1 : World} {F0 D : Nat → Prop} {μ : Nat → Option Nat} {F : Nat → Prop} {w : World} {ts : List Nat} {r : PV} {os : List AO} (h : ResOk S ts r os) (hH : HeapSim ⟨w1, fun _ => False⟩ F0 D μ F S.obj w) (ids : ∀ i, D i → i < S.nx) {v : Value} (hv : Rep D μ F w (retV S ts) v) : ResIs F0 w1 w r os v := by
  obtain ⟨L, k, hL, hnd, hr, ho⟩ := h
  have hD : ∀ i, D (rmap L S.nx i) → i < os.length ∧ μ (rmap L S.nx i) = μ (rmap L S.nx i) := fun i hi => ⟨by rw [← hL]; exact (rmap_in ids hi).1, rfl⟩
  have hF : ∀ b, F b → F b ∨ ∃ i o, L.contains i = false ∧ S.obj i = some o ∧ μ i = some b := fun b h => .inl h
  have hO : ∀ i o b, L.contains i = false → S.obj i = some o → μ i = some b → F b ∨ ∃ i o, L.contains i = false ∧ S.obj i = some o ∧ μ i = some b := fun i o b h1 h2 h3 => .inr ⟨i, o, h1, h2, h3⟩
  have hget : ∀ i, i < os.length → ∃ o', S.obj (rmap L S.nx i) = some o' ∧ rmap L S.nx i ∈ L ∧ rmap L S.nx i = L.getD i 0 := fun i hi => by
    obtain ⟨o', h1, _⟩ := ho i _ (List.getElem?_eq_getElem hi)
    have hi' : i < L.length := by rw [hL]; exact hi
    have e : rmap L S.nx i = L[i] := by simp [rmap, hi']
    exact ⟨o', h1, by rw [e]; exact List.getElem_mem hi', by rw [e]; simp [List.getD_eq_getElem?_getD, hi']⟩
  have hno : ∀ i b, i < os.length → μ (rmap L S.nx i) = some b → ¬ (F b ∨ ∃ i o, L.contains i = false ∧ S.obj i = some o ∧ μ i = some b) := fun i b hi hib hbF => by
    obtain ⟨o', h1, h2, _⟩ := hget i hi
    rcases hbF with h | ⟨j, o2, g1, g2, g3⟩
    · exact (hH.own _ _ b h1 hib).2 h
    · have := hH.inj _ _ _ _ b h1 g2 hib g3
      rw [← this] at g1
      have := List.contains_iff_mem.2 h2
      rw [g1] at this
      cases this
  refine ⟨fun i => μ (rmap L S.nx i), fun b => F b ∨ ∃ i o, L.contains i = false ∧ S.obj i = some o ∧ μ i = some b, ?_, fun i o hi => ?_, fun i b hi hib => ?_, fun i j b hi hj hib hjb => ?_, fun b hb => ?_⟩
  · have := Rep.sealed hH (fun i => L.contains i) _ hF hO k _ _ hv
    rw [hr] at this
    exact this.ren_inv hD _ rfl
  · obtain ⟨o', h1, h2, h3⟩ := ho i o hi
    obtain ⟨_, hst⟩ := hH.objs _ _ h1
    have key : Stands D μ (fun b => F b ∨ ∃ i o, L.contains i = false ∧ S.obj i = some o ∧ μ i = some b) w (o.ren (rmap L S.nx)) (μ (rmap L S.nx i)) := by
      cases hm : μ (rmap L S.nx i) with
      | none =>
        rw [hm] at hst
        have h' : o'.els = [] := hst
        show (o.ren (rmap L S.nx)).els = []
        unfold AO.ren
        rw [← h3, h']; rfl
      | some b =>
        rw [hm] at hst
        obtain ⟨A, e, a1, a2, a3, a4⟩ := hst
        have hlen : o.els.length = o'.els.length := by have := congrArg List.length h3; simpa using this.symm
        have hek : ∀ kk (hk : kk < (o.ren (rmap L S.nx)).els.length), (o.ren (rmap L S.nx)).els[kk] = sealed S.obj (fun i => L.contains i) k (o'.els[kk]'(by simp [AO.ren] at hk; omega)) := fun kk hk => by
          have e1 : (o.ren (rmap L S.nx)).els = o'.els.map (sealed S.obj (fun i => L.contains i) k) := h3.symm
          rw [gl e1 hk, List.getElem_map]
        refine ⟨A, e, a1, ?_, fun kk hk => ?_, fun kk hk c hc => ?_⟩
        · simp only [AO.ren, List.length_map]; rw [hlen, ← h2]; exact a2
        · rw [hek kk hk, sealed_len, a3]; exact h2
        · have hkk : kk < o'.els.length := by simp [AO.ren] at hk; omega
          have e2 : (o.ren (rmap L S.nx)).els[kk].cells = (sealed S.obj (fun i => L.contains i) k o'.els[kk]).cells := by rw [hek kk hk]
          rw [gl e2 hc]
          have := cells_sealed hH (fun i => L.contains i) _ hF hO k o'.els[kk] (fun c => A.getD (kk * o'.sz + c) undef) (fun c hc => a4 kk hkk c hc) c (by rw [← e2]; exact hc)
          have e3 : (o.ren (rmap L S.nx)).sz = o'.sz := h2.symm
          rw [e3]; exact this
    exact key.ren_inv hD
  · obtain ⟨o', h1, _⟩ := hget i hi
    exact ⟨(hH.own _ _ b h1 hib).1.resolve_right id, hno i b hi hib⟩
  · obtain ⟨o1, h1, _⟩ := hget i hi
    obtain ⟨o2, h2, _⟩ := hget j hj
    have e := hH.inj _ _ _ _ b h1 h2 hib hjb
    have hi' : i < L.length := by rw [hL]; exact hi
    have hj' : j < L.length := by rw [hL]; exact hj
    exact nodup_inj hnd hi' hj' (by simpa [rmap, hi', hj'] using e)
  · rcases hb with h | ⟨i, o, h1, h2, h3⟩
    · exact ⟨(hH.f0 b h).imp id (·.resolve_right id), hH.fsz b h⟩
    · exact ⟨.inr ((hH.own i o b h2 h3).1.resolve_right id), (hH.ok h2 h3).lt⟩

def argEnv : Nat → List PV → List (Nat × PV)
  | _, [] => []
  | k, p :: l => (k, p) :: argEnv (k + 1) l
theorem lk_argEnv : ∀ (l : List PV) (k s : Nat), lk (argEnv k l) s = if k ≤ s then l[s - k]? else none
  | [], k, s => by simp [argEnv, lk]
  | p :: l, k, s => by
    rw [argEnv, lk, lk_argEnv l (k + 1) s]
    by_cases h : k = s
    · subst h; simp
    · rw [if_neg h]
      by_cases h2 : k + 1 ≤ s
      · rw [if_pos h2, if_pos (by omega), show s - k = (s - (k + 1)) + 1 by omega]; simp
      · rw [if_neg h2, if_neg (by omega)]

def retQ (ts : List Nat) (r : PV) (os : List AO) : Exit → St → Prop
  | .normal, S => ResOk S ts r os
  | .ret, S => ResOk S ts r os
  | _, _ => False

/-- A function that only computes, by its text. -/
theorem PureCall.intro {f : FuncId} {fn : Func} {c : Code} {args : List PV} {r : PV} {os : List AO} {ts : List Nat} (hf : P.funcs[f]? = some fn) (hb : fn.body = some c) (hr : fn.results = (ts.map ResultVar.tmp).toArray) (hn : fn.ntmps = n) (hla : args.length ≤ n) (hpure : args.all PV.pure = true)
    (h : Tri P n c ⟨argEnv 0 args, [], 0, []⟩ (retQ ts r os)) : PureCall P f args r os := by
  intro D μ F w vs hvs hargs hFs
  refine calls_of_wp hf hb ?_
  have hS : Sim ⟨w, fun _ => False⟩ F (fun _ => False) μ F [] ⟨argEnv 0 args, [], 0, []⟩ n { tmps := vs ++ Array.replicate (fn.ntmps - vs.size) undef, defers := [] } w := by
    refine ⟨rfl, by simp [hvs, hn]; omega, fun s => ?_, ⟨fun i o hi => (by cases hi), fun i j o o' b hi => (by cases hi), fun i o b hi => (by cases hi), Ext.refl _ _, fun b hb => .inl hb, hFs⟩, fun i hi => hi.elim, rfl, fun i hi => by simp at hi⟩
    show Rep _ μ F w ((lk (argEnv 0 args) s).getD .junk) _
    rw [lk_argEnv]
    simp only [Nat.zero_le, if_true, Nat.sub_zero]
    by_cases hs : s < args.length
    · rw [List.getElem?_eq_getElem hs]
      simp only [Option.getD_some]
      have e : (vs ++ Array.replicate (fn.ntmps - vs.size) undef).getD s undef = vs.getD s undef := by
        simp only [Array.getD_eq_getD_getElem?]
        rw [Array.getElem?_append_left (by omega)]
      rw [e]
      exact (hargs s hs).pureAny (all_get hpure s hs)
    · rw [List.getElem?_eq_none (by omega)]
      exact .junk _
  refine wp_mono (h _ F _ μ F [] _ w hS) fun e a' w' ⟨S', D', μ', F', h1, h2⟩ => ?_
  have fin : ResOk S' ts r os → a'.defers = [] ∧ ∃ v, (results fn a'.tmps).run P w' = .ok v w' ∧ ∃ v', Ending.returned v = .returned v' ∧ Below w.heap.size w w' ∧ ResIs F w w' r os v' := fun hres => by
    obtain ⟨v, hv, hrep⟩ := run_results (P := P) (S := S') hr h2.env
    exact ⟨h2.defers, v, hv, v, rfl, h2.heap.ext.below (fun _ h => h), hres.is h2.heap h2.ids hrep⟩
  cases e with
  | normal => exact fin h1
  | ret => exact fin h1
  | exit id => exact h1.elim
  | goto l => exact h1.elim
  | panic ch => exact h1.elim
  | outgrown => exact h1.elim

/-- Own objects handed over, by their numbers; and a mark for each that lasts. -/
def objEnv : Nat → List (Option AO) → List (Nat × Option AO)
  | _, [] => []
  | k, o :: l => (k, o) :: objEnv (k + 1) l
theorem lk_objEnv : ∀ (l : List (Option AO)) (k s : Nat), lk (objEnv k l) s = if k ≤ s then l[s - k]? else none
  | [], k, s => by simp [objEnv, lk]
  | p :: l, k, s => by
    rw [objEnv, lk, lk_objEnv l (k + 1) s]
    by_cases h : k = s
    · subst h; simp
    · rw [if_neg h]
      by_cases h2 : k + 1 ≤ s
      · rw [if_pos h2, if_pos (by omega), show s - k = (s - (k + 1)) + 1 by omega]; simp
      · rw [if_neg h2, if_neg (by omega)]
def marks : Nat → List AO → List PV
  | _, [] => []
  | k, o :: l => .ob k o.sz 0 0 :: marks (k + 1) l
theorem marks_length : ∀ (l : List AO) (k : Nat), (marks k l).length = l.length
  | [], _ => rfl
  | _ :: l, k => by rw [marks, List.length_cons, marks_length l, List.length_cons]
theorem marks_get : ∀ (l : List AO) (k i : Nat), (marks k l)[i]? = (l[i]?).map fun o => .ob (k + i) o.sz 0 0
  | [], _, _ => by simp [marks]
  | _ :: l, k, 0 => by simp [marks]
  | _ :: l, k, i + 1 => by rw [marks, List.getElem?_cons_succ, marks_get l (k + 1) i, List.getElem?_cons_succ, show k + 1 + i = k + (i + 1) by omega]
def placeV : Option Nat → Value
  | some b => .slice (some ⟨b, 0, none⟩) 0 0
  | none => .slice none 0 0

/-- The state yields the result, and leaves the objects so. -/
def ResP (S : St) (ts : List Nat) (r : PV) (hp : List AO) (hp' : List (Option AO)) (os : List AO) : Prop :=
  ∃ (L : List Nat) (k : Nat), sealed S.obj (fun i => L.contains i) k (retV S ts) = r.ren (rmap L S.nx) ∧ LeqS k L S ⟨[], objEnv 0 (hp' ++ os.map some), hp'.length + os.length, marks 0 hp⟩
def retP (ts : List Nat) (r : PV) (hp : List AO) (hp' : List (Option AO)) (os : List AO) : Exit → St → Prop
  | .normal, S => ResP S ts r hp hp' os
  | .ret, S => ResP S ts r hp hp' os
  | _, _ => False

theorem HeapSim.widen {w0 : Home} {F0 D D' : Nat → Prop} {μ : Nat → Option Nat} {F : Nat → Prop} {H : Nat → Option AO} {w : World} (h : HeapSim w0 F0 D μ F H w) (hD : ∀ i, D i → D' i) : HeapSim w0 F0 D' μ F H w :=
  ⟨fun i o hi => ⟨hD i (h.objs i o hi).1, (h.objs i o hi).2.stay (Stay.refl _ _) (fun i hi => ⟨hD i hi, rfl⟩) (fun _ h => h) (fun _ _ => rfl)⟩, h.inj, h.own, h.ext, h.f0, h.fsz⟩

theorem ProcCall.intro {f : FuncId} {fn : Func} {c : Code} {args : List PV} {hp : List AO} {r : PV} {hp' : List (Option AO)} {os : List AO} {ts : List Nat} (hf : P.funcs[f]? = some fn) (hb : fn.body = some c) (hr : fn.results = (ts.map ResultVar.tmp).toArray) (hn : fn.ntmps = n) (hla : args.length ≤ n)
    (hlen : hp'.length = hp.length) (h : Tri P n c ⟨argEnv 0 args, objEnv 0 (hp.map some), hp.length, marks 0 hp⟩ (retP ts r hp hp' os)) : ProcCall P f args hp r hp' os := by
  refine ⟨hlen, fun μ F w vs hH hvs hargs => calls_of_wp hf hb ?_⟩
  have hobj : (St.mk (argEnv 0 args) (objEnv 0 (hp.map some)) hp.length (marks 0 hp)).obj = fun i => hp[i]? := by
    funext i
    show (lk (objEnv 0 (hp.map some)) i).join = _
    rw [lk_objEnv]
    simp only [Nat.zero_le, if_true, Nat.sub_zero, List.getElem?_map]
    cases hp[i]? <;> rfl
  have hS : Sim ⟨w, fun b => ∃ i, i < hp.length ∧ μ i = some b⟩ F (· < hp.length) μ F ((List.range hp.length).map fun i => placeV (μ i)) ⟨argEnv 0 args, objEnv 0 (hp.map some), hp.length, marks 0 hp⟩ n { tmps := vs ++ Array.replicate (fn.ntmps - vs.size) undef, defers := [] } w := by
    refine ⟨rfl, by simp [hvs, hn]; omega, fun s => ?_, by rw [hobj]; exact hH, fun i hi => hi, by simp [marks_length], fun i hi => ?_⟩
    · show Rep _ μ F w ((lk (argEnv 0 args) s).getD .junk) _
      rw [lk_argEnv]
      simp only [Nat.zero_le, if_true, Nat.sub_zero]
      by_cases hs : s < args.length
      · rw [List.getElem?_eq_getElem hs]
        simp only [Option.getD_some]
        have e : (vs ++ Array.replicate (fn.ntmps - vs.size) undef).getD s undef = vs.getD s undef := by
          simp only [Array.getD_eq_getD_getElem?]
          rw [Array.getElem?_append_left (by omega)]
        rw [e]
        exact hargs s hs
      · rw [List.getElem?_eq_none (by omega)]
        exact .junk _
    · simp only at hi
      have hi' : i < hp.length := by rwa [marks_length] at hi
      have e1 : (marks 0 hp)[i]'hi = .ob i (hp[i]).sz 0 0 := by
        have := marks_get hp 0 i
        rw [List.getElem?_eq_getElem hi, List.getElem?_eq_getElem hi'] at this
        simpa using this
      have e2 : ((List.range hp.length).map fun i => placeV (μ i)).getD i undef = placeV (μ i) := by simp [List.getD_eq_getElem?_getD, hi']
      rw [e1, e2]
      cases hm : μ i with
      | none => exact .obn i _ hi' hm
      | some b =>
        have := Rep.ob (D := (· < hp.length)) (μ := μ) (F := F) (w := w) i (hp[i]).sz 0 0 0 b hi' hm (Nat.le_refl _) (by unfold maxLen; omega) (by simp)
        simpa [placeV] using this
  refine wp_mono (h _ F _ μ F _ _ w hS) fun e a' w' ⟨S', D', μ', F', h1, h2⟩ => ?_
  have fin : ResP S' ts r hp hp' os → a'.defers = [] ∧ ∃ v, (results fn a'.tmps).run P w' = .ok v w' ∧ ∃ v', Ending.returned v = .returned v' ∧ ∃ (μ2 : Nat → Option Nat) (F2 : Nat → Prop), Rep (· < hp.length + os.length) μ2 F2 w' r v' ∧
      HeapSim ⟨w, fun b => ∃ i, i < hp.length ∧ μ i = some b⟩ F (· < hp.length + os.length) μ2 F2 (fun i => ((hp' ++ os.map some)[i]?).join) w' ∧ (∀ i, i < hp.length → μ2 i = μ i) := fun ⟨L, k, hr1, hl⟩ => by
    obtain ⟨v, hv, hrep⟩ := run_results (P := P) (S := S') hr h2.env
    have h3 := h2.leq ⟨k, hl⟩
    have hD : ∀ i, D' (rmap L S'.nx i) → i < hp.length + os.length ∧ μ' (rmap L S'.nx i) = μ' (rmap L S'.nx i) := fun i hi => ⟨by
      have := h3.ids i hi
      have e : (St.mk [] (objEnv 0 (hp' ++ os.map some)) (hp'.length + os.length) (marks 0 hp)).nx = hp'.length + os.length := rfl
      rw [e] at this; omega, rfl⟩
    refine ⟨h2.defers, v, hv, v, rfl, fun i => μ' (rmap L S'.nx i), frz S' L μ' F', ?_, ?_, fun i hi => ?_⟩
    · have := Rep.sealed h2.heap (fun i => L.contains i) (frz S' L μ' F') (fun b h => .inl h) (fun i o b h1 h2 h3 => .inr ⟨i, o, h1, h2, h3⟩) k _ _ hrep
      rw [hr1] at this
      exact this.ren_inv hD _ rfl
    · have := h3.heap.widen (D' := (· < hp.length + os.length)) (fun i hi => (hD i hi).1)
      have e : (St.mk [] (objEnv 0 (hp' ++ os.map some)) (hp'.length + os.length) (marks 0 hp)).obj = fun i => ((hp' ++ os.map some)[i]?).join := by
        funext i
        show (lk (objEnv 0 (hp' ++ os.map some)) i).join = _
        rw [lk_objEnv]; simp
      rw [e] at this
      exact this
    · have hi2 : i < (marks 0 hp).length := by rw [marks_length]; exact hi
      have := h3.gh i hi2
      have e1 : (marks 0 hp)[i]'hi2 = .ob i (hp[i]).sz 0 0 := by
        have := marks_get hp 0 i
        rw [List.getElem?_eq_getElem hi2, List.getElem?_eq_getElem hi] at this
        simpa using this
      have e2 : ((List.range hp.length).map fun i => placeV (μ i)).getD i undef = placeV (μ i) := by simp [List.getD_eq_getElem?_getD, hi]
      simp only [e1, e2] at this
      generalize hpv : placeV (μ i) = pv at this
      cases this with
      | ob _ _ _ _ cap b g1 g2 g3 g4 g5 =>
        show μ' (rmap L S'.nx i) = μ i
        rw [g2]
        cases hm : μ i with
        | none => rw [hm] at hpv; cases hpv
        | some b2 => rw [hm] at hpv; simp only [placeV, Value.slice.injEq, Option.some.injEq, Addr.mk.injEq] at hpv; rw [hpv.1.1]
      | obn _ _ g1 g2 =>
        show μ' (rmap L S'.nx i) = μ i
        rw [g2]
        cases hm : μ i with
        | none => rfl
        | some b2 => rw [hm] at hpv; cases hpv
  cases e with
  | normal => exact fin h1
  | ret => exact fin h1
  | exit id => exact h1.elim
  | goto l => exact h1.elim
  | panic ch => exact h1.elim
  | outgrown => exact h1.elim
end
end Go.Proofs.YtfnkciboencifaaDoor

