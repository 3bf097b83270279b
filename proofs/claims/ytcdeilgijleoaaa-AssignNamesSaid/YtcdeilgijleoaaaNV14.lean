/-
  The clean machine: code, and the functions that only compute.
-/
import Derived.Test.YtcdeilgijleoaaaNV12
import Derived.Deep.LoopGhost
import Derived.Shelf.Abstract
set_option linter.all false
namespace Go.Proofs.Ytcdeilgijleoaaa
open Go Go.RowKit
def Tri (P : Program) (n : Nat) (c : Code) (S : St) (Q : Exit → St → Prop) : Prop :=
  ∀ (w0 : Home) (F0 D : Nat → Prop) (μ : Nat → Option Nat) (F : Nat → Prop) (G : List Value) (a : Act) (w : World), Sim w0 F0 D μ F G S n a w →
    c.wp P (fun e a' w' => ∃ S' D' μ' F', Q e S' ∧ Sim w0 F0 D' μ' F' G S' n a' w') a w
section
variable {P : Program} {n : Nat} {S : St} {Q : Exit → St → Prop}
theorem Tri.mono {c : Code} {Q' : Exit → St → Prop} (h : Tri P n c S Q') (hq : ∀ e S', Q' e S' → Q e S') : Tri P n c S Q := fun w0 F0 D μ F G a w hS =>
  wp_mono (h w0 F0 D μ F G a w hS) fun e a' w' ⟨S', D', μ', F', h1, h2⟩ => ⟨S', D', μ', F', hq e S' h1, h2⟩
theorem Tri.skip (h : Q .normal S) : Tri P n .skip S Q := fun _ _ D μ F _ _ _ hS => wp_skip ⟨S, D, μ, F, h, hS⟩
theorem Tri.ret (h : Q .ret S) : Tri P n .ret S Q := fun _ _ D μ F _ _ _ hS => wp_ret ⟨S, D, μ, F, h, hS⟩
theorem Tri.exit {id : Nat} (h : Q (.exit id) S) : Tri P n (.exit id) S Q := fun _ _ D μ F _ _ _ hS => wp_exit ⟨S, D, μ, F, h, hS⟩
def thenQ (next : St → Prop) (Q : Exit → St → Prop) : Exit → St → Prop
  | .normal, S => next S
  | e, S => Q e S
theorem Tri.seq {x y : Code} (h : Tri P n x S (thenQ (fun S' => Tri P n y S' Q) Q)) : Tri P n (.seq x y) S Q := fun w0 F0 D μ F G a w hS => by
  refine wp_seq (wp_mono (h w0 F0 D μ F G a w hS) fun e a' w' ⟨S', D', μ', F', h1, h2⟩ => ?_)
  cases e with
  | normal => exact h1 w0 F0 D' μ' F' G a' w' h2
  | exit id => exact ⟨S', D', μ', F', h1, h2⟩
  | goto l => exact ⟨S', D', μ', F', h1, h2⟩
  | ret => exact ⟨S', D', μ', F', h1, h2⟩
  | panic ch => exact ⟨S', D', μ', F', h1, h2⟩
  | outgrown => exact ⟨S', D', μ', F', h1, h2⟩
theorem Tri.cond {c : Operand} {x y : Code} {t : Bool} (hc : S.ev c = .atom (.bool t)) (ht : t = true → Tri P n x S Q) (hf : t = false → Tri P n y S Q) : Tri P n (.cond c x y) S Q := fun w0 F0 D μ F G a w hS =>
  wp_cond_split (ev_atom (hS.evs c) hc) (fun h => ht h w0 F0 D μ F G a w hS) (fun h => hf h w0 F0 D μ F G a w hS)
def blockQ (id : Nat) (Q : Exit → St → Prop) : Exit → St → Prop
  | .exit id', S => if id' = id then Q .normal S else Q (.exit id') S
  | e, S => Q e S
theorem Tri.block {id : Nat} {c : Code} (h : Tri P n c S (blockQ id Q)) : Tri P n (.block id c) S Q := fun w0 F0 D μ F G a w hS => by
  refine wp_block (wp_mono (h w0 F0 D μ F G a w hS) fun e a' w' ⟨S', D', μ', F', h1, h2⟩ => ?_)
  cases e with
  | exit id' =>
    have h1' : (if id' = id then Q .normal S' else Q (.exit id') S') := h1
    show (if id' = id then (∃ S' D' μ' F', Q .normal S' ∧ Sim w0 F0 D' μ' F' G S' n a' w') else (∃ S' D' μ' F', Q (.exit id') S' ∧ Sim w0 F0 D' μ' F' G S' n a' w'))
    by_cases he : id' = id
    · rw [if_pos he] at h1' ⊢; exact ⟨S', D', μ', F', h1', h2⟩
    · rw [if_neg he] at h1' ⊢; exact ⟨S', D', μ', F', h1', h2⟩
  | normal => exact ⟨S', D', μ', F', h1, h2⟩
  | goto l => exact ⟨S', D', μ', F', h1, h2⟩
  | ret => exact ⟨S', D', μ', F', h1, h2⟩
  | panic ch => exact ⟨S', D', μ', F', h1, h2⟩
  | outgrown => exact ⟨S', D', μ', F', h1, h2⟩
def dstOk (n : Nat) (l : List Oper) : Bool := l.all fun o => match o.dst with | some d => decide (d < n) | none => true
theorem dstOk_spec {l : List Oper} (h : dstOk n l = true) : ∀ o, o ∈ l → ∀ d, o.dst = some d → d < n := fun o ho d hd => by
  have := List.all_eq_true.1 h o ho
  rw [hd] at this
  simpa using this
structure SEq (S S' : St) : Prop where
  get : S.get = S'.get
  obj : S.obj = S'.obj
  nx : S.nx = S'.nx
  gh : S.gh = S'.gh
theorem SEq.refl (S : St) : SEq S S := ⟨rfl, rfl, rfl, rfl⟩
theorem Sim.seq {w0 : Home} {F0 D : Nat → Prop} {μ : Nat → Option Nat} {F : Nat → Prop} {G : List Value} {a : Act} {w : World} {S' : St} (hS : Sim w0 F0 D μ F G S n a w) (h : SEq S S') : Sim w0 F0 D μ F G S' n a w := by
  refine ⟨hS.defers, hS.size, fun s => by rw [← h.get]; exact hS.env s, by rw [← h.obj]; exact hS.heap, fun i hi => by rw [← h.nx]; exact hS.ids i hi, by rw [← h.gh]; exact hS.ghl, fun i hi => ?_⟩
  have := hS.gh i (by rw [h.gh]; exact hi)
  rwa [gl h.gh] at this
theorem Tri.region {id : Nat} {l : List Oper} (hd : dstOk n l = true) (h : vOps P l.toArray l S (fun S1 => ∃ S', SEq S1 S' ∧ Q .normal S')) : Tri P n (.region id l.toArray false) S Q := fun w0 F0 D μ F G a w hS =>
  wp_region_list (vOps_sound l S D μ F a w (dstOk_spec hd) h hS fun S1 D' μ' F' a' w' ⟨S', he, hK⟩ hS' => ⟨S', D', μ', F', hK, hS'.seq he⟩)
theorem Tri.draw {id : Nat} {l : List Oper} (n0 : Nat) (Dl : List (List Nat)) (hm : P.follows .mixedOrders = true) (hB : growB l.toArray Dl n0 = true) (hd : dstOk n l = true)
    (h : vOpsT P l.toArray (l.take n0) S [] (fun S1 tr => trOk S.nx Dl tr = true ∧ vOps P l.toArray (l.drop n0) S1 (fun S1 => ∃ S', SEq S1 S' ∧ Q .normal S'))) : Tri P n (.region id l.toArray true) S Q := fun w0 F0 D μ F G a w hS =>
  draw_sound n0 Dl hm hB (dstOk_spec hd) h hS fun S1 D' μ' F' a' w' ⟨S', he, hK⟩ hS' => ⟨S', D', μ', F', hK, hS'.seq he⟩
structure LeqS (k : Nat) (L : List Nat) (S S' : St) : Prop where
  env : ∀ p, p ∈ S'.env → sealed S.obj (fun i => L.contains i) k (S.get p.1) = p.2.ren (rmap L S.nx)
  hp : ∀ p, p ∈ S'.hp → ∀ o, p.2 = some o → p.1 < L.length ∧ ∃ o', S.obj (rmap L S.nx p.1) = some o' ∧ o'.sz = o.sz ∧ o'.els.map (sealed S.obj (fun i => L.contains i) k) = o.els.map (PV.ren (rmap L S.nx))
  nx : S'.nx = L.length
  nodup : L.Nodup
  ghl : S'.gh.length = S.gh.length
  gh : ∀ i (h : i < S'.gh.length) (h2 : i < S.gh.length), sealed S.obj (fun i => L.contains i) k (S.gh[i]) = S'.gh[i].ren (rmap L S.nx)
def Leq (L : List Nat) (S S' : St) : Prop := ∃ k, LeqS k L S S'
def frz (S : St) (L : List Nat) (μ : Nat → Option Nat) (F : Nat → Prop) (b : Nat) : Prop := F b ∨ ∃ i o, L.contains i = false ∧ S.obj i = some o ∧ μ i = some b
theorem Stands.frz {w0 : Home} {F0 D : Nat → Prop} {μ : Nat → Option Nat} {F : Nat → Prop} {w : World} {L : List Nat} {k : Nat} {o o' : AO} {m : Option Nat} (hH : HeapSim w0 F0 D μ F S.obj w) (hst : Stands D μ F w o' m)
    (h2 : o'.sz = o.sz) (h3 : o'.els.map (sealed S.obj (fun i => L.contains i) k) = o.els.map (PV.ren (rmap L S.nx))) : Stands D μ (frz S L μ F) w (o.ren (rmap L S.nx)) m := by
  have hF : ∀ b, F b → Go.Proofs.Ytcdeilgijleoaaa.frz S L μ F b := fun b h => .inl h
  have hO : ∀ i o b, L.contains i = false → S.obj i = some o → μ i = some b → Go.Proofs.Ytcdeilgijleoaaa.frz S L μ F b := fun i o b h1 h2 h3 => .inr ⟨i, o, h1, h2, h3⟩
  cases m with
  | none =>
    have h' : o'.els = [] := hst
    show (o.ren (rmap L S.nx)).els = []
    unfold AO.ren
    rw [← h3, h']; rfl
  | some b =>
    obtain ⟨A, e, a1, a2, a3, a4⟩ := hst
    have hlen : o.els.length = o'.els.length := by have := congrArg List.length h3; simpa using this.symm
    have hek : ∀ kk (hk : kk < (o.ren (rmap L S.nx)).els.length), (o.ren (rmap L S.nx)).els[kk] = sealed S.obj (fun i => L.contains i) k (o'.els[kk]'(by simp [AO.ren] at hk; omega)) := fun kk hk => by
      have e1 : (o.ren (rmap L S.nx)).els = o'.els.map (sealed S.obj (fun i => L.contains i) k) := h3.symm
      rw [gl e1 hk, List.getElem_map]
    refine ⟨A, e, a1, ?_, fun kk hk => ?_, fun kk hk c hc => ?_⟩
    · simp only [AO.ren, List.length_map]; rw [hlen, ← h2]; exact a2
    · rw [hek kk hk, sealed_len, a3]; exact h2
    · have hkk : kk < o'.els.length := by simp [AO.ren] at hk; omega
      have e2 : (o.ren (rmap L S.nx)).els[kk].cells = (sealed S.obj (fun i => L.contains i) k o'.els[kk]).cells := by rw [hek kk hk]
      rw [gl e2 hc]
      have := cells_sealed hH (fun i => L.contains i) _ hF hO k o'.els[kk] (fun c => A.getD (kk * o'.sz + c) undef) (fun c hc => a4 kk hkk c hc) c (by rw [← e2]; exact hc)
      have e3 : (o.ren (rmap L S.nx)).sz = o'.sz := h2.symm
      rw [e3]; exact this
theorem Sim.leq {w0 : Home} {F0 D : Nat → Prop} {μ : Nat → Option Nat} {F : Nat → Prop} {G : List Value} {a : Act} {w : World} {L : List Nat} {S' : St} (hS : Sim w0 F0 D μ F G S n a w) (h : Leq L S S') :
    Sim w0 F0 (fun i => D (rmap L S.nx i)) (fun i => μ (rmap L S.nx i)) (frz S L μ F) G S' n a w := by
  obtain ⟨k, h⟩ := h
  have hD : ∀ i, D (rmap L S.nx i) → D (rmap L S.nx i) ∧ μ (rmap L S.nx i) = μ (rmap L S.nx i) := fun i hi => ⟨hi, rfl⟩
  have hF : ∀ b, F b → frz S L μ F b := fun b h => .inl h
  have hO : ∀ i o b, L.contains i = false → S.obj i = some o → μ i = some b → frz S L μ F b := fun i o b h1 h2 h3 => .inr ⟨i, o, h1, h2, h3⟩
  have hobj : ∀ i o, S'.obj i = some o → i < L.length ∧ ∃ o', S.obj (rmap L S.nx i) = some o' ∧ o'.sz = o.sz ∧ o'.els.map (sealed S.obj (fun i => L.contains i) k) = o.els.map (PV.ren (rmap L S.nx)) := fun i o hi => by
    unfold St.obj at hi
    cases hl : lk S'.hp i with
    | none => rw [hl] at hi; cases hi
    | some x =>
      rw [hl] at hi
      have hx : x = some o := hi
      exact h.hp (i, x) (lk_mem hl) o hx
  have hget : ∀ i, i < L.length → rmap L S.nx i ∈ L := fun i hi => by
    have e : rmap L S.nx i = L[i] := by simp [rmap, hi]
    rw [e]; exact List.getElem_mem hi
  have hno : ∀ i b o', i < L.length → S.obj (rmap L S.nx i) = some o' → μ (rmap L S.nx i) = some b → ¬ frz S L μ F b := fun i b o' hi h1 hib hbF => by
    rcases hbF with h | ⟨j, o2, g1, g2, g3⟩
    · exact (hS.heap.own _ _ b h1 hib).2 h
    · have := hS.heap.inj _ _ _ _ b h1 g2 hib g3
      rw [← this] at g1
      have := List.contains_iff_mem.2 (hget i hi)
      rw [g1] at this
      cases this
  refine ⟨hS.defers, hS.size, fun s => ?_, ⟨fun i o hi => ?_, fun i j o o' b hi hj hib hjb => ?_, fun i o b hi hib => ?_, hS.heap.ext, fun b hb => ?_, fun b hb => ?_⟩, fun i hi => ?_, by rw [h.ghl]; exact hS.ghl, fun i hi => ?_⟩
  · cases hl : lk S'.env s with
    | none => rw [show S'.get s = .junk by simp [St.get, hl]]; exact .junk _
    | some p =>
      rw [show S'.get s = p by simp [St.get, hl]]
      have := Rep.sealed hS.heap (fun i => L.contains i) _ hF hO k _ _ (hS.env s)
      rw [h.env (s, p) (lk_mem hl)] at this
      exact this.ren_inv hD _ rfl
  · obtain ⟨h0, o', h1, h2, h3⟩ := hobj i o hi
    obtain ⟨g1, g2⟩ := hS.heap.objs _ _ h1
    exact ⟨g1, (Stands.frz hS.heap g2 h2 h3).ren_inv hD⟩
  · obtain ⟨h0, o1, h1, h2, h3⟩ := hobj i o hi
    obtain ⟨k0, o2, k1, k2, k3⟩ := hobj j o' hj
    have e := hS.heap.inj _ _ _ _ b h1 k1 hib hjb
    exact nodup_inj h.nodup h0 k0 (by simpa [rmap, h0, k0] using e)
  · obtain ⟨h0, o', h1, h2, h3⟩ := hobj i o hi
    exact ⟨(hS.heap.own _ _ b h1 hib).1, hno i b o' h0 h1 hib⟩
  · rcases hb with h | ⟨i, o, h1, h2, h3⟩
    · exact hS.heap.f0 b h
    · exact .inr (hS.heap.own i o b h2 h3).1
  · rcases hb with h | ⟨i, o, h1, h2, h3⟩
    · exact hS.heap.fsz b h
    · exact (hS.heap.ok h2 h3).lt
  · rw [h.nx]
    exact (rmap_in hS.ids hi).1
  · have hi2 : i < S.gh.length := by rw [← h.ghl]; exact hi
    have := Rep.sealed hS.heap (fun i => L.contains i) _ hF hO k _ _ (hS.gh i hi2)
    rw [h.gh i hi hi2] at this
    exact this.ren_inv hD _ rfl
theorem Tri.weak {c : Code} {L : List Nat} {S' : St} (h : Leq L S S') (ht : Tri P n c S' Q) : Tri P n c S Q := fun w0 F0 _ _ _ G a w hS => ht w0 F0 _ _ _ G a w (hS.leq h)
def loopQ {α : Type} (S0 : α → St) (m : α → Nat) (x : α) (Q : Exit → St → Prop) : Exit → St → Prop := thenQ (fun S' => ∃ y L, m y < m x ∧ Leq L S' (S0 y)) Q
theorem Tri.loop {α : Type} {body : Code} (S0 : α → St) (m : α → Nat) (x0 : α) (L : List Nat) (h0 : Leq L S (S0 x0)) (h : ∀ x, Tri P n body (S0 x) (loopQ S0 m x Q)) : Tri P n (.loop body) S Q := fun w0 F0 D μ F G a w hS => by
  refine wp_loop_ghost (fun k a w => ∃ x D μ F, m x = k ∧ Sim w0 F0 D μ F G (S0 x) n a w) (m x0) ⟨x0, _, _, _, rfl, hS.leq h0⟩ fun k a w ⟨x, D, μ, F, hk, hSx⟩ => ?_
  refine wp_mono (h x w0 F0 D μ F G a w hSx) fun e a' w' ⟨S', D', μ', F', h1, h2⟩ => ?_
  cases e with
  | normal =>
    obtain ⟨y, L', hlt, hle⟩ := h1
    exact ⟨m y, by rw [← hk]; exact hlt, y, _, _, _, rfl, h2.leq hle⟩
  | exit id => exact ⟨S', D', μ', F', h1, h2⟩
  | goto l => exact ⟨S', D', μ', F', h1, h2⟩
  | ret => exact ⟨S', D', μ', F', h1, h2⟩
  | panic ch => exact ⟨S', D', μ', F', h1, h2⟩
  | outgrown => exact ⟨S', D', μ', F', h1, h2⟩
def retV (S : St) : List Nat → PV
  | [t] => S.get t
  | ts => .tup (ts.map S.get)
theorem run_results {w : World} {fn : Func} {ts : List Nat} (hr : fn.results = (ts.map ResultVar.tmp).toArray) {D : Nat → Prop} {μ : Nat → Option Nat} {F : Nat → Prop} {tmps : Array Value} (he : ∀ s, Rep D μ F w (S.get s) (tmps.getD s undef)) :
    ∃ v, (results fn tmps).run P w = .ok v w ∧ Rep D μ F w (retV S ts) v := by
  have hm : ∀ (f : ResultVar → Sem Value), (∀ t, (f (.tmp t)).run P w = .ok (tmps.getD t undef) w) → ∀ (l : List Nat), ((l.map ResultVar.tmp).mapM f).run P w = .ok (l.map fun t => tmps.getD t undef) w := by
    intro f hf l
    induction l with
    | nil => simp
    | cons t l ih => rw [List.map_cons, List.mapM_cons]; simp only [Sem.run_bind, hf, Result.andThen_ok, ih, Sem.run_pure]; rfl
  have hrun : (results fn tmps).run P w = .ok (if h : (ts.map fun t => tmps.getD t undef).toArray.size = 1 then (ts.map fun t => tmps.getD t undef).toArray[0] else .tuple (ts.map fun t => tmps.getD t undef).toArray) w := by
    unfold results
    rw [hr, Array.mapM_eq_mapM_toList, Sem.run_bind, Sem.run_map, hm _ (fun t => rfl)]
    rfl
  refine ⟨_, hrun, ?_⟩
  match ts with
  | [t] => simp [retV]; simpa [Array.getD_eq_getD_getElem?] using he t
  | [] => simp [retV]; exact .tup _ _ rfl (fun i hi => by simp at hi)
  | a :: b :: r =>
    rw [dif_neg (by simp)]
    refine .tup _ _ (by simp) fun i hi => ?_
    have hi' : i < (a :: b :: r).length := by simpa using hi
    have e : ((a :: b :: r).map fun t => tmps.getD t undef).toArray.getD i undef = tmps.getD ((a :: b :: r)[i]) undef := by
      rw [Array.getD_eq_getD_getElem?, List.getElem?_toArray, List.getElem?_map, List.getElem?_eq_getElem hi']; rfl
    rw [e, List.getElem_map]
    exact he _
def ResOk (S : St) (ts : List Nat) (r : PV) (os : List AO) : Prop :=
  ∃ (L : List Nat) (k : Nat), L.length = os.length ∧ L.Nodup ∧ sealed S.obj (fun i => L.contains i) k (retV S ts) = r.ren (rmap L S.nx) ∧
    ∀ i o, os[i]? = some o → ∃ o', S.obj (rmap L S.nx i) = some o' ∧ o'.sz = o.sz ∧ o'.els.map (sealed S.obj (fun i => L.contains i) k) = o.els.map (PV.ren (rmap L S.nx))
theorem ResOk.is {w1 : World} {F0 D : Nat → Prop} {μ : Nat → Option Nat} {F : Nat → Prop} {w : World} {ts : List Nat} {r : PV} {os : List AO} (h : ResOk S ts r os) (hH : HeapSim ⟨w1, fun _ => False⟩ F0 D μ F S.obj w) (ids : ∀ i, D i → i < S.nx) {v : Value} (hv : Rep D μ F w (retV S ts) v) : ResIs F0 w1 w r os v := by
  obtain ⟨L, k, hL, hnd, hr, ho⟩ := h
  have hD : ∀ i, D (rmap L S.nx i) → i < os.length ∧ μ (rmap L S.nx i) = μ (rmap L S.nx i) := fun i hi => ⟨by rw [← hL]; exact (rmap_in ids hi).1, rfl⟩
  have hF : ∀ b, F b → F b ∨ ∃ i o, L.contains i = false ∧ S.obj i = some o ∧ μ i = some b := fun b h => .inl h
  have hO : ∀ i o b, L.contains i = false → S.obj i = some o → μ i = some b → F b ∨ ∃ i o, L.contains i = false ∧ S.obj i = some o ∧ μ i = some b := fun i o b h1 h2 h3 => .inr ⟨i, o, h1, h2, h3⟩
  have hget : ∀ i, i < os.length → ∃ o', S.obj (rmap L S.nx i) = some o' ∧ rmap L S.nx i ∈ L ∧ rmap L S.nx i = L.getD i 0 := fun i hi => by
    obtain ⟨o', h1, _⟩ := ho i _ (List.getElem?_eq_getElem hi)
    have hi' : i < L.length := by rw [hL]; exact hi
    have e : rmap L S.nx i = L[i] := by simp [rmap, hi']
    exact ⟨o', h1, by rw [e]; exact List.getElem_mem hi', by rw [e]; simp [List.getD_eq_getElem?_getD, hi']⟩
  have hno : ∀ i b, i < os.length → μ (rmap L S.nx i) = some b → ¬ (F b ∨ ∃ i o, L.contains i = false ∧ S.obj i = some o ∧ μ i = some b) := fun i b hi hib hbF => by
    obtain ⟨o', h1, h2, _⟩ := hget i hi
    rcases hbF with h | ⟨j, o2, g1, g2, g3⟩
    · exact (hH.own _ _ b h1 hib).2 h
    · have := hH.inj _ _ _ _ b h1 g2 hib g3
      rw [← this] at g1
      have := List.contains_iff_mem.2 h2
      rw [g1] at this
      cases this
  refine ⟨fun i => μ (rmap L S.nx i), fun b => F b ∨ ∃ i o, L.contains i = false ∧ S.obj i = some o ∧ μ i = some b, ?_, fun i o hi => ?_, fun i b hi hib => ?_, fun i j b hi hj hib hjb => ?_, fun b hb => ?_⟩
  · have := Rep.sealed hH (fun i => L.contains i) _ hF hO k _ _ hv
    rw [hr] at this
    exact this.ren_inv hD _ rfl
  · obtain ⟨o', h1, h2, h3⟩ := ho i o hi
    obtain ⟨_, hst⟩ := hH.objs _ _ h1
    have key : Stands D μ (fun b => F b ∨ ∃ i o, L.contains i = false ∧ S.obj i = some o ∧ μ i = some b) w (o.ren (rmap L S.nx)) (μ (rmap L S.nx i)) := by
      cases hm : μ (rmap L S.nx i) with
      | none =>
        rw [hm] at hst
        have h' : o'.els = [] := hst
        show (o.ren (rmap L S.nx)).els = []
        unfold AO.ren
        rw [← h3, h']; rfl
      | some b =>
        rw [hm] at hst
        obtain ⟨A, e, a1, a2, a3, a4⟩ := hst
        have hlen : o.els.length = o'.els.length := by have := congrArg List.length h3; simpa using this.symm
        have hek : ∀ kk (hk : kk < (o.ren (rmap L S.nx)).els.length), (o.ren (rmap L S.nx)).els[kk] = sealed S.obj (fun i => L.contains i) k (o'.els[kk]'(by simp [AO.ren] at hk; omega)) := fun kk hk => by
          have e1 : (o.ren (rmap L S.nx)).els = o'.els.map (sealed S.obj (fun i => L.contains i) k) := h3.symm
          rw [gl e1 hk, List.getElem_map]
        refine ⟨A, e, a1, ?_, fun kk hk => ?_, fun kk hk c hc => ?_⟩
        · simp only [AO.ren, List.length_map]; rw [hlen, ← h2]; exact a2
        · rw [hek kk hk, sealed_len, a3]; exact h2
        · have hkk : kk < o'.els.length := by simp [AO.ren] at hk; omega
          have e2 : (o.ren (rmap L S.nx)).els[kk].cells = (sealed S.obj (fun i => L.contains i) k o'.els[kk]).cells := by rw [hek kk hk]
          rw [gl e2 hc]
          have := cells_sealed hH (fun i => L.contains i) _ hF hO k o'.els[kk] (fun c => A.getD (kk * o'.sz + c) undef) (fun c hc => a4 kk hkk c hc) c (by rw [← e2]; exact hc)
          have e3 : (o.ren (rmap L S.nx)).sz = o'.sz := h2.symm
          rw [e3]; exact this
    exact key.ren_inv hD
  · obtain ⟨o', h1, _⟩ := hget i hi
    exact ⟨(hH.own _ _ b h1 hib).1.resolve_right id, hno i b hi hib⟩
  · obtain ⟨o1, h1, _⟩ := hget i hi
    obtain ⟨o2, h2, _⟩ := hget j hj
    have e := hH.inj _ _ _ _ b h1 h2 hib hjb
    have hi' : i < L.length := by rw [hL]; exact hi
    have hj' : j < L.length := by rw [hL]; exact hj
    exact nodup_inj hnd hi' hj' (by simpa [rmap, hi', hj'] using e)
  · rcases hb with h | ⟨i, o, h1, h2, h3⟩
    · exact ⟨(hH.f0 b h).imp id (·.resolve_right id), hH.fsz b h⟩
    · exact ⟨.inr ((hH.own i o b h2 h3).1.resolve_right id), (hH.ok h2 h3).lt⟩
def argEnv : Nat → List PV → List (Nat × PV)
  | _, [] => []
  | k, p :: l => (k, p) :: argEnv (k + 1) l
theorem lk_argEnv : ∀ (l : List PV) (k s : Nat), lk (argEnv k l) s = if k ≤ s then l[s - k]? else none
  | [], k, s => by simp [argEnv, lk]
  | p :: l, k, s => by
    rw [argEnv, lk, lk_argEnv l (k + 1) s]
    by_cases h : k = s
    · subst h; simp
    · rw [if_neg h]
      by_cases h2 : k + 1 ≤ s
      · rw [if_pos h2, if_pos (by omega), show s - k = (s - (k + 1)) + 1 by omega]; simp
      · rw [if_neg h2, if_neg (by omega)]
def retQ (ts : List Nat) (r : PV) (os : List AO) : Exit → St → Prop
  | .normal, S => ResOk S ts r os
  | .ret, S => ResOk S ts r os
  | _, _ => False
theorem PureCall.intro {f : FuncId} {fn : Func} {c : Code} {args : List PV} {r : PV} {os : List AO} {ts : List Nat} (hf : P.funcs[f]? = some fn) (hb : fn.body = some c) (hr : fn.results = (ts.map ResultVar.tmp).toArray) (hn : fn.ntmps = n) (hla : args.length ≤ n) (hpure : args.all PV.pure = true)
    (h : Tri P n c ⟨argEnv 0 args, [], 0, []⟩ (retQ ts r os)) : PureCall P f args r os := by
  intro D μ F w vs hvs hargs hFs
  refine calls_of_wp hf hb ?_
  have hS : Sim ⟨w, fun _ => False⟩ F (fun _ => False) μ F [] ⟨argEnv 0 args, [], 0, []⟩ n { tmps := vs ++ Array.replicate (fn.ntmps - vs.size) undef, defers := [] } w := by
    refine ⟨rfl, by simp [hvs, hn]; omega, fun s => ?_, ⟨fun i o hi => (by cases hi), fun i j o o' b hi => (by cases hi), fun i o b hi => (by cases hi), Ext.refl _ _, fun b hb => .inl hb, hFs⟩, fun i hi => hi.elim, rfl, fun i hi => by simp at hi⟩
    show Rep _ μ F w ((lk (argEnv 0 args) s).getD .junk) _
    rw [lk_argEnv]
    simp only [Nat.zero_le, if_true, Nat.sub_zero]
    by_cases hs : s < args.length
    · rw [List.getElem?_eq_getElem hs]
      simp only [Option.getD_some]
      have e : (vs ++ Array.replicate (fn.ntmps - vs.size) undef).getD s undef = vs.getD s undef := by
        simp only [Array.getD_eq_getD_getElem?]
        rw [Array.getElem?_append_left (by omega)]
      rw [e]
      exact (hargs s hs).pureAny (all_get hpure s hs)
    · rw [List.getElem?_eq_none (by omega)]
      exact .junk _
  refine wp_mono (h _ F _ μ F [] _ w hS) fun e a' w' ⟨S', D', μ', F', h1, h2⟩ => ?_
  have fin : ResOk S' ts r os → a'.defers = [] ∧ ∃ v, (results fn a'.tmps).run P w' = .ok v w' ∧ ∃ v', Ending.returned v = .returned v' ∧ Below w.heap.size w w' ∧ ResIs F w w' r os v' := fun hres => by
    obtain ⟨v, hv, hrep⟩ := run_results (P := P) (S := S') hr h2.env
    exact ⟨h2.defers, v, hv, v, rfl, h2.heap.ext.below (fun _ h => h), hres.is h2.heap h2.ids hrep⟩
  cases e with
  | normal => exact fin h1
  | ret => exact fin h1
  | exit id => exact h1.elim
  | goto l => exact h1.elim
  | panic ch => exact h1.elim
  | outgrown => exact h1.elim
def objEnv : Nat → List (Option AO) → List (Nat × Option AO)
  | _, [] => []
  | k, o :: l => (k, o) :: objEnv (k + 1) l
theorem lk_objEnv : ∀ (l : List (Option AO)) (k s : Nat), lk (objEnv k l) s = if k ≤ s then l[s - k]? else none
  | [], k, s => by simp [objEnv, lk]
  | p :: l, k, s => by
    rw [objEnv, lk, lk_objEnv l (k + 1) s]
    by_cases h : k = s
    · subst h; simp
    · rw [if_neg h]
      by_cases h2 : k + 1 ≤ s
      · rw [if_pos h2, if_pos (by omega), show s - k = (s - (k + 1)) + 1 by omega]; simp
      · rw [if_neg h2, if_neg (by omega)]
def marks : Nat → List AO → List PV
  | _, [] => []
  | k, o :: l => .ob k o.sz 0 0 :: marks (k + 1) l
theorem marks_length : ∀ (l : List AO) (k : Nat), (marks k l).length = l.length
  | [], _ => rfl
  | _ :: l, k => by rw [marks, List.length_cons, marks_length l, List.length_cons]
theorem marks_get : ∀ (l : List AO) (k i : Nat), (marks k l)[i]? = (l[i]?).map fun o => .ob (k + i) o.sz 0 0
  | [], _, _ => by simp [marks]
  | _ :: l, k, 0 => by simp [marks]
  | _ :: l, k, i + 1 => by rw [marks, List.getElem?_cons_succ, marks_get l (k + 1) i, List.getElem?_cons_succ, show k + 1 + i = k + (i + 1) by omega]
def placeV : Option Nat → Value
  | some b => .slice (some ⟨b, 0, none⟩) 0 0
  | none => .slice none 0 0
def ResP (S : St) (ts : List Nat) (r : PV) (hp : List AO) (hp' : List (Option AO)) (os : List AO) : Prop :=
  ∃ (L : List Nat) (k : Nat), sealed S.obj (fun i => L.contains i) k (retV S ts) = r.ren (rmap L S.nx) ∧ LeqS k L S ⟨[], objEnv 0 (hp' ++ os.map some), hp'.length + os.length, marks 0 hp⟩
def retP (ts : List Nat) (r : PV) (hp : List AO) (hp' : List (Option AO)) (os : List AO) : Exit → St → Prop
  | .normal, S => ResP S ts r hp hp' os
  | .ret, S => ResP S ts r hp hp' os
  | _, _ => False
theorem HeapSim.widen {w0 : Home} {F0 D D' : Nat → Prop} {μ : Nat → Option Nat} {F : Nat → Prop} {H : Nat → Option AO} {w : World} (h : HeapSim w0 F0 D μ F H w) (hD : ∀ i, D i → D' i) : HeapSim w0 F0 D' μ F H w :=
  ⟨fun i o hi => ⟨hD i (h.objs i o hi).1, (h.objs i o hi).2.stay (Stay.refl _ _) (fun i hi => ⟨hD i hi, rfl⟩) (fun _ h => h) (fun _ _ => rfl)⟩, h.inj, h.own, h.ext, h.f0, h.fsz⟩
theorem ProcCall.intro {f : FuncId} {fn : Func} {c : Code} {args : List PV} {hp : List AO} {r : PV} {hp' : List (Option AO)} {os : List AO} {ts : List Nat} (hf : P.funcs[f]? = some fn) (hb : fn.body = some c) (hr : fn.results = (ts.map ResultVar.tmp).toArray) (hn : fn.ntmps = n) (hla : args.length ≤ n)
    (hlen : hp'.length = hp.length) (h : Tri P n c ⟨argEnv 0 args, objEnv 0 (hp.map some), hp.length, marks 0 hp⟩ (retP ts r hp hp' os)) : ProcCall P f args hp r hp' os := by
  refine ⟨hlen, fun μ F w vs hH hvs hargs => calls_of_wp hf hb ?_⟩
  have hobj : (St.mk (argEnv 0 args) (objEnv 0 (hp.map some)) hp.length (marks 0 hp)).obj = fun i => hp[i]? := by
    funext i
    show (lk (objEnv 0 (hp.map some)) i).join = _
    rw [lk_objEnv]
    simp only [Nat.zero_le, if_true, Nat.sub_zero, List.getElem?_map]
    cases hp[i]? <;> rfl
  have hS : Sim ⟨w, fun b => ∃ i, i < hp.length ∧ μ i = some b⟩ F (· < hp.length) μ F ((List.range hp.length).map fun i => placeV (μ i)) ⟨argEnv 0 args, objEnv 0 (hp.map some), hp.length, marks 0 hp⟩ n { tmps := vs ++ Array.replicate (fn.ntmps - vs.size) undef, defers := [] } w := by
    refine ⟨rfl, by simp [hvs, hn]; omega, fun s => ?_, by rw [hobj]; exact hH, fun i hi => hi, by simp [marks_length], fun i hi => ?_⟩
    · show Rep _ μ F w ((lk (argEnv 0 args) s).getD .junk) _
      rw [lk_argEnv]
      simp only [Nat.zero_le, if_true, Nat.sub_zero]
      by_cases hs : s < args.length
      · rw [List.getElem?_eq_getElem hs]
        simp only [Option.getD_some]
        have e : (vs ++ Array.replicate (fn.ntmps - vs.size) undef).getD s undef = vs.getD s undef := by
          simp only [Array.getD_eq_getD_getElem?]
          rw [Array.getElem?_append_left (by omega)]
        rw [e]
        exact hargs s hs
      · rw [List.getElem?_eq_none (by omega)]
        exact .junk _
    · simp only at hi
      have hi' : i < hp.length := by rwa [marks_length] at hi
      have e1 : (marks 0 hp)[i]'hi = .ob i (hp[i]).sz 0 0 := by
        have := marks_get hp 0 i
        rw [List.getElem?_eq_getElem hi, List.getElem?_eq_getElem hi'] at this
        simpa using this
      have e2 : ((List.range hp.length).map fun i => placeV (μ i)).getD i undef = placeV (μ i) := by simp [List.getD_eq_getElem?_getD, hi']
      rw [e1, e2]
      cases hm : μ i with
      | none => exact .obn i _ hi' hm
      | some b =>
        have := Rep.ob (D := (· < hp.length)) (μ := μ) (F := F) (w := w) i (hp[i]).sz 0 0 0 b hi' hm (Nat.le_refl _) (by unfold maxLen; omega) (by simp)
        simpa [placeV] using this
  refine wp_mono (h _ F _ μ F _ _ w hS) fun e a' w' ⟨S', D', μ', F', h1, h2⟩ => ?_
  have fin : ResP S' ts r hp hp' os → a'.defers = [] ∧ ∃ v, (results fn a'.tmps).run P w' = .ok v w' ∧ ∃ v', Ending.returned v = .returned v' ∧ ∃ (μ2 : Nat → Option Nat) (F2 : Nat → Prop), Rep (· < hp.length + os.length) μ2 F2 w' r v' ∧
      HeapSim ⟨w, fun b => ∃ i, i < hp.length ∧ μ i = some b⟩ F (· < hp.length + os.length) μ2 F2 (fun i => ((hp' ++ os.map some)[i]?).join) w' ∧ (∀ i, i < hp.length → μ2 i = μ i) := fun ⟨L, k, hr1, hl⟩ => by
    obtain ⟨v, hv, hrep⟩ := run_results (P := P) (S := S') hr h2.env
    have h3 := h2.leq ⟨k, hl⟩
    have hD : ∀ i, D' (rmap L S'.nx i) → i < hp.length + os.length ∧ μ' (rmap L S'.nx i) = μ' (rmap L S'.nx i) := fun i hi => ⟨by
      have := h3.ids i hi
      have e : (St.mk [] (objEnv 0 (hp' ++ os.map some)) (hp'.length + os.length) (marks 0 hp)).nx = hp'.length + os.length := rfl
      rw [e] at this; omega, rfl⟩
    refine ⟨h2.defers, v, hv, v, rfl, fun i => μ' (rmap L S'.nx i), frz S' L μ' F', ?_, ?_, fun i hi => ?_⟩
    · have := Rep.sealed h2.heap (fun i => L.contains i) (frz S' L μ' F') (fun b h => .inl h) (fun i o b h1 h2 h3 => .inr ⟨i, o, h1, h2, h3⟩) k _ _ hrep
      rw [hr1] at this
      exact this.ren_inv hD _ rfl
    · have := h3.heap.widen (D' := (· < hp.length + os.length)) (fun i hi => (hD i hi).1)
      have e : (St.mk [] (objEnv 0 (hp' ++ os.map some)) (hp'.length + os.length) (marks 0 hp)).obj = fun i => ((hp' ++ os.map some)[i]?).join := by
        funext i
        show (lk (objEnv 0 (hp' ++ os.map some)) i).join = _
        rw [lk_objEnv]; simp
      rw [e] at this
      exact this
    · have hi2 : i < (marks 0 hp).length := by rw [marks_length]; exact hi
      have := h3.gh i hi2
      have e1 : (marks 0 hp)[i]'hi2 = .ob i (hp[i]).sz 0 0 := by
        have := marks_get hp 0 i
        rw [List.getElem?_eq_getElem hi2, List.getElem?_eq_getElem hi] at this
        simpa using this
      have e2 : ((List.range hp.length).map fun i => placeV (μ i)).getD i undef = placeV (μ i) := by simp [List.getD_eq_getElem?_getD, hi]
      simp only [e1, e2] at this
      generalize hpv : placeV (μ i) = pv at this
      cases this with
      | ob _ _ _ _ cap b g1 g2 g3 g4 g5 =>
        show μ' (rmap L S'.nx i) = μ i
        rw [g2]
        cases hm : μ i with
        | none => rw [hm] at hpv; cases hpv
        | some b2 => rw [hm] at hpv; simp only [placeV, Value.slice.injEq, Option.some.injEq, Addr.mk.injEq] at hpv; rw [hpv.1.1]
      | obn _ _ g1 g2 =>
        show μ' (rmap L S'.nx i) = μ i
        rw [g2]
        cases hm : μ i with
        | none => rfl
        | some b2 => rw [hm] at hpv; cases hpv
  cases e with
  | normal => exact fin h1
  | ret => exact fin h1
  | exit id => exact h1.elim
  | goto l => exact h1.elim
  | panic ch => exact h1.elim
  | outgrown => exact h1.elim
end
def tzo (P : Program) (t : TypeId) : Option PV :=
  match P.info? t with
  | some i => match i.zero with
    | some v => if v.cells.size = i.size ∧ v.cells.all (·.oneCell') = true then some (pvOf v) else none
    | none => none
  | none => none
theorem tzo_zero {P : Program} {t : TypeId} {z : PV} (h : tzo P t = some z) : tZero P t z := by
  unfold tzo at h
  cases hi : P.info? t with
  | none => simp [hi] at h
  | some i =>
    cases hz : i.zero with
    | none => simp [hi, hz] at h
    | some v =>
      simp only [hi, hz] at h
      split at h
      · rename_i hc; cases h; exact ⟨i, v, hi, hz, rfl, hc.1, hc.2⟩
      · cases h
def Pure (P : Program) (f : FuncId) (args : List PV) (r : PV) (os : List AO) : Prop := Enters P f ∧ PureCall P f args r os
def vCall (P : Program) (f : FuncId) (args : List PV) (K : PV → List AO → Prop) : Prop := ∃ r os, Pure P f args r os ∧ K r os
@[congr] theorem vCall_congr {P : Program} {f : FuncId} {args args' : List PV} {K : PV → List AO → Prop} (h : args = args') : vCall P f args K = vCall P f args' K := by rw [h]
def mk1 (o : AO) : Eff := ⟨[o], [], [], []⟩
def rdE (rd : List Nat) : Eff := ⟨[], [], [], rd⟩
def vLoad (P : Program) (t : TypeId) (S : St) (a : PV) (K : PV → Eff → Prop) : Prop :=
  match tAgg P t, tSize P t with
  | some ag, some n => match a with
    | .ptr i sz k c => match S.obj i with
      | some o => o.sz = sz ∧ k < o.els.length ∧ (bif ag then c + n ≤ (o.els.getD k .junk).cells.length else c < (o.els.getD k .junk).cells.length) ∧ K ((o.els.getD k .junk).part ag c n) (rdE [i])
      | none => False
    | .fptr _ l k c => k < l.length ∧ (bif ag then c + n ≤ (l.getD k .junk).cells.length else c < (l.getD k .junk).cells.length) ∧ K ((l.getD k .junk).part ag c n) e0
    | _ => False
  | _, _ => False
def vStore (P : Program) (t : TypeId) (S : St) (a v : PV) (K : PV → Eff → Prop) : Prop :=
  match tSize P t with
  | some n => match a with
    | .ptr i sz k c => match S.obj i with
      | some o => o.sz = sz ∧ k < o.els.length ∧ n = v.cells.length ∧ v.cells.all PV.one = true ∧ c + v.cells.length ≤ (o.els.getD k .junk).cells.length ∧
          K .junk ⟨[], [], [(i, ⟨sz, o.els.set k ((o.els.getD k .junk).putPart c v)⟩)], [i]⟩
      | none => False
    | _ => False
  | none => False
def vFieldAddr (P : Program) (t : TypeId) (f : Nat) (a : PV) (K : PV → Eff → Prop) : Prop :=
  match tFld P t f with
  | some (off, e) => match tSize P e with
    | some n => n ≠ 0 ∧ match a with
      | .ptr i sz k c => K (.ptr i sz k (c + off)) e0
      | .fptr sz l k c => K (.fptr sz l k (c + off)) e0
      | _ => False
    | none => False
  | none => False
def vField (P : Program) (t : TypeId) (f : Nat) (a : PV) (K : PV → Eff → Prop) : Prop :=
  match tFld P t f with
  | some (off, e) => match tAgg P e, tSize P e with
    | some ag, some n => match a with
      | .agg l => (bif ag then off + n ≤ l.length else off < l.length) ∧ K ((PV.agg l).part ag off n) e0
      | _ => False
    | _, _ => False
  | none => False
def vIndexAddr (P : Program) (t : TypeId) (a i : PV) (K : PV → Eff → Prop) : Prop :=
  match i with
  | .atom (.int _ n) => match a with
    | .ob i sz off len => match tElem P t with
      | some e => tSize P e = some sz ∧ 0 ≤ n ∧ n < len ∧ K (.ptr i sz (off + n.toNat) 0) e0
      | none => False
    | .sl sz l => match tElem P t with
      | some e => tSize P e = some sz ∧ 0 ≤ n ∧ n < l.length ∧ K (.fptr sz l n.toNat 0) e0
      | none => False
    | .ptr i sz k c => match tArr P t with
      | some (m, e) => match tSize P e with
        | some es => 0 ≤ n ∧ n < m ∧ K (.ptr i sz k (c + n.toNat * es)) e0
        | none => False
      | none => False
    | .fptr sz l k c => match tArr P t with
      | some (m, e) => match tSize P e with
        | some es => 0 ≤ n ∧ n < m ∧ K (.fptr sz l k (c + n.toNat * es)) e0
        | none => False
      | none => False
    | _ => False
  | _ => False
def vIndex (P : Program) (t : TypeId) (a i : PV) (K : PV → Eff → Prop) : Prop :=
  match i with
  | .atom (.int _ n) => match a with
    | .atom (.string s) => tStr P t = true ∧ 0 ≤ n ∧ n < s.size ∧ K (.atom (.int .u8 ((byteAt s n.toNat).toNat : Nat))) e0
    | .agg l => match tArr P t with
      | some (m, e) => match tSize P e, tAgg P e with
        | some es, some ag => 0 ≤ n ∧ n < m ∧ (bif ag then n.toNat * es + es ≤ l.length else n.toNat * es < l.length) ∧ K ((PV.agg l).part ag (n.toNat * es) es) e0
        | _, _ => False
      | none => False
    | _ => False
  | _ => False
def vBin (P : Program) (op : BinOp) (t : TypeId) (a b : PV) (K : PV → Eff → Prop) : Prop :=
  match a, b with
  | .atom u, .atom v =>
    match op, u, v with
    | .quo, .int k a, .int k' b => k = k' ∧ b ≠ 0 ∧ K (.atom (.int k (k.wrap (a.tdiv b)))) e0
    | .rem, .int k a, .int k' b => k = k' ∧ b ≠ 0 ∧ K (.atom (.int k (a.tmod b))) e0
    | .shl, .int k a, .int _ b => 0 ≤ b ∧ K (.atom (.int k (k.wrap (a * 2 ^ (min b.toNat k.bits))))) e0
    | .shr, .int k a, .int _ b => 0 ≤ b ∧ K (.atom (.int k (a.fdiv (2 ^ (min b.toNat k.bits))))) e0
    | .add, .string a, .string b => a.size + b.size ≤ 9223372036854775807 ∧ K (.atom (.string (a ++ b))) e0
    | .eql, .bool a, .bool b => P.underlying t = some .bool ∧ K (.atom (.bool (a == b))) e0
    | .neq, .bool a, .bool b => P.underlying t = some .bool ∧ K (.atom (.bool (!(a == b)))) e0
    | op, u, v => match binV op u v with
      | some w => K (.atom w) e0
      | none => False
  | .agg l, .agg r => match tArr P t with
    | some (n, e) => match tInt P e with
      | some k => match intsOf k l, intsOf k r with
        | some xs, some ys => tSize P e = some 1 ∧ xs.length = n ∧ ys.length = n ∧ P.eqGuardType P.depth t = false ∧ match op with
          | .eql => K (.atom (.bool (decide (xs = ys)))) e0
          | .neq => K (.atom (.bool (!decide (xs = ys)))) e0
          | _ => False
        | _, _ => False
      | none => False
    | none => False
  | _, _ => False
def vSlice (P : Program) (t : TypeId) (S : St) (a : PV) (lo hi : Option Operand) (K : PV → Eff → Prop) : Prop :=
  match a with
  | .atom (.string s) => tStr P t = true ∧ match bnd S 0 lo, bnd S s.size hi with
    | some l, some h => 0 ≤ l ∧ l ≤ h ∧ h ≤ s.size ∧ K (.atom (.string (s.extract l.toNat h.toNat))) e0
    | _, _ => False
  | .sl sz ls => match tElem P t with
    | some e => tSize P e = some sz ∧ match bnd S 0 lo, bnd S ls.length hi with
      | some l, some h => 0 ≤ l ∧ l ≤ h ∧ h ≤ ls.length ∧ K (.sl sz ((ls.drop l.toNat).take (h.toNat - l.toNat))) e0
      | _, _ => False
    | none => False
  | .ob i sz off len => match tElem P t with
    | some e => tSize P e = some sz ∧ match bnd S 0 lo, bnd S len hi with
      | some l, some h => 0 ≤ l ∧ l ≤ h ∧ h ≤ len ∧ (l = 0 → K (.ob i sz off h.toNat) e0) ∧ (l ≠ 0 → (l < h → K (.ob i sz (off + l.toNat) (h.toNat - l.toNat)) e0) ∧ (l = h → K (.sl sz []) e0))
      | _, _ => False
    | none => False
  | .atom (.slice none 0 0) => match tElem P t with
    | some e => match tSize P e, bnd S 0 lo, bnd S 0 hi with
      | some _, some l, some h => l = 0 ∧ h = 0 ∧ K (.atom (.slice none 0 0)) e0
      | _, _, _ => False
    | none => False
  | _ => False
def vBase (S : St) (sz : Nat) (a : PV) (K : List PV → List Nat → Prop) : Prop :=
  match a with
  | .atom (.slice none 0 0) => K [] []
  | .ob i sz' 0 len => match S.obj i with
    | some o => sz' = sz ∧ o.sz = sz ∧ len ≤ o.els.length ∧ K (if len = o.els.length then o.els else o.els.take len) [i]
    | none => False
  | _ => False
def vSrc (S : St) (sz : Nat) (a : PV) (K : List PV → List Nat → Prop) : Prop :=
  match a with
  | .atom (.slice none 0 0) => K [] []
  | .sl sz' l => sz' = sz ∧ K l []
  | .ob i sz' off len => match S.obj i with
    | some o => sz' = sz ∧ o.sz = sz ∧ off + len ≤ o.els.length ∧ K (if off = 0 ∧ len = o.els.length then o.els else (o.els.drop off).take len) [i]
    | none => False
  | _ => False
def vAppend (P : Program) (t : TypeId) (S : St) (a b : PV) (K : PV → Eff → Prop) : Prop :=
  match tElem P t with
  | some e => match tzo P e, tBytes P e with
    | some z, some by_ => 0 < by_ ∧ vBase S z.cells.length a fun olds del => vSrc S z.cells.length b fun els rd => (els.all fun q => q.cells.all PV.one) = true ∧ (olds.length + els.length) * by_ ≤ 140737488355328 ∧
        K (.ob S.nx z.cells.length 0 (olds.length + els.length)) ⟨[⟨z.cells.length, olds ++ els⟩], del, [], del ++ rd⟩
    | _, _ => False
  | none => False
def vConvert (P : Program) (t t' : TypeId) (S : St) (a : PV) (K : PV → Eff → Prop) : Prop :=
  match a with
  | .atom (.int _ n) => (P.underlying t).isSome = true ∧ match tInt P t' with
    | some k' => K (.atom (.int k' (k'.wrap n))) e0
    | none => False
  | .atom (.string s) => tStr P t = true ∧ ((tStr P t' = true ∧ K (.atom (.string s)) e0) ∨ match tElem P t' with
    | some e => tInt P e = some .u8 ∧ s.size ≤ 9223372036854775807 ∧ K (.sl 1 (pvBytes s)) e0
    | none => False)
  | a => tStr P t' = true ∧ match tElem P t with
    | some e => tInt P e = some .u8 ∧ vSrc S 1 a fun els rd => els.all isByte = true ∧ K (.atom (.string ⟨(els.map pvByte).toArray⟩)) (rdE rd)
    | none => False
def vMake (P : Program) (t : TypeId) (S : St) (a b : PV) (K : PV → Eff → Prop) : Prop :=
  match a, b with
  | .atom (.int _ l), .atom (.int _ c) => match tElem P t with
    | some e => match tzo P e, tBytes P e with
      | some z, some by_ => 0 ≤ l ∧ l ≤ c ∧ (by_ : Int) * c ≤ 281474976710656 ∧ c ≤ 9223372036854775807 ∧ K (.ob S.nx z.cells.length 0 l.toNat) (mk1 ⟨z.cells.length, List.replicate l.toNat z⟩)
      | _, _ => False
    | none => False
  | _, _ => False
def vMinMax (mx : Bool) (a b : PV) (K : PV → Eff → Prop) : Prop :=
  match a, b with
  | .atom (.int k x), .atom (.int k' y) => k = k' ∧ K (.atom (.int k (bif mx then max x y else min x y))) e0
  | _, _ => False
def vLen (P : Program) (t : TypeId) (a : PV) (K : PV → Eff → Prop) : Prop :=
  match a with
  | .atom (.string s) => tStr P t = true ∧ K (.atom (.int .i64 s.size)) e0
  | .atom (.slice _ n _) => tStr P t = false ∧ (tElem P t).isSome = true ∧ K (.atom (.int .i64 n)) e0
  | .sl _ l => tStr P t = false ∧ (tElem P t).isSome = true ∧ K (.atom (.int .i64 l.length)) e0
  | .ob _ _ _ n => tStr P t = false ∧ (tElem P t).isSome = true ∧ K (.atom (.int .i64 n)) e0
  | _ => False
def vFn (P : Program) (S : St) (g : PV) (xs : List Operand) (K : PV → Eff → Prop) : Prop :=
  match g with
  | .fn f cap => vCall P f ((xs.map S.ev ++ cap).map (sealed S.obj (fun _ => false) 6)) fun r os =>
      (noObL (xs.map S.ev ++ cap) || (r.flatB && os.all fun o => o.els.all PV.flatB)) = true ∧ K (r.ren (· + S.nx)) ⟨os.map (AO.ren (· + S.nx)), [], [], (xs.map S.ev ++ cap).flatMap (reach S.obj 6)⟩
  | _ => False
def Proc (P : Program) (f : FuncId) (args : List PV) (hp : List AO) (r : PV) (hp' : List (Option AO)) (os : List AO) : Prop := Enters P f ∧ ProcCall P f args hp r hp' os
def vProc (P : Program) (S : St) (f : FuncId) (vals : List PV) (K : PV → Eff → Prop) : Prop :=
  ∃ (L : List Nat) (n : Nat) (args : List PV) (hp : List AO) (r : PV) (hp' : List (Option AO)) (os : List AO), Proc P f args hp r hp' os ∧ Lent S L n vals args hp ∧
    (n = 0 ∨ (r.flatB = true ∧ os.all (fun o => o.els.all PV.flatB) = true ∧ hp'.all flatO = true)) ∧ K (r.ren (pmap L S.nx)) ⟨os.map (AO.ren (pmap L S.nx)), procDel L hp', procSet (pmap L S.nx) L hp', []⟩
def vFnI (P : Program) (S : St) (g : PV) (xs : List Operand) (K : PV → Eff → Prop) : Prop :=
  match g with
  | .fn f cap => vFn P S (.fn f cap) xs K ∨ vProc P S f (xs.map S.ev ++ cap) K
  | _ => False
def isNilC : Operand → Bool
  | .const (.slice none 0 0) => true
  | _ => false
theorem isNilC_eq {y : Operand} (h : isNilC y = true) : y = .const (.slice none 0 0) := by
  unfold isNilC at h; split at h
  · rfl
  · cases h
def vBinO (P : Program) (op : BinOp) (t : TypeId) (S : St) (x y : Operand) (K : PV → Eff → Prop) : Prop :=
  match op, isNilC y with
  | .eql, true => match nilSl (S.ev x), tElem P t with | some b, some _ => K (.atom (.bool b)) e0 | _, _ => False
  | .neq, true => match nilSl (S.ev x), tElem P t with | some b, some _ => K (.atom (.bool (!b))) e0 | _, _ => False
  | op, _ => vBin P op t (S.ev x) (S.ev y) K
def vCallO (P : Program) (S : St) (callee : Callee) (xs : List Operand) (ts : List TypeId) (K : PV → Eff → Prop) : Prop :=
  match callee, xs, ts with
  | .builtin .len, [x], [t] => vLen P t (S.ev x) K
  | .builtin .append, [x, y], [t, t'] => t = t' ∧ vAppend P t S (S.ev x) (S.ev y) K
  | .builtin .min, [x, y], _ => vMinMax false (S.ev x) (S.ev y) K
  | .builtin .max, [x, y], _ => vMinMax true (S.ev x) (S.ev y) K
  | .value g, xs, _ => vFn P S (S.ev g) xs K
  | _, _, _ => False
def vMakeF (S : St) (fn : Fn) (first cap : List Operand) (K : PV → Eff → Prop) : Prop :=
  match fn, first with
  | .func f, [] => K (.fn f (cap.map S.ev)) e0
  | _, _ => False
def vUn (op : UnOp) (a : PV) (K : PV → Eff → Prop) : Prop :=
  match op, a with
  | .not, .atom (.bool b) => K (.atom (.bool (!b))) e0
  | .neg, .atom (.int k n) => K (.atom (.int k (k.wrap (-n)))) e0
  | _, _ => False
def vop (P : Program) (op : Op) (S : St) (K : PV → Eff → Prop) : Prop :=
  match op with
  | .move x => K (S.ev x) e0
  | .assign x => K (S.ev x) e0
  | .pick c x y => match S.ev c with | .atom (.bool t) => K (bif t then S.ev x else S.ev y) e0 | _ => False
  | .box _ x => (S.ev x).cells.all PV.one = true ∧ K (.ptr S.nx (S.ev x).cells.length 0 0) (mk1 ⟨(S.ev x).cells.length, [S.ev x]⟩)
  | .alloc t => match tzo P t with | some z => K (.ptr S.nx z.cells.length 0 0) (mk1 ⟨z.cells.length, [z]⟩) | none => False
  | .build t ps => match tzo P t with
    | some z => tKnown P t = true ∧ match putAll (tPlace P t) z.cells (evParts S ps) with | some L => K (.agg L) e0 | none => False
    | none => False
  | .buildSlice t n ps => match tElem P t with
    | some e => match tzo P e with
      | some z => n * z.cells.length ≤ 16777216 ∧ n ≤ 16777216 ∧ (∀ p, p ∈ evParts S ps → p.1 < n ∧ p.2.cells.length = z.cells.length ∧ p.2.cells.all PV.one = true) ∧
          K (.ob S.nx z.cells.length 0 n) (mk1 ⟨z.cells.length, setParts (List.replicate n z) (evParts S ps)⟩)
      | none => False
    | none => False
  | .load t a => vLoad P t S (S.ev a) K
  | .store t a v => vStore P t S (S.ev a) (S.ev v) K
  | .nilCheck a => match S.ev a with | .ptr i sz k c => K (.ptr i sz k c) e0 | .fn f l => K (.fn f l) e0 | _ => False
  | .binOp op t x y _ => vBinO P op t S x y K
  | .unOp op _ x => vUn op (S.ev x) K
  | .convert t t' x => vConvert P t t' S (S.ev x) K
  | .makeFunc fn first cap => vMakeF S fn first.toList cap.toList K
  | .makeSlice t x y => vMake P t S (S.ev x) (S.ev y) K
  | .slice t x lo hi none => vSlice P t S (S.ev x) lo hi K
  | .fieldAddr t x f => vFieldAddr P t f (S.ev x) K
  | .field t x f => vField P t f (S.ev x) K
  | .indexAddr t x i => vIndexAddr P t (S.ev x) (S.ev i) K
  | .index t x i => vIndex P t (S.ev x) (S.ev i) K
  | .extract x k => match S.ev x with | .tup l => k < l.length ∧ K (l.getD k .junk) e0 | _ => False
  | .call c => vCallO P S c.callee c.args.toList c.argTypes.toList K
  | _ => False
section
variable {P : Program} {S : St} {K : PV → Eff → Prop}
theorem vLoad_sound {t : TypeId} {x : Operand} (h : vLoad P t S (S.ev x) K) : ∃ r e, Sound P (.load t x) S r e ∧ K r e := by
  unfold vLoad at h
  split at h <;> try exact h.elim
  rename_i ag n ha hn
  split at h <;> try exact h.elim
  · rename_i i sz k c hx
    split at h <;> try exact h.elim
    rename_i o ho
    exact ⟨_, _, Sound.load hx ho h.1 h.2.1 ha hn h.2.2.1, h.2.2.2⟩
  · rename_i sz l k c hx
    exact ⟨_, _, Sound.loadF hx h.1 ha hn h.2.1, h.2.2⟩
theorem vStore_sound {t : TypeId} {x y : Operand} (h : vStore P t S (S.ev x) (S.ev y) K) : ∃ r e, Sound P (.store t x y) S r e ∧ K r e := by
  unfold vStore at h
  split at h <;> try exact h.elim
  rename_i n hn
  split at h <;> try exact h.elim
  rename_i i sz k c hx
  split at h <;> try exact h.elim
  rename_i o ho
  exact ⟨_, _, Sound.store hx ho h.1 h.2.1 (by rw [hn, h.2.2.1]) h.2.2.2.1 h.2.2.2.2.1, h.2.2.2.2.2⟩
theorem vFieldAddr_sound {t : TypeId} {f : Nat} {x : Operand} (h : vFieldAddr P t f (S.ev x) K) : ∃ r e, Sound P (.fieldAddr t x f) S r e ∧ K r e := by
  unfold vFieldAddr at h
  split at h <;> try exact h.elim
  rename_i off e hf
  split at h <;> try exact h.elim
  rename_i n hn
  obtain ⟨h0, h⟩ := h
  split at h <;> try exact h.elim
  · rename_i i sz k c hx; exact ⟨_, _, Sound.fieldAddr hx hf hn h0, h⟩
  · rename_i sz l k c hx; exact ⟨_, _, Sound.fieldAddrF hx hf hn h0, h⟩
theorem vField_sound {t : TypeId} {f : Nat} {x : Operand} (h : vField P t f (S.ev x) K) : ∃ r e, Sound P (.field t x f) S r e ∧ K r e := by
  unfold vField at h
  split at h <;> try exact h.elim
  rename_i off e hf
  split at h <;> try exact h.elim
  rename_i ag n ha hn
  split at h <;> try exact h.elim
  rename_i l hx
  exact ⟨_, _, Sound.field hx hf ha hn h.1, h.2⟩
theorem vIndexAddr_sound {t : TypeId} {x y : Operand} (h : vIndexAddr P t (S.ev x) (S.ev y) K) : ∃ r e, Sound P (.indexAddr t x y) S r e ∧ K r e := by
  unfold vIndexAddr at h
  split at h <;> try exact h.elim
  rename_i kk n hy
  split at h <;> try exact h.elim
  · rename_i i sz off len hx
    split at h <;> try exact h.elim
    rename_i e he
    exact ⟨_, _, Sound.indexAddr hx hy he h.1 h.2.1 h.2.2.1, h.2.2.2⟩
  · rename_i sz l hx
    split at h <;> try exact h.elim
    rename_i e he
    exact ⟨_, _, Sound.indexAddrS hx hy he h.1 h.2.1 h.2.2.1, h.2.2.2⟩
  · rename_i i sz k c hx
    split at h <;> try exact h.elim
    rename_i m e he
    split at h <;> try exact h.elim
    rename_i es hs
    exact ⟨_, _, Sound.indexAddrA hx hy he hs h.1 h.2.1, h.2.2⟩
  · rename_i sz l k c hx
    split at h <;> try exact h.elim
    rename_i m e he
    split at h <;> try exact h.elim
    rename_i es hs
    exact ⟨_, _, Sound.indexAddrAF hx hy he hs h.1 h.2.1, h.2.2⟩
theorem vIndex_sound {t : TypeId} {x y : Operand} (h : vIndex P t (S.ev x) (S.ev y) K) : ∃ r e, Sound P (.index t x y) S r e ∧ K r e := by
  unfold vIndex at h
  split at h <;> try exact h.elim
  rename_i kk n hy
  split at h <;> try exact h.elim
  · rename_i s hx
    exact ⟨_, _, Sound.indexStr hx hy h.1 h.2.1 h.2.2.1, h.2.2.2⟩
  · rename_i l hx
    split at h <;> try exact h.elim
    rename_i m e he
    split at h <;> try exact h.elim
    rename_i es ag hs ha
    exact ⟨_, _, Sound.indexArr hx hy he hs ha h.1 h.2.1 h.2.2.1, h.2.2.2⟩
theorem vBin_sound {op : BinOp} {t t' : TypeId} {x y : Operand} (h : vBin P op t (S.ev x) (S.ev y) K) : ∃ r e, Sound P (.binOp op t x y t') S r e ∧ K r e := by
  unfold vBin at h
  split at h
  · rename_i u v hx hy
    split at h
    · obtain ⟨rfl, h1, h2⟩ := h; exact ⟨_, _, Sound.quo hx hy h1, h2⟩
    · obtain ⟨rfl, h1, h2⟩ := h; exact ⟨_, _, Sound.rem hx hy h1, h2⟩
    · exact ⟨_, _, Sound.shl hx hy h.1, h.2⟩
    · exact ⟨_, _, Sound.shr hx hy h.1, h.2⟩
    · exact ⟨_, _, Sound.concat hx hy h.1, h.2⟩
    · exact ⟨_, _, Sound.binBool hx hy h.1, h.2⟩
    · exact ⟨_, _, Sound.binBoolN hx hy h.1, h.2⟩
    · split at h <;> try exact h.elim
      rename_i w hw
      exact ⟨_, _, Sound.bin hx hy hw, h⟩
  · rename_i l r hx hy
    split at h <;> try exact h.elim
    rename_i n e ha
    split at h <;> try exact h.elim
    rename_i k hk
    split at h <;> try exact h.elim
    rename_i xs ys h1 h2
    obtain ⟨g1, g2, g3, g4, h⟩ := h
    split at h
    · exact ⟨_, _, Sound.binArr (neg := false) (.inl ⟨rfl, rfl⟩) hx hy ha hk g1 h1 h2 g2 g3 g4, h⟩
    · exact ⟨_, _, Sound.binArr (neg := true) (.inr ⟨rfl, rfl⟩) hx hy ha hk g1 h1 h2 g2 g3 g4, h⟩
    · exact h.elim
  · exact h.elim
theorem vSlice_sound {t : TypeId} {x : Operand} {lo hi : Option Operand} (h : vSlice P t S (S.ev x) lo hi K) : ∃ r e, Sound P (.slice t x lo hi none) S r e ∧ K r e := by
  unfold vSlice at h
  split at h <;> try exact h.elim
  · rename_i s hx
    obtain ⟨ht, h⟩ := h
    split at h <;> try exact h.elim
    rename_i l hh hl hr
    exact ⟨_, _, Sound.sliceStr hx ht hl hr h.1 h.2.1 h.2.2.1, h.2.2.2⟩
  · rename_i sz ls hx
    split at h <;> try exact h.elim
    rename_i e he
    obtain ⟨hs, h⟩ := h
    split at h <;> try exact h.elim
    rename_i l hh hl hr
    exact ⟨_, _, Sound.sliceS hx he hs hl hr h.1 h.2.1 h.2.2.1, h.2.2.2⟩
  · rename_i i sz off len hx
    split at h <;> try exact h.elim
    rename_i e he
    obtain ⟨hs, h⟩ := h
    split at h <;> try exact h.elim
    rename_i l hh hl hr
    obtain ⟨h0, h1, h2, h3, h4⟩ := h
    by_cases hz : l = 0
    · subst hz
      exact ⟨_, _, Sound.sliceO0 hx he hs hl hr h1 h2, h3 rfl⟩
    · rcases Int.lt_or_eq_of_le h1 with hlt | heq
      · exact ⟨_, _, Sound.sliceO hx he hs hl hr h0 hlt h2, (h4 hz).1 hlt⟩
      · subst heq
        exact ⟨_, _, Sound.sliceOE hx he hs hl hr h0 h2, (h4 hz).2 rfl⟩
  · rename_i hx
    split at h <;> try exact h.elim
    rename_i e he
    split at h <;> try exact h.elim
    rename_i sz l hh hs hl hr
    obtain ⟨h0, h1, h2⟩ := h
    subst h0 h1
    exact ⟨_, _, Sound.sliceNil hx he hs hl hr, h2⟩
theorem vBase_sound {sz : Nat} {a : PV} {K : List PV → List Nat → Prop} (h : vBase S sz a K) : ∃ olds del, Base S a sz olds del ∧ K olds del := by
  unfold vBase at h
  split at h <;> try exact h.elim
  · exact ⟨_, _, .nil, h⟩
  · split at h <;> try exact h.elim
    rename_i o ho
    obtain ⟨rfl, h1, h2, h3⟩ := h
    refine ⟨_, _, .ob ho h1 h2, ?_⟩
    split at h3
    · rename_i he; rw [he, List.take_length]; exact h3
    · exact h3
theorem vSrc_sound {sz : Nat} {a : PV} {K : List PV → List Nat → Prop} (h : vSrc S sz a K) : ∃ els rd, Src S a sz els rd ∧ K els rd := by
  unfold vSrc at h
  split at h <;> try exact h.elim
  · exact ⟨_, _, .nil, h⟩
  · obtain ⟨rfl, h⟩ := h; exact ⟨_, _, .sl, h⟩
  · split at h <;> try exact h.elim
    rename_i o ho
    obtain ⟨rfl, h1, h2, h3⟩ := h
    refine ⟨_, _, .ob ho h1 h2, ?_⟩
    split at h3
    · rename_i he; rw [he.1, he.2, List.drop_zero, List.take_length]; exact h3
    · exact h3
theorem vAppend_sound {t : TypeId} {x y : Operand} (h : vAppend P t S (S.ev x) (S.ev y) K) : ∃ r e, Sound P (.call ⟨.builtin .append, #[x, y], #[t, t]⟩) S r e ∧ K r e := by
  unfold vAppend at h
  split at h <;> try exact h.elim
  rename_i e he
  split at h <;> try exact h.elim
  rename_i z by_ hz hby
  obtain ⟨h0, h⟩ := h
  obtain ⟨olds, del, hb, h⟩ := vBase_sound h
  obtain ⟨els, rd, hs, h1, h2, h3⟩ := vSrc_sound h
  exact ⟨_, _, Sound.append hb hs he (tzo_zero hz) rfl hby h0 (fun q hq => List.all_eq_true.1 h1 q hq) h2, h3⟩
theorem vConvert_sound {t t' : TypeId} {x : Operand} (h : vConvert P t t' S (S.ev x) K) : ∃ r e, Sound P (.convert t t' x) S r e ∧ K r e := by
  unfold vConvert at h
  split at h
  · rename_i k n hx
    obtain ⟨ht, h⟩ := h
    split at h <;> try exact h.elim
    rename_i k' hk
    exact ⟨_, _, Sound.convInt hx ht hk, h⟩
  · rename_i s hx
    obtain ⟨ht, h⟩ := h
    rcases h with h | h
    · exact ⟨_, _, Sound.convStr hx ht h.1, h.2⟩
    · split at h <;> try exact h.elim
      rename_i e he
      exact ⟨_, _, Sound.convBytes hx ht he h.1 h.2.1, h.2.2⟩
  · obtain ⟨ht, h⟩ := h
    split at h <;> try exact h.elim
    rename_i e he
    obtain ⟨h8, h⟩ := h
    obtain ⟨els, rd, hs, h1, h2⟩ := vSrc_sound h
    exact ⟨_, _, Sound.convText hs he h8 ht h1, h2⟩
theorem vMake_sound {t : TypeId} {x y : Operand} (h : vMake P t S (S.ev x) (S.ev y) K) : ∃ r e, Sound P (.makeSlice t x y) S r e ∧ K r e := by
  unfold vMake at h
  split at h <;> try exact h.elim
  rename_i k l k' c hx hy
  split at h <;> try exact h.elim
  rename_i e he
  split at h <;> try exact h.elim
  rename_i z by_ hz hby
  exact ⟨_, _, Sound.makeSlice hx hy he (tzo_zero hz) hby h.1 h.2.1 h.2.2.1 h.2.2.2.1, h.2.2.2.2⟩
theorem vMin_sound {x y : Operand} {ts : Array TypeId} (h : vMinMax false (S.ev x) (S.ev y) K) : ∃ r e, Sound P (.call ⟨.builtin .min, #[x, y], ts⟩) S r e ∧ K r e := by
  unfold vMinMax at h
  split at h <;> try exact h.elim
  rename_i k a k' b hx hy
  obtain ⟨rfl, h⟩ := h
  exact ⟨_, _, Sound.min2 hx hy, h⟩
theorem vMax_sound {x y : Operand} {ts : Array TypeId} (h : vMinMax true (S.ev x) (S.ev y) K) : ∃ r e, Sound P (.call ⟨.builtin .max, #[x, y], ts⟩) S r e ∧ K r e := by
  unfold vMinMax at h
  split at h <;> try exact h.elim
  rename_i k a k' b hx hy
  obtain ⟨rfl, h⟩ := h
  exact ⟨_, _, Sound.max2 hx hy, h⟩
theorem vLen_sound {t : TypeId} {x : Operand} (h : vLen P t (S.ev x) K) : ∃ r e, Sound P (.call ⟨.builtin .len, #[x], #[t]⟩) S r e ∧ K r e := by
  unfold vLen at h
  split at h <;> try exact h.elim
  · rename_i s hx; exact ⟨_, _, Sound.len (by rw [hx]; rfl) (.inl h.1) ⟨fun _ => ⟨s, hx⟩, fun _ => h.1⟩, h.2⟩
  · rename_i ad n c hx; exact ⟨_, _, Sound.len (n := n) (by rw [hx]; rfl) (.inr h.2.1) ⟨fun h' => (by rw [h.1] at h'; cases h'), fun ⟨s, hs⟩ => (by rw [hx] at hs; cases hs)⟩, h.2.2⟩
  · rename_i sz l hx; exact ⟨_, _, Sound.len (n := l.length) (by rw [hx]; rfl) (.inr h.2.1) ⟨fun h' => (by rw [h.1] at h'; cases h'), fun ⟨s, hs⟩ => (by rw [hx] at hs; cases hs)⟩, h.2.2⟩
  · rename_i i sz off n hx; exact ⟨_, _, Sound.len (n := n) (by rw [hx]; rfl) (.inr h.2.1) ⟨fun h' => (by rw [h.1] at h'; cases h'), fun ⟨s, hs⟩ => (by rw [hx] at hs; cases hs)⟩, h.2.2⟩
theorem vFn_sound {g : Operand} {xs : Array Operand} {ts : Array TypeId} (h : vFn P S (S.ev g) xs.toList K) : ∃ r e, Sound P (.call ⟨.value g, xs, ts⟩) S r e ∧ K r e := by
  unfold vFn at h
  split at h <;> try exact h.elim
  rename_i f cap hf
  obtain ⟨r, os, ⟨hen, hc⟩, hfl, hK⟩ := h
  simp only [Bool.or_eq_true, Bool.and_eq_true] at hfl
  exact ⟨_, _, Sound.callPure hf hen hc hfl (fun p hp i hi => List.mem_flatMap.2 ⟨p, hp, hi⟩), hK⟩
theorem vFnI_sound {g : Operand} {xs : Array Operand} {ts : Array TypeId} (h : vFnI P S (S.ev g) xs.toList K) : ∃ r e, SoundI P (.call ⟨.value g, xs, ts⟩) S r e ∧ K r e := by
  unfold vFnI at h
  split at h <;> try exact h.elim
  rename_i f cap hf
  rcases h with h | ⟨L, n, args, hp, r, hp', os, ⟨hen, hc⟩, hl, hfl, hK⟩
  · rw [← hf] at h
    obtain ⟨r, e, h1, h2⟩ := vFn_sound (ts := ts) h
    exact ⟨r, e, h1.toI, h2⟩
  · exact ⟨_, _, Sound.callProc hf hen hc hl hfl, hK⟩
theorem vBinO_sound {op : BinOp} {t t' : TypeId} {x y : Operand} (h : vBinO P op t S x y K) : ∃ r e, Sound P (.binOp op t x y t') S r e ∧ K r e := by
  unfold vBinO at h
  split at h
  · rename_i hy
    rw [isNilC_eq hy]
    split at h <;> try exact h.elim
    rename_i b e hx he; exact ⟨_, _, Sound.nilS hx he, h⟩
  · rename_i hy
    rw [isNilC_eq hy]
    split at h <;> try exact h.elim
    rename_i b e hx he; exact ⟨_, _, Sound.nilSN hx he, h⟩
  · exact vBin_sound h
theorem vUn_sound {op : UnOp} {t : TypeId} {x : Operand} (h : vUn op (S.ev x) K) : ∃ r e, Sound P (.unOp op t x) S r e ∧ K r e := by
  unfold vUn at h
  split at h <;> try exact h.elim
  · rename_i b hx; exact ⟨_, _, Sound.not hx, h⟩
  · rename_i k n hx; exact ⟨_, _, Sound.neg hx, h⟩
theorem vCallO_sound {c : Call} (h : vCallO P S c.callee c.args.toList c.argTypes.toList K) : ∃ r e, Sound P (.call c) S r e ∧ K r e := by
  obtain ⟨callee, ⟨xs⟩, ⟨ts⟩⟩ := c
  simp only at h
  unfold vCallO at h
  split at h <;> try exact h.elim
  · exact vLen_sound h
  · obtain ⟨rfl, h⟩ := h; exact vAppend_sound h
  · exact vMin_sound h
  · exact vMax_sound h
  · exact vFn_sound (xs := ⟨_⟩) h
theorem vMakeF_sound {fn : Fn} {first cap : Array Operand} (h : vMakeF S fn first.toList cap.toList K) : ∃ r e, Sound P (.makeFunc fn first cap) S r e ∧ K r e := by
  obtain ⟨first⟩ := first
  unfold vMakeF at h
  split at h <;> try exact h.elim
  rename_i f hf
  simp only at hf
  subst hf
  exact ⟨_, _, Sound.makeFunc, h⟩
theorem vop_sound {op : Op} (h : vop P op S K) : ∃ r e, Sound P op S r e ∧ K r e := by
  unfold vop at h
  split at h <;> try exact h.elim
  · exact ⟨_, _, Sound.move, h⟩
  · exact ⟨_, _, Sound.assign, h⟩
  · split at h <;> try exact h.elim
    rename_i t hc; exact ⟨_, _, Sound.pick hc, h⟩
  · exact ⟨_, _, Sound.box rfl h.1, h.2⟩
  · split at h <;> try exact h.elim
    rename_i z hz; exact ⟨_, _, Sound.alloc (tzo_zero hz), h⟩
  · split at h <;> try exact h.elim
    rename_i z hz
    obtain ⟨hk, h⟩ := h
    split at h <;> try exact h.elim
    rename_i L hL; exact ⟨_, _, Sound.build (tzo_zero hz) hk hL, h⟩
  · split at h <;> try exact h.elim
    rename_i e he
    split at h <;> try exact h.elim
    rename_i z hz
    exact ⟨_, _, Sound.buildSlice he (tzo_zero hz) h.1 h.2.1 h.2.2.1, h.2.2.2⟩
  · exact vLoad_sound h
  · exact vStore_sound h
  · split at h <;> try exact h.elim
    · rename_i i sz k c hx; exact ⟨_, _, Sound.nilCheckP hx, h⟩
    · rename_i f l hx; exact ⟨_, _, Sound.nilCheckF hx, h⟩
  · exact vBinO_sound h
  · exact vUn_sound h
  · exact vConvert_sound h
  · exact vMakeF_sound h
  · exact vMake_sound h
  · exact vSlice_sound h
  · exact vFieldAddr_sound h
  · exact vField_sound h
  · exact vIndexAddr_sound h
  · exact vIndex_sound h
  · split at h <;> try exact h.elim
    rename_i l hx; exact ⟨_, _, Sound.extract hx h.1, h.2⟩
  · exact vCallO_sound h
end
def vopI (P : Program) (op : Op) (S : St) (K : PV → Eff → Prop) : Prop :=
  match op with
  | .call c => match c.callee with
    | .value g => vFnI P S (S.ev g) c.args.toList K
    | _ => vop P op S K
  | _ => vop P op S K
theorem SEq.ev {S S' : St} (h : SEq S S') (x : Operand) : S.ev x = S'.ev x := by
  cases x <;> simp [St.ev, h.get]
theorem SEq.fin {S S' : St} (h : SEq S S') (d : Option Tmp) (r : PV) (e : Eff) : SEq (S.fin d r e) (S'.fin d r e) := by
  refine ⟨?_, ?_, ?_, h.gh⟩
  · funext s; rw [St.get_fin, St.get_fin, h.get]
  · rw [St.obj_fin, St.obj_fin, h.obj, h.nx]
  · show S.nx + _ = S'.nx + _; rw [h.nx]
theorem SoundI.seq {P : Program} {op : Op} {S S' : St} {r : PV} {e : Eff} (hs : SoundI P op S' r e) (h : SEq S S') : SoundI P op S r e := by
  intro o a w0 F0 D μ F w ho hH hx hD next Q hn
  refine hs o a w0 F0 D μ F w ho (by rw [← h.obj]; exact hH) (fun x hxm => by rw [← h.ev]; exact hx x hxm) (fun i hi => by rw [← h.nx]; exact hD i hi) next Q fun v w' D' μ' F' h1 h2 h3 h4 h5 h6 => hn v w' D' μ' F' h1 (by rw [h.nx, h.obj]; exact h2) h3 h4 h5 (by rw [h.nx]; exact h6)
theorem Sound.seq {P : Program} {op : Op} {S S' : St} {r : PV} {e : Eff} (hs : Sound P op S' r e) (h : SEq S S') : Sound P op S r e := by
  intro o a w0 F0 D μ F H w ho hH hx hr hD next Q hn
  refine hs o a w0 F0 D μ F H w ho hH (fun x hxm => by rw [← h.ev]; exact hx x hxm) (fun i hi => by rw [← h.obj]; exact hr i hi) (fun k hk => by rw [← h.nx]; exact hD k hk) next Q fun v w' D' μ' F' h1 h2 h3 h4 h5 h6 => hn v w' D' μ' F' h1 (by rw [h.nx]; exact h2) h3 h4 h5 (by rw [h.nx]; exact h6)
def St.known (S : St) (d : Nat) (p : PV) : St := ⟨(d, p) :: S.env, S.hp, S.nx, S.gh⟩
theorem SEq.known {S : St} {d : Nat} {p : PV} (h : S.get d = p) : SEq S (S.known d p) := by
  refine ⟨?_, rfl, rfl, rfl⟩
  funext s
  show S.get s = (lk ((d, p) :: S.env) s).getD .junk
  unfold lk
  split
  · rename_i he; subst he; exact h
  · rfl
theorem SEq.trans {a b c : St} (h : SEq a b) (k : SEq b c) : SEq a c := ⟨h.get.trans k.get, h.obj.trans k.obj, h.nx.trans k.nx, h.gh.trans k.gh⟩
def xG (b want : Bool) (run skip : Prop) : Prop := (b = want → run) ∧ (b = (!want) → skip)
@[congr] theorem xG.cong {b b' want : Bool} {run skip : Prop} (h : b = b') : xG b want run skip = xG b' want run skip := by rw [h]
theorem xG_tt {run skip : Prop} : xG true true run skip = run := by simp [xG]
theorem xG_ff {run skip : Prop} : xG false false run skip = run := by simp [xG]
theorem xG_tf {run skip : Prop} : xG true false run skip = skip := by simp [xG]
theorem xG_ft {run skip : Prop} : xG false true run skip = skip := by simp [xG]
theorem xG_intro {b want : Bool} {run skip : Prop} (h : b = want → run) (h2 : b = (!want) → skip) : xG b want run skip := ⟨h, h2⟩
def xGuard (ops : Array Oper) (S : St) (o : Oper) (run skip : St → Prop) : Prop :=
  match o.guard with
  | none => run S
  | some (j, want) => match (ops[j]?).bind (·.dst) with
    | some d => match S.get d with
      | .atom (.bool b) => xG b want (run (S.known d (.atom (.bool want)))) (skip (S.known d (.atom (.bool (!want)))))
      | .atom (.tuple _) => skip S
      | _ => False
    | none => False
theorem vGuard_mk {ops : Array Oper} {S : St} {o : Oper} {run skip : Prop} (h : (gWant ops S o true ∧ run) ∨ (gWant ops S o false ∧ skip)) : vGuard ops S o run skip := by
  unfold vGuard
  rcases h with ⟨(hg | ⟨j, want, d, hg, hd, hs⟩), h⟩ | ⟨⟨j, want, d, hg, hd, hs⟩, h⟩
  · rw [hg]; exact h
  · rw [hg]
    simp only [hd, hs]
    exact ⟨fun _ => h, fun e => (by cases want <;> cases e)⟩
  · rw [hg]
    rcases hs with hs | ⟨vs, hs⟩
    · simp only [hd, hs]
      exact ⟨fun e => (by cases want <;> cases e), fun _ => h⟩
    · simp only [hd, hs]; exact h
def xOps (P : Program) (ops : Array Oper) : List Oper → St → (St → Prop) → Prop
  | [], S, K => K S
  | o :: rest, S, K => xGuard ops S o (fun S => vopI P o.op S fun r e => xOps P ops rest (S.fin o.dst r e) K) (fun S => xOps P ops rest (S.fin o.dst (.atom (.tuple #[])) e0) K)
def xOpsT (P : Program) (ops : Array Oper) : List Oper → St → List Tr → (St → List Tr → Prop) → Prop
  | [], S, tr, K => K S tr
  | o :: rest, S, tr, K => xGuard ops S o (fun S => vop P o.op S fun r e => xOpsT P ops rest (S.fin o.dst r e) (tr ++ [e.tr S.nx]) K) (fun S => xOpsT P ops rest (S.fin o.dst (.atom (.tuple #[])) e0) (tr ++ [e0.tr S.nx]) K)
section
variable {P : Program} {n : Nat} {S : St} {Q : Exit → St → Prop}
theorem Tri.cut {α : Type} {x y : Code} (S0 : α → St) (h : Tri P n x S (thenQ (fun S' => ∃ z L, Leq L S' (S0 z)) Q)) (h2 : ∀ z, Tri P n y (S0 z) Q) : Tri P n (.seq x y) S Q :=
  Tri.seq (Tri.mono h fun e S' hq => by
    cases e with
    | normal => obtain ⟨z, L, hle⟩ := hq; exact Tri.weak hle (h2 z)
    | _ => exact hq)
end
mutual
theorem ren_pure (ρ : Nat → Nat) : ∀ p : PV, p.pure = true → p.ren ρ = p
  | .junk, _ => rfl
  | .atom _, _ => rfl
  | .agg l, h => by simp only [PV.pure] at h; simp only [PV.ren, renL_pure ρ l h]
  | .tup l, h => by simp only [PV.pure] at h; simp only [PV.ren, renL_pure ρ l h]
  | .sl _ l, h => by simp only [PV.pure] at h; simp only [PV.ren, renL_pure ρ l h]
  | .own _ _, h => by cases h
  | .ob _ _ _ _, h => by cases h
  | .ptr _ _ _ _, h => by cases h
  | .fptr _ l _ _, h => by simp only [PV.pure] at h; simp only [PV.ren, renL_pure ρ l h]
  | .fn _ l, h => by simp only [PV.pure] at h; simp only [PV.ren, renL_pure ρ l h]
theorem renL_pure (ρ : Nat → Nat) : ∀ l : List PV, pureL l = true → renL ρ l = l
  | [], _ => rfl
  | p :: l, h => by simp only [pureL, Bool.and_eq_true] at h; simp only [renL, ren_pure ρ p h.1, renL_pure ρ l h.2]
end
theorem ResOk.val {S : St} {ts : List Nat} {r : PV} (h : retV S ts = r) (hp : r.pure = true) : ResOk S ts r [] :=
  ⟨[], 0, rfl, List.nodup_nil, by rw [ren_pure _ r hp]; exact h, fun i o hi => by simp at hi⟩
theorem Pure.intro {P : Program} {n : Nat} {f : FuncId} {fn : Func} {c : Code} {args : List PV} {r : PV} {os : List AO} {ts : List Nat} (hf : P.funcs[f]? = some fn) (hname : (fn.name == "runtime.NumGoroutine") = false) (hb : fn.body = some c) (hr : fn.results = (ts.map ResultVar.tmp).toArray) (hn : fn.ntmps = n) (hla : args.length ≤ n) (hpure : args.all PV.pure = true)
    (h : Tri P n c ⟨argEnv 0 args, [], 0, []⟩ (retQ ts r os)) : Pure P f args r os := ⟨Go.Proofs.enters_of hf hname hb, PureCall.intro hf hb hr hn hla hpure h⟩
theorem Proc.intro {P : Program} {n : Nat} {f : FuncId} {fn : Func} {c : Code} {args : List PV} {hp : List AO} {r : PV} {hp' : List (Option AO)} {os : List AO} {ts : List Nat} (hf : P.funcs[f]? = some fn) (hname : (fn.name == "runtime.NumGoroutine") = false) (hb : fn.body = some c) (hr : fn.results = (ts.map ResultVar.tmp).toArray) (hn : fn.ntmps = n) (hla : args.length ≤ n)
    (hlen : hp'.length = hp.length) (h : Tri P n c ⟨argEnv 0 args, objEnv 0 (hp.map some), hp.length, marks 0 hp⟩ (retP ts r hp hp' os)) : Proc P f args hp r hp' os := ⟨Go.Proofs.enters_of hf hname hb, ProcCall.intro hf hb hr hn hla hlen h⟩
end Go.Proofs.Ytcdeilgijleoaaa
