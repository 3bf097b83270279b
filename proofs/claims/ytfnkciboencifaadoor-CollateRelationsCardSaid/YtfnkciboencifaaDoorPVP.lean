/-
  The clean machine: calls of functions that work on own objects of their caller.
-/
import Derived.Test.YtfnkciboencifaaDoorPV9
set_option linter.all false
namespace Go.Proofs.YtfnkciboencifaaDoor
open Go Go.RowKit
set_option linter.unusedVariables false

/-- The function works on own objects of its caller, hp: at these arguments it answers r, leaves them as hp' says (none: given up), and makes the objects os. -/
def ProcCall (P : Program) (f : FuncId) (args : List PV) (hp : List AO) (r : PV) (hp' : List (Option AO)) (os : List AO) : Prop :=
  hp'.length = hp.length ∧ ∀ (μ : Nat → Option Nat) (F : Nat → Prop) (w : World) (vs : Array Value), HeapSim ⟨w, fun b => ∃ i, i < hp.length ∧ μ i = some b⟩ F (· < hp.length) μ F (fun i => hp[i]?) w →
    vs.size = args.length → (∀ i (h : i < args.length), Rep (· < hp.length) μ F w args[i] (vs.getD i undef)) →
    Calls P f vs w fun e w' => ∃ v, e = .returned v ∧ ∃ (μ' : Nat → Option Nat) (F' : Nat → Prop), Rep (· < hp.length + os.length) μ' F' w' r v ∧
      HeapSim ⟨w, fun b => ∃ i, i < hp.length ∧ μ i = some b⟩ F (· < hp.length + os.length) μ' F' (fun i => ((hp' ++ os.map some)[i]?).join) w' ∧ (∀ i, i < hp.length → μ' i = μ i)

/-- Numbers behind a call: those handed over, then new ones. -/
def pmap (L : List Nat) (nx : Nat) (i : Nat) : Nat := (L[i]?).getD (nx + (i - L.length))
def procSet (ρ : Nat → Nat) : List Nat → List (Option AO) → List (Nat × AO)
  | i :: L, some o :: h => (i, o.ren ρ) :: procSet ρ L h
  | _ :: L, none :: h => procSet ρ L h
  | _, _ => []
def procDel : List Nat → List (Option AO) → List Nat
  | _ :: L, some _ :: h => procDel L h
  | i :: L, none :: h => i :: procDel L h
  | _, _ => []

theorem procSet_not (ρ : Nat → Nat) {x : Nat} : ∀ (L : List Nat) (h : List (Option AO)), x ∉ L → lk (procSet ρ L h) x = none ∧ x ∉ procDel L h
  | [], h, _ => by cases h <;> simp [procSet, procDel, lk]
  | i :: L, [], _ => by simp [procSet, procDel, lk]
  | i :: L, m :: h, hx => by
    have hx2 : x ∉ L := fun h => hx (List.mem_cons_of_mem _ h)
    have hxi : i ≠ x := fun e => hx (by rw [e]; exact List.mem_cons_self ..)
    obtain ⟨a, b⟩ := procSet_not ρ L h hx2
    cases m with
    | some o => exact ⟨by rw [procSet, lk, if_neg hxi]; exact a, by rw [procDel]; exact b⟩
    | none => exact ⟨by rw [procSet]; exact a, by rw [procDel, List.mem_cons]; exact fun h => h.elim (fun e => hxi e.symm) b⟩
theorem procSet_at (ρ : Nat → Nat) : ∀ (L : List Nat) (h : List (Option AO)), L.Nodup → ∀ (j : Nat) (i : Nat) (m : Option AO), L[j]? = some i → h[j]? = some m → lk (procSet ρ L h) i = m.map (AO.ren ρ) ∧ (m = none → i ∈ procDel L h) ∧ (m ≠ none → i ∉ procDel L h)
  | [], h, _, j, i, m, hL, _ => by simp at hL
  | k :: L, [], _, j, i, m, _, hh => by simp at hh
  | k :: L, m0 :: h, hn, j, i, m, hL, hh => by
    rw [List.nodup_cons] at hn
    cases j with
    | zero =>
      simp only [List.getElem?_cons_zero, Option.some.injEq] at hL hh
      subst hL; subst hh
      cases m0 with
      | some o => exact ⟨by rw [procSet, lk, if_pos rfl]; rfl, (fun e => by cases e), fun _ => by rw [procDel]; exact (procSet_not ρ L h hn.1).2⟩
      | none => exact ⟨by rw [procSet]; exact (procSet_not ρ L h hn.1).1, (fun _ => by rw [procDel]; exact List.mem_cons_self ..), fun e => absurd rfl e⟩
    | succ j =>
      simp only [List.getElem?_cons_succ] at hL hh
      have hki : k ≠ i := fun e => hn.1 (by rw [e]; exact List.mem_of_getElem? hL)
      obtain ⟨a, b, c⟩ := procSet_at ρ L h hn.2 j i m hL hh
      cases m0 with
      | some o => exact ⟨by rw [procSet, lk, if_neg hki]; exact a, (fun e => by rw [procDel]; exact b e), fun e => by rw [procDel]; exact c e⟩
      | none => exact ⟨by rw [procSet]; exact a, (fun e => by rw [procDel]; exact List.mem_cons_of_mem _ (b e)), fun e => by rw [procDel, List.mem_cons]; exact fun h => h.elim (fun e' => hki e'.symm) (c e)⟩

/-- What is handed over: the caller's values vals are the arguments args, its objects L are hp, by their numbers. -/
structure Lent (S : St) (L : List Nat) (n : Nat) (vals args : List PV) (hp : List AO) : Prop where
  nodup : L.Nodup
  len : L.length = hp.length
  args : vals.map (sealed S.obj (fun i => L.contains i) n) = args.map (PV.ren (rmap L S.nx))
  objs : ∀ i o, hp[i]? = some o → ∃ o', S.obj (rmap L S.nx i) = some o' ∧ o'.sz = o.sz ∧ o'.els.map (sealed S.obj (fun i => L.contains i) n) = o.els.map (PV.ren (rmap L S.nx))

section
variable {P : Program} {w0 : Home} {F0 D D' : Nat → Prop} {μ μ' : Nat → Option Nat} {F F' : Nat → Prop} {H H' : Nat → Option AO} {w w' : World}

theorem cells_keep (p : PV) (val : Nat → Value) (hF : ∀ b, F b → F' b) (h : ∀ c (hc : c < p.cells.length), Rep D μ F w p.cells[c] (val c)) : ∀ c (hc : c < p.cells.length), Rep D μ F' w p.cells[c] (val c) :=
  fun c hc => (h c hc).stay (Stay.refl _ _) (fun _ h => ⟨h, rfl⟩) hF

/-- The own objects that are not handed over, as frozen blocks; none at depth 0. -/
def lentF (H : Nat → Option AO) (μ : Nat → Option Nat) (F : Nat → Prop) (L : List Nat) (n : Nat) (b : Nat) : Prop := F b ∨ (n ≠ 0 ∧ ∃ i o, L.contains i = false ∧ H i = some o ∧ μ i = some b)

theorem lent_rep (hH : HeapSim w0 F0 D μ F H w) (L : List Nat) (n : Nat) {p : PV} {v : Value} (h : Rep D μ F w p v) : Rep D μ (lentF H μ F L n) w (sealed H (fun i => L.contains i) n p) v := by
  cases n with
  | zero => exact h.stay (Stay.refl _ _) (fun _ h => ⟨h, rfl⟩) (fun _ h => .inl h)
  | succ n => exact Rep.sealed hH _ _ (fun _ h => .inl h) (fun i o b h1 h2 h3 => .inr ⟨by omega, i, o, h1, h2, h3⟩) _ _ _ h
theorem lent_cells (hH : HeapSim w0 F0 D μ F H w) (L : List Nat) (n : Nat) (p : PV) (val : Nat → Value) (h : ∀ c (hc : c < p.cells.length), Rep D μ F w p.cells[c] (val c)) :
    ∀ c (hc : c < (sealed H (fun i => L.contains i) n p).cells.length), Rep D μ (lentF H μ F L n) w (sealed H (fun i => L.contains i) n p).cells[c] (val c) := by
  cases n with
  | zero => exact cells_keep p val (fun _ h => .inl h) h
  | succ n => exact cells_sealed hH _ _ (fun _ h => .inl h) (fun i o b h1 h2 h3 => .inr ⟨by omega, i, o, h1, h2, h3⟩) _ p val h
theorem lent_stands (hH : HeapSim w0 F0 D μ F H w) (L : List Nat) (n : Nat) {o o' : AO} {ρ : Nat → Nat} {m : Option Nat} (hst : Stands D μ F w o' m) (h2 : o'.sz = o.sz) (h3 : o'.els.map (sealed H (fun i => L.contains i) n) = o.els.map (PV.ren ρ)) :
    Stands D μ (lentF H μ F L n) w (o.ren ρ) m := by
  cases m with
  | none =>
    have h' : o'.els = [] := hst
    show (o.ren ρ).els = []
    unfold AO.ren
    rw [← h3, h']; rfl
  | some b =>
    obtain ⟨A, e, a1, a2, a3, a4⟩ := hst
    have hlen : o.els.length = o'.els.length := by have := congrArg List.length h3; simpa using this.symm
    have hek : ∀ kk (hk : kk < (o.ren ρ).els.length), (o.ren ρ).els[kk] = sealed H (fun i => L.contains i) n (o'.els[kk]'(by simp [AO.ren] at hk; omega)) := fun kk hk => by
      have e1 : (o.ren ρ).els = o'.els.map (sealed H (fun i => L.contains i) n) := h3.symm
      rw [gl e1 hk, List.getElem_map]
    refine ⟨A, e, a1, ?_, fun kk hk => ?_, fun kk hk c hc => ?_⟩
    · simp only [AO.ren, List.length_map]; rw [hlen, ← h2]; exact a2
    · rw [hek kk hk, sealed_len, a3]; exact h2
    · have hkk : kk < o'.els.length := by simp [AO.ren] at hk; omega
      have e2 : (o.ren ρ).els[kk].cells = (sealed H (fun i => L.contains i) n o'.els[kk]).cells := by rw [hek kk hk]
      rw [gl e2 hc]
      have := lent_cells hH L n o'.els[kk] (fun c => A.getD (kk * o'.sz + c) undef) (fun c hc => a4 kk hkk c hc) c (by rw [← e2]; exact hc)
      have e3 : (o.ren ρ).sz = o'.sz := h2.symm
      rw [e3]; exact this

def flatO : Option AO → Bool
  | some o => o.els.all PV.flatB
  | none => true

theorem pmap_old {L : List Nat} {nx i : Nat} (h : i < L.length) : pmap L nx i = L[i] := by simp [pmap, h]
theorem pmap_new {L : List Nat} {nx i : Nat} (h : L.length ≤ i) : pmap L nx i = nx + (i - L.length) := by simp [pmap, h]
theorem rmap_old {L : List Nat} {nx i : Nat} (h : i < L.length) : rmap L nx i = L[i] := by simp [rmap, h]

theorem Ext.trans2 {B : Home} {a b : World} {M : Nat → Prop} (h : Ext B a) (k : Ext ⟨a, M⟩ b) (hM : ∀ b, M b → B.own b) : Ext B b :=
  ⟨k.os.trans h.os, k.tape.trans h.tape, k.output.trans h.output, Nat.le_trans h.size k.size,
    fun i hi hn => (k.block i (Nat.lt_of_lt_of_le hi h.size) (fun hm => (hM i hm).elim (fun h => by omega) hn)).trans (h.block i hi hn), fun b => Nat.le_trans (h.sizes b) (k.sizes b)⟩

theorem Sound.callProc {fo : Operand} {xs : Array Operand} {ts : Array TypeId} {S : St} {f : FuncId} {n : Nat} {cap args : List PV} {hp : List AO} {r : PV} {hp' : List (Option AO)} {os : List AO} {L : List Nat} {rd : List Nat}
    (hfo : S.ev fo = .fn f cap) (hen : Enters P f) (hc : ProcCall P f args hp r hp' os) (hl : Lent S L n (xs.toList.map S.ev ++ cap) args hp)
    (hfl : n = 0 ∨ (r.flatB = true ∧ os.all (fun o => o.els.all PV.flatB) = true ∧ hp'.all flatO = true)) :
    SoundI P (.call ⟨.value fo, xs, ts⟩) S (r.ren (pmap L S.nx)) ⟨os.map (AO.ren (pmap L S.nx)), procDel L hp', procSet (pmap L S.nx) L hp', rd⟩ := by
  intro o a w0 F0 D μ F w ho hH hxs hD next Q hn
  have hpf := hxs fo (by simp [Op.operands, Call.operands])
  rw [hfo] at hpf
  have hxa : ∀ x, x ∈ xs.toList → Rep D μ F w (S.ev x) (a.eval x) := fun x hx => hxs x (by simp only [Op.operands, Call.operands]; simp at hx ⊢; exact .inr hx)
  generalize hef : a.eval fo = u at hpf
  cases hpf with
  | fn _ _ cvs hcs hcr =>
    have hval : ∀ i (h : i < (xs.toList.map S.ev ++ cap).length), Rep D μ F w ((xs.toList.map S.ev ++ cap)[i]) ((xs.map a.eval ++ cvs).getD i undef) := fun i h => by
      by_cases hi : i < xs.size
      · have e1 : (xs.toList.map S.ev ++ cap)[i] = S.ev xs[i] := by rw [List.getElem_append_left (by simpa using hi)]; simp
        have e2 : (xs.map a.eval ++ cvs).getD i undef = a.eval xs[i] := by simp [Array.getD_eq_getD_getElem?, Array.getElem?_append, hi]
        rw [e1, e2]
        exact hxa _ (by simp)
      · have hi2 : i - xs.size < cap.length := by simp at h; omega
        have e1 : (xs.toList.map S.ev ++ cap)[i] = cap[i - xs.size] := by rw [List.getElem_append_right (by simpa using hi)]; simp
        have e2 : (xs.map a.eval ++ cvs).getD i undef = cvs.getD (i - xs.size) undef := by simp [Array.getD_eq_getD_getElem?, Array.getElem?_append, hi]
        rw [e1, e2]
        exact hcr _ hi2
    have hex : (execOp a.eval o).run P w = .ok (.enter f (xs.map a.eval ++ cvs)) w := by
      have := hen (xs.map a.eval ++ cvs) w
      unfold execOp
      simp only [ho, resolve, hef, Deferred.ofValue, Sem.run_bind, Sem.run_pure, Result.andThen_ok, invoke]
      simpa using this
    unfold Oper.wp
    rw [hex]
    simp only [Oper.upon]
    obtain ⟨hlen', hcall⟩ := hc
    have hLk := hl.len
    have hlt : ∀ i, i < hp.length → ∃ hi : i < L.length, rmap L S.nx i = L[i] := fun i hi => ⟨by omega, rmap_old _⟩
    have hLobj : ∀ i (hi : i < hp.length), ∃ o', S.obj (rmap L S.nx i) = some o' ∧ D (rmap L S.nx i) ∧ Stands D μ (lentF S.obj μ F L n) w ((hp[i]).ren (rmap L S.nx)) (μ (rmap L S.nx i)) := fun i hi => by
      obtain ⟨o', h1, h2, h3⟩ := hl.objs i _ (List.getElem?_eq_getElem hi)
      obtain ⟨g1, g2⟩ := hH.objs _ _ h1
      exact ⟨o', h1, g1, lent_stands hH L n g2 h2 h3⟩
    have hDr : ∀ i, D (rmap L S.nx i) → i < hp.length ∧ μ (rmap L S.nx i) = μ (rmap L S.nx i) := fun i hi => ⟨by have := (rmap_in hD hi).1; omega, rfl⟩
    have hFs : ∀ b, lentF S.obj μ F L n b → b < w.heap.size := fun b hb => hb.elim (hH.fsz b) (fun ⟨_, i, o, _, h2, h3⟩ => (hH.ok h2 h3).lt)
    have hnF : ∀ i b, i < hp.length → μ (rmap L S.nx i) = some b → ¬ lentF S.obj μ F L n b := fun i b hi hib hb => by
      obtain ⟨o', h1, _⟩ := hLobj i hi
      rcases hb with hb | ⟨_, j, o2, g1, g2, g3⟩
      · exact (hH.own _ _ b h1 hib).2 hb
      · have := hH.inj _ _ _ _ b h1 g2 hib g3
        obtain ⟨hiL, e⟩ := hlt i hi
        rw [← this, e] at g1
        have := List.contains_iff_mem.2 (List.getElem_mem hiL)
        rw [g1] at this; cases this
    have hHc : HeapSim ⟨w, fun b => ∃ i, i < hp.length ∧ μ (rmap L S.nx i) = some b⟩ (lentF S.obj μ F L n) (· < hp.length) (fun i => μ (rmap L S.nx i)) (lentF S.obj μ F L n) (fun i => hp[i]?) w := by
      refine ⟨fun i ob hi => ?_, fun i j ob ob' b hi hj hib hjb => ?_, fun i ob b hi hib => ?_, Ext.refl _ _, fun b hb => .inl hb, hFs⟩
      · have hik := (List.getElem?_eq_some_iff.1 hi).1
        obtain ⟨o', h1, h2, h3⟩ := hLobj i hik
        rw [(List.getElem?_eq_some_iff.1 hi).2] at h3
        exact ⟨hik, h3.ren_inv hDr⟩
      · have hik := (List.getElem?_eq_some_iff.1 hi).1
        have hjk := (List.getElem?_eq_some_iff.1 hj).1
        obtain ⟨o1, h1, _⟩ := hLobj i hik
        obtain ⟨o2, h2, _⟩ := hLobj j hjk
        have e := hH.inj _ _ _ _ b h1 h2 hib hjb
        obtain ⟨hi2, e1⟩ := hlt i hik
        obtain ⟨hj2, e2⟩ := hlt j hjk
        rw [e1, e2] at e
        exact nodup_inj hl.nodup hi2 hj2 e
      · have hik := (List.getElem?_eq_some_iff.1 hi).1
        exact ⟨.inr ⟨i, hik, hib⟩, hnF i b hik hib⟩
    have hargs : ∀ i (h : i < args.length), Rep (· < hp.length) (fun i => μ (rmap L S.nx i)) (lentF S.obj μ F L n) w args[i] ((xs.map a.eval ++ cvs).getD i undef) := fun i h => by
      have hla : args.length = (xs.toList.map S.ev ++ cap).length := by have := congrArg List.length hl.args; simpa using this.symm
      have h1 := lent_rep hH L n (hval i (by omega))
      have e : (args.map (PV.ren (rmap L S.nx)))[i]'(by simpa using h) = sealed S.obj (fun i => L.contains i) n ((xs.toList.map S.ev ++ cap)[i]'(by omega)) := by
        have e1 : args.map (PV.ren (rmap L S.nx)) = (xs.toList.map S.ev ++ cap).map (sealed S.obj (fun i => L.contains i) n) := hl.args.symm
        rw [gl e1, List.getElem_map]
      rw [← e, List.getElem_map] at h1
      exact h1.ren_inv hDr _ rfl
    have hla : (xs.map a.eval ++ cvs).size = args.length := by have := congrArg List.length hl.args; simp at this ⊢; omega
    refine (hcall _ _ w _ hHc hla hargs).mono fun e w' he => ?_
    obtain ⟨v, rfl, μ', F', h1, h2, h3⟩ := he
    show next (a.put o.dst v) w'
    have hMown : ∀ b, (∃ i, i < hp.length ∧ μ (rmap L S.nx i) = some b) → w0.own b ∧ ¬ F b := fun b ⟨i, hi, hib⟩ => by
      obtain ⟨o', g1, _⟩ := hLobj i hi
      exact hH.own _ _ b g1 hib
    have hunl : ∀ i ob b, L.contains i = false → S.obj i = some ob → μ i = some b → b < w.heap.size ∧ ¬ ∃ i, i < hp.length ∧ μ (rmap L S.nx i) = some b := fun i ob b g1 g2 g3 => by
      refine ⟨(hH.ok g2 g3).lt, fun ⟨j, hj, hjb⟩ => ?_⟩
      obtain ⟨o', q1, _⟩ := hLobj j hj
      have := hH.inj _ _ _ _ b g2 q1 g3 hjb
      obtain ⟨hjL, e⟩ := hlt j hj
      rw [this, e] at g1
      have := List.contains_iff_mem.2 (List.getElem_mem hjL)
      rw [g1] at this; cases this
    obtain ⟨F3, hF3, h1', h2', h5', h6', h7'⟩ : ∃ F3 : Nat → Prop, (∀ b, F b → F3 b) ∧ Rep (· < hp.length + os.length) μ' F3 w' r v ∧ (∀ i o, ((hp' ++ os.map some)[i]?).join = some o → Stands (· < hp.length + os.length) μ' F3 w' o (μ' i)) ∧
        (∀ b, F3 b → (F b ∨ w.heap.size ≤ b ∨ ∃ i, i < hp.length ∧ μ (rmap L S.nx i) = some b) ∧ b < w'.heap.size) ∧ (∀ i o b, ((hp' ++ os.map some)[i]?).join = some o → μ' i = some b → ¬ F3 b) ∧
        (∀ i ob b, L.contains i = false → S.obj i = some ob → μ i = some b → ¬ F3 b) := by
      have hnotF : ∀ i o b, ((hp' ++ os.map some)[i]?).join = some o → μ' i = some b → ¬ F b := fun i o b hi hib hbF => by
        rcases (h2.own i o b hi hib).1 with h | h
        · have := hH.fsz b hbF
          have : w.heap.size ≤ b := h
          omega
        · exact (hMown b h).2 hbF
      rcases hfl with hn0 | ⟨hf1, hf2, hf3⟩
      · have hF' : ∀ b, F' b → F b ∨ w.heap.size ≤ b ∨ ∃ i, i < hp.length ∧ μ (rmap L S.nx i) = some b := fun b hb => by
          rcases h2.f0 b hb with (h | h) | h
          · exact .inl h
          · exact absurd hn0 h.1
          · exact .inr h
        refine ⟨fun b => F b ∨ F' b, fun b h => .inl h, h1.stay (Stay.refl _ _) (fun _ h => ⟨h, rfl⟩) (fun _ h => .inr h), fun i o hi => ((h2.objs i o hi).2).stay (Stay.refl _ _) (fun _ h => ⟨h, rfl⟩) (fun _ h => .inr h) (fun _ _ => rfl), fun b hbF => ?_, fun i o b hi hib hbF => ?_, fun i ob b g1 g2 g3 hbF => ?_⟩
        · rcases hbF with hbF | hbF
          · exact ⟨.inl hbF, Nat.lt_of_lt_of_le (hH.fsz b hbF) h2.ext.size⟩
          · exact ⟨hF' b hbF, h2.fsz b hbF⟩
        · exact hbF.elim (hnotF i o b hi hib) (h2.own i o b hi hib).2
        · obtain ⟨q1, q2⟩ := hunl i ob b g1 g2 g3
          rcases hbF with hbF | hbF
          · exact (hH.own i ob b g2 g3).2 hbF
          · rcases hF' b hbF with h | h | h
            · exact (hH.own i ob b g2 g3).2 h
            · omega
            · exact q2 h
      · refine ⟨F, fun b h => h, h1.flatAny hf1, fun i o hi => ((h2.objs i o hi).2).flat ?_, fun b hbF => ⟨.inl hbF, Nat.lt_of_lt_of_le (hH.fsz b hbF) h2.ext.size⟩, hnotF, fun i ob b g1 g2 g3 => (hH.own i ob b g2 g3).2⟩
        cases hx : (hp' ++ os.map some)[i]? with
        | none => rw [hx] at hi; cases hi
        | some m =>
          rw [hx] at hi
          have hm : m = some o := hi
          subst hm
          rcases List.mem_append.1 (List.mem_of_getElem? hx) with hm | hm
          · exact List.all_eq_true.1 hf3 _ hm
          · obtain ⟨o2, ho2, e⟩ := List.mem_map.1 hm
            cases e
            exact List.all_eq_true.1 hf2 _ ho2
    have hst : Stay F w w' := ⟨h2.ext.sizes, fun b c u hbF hu => by
      rw [World.cell?_of_block (h2.ext.block b (hH.fsz b hbF) (fun hm => (hMown b hm).2 hbF))]; exact hu⟩
    have hlen2 : (os.map (AO.ren (pmap L S.nx))).length = os.length := by simp
    have hold : ∀ i, D i → newIds S.nx os.length D i ∧ newMap S.nx os.length μ (fun j => μ' (hp.length + j)) i = μ i := fun i hi => ⟨.inl hi, by
      unfold newMap
      rw [if_neg]
      rintro ⟨g1, g2⟩
      have := hD i hi
      omega⟩
    have hnew : ∀ i, i < hp.length + os.length → newIds S.nx os.length D (pmap L S.nx i) ∧ newMap S.nx os.length μ (fun j => μ' (hp.length + j)) (pmap L S.nx i) = μ' i := fun i hi => by
      by_cases hik : i < hp.length
      · obtain ⟨hiL, e⟩ := hlt i hik
        obtain ⟨o', _, g2, _⟩ := hLobj i hik
        rw [e] at g2
        have := hold _ g2
        rw [pmap_old hiL]
        refine ⟨this.1, this.2.trans ?_⟩
        rw [h3 i hik, e]
      · rw [pmap_new (by omega)]
        refine ⟨.inr ⟨by omega, by omega⟩, ?_⟩
        unfold newMap
        rw [if_pos ⟨by omega, by omega⟩]
        show μ' _ = _
        congr 1; omega
    have key : ∀ j ob, (Eff.mk (os.map (AO.ren (pmap L S.nx))) (procDel L hp') (procSet (pmap L S.nx) L hp') rd).app S.nx S.obj j = some ob →
        (∃ c oc, c < hp.length + os.length ∧ ((hp' ++ os.map some)[c]?).join = some oc ∧ j = pmap L S.nx c ∧ ob = oc.ren (pmap L S.nx)) ∨ (L.contains j = false ∧ S.obj j = some ob) := fun j ob hj => by
      unfold Eff.app at hj
      simp only at hj
      by_cases hin : S.nx ≤ j ∧ j < S.nx + (os.map (AO.ren (pmap L S.nx))).length
      · rw [if_pos hin] at hj
        rw [hlen2] at hin
        have hjm : j - S.nx < os.length := by omega
        rw [List.getElem?_map, List.getElem?_eq_getElem hjm] at hj
        cases hj
        refine .inl ⟨hp.length + (j - S.nx), os[j - S.nx], by omega, ?_, ?_, rfl⟩
        · rw [List.getElem?_append_right (by omega), hlen', Nat.add_sub_cancel_left, List.getElem?_map, List.getElem?_eq_getElem hjm]; rfl
        · rw [pmap_new (by omega)]; omega
      · rw [if_neg hin] at hj
        by_cases hjL : j ∈ L
        · obtain ⟨c, hc, rfl⟩ := List.getElem_of_mem hjL
          have hck : c < hp'.length := by omega
          obtain ⟨p1, p2, p3⟩ := procSet_at (pmap L S.nx) L hp' hl.nodup c L[c] hp'[c] (List.getElem?_eq_getElem hc) (List.getElem?_eq_getElem hck)
          rw [p1] at hj
          cases hm : hp'[c] with
          | none => rw [hm] at hj p2; simp only [Option.map_none] at hj; rw [if_pos (p2 rfl)] at hj; cases hj
          | some oc =>
            rw [hm] at hj
            simp only [Option.map_some, Option.some.injEq] at hj
            refine .inl ⟨c, oc, by omega, ?_, (pmap_old hc).symm, hj.symm⟩
            rw [List.getElem?_append_left hck, List.getElem?_eq_getElem hck, hm]; rfl
        · obtain ⟨p1, p2⟩ := procSet_not (pmap L S.nx) L hp' hjL
          rw [p1] at hj
          simp only [if_neg p2] at hj
          refine .inr ⟨?_, hj⟩
          cases hcn : L.contains j with
          | false => rfl
          | true => exact absurd (List.contains_iff_mem.1 hcn) hjL
    refine hn v w' (newIds S.nx os.length D) (newMap S.nx os.length μ (fun j => μ' (hp.length + j))) F3 (h1'.ren hnew) ?_ hst hold hF3 (fun i hi => by rw [hlen2]; exact hi)
    refine hH.step hst hold hF3 (hH.ext.trans2 h2.ext (fun b hb => (hMown b hb).1)) (fun b hbF => ?_) (fun b hbF => (h5' b hbF).2) fun i ob hi => ?_
    · rcases (h5' b hbF).1 with h | h | h
      · exact hH.f0 b h
      · exact .inr (hH.ext.own_lt _ h)
      · exact .inr (hMown b h).1
    rcases key i ob hi with ⟨c, oc, hc, hoc, rfl, rfl⟩ | ⟨g1, g2⟩
    · obtain ⟨q1, q2⟩ := hnew c hc
      right
      rw [q2]
      refine ⟨q1, (h2' c oc hoc).ren hnew, fun b hcb => ⟨?_, h6' c oc b hoc hcb, fun j o2 hj hj2 hjb => ?_⟩⟩
      · rcases (h2.own c oc b hoc hcb).1 with h | h
        · exact hH.ext.own_lt _ h
        · exact (hMown b h).1
      · rcases key j o2 hj2 with ⟨c', oc', hc', hoc', rfl, rfl⟩ | ⟨g1, g2⟩
        · rw [(hnew c' hc').2] at hjb
          exact hj (by rw [h2.inj c' c oc' oc b hoc' hoc hjb hcb])
        · rw [(hold j (hH.objs j o2 g2).1).2] at hjb
          obtain ⟨q3, q4⟩ := hunl j o2 b g1 g2 hjb
          rcases (h2.own c oc b hoc hcb).1 with h | h
          · have : w.heap.size ≤ b := h
            omega
          · exact q4 h
    · left
      refine ⟨g2, fun b hib => ⟨?_, h7' i ob b g1 g2 hib⟩⟩
      obtain ⟨q3, q4⟩ := hunl i ob b g1 g2 hib
      exact h2.ext.block b q3 q4
end
end Go.Proofs.YtfnkciboencifaaDoor

