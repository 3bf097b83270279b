/-
  The clean machine: a state stands for a frame and a world; regions, drawn and not drawn.
-/
import Derived.Test.YtfnkciboencifaaDoorPV10
set_option linter.all false
namespace Go.Proofs.YtfnkciboencifaaDoor
open Go Go.RowKit

/-- The state stands for the frame and the world; G: values of the frames behind, which last. -/
structure Sim (w0 : Home) (F0 D : Nat → Prop) (μ : Nat → Option Nat) (F : Nat → Prop) (G : List Value) (S : St) (n : Nat) (a : Act) (w : World) : Prop where
  defers : a.defers = []
  size : a.tmps.size = n
  env : ∀ s, Rep D μ F w (S.get s) (a.tmps.getD s undef)
  heap : HeapSim w0 F0 D μ F S.obj w
  ids : ∀ i, D i → i < S.nx
  ghl : S.gh.length = G.length
  gh : ∀ i (h : i < S.gh.length), Rep D μ F w S.gh[i] (G.getD i undef)

theorem St.get_fin (S : St) (dst : Option Tmp) (r : PV) (e : Eff) (s : Nat) : (S.fin dst r e).get s = if dst = some s then r else S.get s := by
  unfold St.fin St.get
  cases dst with
  | none => rfl
  | some d =>
    simp only [lk, Option.some.injEq]
    split <;> rfl

theorem tmps_put (a : Act) (dst : Option Tmp) (v : Value) (s : Nat) (h : ∀ d, dst = some d → d < a.tmps.size) : (a.put dst v).tmps.getD s undef = if dst = some s then v else a.tmps.getD s undef := by
  simp only [Array.getD_eq_getD_getElem?, Act.put_get]
  by_cases hd : dst = some s
  · rw [if_pos ⟨hd, h s hd⟩, if_pos hd]; rfl
  · rw [if_neg (fun h => hd h.1), if_neg hd]

/-- What the guard of an operation says. -/
def gWant (ops : Array Oper) (S : St) (o : Oper) : Bool → Prop
  | true => o.guard = none ∨ ∃ j want d, o.guard = some (j, want) ∧ (ops[j]?).bind (·.dst) = some d ∧ S.get d = .atom (.bool want)
  | false => ∃ j want d, o.guard = some (j, want) ∧ (ops[j]?).bind (·.dst) = some d ∧ (S.get d = .atom (.bool (!want)) ∨ ∃ vs, S.get d = .atom (.tuple vs))

theorem gWant_true {D : Nat → Prop} {μ : Nat → Option Nat} {F : Nat → Prop} {w : World} {ops : Array Oper} {S : St} {o : Oper} {a : Act} (h : gWant ops S o true) (he : ∀ s, s ∈ o.looksAt ops → Rep D μ F w (S.get s) (a.tmps.getD s undef)) :
    Region.wanted o (yielded ops a.tmps) = true := by
  rcases h with h | ⟨j, want, d, hg, hd, hs⟩
  · unfold Region.wanted; rw [h]
  · have hm : d ∈ o.looksAt ops := List.mem_append_right _ (by simp [hg, hd])
    have hv := ev_atom (he d hm) hs
    unfold Region.wanted
    rw [hg]
    have : yielded ops a.tmps j = some want := by
      unfold yielded
      rw [hd]
      simp only [Option.bind_some]
      rw [Array.getD_eq_getD_getElem?] at hv
      cases ht : a.tmps[d]? with
      | none => rw [ht] at hv; cases hv
      | some u => rw [ht] at hv; simp only [Option.getD_some] at hv; rw [hv]
    simp [this]
theorem gWant_false {D : Nat → Prop} {μ : Nat → Option Nat} {F : Nat → Prop} {w : World} {ops : Array Oper} {S : St} {o : Oper} {a : Act} (h : gWant ops S o false) (he : ∀ s, s ∈ o.looksAt ops → Rep D μ F w (S.get s) (a.tmps.getD s undef)) :
    Region.wanted o (yielded ops a.tmps) = false := by
  obtain ⟨j, want, d, hg, hd, hs⟩ := h
  have hm : d ∈ o.looksAt ops := List.mem_append_right _ (by simp [hg, hd])
  unfold Region.wanted
  rw [hg]
  have : yielded ops a.tmps j ≠ some want := by
    unfold yielded
    rw [hd]
    simp only [Option.bind_some]
    rcases hs with hs | ⟨vs, hs⟩
    · have hv := ev_atom (he d hm) hs
      rw [Array.getD_eq_getD_getElem?] at hv
      cases ht : a.tmps[d]? with
      | none => simp
      | some u => rw [ht] at hv; simp only [Option.getD_some] at hv; subst hv; cases want <;> simp
    · have hv := ev_atom (he d hm) hs
      rw [Array.getD_eq_getD_getElem?] at hv
      cases ht : a.tmps[d]? with
      | none => simp
      | some u => rw [ht] at hv; simp only [Option.getD_some] at hv; subst hv; simp
  simpa using this

def vGuard (ops : Array Oper) (S : St) (o : Oper) (run skip : Prop) : Prop :=
  match o.guard with
  | none => run
  | some (j, want) => match (ops[j]?).bind (·.dst) with
    | some d => match S.get d with
      | .atom (.bool b) => (b = want → run) ∧ (b = (!want) → skip)
      | .atom (.tuple _) => skip
      | _ => False
    | none => False
theorem vGuard_cases {ops : Array Oper} {S : St} {o : Oper} {run skip : Prop} (h : vGuard ops S o run skip) : (gWant ops S o true ∧ run) ∨ (gWant ops S o false ∧ skip) := by
  unfold vGuard at h
  cases hg : o.guard with
  | none => rw [hg] at h; exact .inl ⟨.inl hg, h⟩
  | some jw =>
    obtain ⟨j, want⟩ := jw
    rw [hg] at h
    simp only at h
    cases hd : (ops[j]?).bind (·.dst) with
    | none => rw [hd] at h; exact h.elim
    | some d =>
      rw [hd] at h
      simp only at h
      split at h
      · rename_i b hs
        by_cases hb : b = want
        · subst hb; exact .inl ⟨.inr ⟨j, b, d, hg, hd, hs⟩, h.1 rfl⟩
        · have hb' : b = !want := by cases b <;> cases want <;> simp_all
          subst hb'
          exact .inr ⟨⟨j, want, d, hg, hd, .inl hs⟩, h.2 rfl⟩
      · rename_i vs hs
        exact .inr ⟨⟨j, want, d, hg, hd, .inr ⟨vs, hs⟩⟩, h⟩
      · exact h.elim

/-- Operations in the order of the text. -/
def vOps (P : Program) (ops : Array Oper) : List Oper → St → (St → Prop) → Prop
  | [], S, K => K S
  | o :: rest, S, K => vGuard ops S o (∃ r e, SoundI P o.op S r e ∧ vOps P ops rest (S.fin o.dst r e) K) (vOps P ops rest (S.fin o.dst (.atom undef) e0) K)

section
variable {P : Program} {w0 : Home} {F0 D : Nat → Prop} {μ : Nat → Option Nat} {F : Nat → Prop} {G : List Value} {S : St} {n : Nat} {a : Act} {w : World}

theorem Sim.after (hS : Sim w0 F0 D μ F G S n a w) {o : Oper} (hd : ∀ d, o.dst = some d → d < n) {r : PV} {e : Eff} {v : Value} {w' : World} {D' : Nat → Prop} {μ' : Nat → Option Nat} {F' : Nat → Prop} (h1 : Rep D' μ' F' w' r v) (h2 : HeapSim w0 F0 D' μ' F' (e.app S.nx S.obj) w')
    (h3 : Stay F w w') (h4 : ∀ i, D i → D' i ∧ μ' i = μ i) (h5 : ∀ b, F b → F' b) (h6 : ∀ i, D' i → D i ∨ (S.nx ≤ i ∧ i < S.nx + e.add.length)) : Sim w0 F0 D' μ' F' G (S.fin o.dst r e) n (a.put o.dst v) w' := by
  refine ⟨by rw [Act.put_def]; exact hS.defers, by rw [Act.put_size]; exact hS.size, fun s => ?_, by rw [St.obj_fin]; exact h2, fun i hi => ?_, hS.ghl, fun i hi => (hS.gh i hi).stay h3 h4 h5⟩
  · rw [St.get_fin, tmps_put a o.dst v s (fun d hd' => by rw [hS.size]; exact hd d hd')]
    split
    · exact h1
    · exact (hS.env s).stay h3 h4 h5
  · show i < S.nx + e.add.length
    rcases h6 i hi with h | h
    · have := hS.ids i h; omega
    · exact h.2

theorem Sim.evs (hS : Sim w0 F0 D μ F G S n a w) (x : Operand) : Rep D μ F w (S.ev x) (a.eval x) := by
  cases x with
  | tmp t => exact hS.env t
  | const v => exact .atom v
  | global g => exact .junk _
  | func f => exact .fn f [] #[] rfl (fun i hi => by simp at hi)

theorem vOps_sound {ops : Array Oper} {Q : Exit → Act → World → Prop} {K : St → Prop} : ∀ (l : List Oper) (S : St) (D : Nat → Prop) (μ : Nat → Option Nat) (F : Nat → Prop) (a : Act) (w : World), (∀ o, o ∈ l → ∀ d, o.dst = some d → d < n) → vOps P ops l S K → Sim w0 F0 D μ F G S n a w →
    (∀ S' D' μ' F' a' w', K S' → Sim w0 F0 D' μ' F' G S' n a' w' → Q .normal a' w') → wpList P ops Q l a w
  | [], S, D, μ, F, a, w, _, h, hS, hQ => hQ S D μ F a w h hS
  | o :: rest, S, D, μ, F, a, w, hd, h, hS, hQ => by
    unfold wpList
    rcases vGuard_cases h with ⟨hg, r, e, hs, hr⟩ | ⟨hg, hr⟩
    · rw [if_pos (gWant_true hg (fun s _ => hS.env s))]
      refine .inl (hs o a w0 F0 D μ F w rfl hS.heap (fun x _ => hS.evs x) hS.ids _ Q fun v w' D' μ' F' h1 h2 h3 h4 h5 h6 => ?_)
      exact vOps_sound rest _ D' μ' F' _ w' (fun o' ho' => hd o' (List.mem_cons_of_mem _ ho')) hr (hS.after (hd o (List.mem_cons_self ..)) h1 h2 h3 h4 h5 h6) hQ
    · rw [if_neg (by rw [gWant_false hg (fun s _ => hS.env s)]; exact fun h => by cases h)]
      exact vOps_sound rest _ D μ F _ w (fun o' ho' => hd o' (List.mem_cons_of_mem _ ho')) hr
        (hS.after (e := e0) (hd o (List.mem_cons_self ..)) (.atom undef) (by rw [show e0.app S.nx S.obj = S.obj from Eff.app_e0 _ _ _]; exact hS.heap) (Stay.refl _ _) (fun _ h => ⟨h, rfl⟩) (fun _ h => h) (fun _ h => .inl h)) hQ

/-- The traces that operations leave: the first new number, how many, what was read, what was given up. -/
structure Tr where
  nx : Nat
  cnt : Nat
  rd : List Nat
  del : List Nat
  st : List Nat
def Eff.tr (e : Eff) (n : Nat) : Tr := ⟨n, e.add.length, e.rd, e.del, e.set.map (·.1)⟩

def vOpsT (P : Program) (ops : Array Oper) : List Oper → St → List Tr → (St → List Tr → Prop) → Prop
  | [], S, tr, K => K S tr
  | o :: rest, S, tr, K => vGuard ops S o (∃ r e, Sound P o.op S r e ∧ vOpsT P ops rest (S.fin o.dst r e) (tr ++ [e.tr S.nx]) K) (vOpsT P ops rest (S.fin o.dst (.atom undef) e0) (tr ++ [e0.tr S.nx]) K)

/-- A run of the text. -/
structure Run (P : Program) (ops : Array Oper) (l : List Oper) (st : Nat → St) (R : Nat → PV) (E : Nat → Eff) : Prop where
  next : ∀ k o, l[k]? = some o → st (k + 1) = (st k).fin o.dst (R k) (E k)
  doing : ∀ k o, l[k]? = some o → (gWant ops (st k) o true ∧ Sound P o.op (st k) (R k) (E k)) ∨ (gWant ops (st k) o false ∧ R k = .atom undef ∧ E k = e0)

theorem vOpsT_run {ops : Array Oper} {K : St → List Tr → Prop} : ∀ (l : List Oper) (S : St) (tr : List Tr), vOpsT P ops l S tr K →
    ∃ (st : Nat → St) (R : Nat → PV) (E : Nat → Eff), st 0 = S ∧ Run P ops l st R E ∧ K (st l.length) (tr ++ (List.range l.length).map fun k => (E k).tr (st k).nx)
  | [], S, tr, h => ⟨fun _ => S, fun _ => .junk, fun _ => e0, rfl, ⟨fun k o h => by simp at h, fun k o h => by simp at h⟩, by simpa [vOpsT] using h⟩
  | o :: rest, S, tr, h => by
    have go : ∀ (r : PV) (e : Eff), ((gWant ops S o true ∧ Sound P o.op S r e) ∨ (gWant ops S o false ∧ r = .atom undef ∧ e = e0)) → vOpsT P ops rest (S.fin o.dst r e) (tr ++ [e.tr S.nx]) K →
        ∃ (st : Nat → St) (R : Nat → PV) (E : Nat → Eff), st 0 = S ∧ Run P ops (o :: rest) st R E ∧ K (st (o :: rest).length) (tr ++ (List.range (o :: rest).length).map fun k => (E k).tr (st k).nx) := by
      intro r e hdo hr
      obtain ⟨st, R, E, h0, hrun, hK⟩ := vOpsT_run rest _ _ hr
      refine ⟨fun k => match k with | 0 => S | k + 1 => st k, fun k => match k with | 0 => r | k + 1 => R k, fun k => match k with | 0 => e | k + 1 => E k, rfl, ⟨fun k o' ho' => ?_, fun k o' ho' => ?_⟩, ?_⟩
      · cases k with
        | zero => cases ho'; exact h0
        | succ k => exact hrun.next k o' (by simpa using ho')
      · cases k with
        | zero => cases ho'; exact hdo
        | succ k => exact hrun.doing k o' (by simpa using ho')
      · simpa [List.range_succ_eq_map, Function.comp_def] using hK
    rcases vGuard_cases h with ⟨hg, r, e, hs, hr⟩ | ⟨hg, hr⟩
    · exact go r e (.inl ⟨hg, hs⟩) hr
    · exact go (.atom undef) e0 (.inr ⟨hg, rfl, rfl⟩) hr

/-- What operations read and give up agrees with every order that is allowed. -/
def trOk (nx0 : Nat) (Dl : List (List Nat)) (tr : List Tr) : Bool :=
  (List.range tr.length).all fun k => match tr[k]? with
    | some x =>
      ((x.rd ++ x.del ++ x.st).all fun i => decide (i < nx0) || (growD Dl k).any fun j => match tr[j]? with | some y => decide (y.nx ≤ i) && decide (i < y.nx + y.cnt) | none => false) &&
      ((List.range tr.length).all fun m => match tr[m]? with
        | some y => (y.del.all fun i => (m == k || !x.rd.contains i || (growD Dl m).contains k || (growD Dl k).contains m) && !x.st.contains i) &&
            (m == k || y.st.all fun i => !(x.rd.contains i || x.st.contains i) || (growD Dl m).contains k || (growD Dl k).contains m)
        | none => true)
    | none => true
end
end Go.Proofs.YtfnkciboencifaaDoor

