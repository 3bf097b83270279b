/-
  The clean machine: a state stands for a frame and a world; regions, drawn and not drawn.
-/
import Derived.Test.YtfnkciboencifaaDoorBV10
import Derived.Deep.LoopGhost
set_option linter.all false
namespace Go.Proofs.YtfnkciboencifaaDoor
open Go Go.RowKit
structure Sim (w0 : Home) (F0 D : Nat → Prop) (μ : Nat → Option Nat) (F : Nat → Prop) (G : List Value) (S : St) (n : Nat) (a : Act) (w : World) : Prop where
  defers : a.defers = []
  size : a.tmps.size = n
  env : ∀ s, Rep D μ F w (S.get s) (a.tmps.getD s undef)
  heap : HeapSim w0 F0 D μ F S.obj w
  ids : ∀ i, D i → i < S.nx
  ghl : S.gh.length = G.length
  gh : ∀ i (h : i < S.gh.length), Rep D μ F w S.gh[i] (G.getD i undef)
theorem St.get_fin (S : St) (dst : Option Tmp) (r : PV) (e : Eff) (s : Nat) : (S.fin dst r e).get s = if dst = some s then r else S.get s := by
  unfold St.fin St.get
  cases dst with
  | none => rfl
  | some d =>
    simp only [lk, Option.some.injEq]
    split <;> rfl
theorem tmps_put (a : Act) (dst : Option Tmp) (v : Value) (s : Nat) (h : ∀ d, dst = some d → d < a.tmps.size) : (a.put dst v).tmps.getD s undef = if dst = some s then v else a.tmps.getD s undef := by
  simp only [Array.getD_eq_getD_getElem?, Act.put_get]
  by_cases hd : dst = some s
  · rw [if_pos ⟨hd, h s hd⟩, if_pos hd]; rfl
  · rw [if_neg (fun h => hd h.1), if_neg hd]
def gWant (ops : Array Oper) (S : St) (o : Oper) : Bool → Prop
  | true => o.guard = none ∨ ∃ j want d, o.guard = some (j, want) ∧ (ops[j]?).bind (·.dst) = some d ∧ S.get d = .atom (.bool want)
  | false => ∃ j want d, o.guard = some (j, want) ∧ (ops[j]?).bind (·.dst) = some d ∧ (S.get d = .atom (.bool (!want)) ∨ ∃ vs, S.get d = .atom (.tuple vs))
theorem gWant_true {D : Nat → Prop} {μ : Nat → Option Nat} {F : Nat → Prop} {w : World} {ops : Array Oper} {S : St} {o : Oper} {a : Act} (h : gWant ops S o true) (he : ∀ s, s ∈ o.looksAt ops → Rep D μ F w (S.get s) (a.tmps.getD s undef)) :
    Region.wanted o (yielded ops a.tmps) = true := by
  rcases h with h | ⟨j, want, d, hg, hd, hs⟩
  · unfold Region.wanted; rw [h]
  · have hm : d ∈ o.looksAt ops := List.mem_append_right _ (by simp [hg, hd])
    have hv := ev_atom (he d hm) hs
    unfold Region.wanted
    rw [hg]
    have : yielded ops a.tmps j = some want := by
      unfold yielded
      rw [hd]
      simp only [Option.bind_some]
      rw [Array.getD_eq_getD_getElem?] at hv
      cases ht : a.tmps[d]? with
      | none => rw [ht] at hv; cases hv
      | some u => rw [ht] at hv; simp only [Option.getD_some] at hv; rw [hv]
    simp [this]
theorem gWant_false {D : Nat → Prop} {μ : Nat → Option Nat} {F : Nat → Prop} {w : World} {ops : Array Oper} {S : St} {o : Oper} {a : Act} (h : gWant ops S o false) (he : ∀ s, s ∈ o.looksAt ops → Rep D μ F w (S.get s) (a.tmps.getD s undef)) :
    Region.wanted o (yielded ops a.tmps) = false := by
  obtain ⟨j, want, d, hg, hd, hs⟩ := h
  have hm : d ∈ o.looksAt ops := List.mem_append_right _ (by simp [hg, hd])
  unfold Region.wanted
  rw [hg]
  have : yielded ops a.tmps j ≠ some want := by
    unfold yielded
    rw [hd]
    simp only [Option.bind_some]
    rcases hs with hs | ⟨vs, hs⟩
    · have hv := ev_atom (he d hm) hs
      rw [Array.getD_eq_getD_getElem?] at hv
      cases ht : a.tmps[d]? with
      | none => simp
      | some u => rw [ht] at hv; simp only [Option.getD_some] at hv; subst hv; cases want <;> simp
    · have hv := ev_atom (he d hm) hs
      rw [Array.getD_eq_getD_getElem?] at hv
      cases ht : a.tmps[d]? with
      | none => simp
      | some u => rw [ht] at hv; simp only [Option.getD_some] at hv; subst hv; simp
  simpa using this
def vGuard (ops : Array Oper) (S : St) (o : Oper) (run skip : Prop) : Prop :=
  match o.guard with
  | none => run
  | some (j, want) => match (ops[j]?).bind (·.dst) with
    | some d => match S.get d with
      | .atom (.bool b) => (b = want → run) ∧ (b = (!want) → skip)
      | .atom (.tuple _) => skip
      | _ => False
    | none => False
theorem vGuard_cases {ops : Array Oper} {S : St} {o : Oper} {run skip : Prop} (h : vGuard ops S o run skip) : (gWant ops S o true ∧ run) ∨ (gWant ops S o false ∧ skip) := by
  unfold vGuard at h
  cases hg : o.guard with
  | none => rw [hg] at h; exact .inl ⟨.inl hg, h⟩
  | some jw =>
    obtain ⟨j, want⟩ := jw
    rw [hg] at h
    simp only at h
    cases hd : (ops[j]?).bind (·.dst) with
    | none => rw [hd] at h; exact h.elim
    | some d =>
      rw [hd] at h
      simp only at h
      split at h
      · rename_i b hs
        by_cases hb : b = want
        · subst hb; exact .inl ⟨.inr ⟨j, b, d, hg, hd, hs⟩, h.1 rfl⟩
        · have hb' : b = !want := by cases b <;> cases want <;> simp_all
          subst hb'
          exact .inr ⟨⟨j, want, d, hg, hd, .inl hs⟩, h.2 rfl⟩
      · rename_i vs hs
        exact .inr ⟨⟨j, want, d, hg, hd, .inr ⟨vs, hs⟩⟩, h⟩
      · exact h.elim
def vOps (P : Program) (ops : Array Oper) : List Oper → St → (St → Prop) → Prop
  | [], S, K => K S
  | o :: rest, S, K => vGuard ops S o (∃ r e, SoundI P o.op S r e ∧ vOps P ops rest (S.fin o.dst r e) K) (vOps P ops rest (S.fin o.dst (.atom undef) e0) K)
section
variable {P : Program} {w0 : Home} {F0 D : Nat → Prop} {μ : Nat → Option Nat} {F : Nat → Prop} {G : List Value} {S : St} {n : Nat} {a : Act} {w : World}
theorem Sim.after (hS : Sim w0 F0 D μ F G S n a w) {o : Oper} (hd : ∀ d, o.dst = some d → d < n) {r : PV} {e : Eff} {v : Value} {w' : World} {D' : Nat → Prop} {μ' : Nat → Option Nat} {F' : Nat → Prop} (h1 : Rep D' μ' F' w' r v) (h2 : HeapSim w0 F0 D' μ' F' (e.app S.nx S.obj) w')
    (h3 : Stay F w w') (h4 : ∀ i, D i → D' i ∧ μ' i = μ i) (h5 : ∀ b, F b → F' b) (h6 : ∀ i, D' i → D i ∨ (S.nx ≤ i ∧ i < S.nx + e.add.length)) : Sim w0 F0 D' μ' F' G (S.fin o.dst r e) n (a.put o.dst v) w' := by
  refine ⟨by rw [Act.put_def]; exact hS.defers, by rw [Act.put_size]; exact hS.size, fun s => ?_, by rw [St.obj_fin]; exact h2, fun i hi => ?_, hS.ghl, fun i hi => (hS.gh i hi).stay h3 h4 h5⟩
  · rw [St.get_fin, tmps_put a o.dst v s (fun d hd' => by rw [hS.size]; exact hd d hd')]
    split
    · exact h1
    · exact (hS.env s).stay h3 h4 h5
  · show i < S.nx + e.add.length
    rcases h6 i hi with h | h
    · have := hS.ids i h; omega
    · exact h.2
theorem Sim.evs (hS : Sim w0 F0 D μ F G S n a w) (x : Operand) : Rep D μ F w (S.ev x) (a.eval x) := by
  cases x with
  | tmp t => exact hS.env t
  | const v => exact .atom v
  | global g => exact .junk _
  | func f => exact .fn f [] #[] rfl (fun i hi => by simp at hi)
theorem vOps_sound {ops : Array Oper} {Q : Exit → Act → World → Prop} {K : St → Prop} : ∀ (l : List Oper) (S : St) (D : Nat → Prop) (μ : Nat → Option Nat) (F : Nat → Prop) (a : Act) (w : World), (∀ o, o ∈ l → ∀ d, o.dst = some d → d < n) → vOps P ops l S K → Sim w0 F0 D μ F G S n a w →
    (∀ S' D' μ' F' a' w', K S' → Sim w0 F0 D' μ' F' G S' n a' w' → Q .normal a' w') → wpList P ops Q l a w
  | [], S, D, μ, F, a, w, _, h, hS, hQ => hQ S D μ F a w h hS
  | o :: rest, S, D, μ, F, a, w, hd, h, hS, hQ => by
    unfold wpList
    rcases vGuard_cases h with ⟨hg, r, e, hs, hr⟩ | ⟨hg, hr⟩
    · rw [if_pos (gWant_true hg (fun s _ => hS.env s))]
      refine .inl (hs o a w0 F0 D μ F w rfl hS.heap (fun x _ => hS.evs x) hS.ids _ Q fun v w' D' μ' F' h1 h2 h3 h4 h5 h6 => ?_)
      exact vOps_sound rest _ D' μ' F' _ w' (fun o' ho' => hd o' (List.mem_cons_of_mem _ ho')) hr (hS.after (hd o (List.mem_cons_self ..)) h1 h2 h3 h4 h5 h6) hQ
    · rw [if_neg (by rw [gWant_false hg (fun s _ => hS.env s)]; exact fun h => by cases h)]
      exact vOps_sound rest _ D μ F _ w (fun o' ho' => hd o' (List.mem_cons_of_mem _ ho')) hr
        (hS.after (e := e0) (hd o (List.mem_cons_self ..)) (.atom undef) (by rw [show e0.app S.nx S.obj = S.obj from Eff.app_e0 _ _ _]; exact hS.heap) (Stay.refl _ _) (fun _ h => ⟨h, rfl⟩) (fun _ h => h) (fun _ h => .inl h)) hQ
structure Tr where
  nx : Nat
  cnt : Nat
  rd : List Nat
  del : List Nat
  st : List Nat
def Eff.tr (e : Eff) (n : Nat) : Tr := ⟨n, e.add.length, e.rd, e.del, e.set.map (·.1)⟩
def vOpsT (P : Program) (ops : Array Oper) : List Oper → St → List Tr → (St → List Tr → Prop) → Prop
  | [], S, tr, K => K S tr
  | o :: rest, S, tr, K => vGuard ops S o (∃ r e, Sound P o.op S r e ∧ vOpsT P ops rest (S.fin o.dst r e) (tr ++ [e.tr S.nx]) K) (vOpsT P ops rest (S.fin o.dst (.atom undef) e0) (tr ++ [e0.tr S.nx]) K)
structure Run (P : Program) (ops : Array Oper) (l : List Oper) (st : Nat → St) (R : Nat → PV) (E : Nat → Eff) : Prop where
  next : ∀ k o, l[k]? = some o → st (k + 1) = (st k).fin o.dst (R k) (E k)
  doing : ∀ k o, l[k]? = some o → (gWant ops (st k) o true ∧ Sound P o.op (st k) (R k) (E k)) ∨ (gWant ops (st k) o false ∧ R k = .atom undef ∧ E k = e0)
theorem vOpsT_run {ops : Array Oper} {K : St → List Tr → Prop} : ∀ (l : List Oper) (S : St) (tr : List Tr), vOpsT P ops l S tr K →
    ∃ (st : Nat → St) (R : Nat → PV) (E : Nat → Eff), st 0 = S ∧ Run P ops l st R E ∧ K (st l.length) (tr ++ (List.range l.length).map fun k => (E k).tr (st k).nx)
  | [], S, tr, h => ⟨fun _ => S, fun _ => .junk, fun _ => e0, rfl, ⟨fun k o h => by simp at h, fun k o h => by simp at h⟩, by simpa [vOpsT] using h⟩
  | o :: rest, S, tr, h => by
    have go : ∀ (r : PV) (e : Eff), ((gWant ops S o true ∧ Sound P o.op S r e) ∨ (gWant ops S o false ∧ r = .atom undef ∧ e = e0)) → vOpsT P ops rest (S.fin o.dst r e) (tr ++ [e.tr S.nx]) K →
        ∃ (st : Nat → St) (R : Nat → PV) (E : Nat → Eff), st 0 = S ∧ Run P ops (o :: rest) st R E ∧ K (st (o :: rest).length) (tr ++ (List.range (o :: rest).length).map fun k => (E k).tr (st k).nx) := by
      intro r e hdo hr
      obtain ⟨st, R, E, h0, hrun, hK⟩ := vOpsT_run rest _ _ hr
      refine ⟨fun k => match k with | 0 => S | k + 1 => st k, fun k => match k with | 0 => r | k + 1 => R k, fun k => match k with | 0 => e | k + 1 => E k, rfl, ⟨fun k o' ho' => ?_, fun k o' ho' => ?_⟩, ?_⟩
      · cases k with
        | zero => cases ho'; exact h0
        | succ k => exact hrun.next k o' (by simpa using ho')
      · cases k with
        | zero => cases ho'; exact hdo
        | succ k => exact hrun.doing k o' (by simpa using ho')
      · simpa [List.range_succ_eq_map, Function.comp_def] using hK
    rcases vGuard_cases h with ⟨hg, r, e, hs, hr⟩ | ⟨hg, hr⟩
    · exact go r e (.inl ⟨hg, hs⟩) hr
    · exact go (.atom undef) e0 (.inr ⟨hg, rfl, rfl⟩) hr
def trOk (nx0 : Nat) (Dl : List (List Nat)) (tr : List Tr) : Bool :=
  (List.range tr.length).all fun k => match tr[k]? with
    | some x =>
      ((x.rd ++ x.del ++ x.st).all fun i => decide (i < nx0) || (growD Dl k).any fun j => match tr[j]? with | some y => decide (y.nx ≤ i) && decide (i < y.nx + y.cnt) | none => false) &&
      ((List.range tr.length).all fun m => match tr[m]? with
        | some y => (y.del.all fun i => (m == k || !x.rd.contains i || (growD Dl m).contains k || (growD Dl k).contains m) && !x.st.contains i) &&
            (m == k || y.st.all fun i => !(x.rd.contains i || x.st.contains i) || (growD Dl m).contains k || (growD Dl k).contains m)
        | none => true)
    | none => true
end
end Go.Proofs.YtfnkciboencifaaDoor
set_option linter.all false
namespace Go.Proofs.YtfnkciboencifaaDoor
open Go Go.RowKit
open Classical in
noncomputable def envL (ops : Array Oper) (n0 : Nat) (S : St) (R : Nat → PV) (L : Nat → Prop) (s : Nat) : PV := if h : ∃ k, L k ∧ k < n0 ∧ dstAt ops k = some s then R h.choose else S.get s
open Classical in
noncomputable def lastS (E : Nat → Eff) (L : Nat → Prop) (i : Nat) : Nat → Option AO
  | 0 => none
  | k + 1 => if L k ∧ (lk (E k).set i).isSome = true then lk (E k).set i else lastS E L i k
open Classical in
noncomputable def objB (n0 : Nat) (S : St) (st : Nat → St) (E : Nat → Eff) (L : Nat → Prop) (i : Nat) : Option AO :=
  if h : ∃ k, L k ∧ k < n0 ∧ (st k).nx ≤ i ∧ i < (st k).nx + (E k).add.length then (E h.choose).add[i - (st h.choose).nx]? else S.obj i
open Classical in
noncomputable def objL (n0 : Nat) (S : St) (st : Nat → St) (E : Nat → Eff) (L : Nat → Prop) (i : Nat) : Option AO :=
  if ∃ m, L m ∧ m < n0 ∧ i ∈ (E m).del then none else match lastS E L i n0 with | some o => some o | none => objB n0 S st E L i
section
variable {P : Program} {ops : Array Oper} {n0 : Nat} {Dn : Nat → List Nat} {S : St} {st : Nat → St} {R : Nat → PV} {E : Nat → Eff} {L : Nat → Prop}
theorem envL_of (ok : GrowOk ops Dn n0) {k s : Nat} (h1 : L k) (h2 : k < n0) (h3 : dstAt ops k = some s) : envL ops n0 S R L s = R k := by
  have h : ∃ k, L k ∧ k < n0 ∧ dstAt ops k = some s := ⟨k, h1, h2, h3⟩
  unfold envL
  rw [dif_pos h, ok.apart _ _ _ h.choose_spec.2.1 h2 h.choose_spec.2.2 h3]
theorem envL_not {s : Nat} (h : ∀ k, L k → k < n0 → dstAt ops k ≠ some s) : envL ops n0 S R L s = S.get s := by
  unfold envL
  rw [dif_neg (fun ⟨k, h1, h2, h3⟩ => h k h1 h2 h3)]
structure NxOk (n0 : Nat) (S : St) (st : Nat → St) (E : Nat → Eff) : Prop where
  zero : (st 0).nx = S.nx
  succ : ∀ k, k < n0 → (st (k + 1)).nx = (st k).nx + (E k).add.length
theorem NxOk.mono (h : NxOk n0 S st E) : ∀ k j, j ≤ k → k ≤ n0 → (st j).nx ≤ (st k).nx
  | 0, j, h1, _ => by rw [show j = 0 by omega]; exact Nat.le_refl _
  | k + 1, j, h1, h2 => by
    rcases Nat.lt_or_ge j (k + 1) with hj | hj
    · have := h.mono k j (by omega) (by omega)
      have := h.succ k (by omega)
      omega
    · rw [show j = k + 1 by omega]; exact Nat.le_refl _
theorem NxOk.uniq (h : NxOk n0 S st E) {j k i : Nat} (hj : j < n0) (hk : k < n0) (h1 : (st j).nx ≤ i) (h2 : i < (st j).nx + (E j).add.length) (h3 : (st k).nx ≤ i) (h4 : i < (st k).nx + (E k).add.length) : j = k := by
  rcases Nat.lt_trichotomy j k with hlt | heq | hgt
  · have := h.mono k (j + 1) (by omega) (by omega)
    have := h.succ j hj
    omega
  · exact heq
  · have := h.mono j (k + 1) (by omega) (by omega)
    have := h.succ k hk
    omega
theorem NxOk.lo (h : NxOk n0 S st E) {k : Nat} (hk : k ≤ n0) : S.nx ≤ (st k).nx := by rw [← h.zero]; exact h.mono k 0 (by omega) hk
theorem lastS_none {i : Nat} : ∀ {n : Nat}, (∀ k, k < n → L k → lk (E k).set i = none) → lastS E L i n = none
  | 0, _ => rfl
  | n + 1, h => by
    unfold lastS
    rw [if_neg (fun hc => by rw [h n (by omega) hc.1] at hc; cases hc.2)]
    exact lastS_none fun k hk => h k (by omega)
theorem lastS_of {i k : Nat} {o : AO} : ∀ {n : Nat}, k < n → L k → lk (E k).set i = some o → (∀ m, k < m → m < n → L m → lk (E m).set i = none) → lastS E L i n = some o
  | 0, h, _, _, _ => by omega
  | n + 1, hk, h1, h2, h3 => by
    unfold lastS
    by_cases hkn : k = n
    · subst hkn; rw [if_pos ⟨h1, by rw [h2]; rfl⟩]; exact h2
    · rw [if_neg (fun hc => by rw [h3 n (by omega) (by omega) hc.1] at hc; cases hc.2)]
      exact lastS_of (by omega) h1 h2 fun m a b => h3 m a (by omega)
theorem lastS_congr {L L' : Nat → Prop} {i : Nat} : ∀ {n : Nat}, (∀ k, k < n → (lk (E k).set i).isSome = true → (L k ↔ L' k)) → lastS E L i n = lastS E L' i n
  | 0, _ => rfl
  | n + 1, h => by
    unfold lastS
    rw [lastS_congr (n := n) fun k hk => h k (by omega)]
    by_cases hs : (lk (E n).set i).isSome = true
    · have := h n (by omega) hs
      by_cases hL : L n
      · rw [if_pos ⟨hL, hs⟩, if_pos ⟨this.1 hL, hs⟩]
      · rw [if_neg (fun hc => hL hc.1), if_neg (fun hc => hL (this.2 hc.1))]
    · rw [if_neg (fun hc => hs hc.2), if_neg (fun hc => hs hc.2)]
theorem lk_keys {l : List (Nat × AO)} {i : Nat} : (lk l i).isSome = true ↔ i ∈ l.map (·.1) := by
  induction l with
  | nil => simp [lk]
  | cons p l ih =>
    obtain ⟨j, o⟩ := p
    simp only [lk, List.map_cons, List.mem_cons]
    by_cases h : j = i
    · simp [h]
    · simp only [if_neg h, ih]
      constructor
      · exact .inr
      · rintro (rfl | h2)
        · exact absurd rfl h
        · exact h2
theorem objB_new (hn : NxOk n0 S st E) {i k : Nat} (h1 : L k) (h2 : k < n0) (h3 : (st k).nx ≤ i) (h4 : i < (st k).nx + (E k).add.length) : objB n0 S st E L i = (E k).add[i - (st k).nx]? := by
  have hh : ∃ k, L k ∧ k < n0 ∧ (st k).nx ≤ i ∧ i < (st k).nx + (E k).add.length := ⟨k, h1, h2, h3, h4⟩
  unfold objB
  rw [dif_pos hh, hn.uniq hh.choose_spec.2.1 h2 hh.choose_spec.2.2.1 hh.choose_spec.2.2.2 h3 h4]
theorem objB_old {i : Nat} (h2 : ¬ ∃ k, L k ∧ k < n0 ∧ (st k).nx ≤ i ∧ i < (st k).nx + (E k).add.length) : objB n0 S st E L i = S.obj i := by
  unfold objB; rw [dif_neg h2]
theorem objL_del {i : Nat} (h : ∃ m, L m ∧ m < n0 ∧ i ∈ (E m).del) : objL n0 S st E L i = none := by unfold objL; rw [if_pos h]
theorem objL_set {i : Nat} {o : AO} (h : ¬ ∃ m, L m ∧ m < n0 ∧ i ∈ (E m).del) (h2 : lastS E L i n0 = some o) : objL n0 S st E L i = some o := by unfold objL; rw [if_neg h, h2]
theorem objL_base {i : Nat} (h : ¬ ∃ m, L m ∧ m < n0 ∧ i ∈ (E m).del) (h2 : lastS E L i n0 = none) : objL n0 S st E L i = objB n0 S st E L i := by unfold objL; rw [if_neg h, h2]
theorem objL_same {L L' : Nat → Prop} {i : Nat} (h : ¬ ∃ m, L m ∧ m < n0 ∧ i ∈ (E m).del) (h' : ¬ ∃ m, L' m ∧ m < n0 ∧ i ∈ (E m).del) (h2 : lastS E L i n0 = lastS E L' i n0) (h3 : objB n0 S st E L i = objB n0 S st E L' i) :
    objL n0 S st E L i = objL n0 S st E L' i := by unfold objL; rw [if_neg h, if_neg h', h2, h3]
structure TrSpec (n0 : Nat) (Dn : Nat → List Nat) (S : St) (st : Nat → St) (E : Nat → Eff) : Prop where
  new : ∀ k i, k < n0 → (i ∈ (E k).rd ∨ i ∈ (E k).del ∨ (lk (E k).set i).isSome = true) → i < S.nx ∨ ∃ j, j ∈ Dn k ∧ (st j).nx ≤ i ∧ i < (st j).nx + (E j).add.length
  del : ∀ k m i, k < n0 → m < n0 → m ≠ k → i ∈ (E m).del → i ∈ (E k).rd → k ∈ Dn m ∨ m ∈ Dn k
  ds : ∀ k m i, k < n0 → m < n0 → i ∈ (E m).del → lk (E k).set i = none
  set : ∀ k m i, k < n0 → m < n0 → m ≠ k → (lk (E m).set i).isSome = true → (i ∈ (E k).rd ∨ (lk (E k).set i).isSome = true) → k ∈ Dn m ∨ m ∈ Dn k
theorem trOk_spec {Dl : List (List Nat)} (hlt : ∀ m j, j ∈ growD Dl m → j < m) (h : trOk S.nx Dl ((List.range n0).map fun k => (E k).tr (st k).nx) = true) : TrSpec n0 (growD Dl) S st E := by
  unfold trOk at h
  simp only [List.length_map, List.length_range, List.all_eq_true, List.mem_range] at h
  have hget : ∀ k, k < n0 → ((List.range n0).map fun k => (E k).tr (st k).nx)[k]? = some ((E k).tr (st k).nx) := fun k hk => by simp [hk]
  have hpair : ∀ k m, k < n0 → m < n0 → ((E m).del.all fun i => (m == k || !(E k).rd.contains i || (growD Dl m).contains k || (growD Dl k).contains m) && !((E k).set.map (·.1)).contains i) = true ∧
      (m == k || ((E m).set.map (·.1)).all fun i => !((E k).rd.contains i || ((E k).set.map (·.1)).contains i) || (growD Dl m).contains k || (growD Dl k).contains m) = true := fun k m hk hm => by
    have h1 := h k hk
    rw [hget k hk] at h1
    simp only [Bool.and_eq_true, List.all_eq_true, List.mem_range] at h1
    have h2 := h1.2 m hm
    rw [hget m hm] at h2
    simp only [Eff.tr, Bool.and_eq_true] at h2
    exact h2
  refine ⟨fun k i hk hi => ?_, fun k m i hk hm hmk hi hr => ?_, fun k m i hk hm hi => ?_, fun k m i hk hm hmk hi hr => ?_⟩
  · have h1 := h k hk
    rw [hget k hk] at h1
    simp only [Bool.and_eq_true, List.all_eq_true] at h1
    have h2 := h1.1 i (by
      simp only [Eff.tr, List.mem_append]
      rcases hi with hi | hi | hi
      · exact .inl (.inl hi)
      · exact .inl (.inr hi)
      · exact .inr (lk_keys.1 hi))
    simp only [Bool.or_eq_true, decide_eq_true_eq, List.any_eq_true] at h2
    rcases h2 with h2 | ⟨j, hj, h2⟩
    · exact .inl h2
    · rw [hget j (by have := hlt k j hj; omega)] at h2
      simp only [Eff.tr, Bool.and_eq_true] at h2
      exact .inr ⟨j, hj, of_decide_eq_true h2.1, of_decide_eq_true h2.2⟩
  · have h3 := List.all_eq_true.1 (hpair k m hk hm).1 i hi
    rw [Bool.and_eq_true] at h3
    have h4 := h3.1
    simp only [Bool.or_eq_true, beq_iff_eq, Bool.not_eq_true', List.contains_eq_mem, decide_eq_true_eq, decide_eq_false_iff_not] at h4
    rcases h4 with ((h4 | h4) | h4) | h4
    · exact absurd h4 hmk
    · exact absurd hr h4
    · exact .inl h4
    · exact .inr h4
  · have h3 := List.all_eq_true.1 (hpair k m hk hm).1 i hi
    rw [Bool.and_eq_true] at h3
    have h4 := h3.2
    simp only [Bool.not_eq_true', List.contains_eq_mem, decide_eq_false_iff_not] at h4
    cases hl : lk (E k).set i with
    | none => rfl
    | some o => exact absurd (lk_keys.1 (by rw [hl]; rfl)) h4
  · have h3 := (hpair k m hk hm).2
    rw [Bool.or_eq_true] at h3
    have h4 := List.all_eq_true.1 (h3.resolve_left (by simpa using hmk)) i (lk_keys.1 hi)
    simp only [Bool.or_eq_true, Bool.not_eq_true', Bool.or_eq_false_iff, List.contains_eq_mem, decide_eq_true_eq, decide_eq_false_iff_not] at h4
    rcases h4 with (h4 | h4) | h4
    · rcases hr with hr | hr
      · exact absurd hr h4.1
      · exact absurd (lk_keys.1 hr) h4.2
    · exact .inl h4
    · exact .inr h4
theorem text_obj (hn : NxOk n0 S st E) (hs0 : st 0 = S) (ht : TrSpec n0 Dn S st E) (hlt : ∀ m j, j ∈ Dn m → j < m) (hnext : ∀ k, k < n0 → ∃ d r, st (k + 1) = (st k).fin d r (E k)) :
    ∀ k, k ≤ n0 → (st k).obj = objL n0 S st E (fun j => j < k)
  | 0, _ => by
    funext i
    rw [hs0, objL_base (fun ⟨m, h, _⟩ => by omega) (lastS_none fun k _ h => by omega), objB_old (fun ⟨m, h, _⟩ => by omega)]
  | k + 1, hk => by
    have ih := text_obj hn hs0 ht hlt hnext k (by omega)
    obtain ⟨d, r, hfin⟩ := hnext k (by omega)
    rw [hfin, St.obj_fin, ih]
    funext i
    unfold Eff.app
    by_cases hnew : (st k).nx ≤ i ∧ i < (st k).nx + (E k).add.length
    · rw [if_pos hnew]
      have early : ∀ m, m < k + 1 → m < n0 → ¬ (i ∈ (E m).del ∨ (lk (E m).set i).isSome = true) := fun m h1 h2 h3 => by
        rcases ht.new m i h2 (.inr h3) with h | ⟨j, hj, h4, h5⟩
        · have := hn.lo (k := k) (by omega); omega
        · have hjm := hlt m j hj
          have := hn.mono k (j + 1) (by omega) (by omega)
          have := hn.succ j (by omega)
          omega
      rw [objL_base (fun ⟨m, h1, h2, h3⟩ => early m h1 h2 (.inl h3)) (lastS_none fun m h1 h2 => by
        cases hl : lk (E m).set i with
        | none => rfl
        | some o => exact absurd (.inr (by rw [hl]; rfl)) (early m h2 h1)), objB_new hn (k := k) (by omega) (by omega) hnew.1 hnew.2]
    · rw [if_neg hnew]
      cases hset : lk (E k).set i with
      | some o =>
        simp only
        rw [objL_set (fun ⟨m, h1, h2, h3⟩ => by rw [ht.ds k m i (by omega) h2 h3] at hset; cases hset) (lastS_of (k := k) (by omega) (by omega) hset (fun m h1 _ h2 => by omega))]
      | none =>
        simp only
        by_cases hdel : i ∈ (E k).del
        · rw [if_pos hdel, objL_del ⟨k, by omega, by omega, hdel⟩]
        · rw [if_neg hdel]
          by_cases h1 : ∃ m, m < k ∧ m < n0 ∧ i ∈ (E m).del
          · obtain ⟨m, a1, a2, a3⟩ := h1
            rw [objL_del ⟨m, a1, a2, a3⟩, objL_del ⟨m, by omega, a2, a3⟩]
          · have h1' : ¬ ∃ m, m < k + 1 ∧ m < n0 ∧ i ∈ (E m).del := fun ⟨m, a1, a2, a3⟩ => by
              by_cases hm : m = k
              · subst hm; exact hdel a3
              · exact h1 ⟨m, by omega, a2, a3⟩
            refine objL_same h1 h1' (lastS_congr fun m _ hm => ?_) ?_
            · by_cases hmk : m = k
              · subst hmk; rw [hset] at hm; cases hm
              · omega
            · by_cases h2 : ∃ j, j < k ∧ j < n0 ∧ (st j).nx ≤ i ∧ i < (st j).nx + (E j).add.length
              · obtain ⟨j, b1, b2, b3, b4⟩ := h2
                rw [objB_new (L := fun j => j < k) hn (k := j) b1 b2 b3 b4, objB_new (L := fun j => j < k + 1) hn (k := j) (by omega) b2 b3 b4]
              · rw [objB_old (L := fun j => j < k) h2, objB_old (L := fun j => j < k + 1) (fun ⟨j, b1, b2, b3, b4⟩ => by
                  by_cases hj : j = k
                  · subst hj; exact hnew ⟨b3, b4⟩
                  · exact h2 ⟨j, by omega, b2, b3, b4⟩)]
theorem text_env (ok : GrowOk ops Dn n0) (hs0 : st 0 = S) (hnext : ∀ k, k < n0 → st (k + 1) = (st k).fin (dstAt ops k) (R k) (E k)) : ∀ k, k ≤ n0 → ∀ s, (st k).get s = envL ops n0 S R (fun j => j < k) s
  | 0, _, s => by rw [hs0, envL_not (fun j h => by omega)]
  | k + 1, hk, s => by
    have ih := text_env ok hs0 hnext k (by omega) s
    rw [hnext k (by omega), St.get_fin, ih]
    by_cases hd : dstAt ops k = some s
    · rw [if_pos hd, envL_of ok (k := k) (by omega) (by omega) hd]
    · rw [if_neg hd]
      by_cases h : ∃ j, j < k ∧ j < n0 ∧ dstAt ops j = some s
      · obtain ⟨j, a1, a2, a3⟩ := h
        rw [envL_of ok (k := j) a1 a2 a3, envL_of ok (k := j) (show j < k + 1 by omega) a2 a3]
      · rw [envL_not (fun j a1 a2 a3 => h ⟨j, a1, a2, a3⟩), envL_not (fun j a1 a2 a3 => by
          by_cases hj : j = k
          · subst hj; exact hd a3
          · exact h ⟨j, by omega, a2, a3⟩)]
theorem look_env (ok : GrowOk ops Dn n0) (hs0 : st 0 = S) (hnext : ∀ k, k < n0 → st (k + 1) = (st k).fin (dstAt ops k) (R k) (E k)) (hcl : ∀ m, L m → ∀ j, j ∈ Dn m → L j) {k : Nat} (hk : k < n0) (hLk : ¬ L k) (hd : ∀ j, j ∈ Dn k → L j) {o : Oper} (ho : ops[k]? = some o)
    {t : Nat} (ht : t ∈ o.looksAt ops) : envL ops n0 S R L t = (st k).get t := by
  rw [text_env ok hs0 hnext k (by omega)]
  by_cases h : ∃ j, j < k ∧ j < n0 ∧ dstAt ops j = some t
  · obtain ⟨j, a1, a2, a3⟩ := h
    rw [envL_of (L := fun j => j < k) ok (k := j) a1 a2 a3, envL_of ok (k := j) (hd j (ok.reads j k o a1 hk ho t a3 ht)) a2 a3]
  · rw [envL_not (L := fun j => j < k) (fun j a1 a2 a3 => h ⟨j, a1, a2, a3⟩), envL_not (fun j a1 a2 a3 => by
      rcases Nat.lt_trichotomy j k with hlt | heq | hgt
      · exact h ⟨j, hlt, a2, a3⟩
      · subst heq; exact hLk a1
      · exact hLk (hcl j a1 k (ok.over k j o hgt a2 ho t a3 ht)))]
theorem look_obj (hn : NxOk n0 S st E) (ht : TrSpec n0 Dn S st E) (hlt : ∀ m j, j ∈ Dn m → j < m) (hcl : ∀ m, L m → ∀ j, j ∈ Dn m → L j) {k : Nat} (hk : k < n0) (hLk : ¬ L k) (hd : ∀ j, j ∈ Dn k → L j) {i : Nat} (hi : i ∈ (E k).rd) :
    objL n0 S st E L i = objL n0 S st E (fun j => j < k) i := by
  by_cases h1 : ∃ m, m < k ∧ m < n0 ∧ i ∈ (E m).del
  · obtain ⟨m, a1, a2, a3⟩ := h1
    rw [objL_del (L := fun j => j < k) ⟨m, a1, a2, a3⟩]
    rcases ht.del k m i hk a2 (by omega) a3 hi with h | h
    · have := hlt m k h; omega
    · exact objL_del ⟨m, hd m h, a2, a3⟩
  · have h1' : ¬ ∃ m, L m ∧ m < n0 ∧ i ∈ (E m).del := fun ⟨m, a1, a2, a3⟩ => by
      by_cases hmk : m = k
      · subst hmk; exact hLk a1
      · rcases ht.del k m i hk a2 hmk a3 hi with h | h
        · exact hLk (hcl m a1 k h)
        · exact h1 ⟨m, hlt k m h, a2, a3⟩
    refine objL_same h1' h1 (lastS_congr fun m hm hs => ?_) ?_
    · by_cases hmk : m = k
      · subst hmk; exact ⟨fun h => absurd h hLk, fun h => absurd h (Nat.lt_irrefl _)⟩
      · rcases ht.set k m i hk hm hmk hs (.inl hi) with h | h
        · exact ⟨fun a => absurd (hcl m a k h) hLk, fun a => by have := hlt m k h; omega⟩
        · exact ⟨fun _ => hlt k m h, fun _ => hd m h⟩
    · rcases ht.new k i hk (.inl hi) with h | ⟨j, hj, b1, b2⟩
      · rw [objB_old (L := fun j => j < k) (fun ⟨j, _, a2, a3, a4⟩ => by have := hn.lo (k := j) (by omega); omega), objB_old (fun ⟨j, _, a2, a3, a4⟩ => by have := hn.lo (k := j) (by omega); omega)]
      · have hjk := hlt k j hj
        rw [objB_new (L := fun j => j < k) hn (k := j) hjk (by omega) b1 b2, objB_new hn (k := j) (hd j hj) (by omega) b1 b2]
theorem objL_more (hn : NxOk n0 S st E) (ht : TrSpec n0 Dn S st E) (hlt : ∀ m j, j ∈ Dn m → j < m) (hcl : ∀ m, L m → ∀ j, j ∈ Dn m → L j) {k : Nat} (hLk : ¬ L k) (hk : k < n0) {i : Nat} {o : AO} (h : objL n0 S st E (fun j => L j ∨ j = k) i = some o) : (E k).app (st k).nx (objL n0 S st E L) i = some o := by
  have hno : ¬ ∃ m, (L m ∨ m = k) ∧ m < n0 ∧ i ∈ (E m).del := fun hx => by rw [objL_del (L := fun j => L j ∨ j = k) hx] at h; cases h
  have hnoL : ¬ ∃ m, L m ∧ m < n0 ∧ i ∈ (E m).del := fun ⟨m, a, b, c⟩ => hno ⟨m, .inl a, b, c⟩
  have hnok : i ∉ (E k).del := fun hx => hno ⟨k, .inr rfl, hk, hx⟩
  unfold Eff.app
  by_cases hnew : (st k).nx ≤ i ∧ i < (st k).nx + (E k).add.length
  · rw [if_pos hnew]
    have hl : lastS E (fun j => L j ∨ j = k) i n0 = none := lastS_none fun m hm hLm => by
      cases hs : lk (E m).set i with
      | none => rfl
      | some o' =>
        exfalso
        rcases ht.new m i hm (.inr (.inr (by rw [hs]; rfl))) with h | ⟨j, hj, b1, b2⟩
        · have := hn.lo (k := k) (by omega); omega
        · have hjm := hlt m j hj
          have := hn.uniq (by omega) hk b1 b2 hnew.1 hnew.2
          subst this
          rcases hLm with hLm | rfl
          · exact hLk (hcl m hLm j hj)
          · omega
    rw [objL_base (L := fun j => L j ∨ j = k) hno hl, objB_new (L := fun j => L j ∨ j = k) hn (k := k) (.inr rfl) hk hnew.1 hnew.2] at h
    exact h
  · rw [if_neg hnew]
    cases hset : lk (E k).set i with
    | some o' =>
      have hl : lastS E (fun j => L j ∨ j = k) i n0 = some o' := lastS_of (k := k) hk (.inr rfl) hset fun m h1 h2 h3 => by
        cases hs : lk (E m).set i with
        | none => rfl
        | some o2 =>
          exfalso
          rcases h3 with h3 | h3
          · rcases ht.set k m i hk h2 (by omega) (by rw [hs]; rfl) (.inr (by rw [hset]; rfl)) with h4 | h4
            · exact hLk (hcl m h3 k h4)
            · have := hlt k m h4; omega
          · omega
      rw [objL_set (L := fun j => L j ∨ j = k) hno hl] at h
      exact h
    | none =>
      simp only
      rw [if_neg hnok, ← h]
      refine objL_same hnoL hno (lastS_congr fun m _ hs => ⟨.inl, fun hx => ?_⟩) ?_
      · rcases hx with hx | hx
        · exact hx
        · subst hx; rw [hset] at hs; cases hs
      · by_cases h2 : ∃ j, L j ∧ j < n0 ∧ (st j).nx ≤ i ∧ i < (st j).nx + (E j).add.length
        · obtain ⟨j, b1, b2, b3, b4⟩ := h2
          rw [objB_new (L := fun j => L j ∨ j = k) hn (k := j) (.inl b1) b2 b3 b4, objB_new hn b1 b2 b3 b4]
        · rw [objB_old (L := fun j => L j ∨ j = k) (fun ⟨j, b1, b2, b3, b4⟩ => by
            rcases b1 with b1 | b1
            · exact h2 ⟨j, b1, b2, b3, b4⟩
            · subst b1; exact hnew ⟨b3, b4⟩), objB_old h2]
end
section
variable {P : Program} {w0 : Home} {F0 : Nat → Prop} {G : List Value} {n : Nat}
theorem draw_sound {id : Nat} {l : List Oper} {Q : Exit → Act → World → Prop} {K : St → Prop} (n0 : Nat) (Dl : List (List Nat)) (hm : P.follows .mixedOrders = true) (hB : growB l.toArray Dl n0 = true) (hd : ∀ o, o ∈ l → ∀ d, o.dst = some d → d < n) {S : St} {D : Nat → Prop} {μ : Nat → Option Nat} {F : Nat → Prop} {a : Act} {w : World}
    (h : vOpsT P l.toArray (l.take n0) S [] (fun S1 tr => trOk S.nx Dl tr = true ∧ vOps P l.toArray (l.drop n0) S1 K)) (hS : Sim w0 F0 D μ F G S n a w)
    (hQ : ∀ S' D' μ' F' a' w', K S' → Sim w0 F0 D' μ' F' G S' n a' w' → Q .normal a' w') : (Code.region id l.toArray true).wp P Q a w := by
  obtain ⟨ok, hlt⟩ := growB_ok hB
  have hn0 : n0 ≤ l.length := by have := ok.size; simpa using this
  obtain ⟨st, R, E, hs0, hrun, htr, htail⟩ := vOpsT_run _ _ _ h
  have hlen : (l.take n0).length = n0 := by simp; omega
  rw [hlen] at htr htail
  simp only [List.nil_append] at htr
  have hget : ∀ k, k < n0 → ∃ o, l.toArray[k]? = some o ∧ (l.take n0)[k]? = some o ∧ o ∈ l := fun k hk => by
    have hkl : k < l.length := by omega
    exact ⟨l[k], by simp [hkl], by simp [hk, hkl], List.getElem_mem hkl⟩
  have hdst : ∀ k o, l.toArray[k]? = some o → dstAt l.toArray k = o.dst := fun k o ho => by simp [dstAt, ho]
  have hnext : ∀ k, k < n0 → st (k + 1) = (st k).fin (dstAt l.toArray k) (R k) (E k) := fun k hk => by
    obtain ⟨o, h1, h2, _⟩ := hget k hk
    rw [hdst k o h1]; exact hrun.next k o h2
  have hnx : NxOk n0 S st E := ⟨by rw [hs0], fun k hk => by rw [hnext k hk]; rfl⟩
  have hts := trOk_spec hlt htr
  have htobj := text_obj hnx hs0 hts hlt (fun k hk => ⟨_, _, hnext k hk⟩)
  have htenv := text_env ok hs0 hnext
  refine region_inv n0 Dl hm hB (fun L a' w' => ∃ (D' : Nat → Prop) (μ' : Nat → Option Nat) (F' : Nat → Prop), a'.defers = [] ∧ a'.tmps.size = n ∧ (∀ s, Rep D' μ' F' w' (envL l.toArray n0 S R L s) (a'.tmps.getD s undef)) ∧ HeapSim w0 F0 D' μ' F' (objL n0 S st E L) w' ∧
      (∀ i, D' i → i < S.nx ∨ ∃ k, L k ∧ k < n0 ∧ (st k).nx ≤ i ∧ i < (st k).nx + (E k).add.length) ∧ (∀ i (h : i < S.gh.length), Rep D' μ' F' w' S.gh[i] (G.getD i undef))) ?_ ?_ ?_
  · have hbd : Below w.heap.size w w.drew := Below.drew (Below.refl _ _)
    have hst : Stay F w w.drew := Stay.below hbd
    refine ⟨D, μ, F, hS.defers, hS.size, fun s => ?_, ?_, fun i hi => .inl (hS.ids i hi), fun i hi => (hS.gh i hi).stay hst (fun _ h => ⟨h, rfl⟩) (fun _ h => h)⟩
    · rw [envL_not (fun k h => h.elim)]; exact (hS.env s).stay hst (fun _ h => ⟨h, rfl⟩) (fun _ h => h)
    · have : objL n0 S st E (fun _ => False) = S.obj := by funext i; exact (objL_base (fun ⟨_, h, _⟩ => h) (lastS_none fun _ _ h => h.elim)).trans (objB_old (fun ⟨_, h, _⟩ => h))
      rw [this]; exact hS.heap.still hbd
  · intro L a' w' k hcl hLk hk hdk ⟨D', μ', F', i1, i2, i3, i4, i5, i6⟩ K' hK'
    obtain ⟨o, ho, ho2, hol⟩ := hget k hk
    have hod := hdst k o ho
    have hdn : ∀ d, o.dst = some d → d < a'.tmps.size := fun d hd' => by rw [i2]; exact hd o hol d hd'
    have hlook : ∀ t, t ∈ o.looksAt l.toArray → Rep D' μ' F' w' ((st k).get t) (a'.tmps.getD t undef) := fun t ht => by
      rw [← look_env ok hs0 hnext hcl hk hLk hdk ho ht]; exact i3 t
    have henv : ∀ {D2 : Nat → Prop} {μ2 : Nat → Option Nat} {F2 : Nat → Prop} {w2 : World} {v : Value}, Rep D2 μ2 F2 w2 (R k) v → Stay F' w' w2 → (∀ i, D' i → D2 i ∧ μ2 i = μ' i) → (∀ b, F' b → F2 b) →
        ∀ s, Rep D2 μ2 F2 w2 (envL l.toArray n0 S R (fun j => L j ∨ j = k) s) ((a'.put o.dst v).tmps.getD s undef) := fun hv hst hDD hFF s => by
      rw [tmps_put a' o.dst _ s hdn]
      by_cases hds : o.dst = some s
      · rw [if_pos hds, envL_of (L := fun j => L j ∨ j = k) ok (.inr rfl) hk (by rw [hod]; exact hds)]; exact hv
      · rw [if_neg hds]
        have : envL l.toArray n0 S R (fun j => L j ∨ j = k) s = envL l.toArray n0 S R L s := by
          by_cases h : ∃ j, L j ∧ j < n0 ∧ dstAt l.toArray j = some s
          · obtain ⟨j, a1, a2, a3⟩ := h
            rw [envL_of (L := fun j => L j ∨ j = k) ok (.inl a1) a2 a3, envL_of ok a1 a2 a3]
          · rw [envL_not (L := L) (fun j a1 a2 a3 => h ⟨j, a1, a2, a3⟩), envL_not (fun j a1 a2 a3 => by
              rcases a1 with a1 | a1
              · exact h ⟨j, a1, a2, a3⟩
              · subst a1; exact hds (by rw [← hod]; exact a3))]
        rw [this]
        exact (i3 s).stay hst hDD hFF
    unfold wpOp
    simp only [ho]
    rcases hrun.doing k o ho2 with ⟨hg, hsound⟩ | ⟨hg, hr, he⟩
    · rw [if_pos (gWant_true hg hlook)]
      refine .inl (hsound o a' w0 F0 D' μ' F' (objL n0 S st E L) w' rfl i4 (fun x hx => ?_) (fun i hi => ?_) (fun c hc hDc => ?_) _ Q fun v w2 D2 μ2 F2 r1 r2 r3 r4 r5 r6 => hK' _ _ ?_)
      · cases x with
        | tmp t => exact hlook t (List.mem_append_left _ (List.mem_filterMap.2 ⟨.tmp t, hx, rfl⟩))
        | const v => exact .atom v
        | global g => exact .junk _
        | func f => exact .fn f [] #[] rfl (fun i hi => by simp at hi)
      · rw [look_obj hnx hts hlt hcl hk hLk hdk hi, htobj k (by omega)]
      · rcases i5 _ hDc with h | ⟨j, hj, hjn, h1, h2⟩
        · have := hnx.lo (k := k) (by omega); omega
        · have := hnx.uniq hjn hk h1 h2 (by omega) (by omega)
          subst this; exact hLk hj
      · refine ⟨D2, μ2, F2, by rw [Act.put_def]; exact i1, by rw [Act.put_size]; exact i2, henv r1 r3 r4 r5, r2.drop (fun i ob hi => objL_more hnx hts hlt hcl hLk hk hi), fun i hi => ?_, fun i hi => (i6 i hi).stay r3 r4 r5⟩
        rcases r6 i hi with h | h
        · rcases i5 i h with h | ⟨j, b1, b2, b3, b4⟩
          · exact .inl h
          · exact .inr ⟨j, .inl b1, b2, b3, b4⟩
        · exact .inr ⟨k, .inr rfl, hk, h.1, h.2⟩
    · rw [if_neg (by rw [gWant_false hg hlook]; exact fun h => by cases h)]
      refine hK' _ _ ⟨D', μ', F', by rw [Act.put_def]; exact i1, by rw [Act.put_size]; exact i2, henv (by rw [hr]; exact .atom undef) (Stay.refl _ _) (fun _ h => ⟨h, rfl⟩) (fun _ h => h), ?_, fun i hi => ?_, i6⟩
      · refine i4.drop fun i ob hi => ?_
        have := objL_more (L := L) hnx hts hlt hcl hLk hk hi
        rw [he, show e0.app (st k).nx (objL n0 S st E L) = objL n0 S st E L from Eff.app_e0 _ _ _] at this
        exact this
      · rcases i5 i hi with h | ⟨j, b1, b2, b3, b4⟩
        · exact .inl h
        · exact .inr ⟨j, .inl b1, b2, b3, b4⟩
  · intro L a' w' hall hin ⟨D', μ', F', i1, i2, i3, i4, i5, i6⟩
    have hL : L = fun j => j < n0 := by funext j; exact propext ⟨hin j, hall j⟩
    subst hL
    refine vOps_sound (l.drop n0) (st n0) D' μ' F' a' w' (fun o ho => hd o (List.mem_of_mem_drop ho)) htail ⟨i1, i2, fun s => ?_, ?_, fun i hi => ?_, ?_, ?_⟩ hQ
    · rw [htenv n0 (Nat.le_refl _)]; exact i3 s
    · rw [htobj n0 (Nat.le_refl _)]; exact i4
    · rcases i5 i hi with h | ⟨k, _, hk, h1, h2⟩
      · exact Nat.lt_of_lt_of_le h (hnx.lo (Nat.le_refl _))
      · have := hnx.mono n0 (k + 1) (by omega) (Nat.le_refl _)
        have := hnx.succ k hk
        omega
    · have : ∀ k, k ≤ n0 → (st k).gh = S.gh := by
        intro k
        induction k with
        | zero => intro _; rw [hs0]
        | succ k ih => intro hk; rw [hnext k (by omega)]; exact ih (by omega)
      rw [this n0 (Nat.le_refl _)]; exact hS.ghl
    · have : ∀ k, k ≤ n0 → (st k).gh = S.gh := by
        intro k
        induction k with
        | zero => intro _; rw [hs0]
        | succ k ih => intro hk; rw [hnext k (by omega)]; exact ih (by omega)
      intro i hi
      rw [gl (this n0 (Nat.le_refl _)) hi]; exact i6 i _
end
end Go.Proofs.YtfnkciboencifaaDoor
set_option linter.all false
namespace Go.Proofs.YtfnkciboencifaaDoor
open Go Go.RowKit
def Tri (P : Program) (n : Nat) (c : Code) (S : St) (Q : Exit → St → Prop) : Prop :=
  ∀ (w0 : Home) (F0 D : Nat → Prop) (μ : Nat → Option Nat) (F : Nat → Prop) (G : List Value) (a : Act) (w : World), Sim w0 F0 D μ F G S n a w →
    c.wp P (fun e a' w' => ∃ S' D' μ' F', Q e S' ∧ Sim w0 F0 D' μ' F' G S' n a' w') a w
section
variable {P : Program} {n : Nat} {S : St} {Q : Exit → St → Prop}
theorem Tri.mono {c : Code} {Q' : Exit → St → Prop} (h : Tri P n c S Q') (hq : ∀ e S', Q' e S' → Q e S') : Tri P n c S Q := fun w0 F0 D μ F G a w hS =>
  wp_mono (h w0 F0 D μ F G a w hS) fun e a' w' ⟨S', D', μ', F', h1, h2⟩ => ⟨S', D', μ', F', hq e S' h1, h2⟩
theorem Tri.skip (h : Q .normal S) : Tri P n .skip S Q := fun _ _ D μ F _ _ _ hS => wp_skip ⟨S, D, μ, F, h, hS⟩
theorem Tri.ret (h : Q .ret S) : Tri P n .ret S Q := fun _ _ D μ F _ _ _ hS => wp_ret ⟨S, D, μ, F, h, hS⟩
theorem Tri.exit {id : Nat} (h : Q (.exit id) S) : Tri P n (.exit id) S Q := fun _ _ D μ F _ _ _ hS => wp_exit ⟨S, D, μ, F, h, hS⟩
def thenQ (next : St → Prop) (Q : Exit → St → Prop) : Exit → St → Prop
  | .normal, S => next S
  | e, S => Q e S
theorem Tri.seq {x y : Code} (h : Tri P n x S (thenQ (fun S' => Tri P n y S' Q) Q)) : Tri P n (.seq x y) S Q := fun w0 F0 D μ F G a w hS => by
  refine wp_seq (wp_mono (h w0 F0 D μ F G a w hS) fun e a' w' ⟨S', D', μ', F', h1, h2⟩ => ?_)
  cases e with
  | normal => exact h1 w0 F0 D' μ' F' G a' w' h2
  | exit id => exact ⟨S', D', μ', F', h1, h2⟩
  | goto l => exact ⟨S', D', μ', F', h1, h2⟩
  | ret => exact ⟨S', D', μ', F', h1, h2⟩
  | panic ch => exact ⟨S', D', μ', F', h1, h2⟩
  | outgrown => exact ⟨S', D', μ', F', h1, h2⟩
theorem Tri.cond {c : Operand} {x y : Code} {t : Bool} (hc : S.ev c = .atom (.bool t)) (ht : t = true → Tri P n x S Q) (hf : t = false → Tri P n y S Q) : Tri P n (.cond c x y) S Q := fun w0 F0 D μ F G a w hS =>
  wp_cond_split (ev_atom (hS.evs c) hc) (fun h => ht h w0 F0 D μ F G a w hS) (fun h => hf h w0 F0 D μ F G a w hS)
def blockQ (id : Nat) (Q : Exit → St → Prop) : Exit → St → Prop
  | .exit id', S => if id' = id then Q .normal S else Q (.exit id') S
  | e, S => Q e S
theorem Tri.block {id : Nat} {c : Code} (h : Tri P n c S (blockQ id Q)) : Tri P n (.block id c) S Q := fun w0 F0 D μ F G a w hS => by
  refine wp_block (wp_mono (h w0 F0 D μ F G a w hS) fun e a' w' ⟨S', D', μ', F', h1, h2⟩ => ?_)
  cases e with
  | exit id' =>
    have h1' : (if id' = id then Q .normal S' else Q (.exit id') S') := h1
    show (if id' = id then (∃ S' D' μ' F', Q .normal S' ∧ Sim w0 F0 D' μ' F' G S' n a' w') else (∃ S' D' μ' F', Q (.exit id') S' ∧ Sim w0 F0 D' μ' F' G S' n a' w'))
    by_cases he : id' = id
    · rw [if_pos he] at h1' ⊢; exact ⟨S', D', μ', F', h1', h2⟩
    · rw [if_neg he] at h1' ⊢; exact ⟨S', D', μ', F', h1', h2⟩
  | normal => exact ⟨S', D', μ', F', h1, h2⟩
  | goto l => exact ⟨S', D', μ', F', h1, h2⟩
  | ret => exact ⟨S', D', μ', F', h1, h2⟩
  | panic ch => exact ⟨S', D', μ', F', h1, h2⟩
  | outgrown => exact ⟨S', D', μ', F', h1, h2⟩
def dstOk (n : Nat) (l : List Oper) : Bool := l.all fun o => match o.dst with | some d => decide (d < n) | none => true
theorem dstOk_spec {l : List Oper} (h : dstOk n l = true) : ∀ o, o ∈ l → ∀ d, o.dst = some d → d < n := fun o ho d hd => by
  have := List.all_eq_true.1 h o ho
  rw [hd] at this
  simpa using this
structure SEq (S S' : St) : Prop where
  get : S.get = S'.get
  obj : S.obj = S'.obj
  nx : S.nx = S'.nx
  gh : S.gh = S'.gh
theorem SEq.refl (S : St) : SEq S S := ⟨rfl, rfl, rfl, rfl⟩
theorem Sim.seq {w0 : Home} {F0 D : Nat → Prop} {μ : Nat → Option Nat} {F : Nat → Prop} {G : List Value} {a : Act} {w : World} {S' : St} (hS : Sim w0 F0 D μ F G S n a w) (h : SEq S S') : Sim w0 F0 D μ F G S' n a w := by
  refine ⟨hS.defers, hS.size, fun s => by rw [← h.get]; exact hS.env s, by rw [← h.obj]; exact hS.heap, fun i hi => by rw [← h.nx]; exact hS.ids i hi, by rw [← h.gh]; exact hS.ghl, fun i hi => ?_⟩
  have := hS.gh i (by rw [h.gh]; exact hi)
  rwa [gl h.gh] at this
theorem Tri.region {id : Nat} {l : List Oper} (hd : dstOk n l = true) (h : vOps P l.toArray l S (fun S1 => ∃ S', SEq S1 S' ∧ Q .normal S')) : Tri P n (.region id l.toArray false) S Q := fun w0 F0 D μ F G a w hS =>
  wp_region_list (vOps_sound l S D μ F a w (dstOk_spec hd) h hS fun S1 D' μ' F' a' w' ⟨S', he, hK⟩ hS' => ⟨S', D', μ', F', hK, hS'.seq he⟩)
theorem Tri.draw {id : Nat} {l : List Oper} (n0 : Nat) (Dl : List (List Nat)) (hm : P.follows .mixedOrders = true) (hB : growB l.toArray Dl n0 = true) (hd : dstOk n l = true)
    (h : vOpsT P l.toArray (l.take n0) S [] (fun S1 tr => trOk S.nx Dl tr = true ∧ vOps P l.toArray (l.drop n0) S1 (fun S1 => ∃ S', SEq S1 S' ∧ Q .normal S'))) : Tri P n (.region id l.toArray true) S Q := fun w0 F0 D μ F G a w hS =>
  draw_sound n0 Dl hm hB (dstOk_spec hd) h hS fun S1 D' μ' F' a' w' ⟨S', he, hK⟩ hS' => ⟨S', D', μ', F', hK, hS'.seq he⟩
structure LeqS (k : Nat) (L : List Nat) (S S' : St) : Prop where
  env : ∀ p, p ∈ S'.env → sealed S.obj (fun i => L.contains i) k (S.get p.1) = p.2.ren (rmap L S.nx)
  hp : ∀ p, p ∈ S'.hp → ∀ o, p.2 = some o → p.1 < L.length ∧ ∃ o', S.obj (rmap L S.nx p.1) = some o' ∧ o'.sz = o.sz ∧ o'.els.map (sealed S.obj (fun i => L.contains i) k) = o.els.map (PV.ren (rmap L S.nx))
  nx : S'.nx = L.length
  nodup : L.Nodup
  ghl : S'.gh.length = S.gh.length
  gh : ∀ i (h : i < S'.gh.length) (h2 : i < S.gh.length), sealed S.obj (fun i => L.contains i) k (S.gh[i]) = S'.gh[i].ren (rmap L S.nx)
def Leq (L : List Nat) (S S' : St) : Prop := ∃ k, LeqS k L S S'
def frz (S : St) (L : List Nat) (μ : Nat → Option Nat) (F : Nat → Prop) (b : Nat) : Prop := F b ∨ ∃ i o, L.contains i = false ∧ S.obj i = some o ∧ μ i = some b
theorem Stands.frz {w0 : Home} {F0 D : Nat → Prop} {μ : Nat → Option Nat} {F : Nat → Prop} {w : World} {L : List Nat} {k : Nat} {o o' : AO} {m : Option Nat} (hH : HeapSim w0 F0 D μ F S.obj w) (hst : Stands D μ F w o' m)
    (h2 : o'.sz = o.sz) (h3 : o'.els.map (sealed S.obj (fun i => L.contains i) k) = o.els.map (PV.ren (rmap L S.nx))) : Stands D μ (frz S L μ F) w (o.ren (rmap L S.nx)) m := by
  have hF : ∀ b, F b → Go.Proofs.YtfnkciboencifaaDoor.frz S L μ F b := fun b h => .inl h
  have hO : ∀ i o b, L.contains i = false → S.obj i = some o → μ i = some b → Go.Proofs.YtfnkciboencifaaDoor.frz S L μ F b := fun i o b h1 h2 h3 => .inr ⟨i, o, h1, h2, h3⟩
  cases m with
  | none =>
    have h' : o'.els = [] := hst
    show (o.ren (rmap L S.nx)).els = []
    unfold AO.ren
    rw [← h3, h']; rfl
  | some b =>
    obtain ⟨A, e, a1, a2, a3, a4⟩ := hst
    have hlen : o.els.length = o'.els.length := by have := congrArg List.length h3; simpa using this.symm
    have hek : ∀ kk (hk : kk < (o.ren (rmap L S.nx)).els.length), (o.ren (rmap L S.nx)).els[kk] = sealed S.obj (fun i => L.contains i) k (o'.els[kk]'(by simp [AO.ren] at hk; omega)) := fun kk hk => by
      have e1 : (o.ren (rmap L S.nx)).els = o'.els.map (sealed S.obj (fun i => L.contains i) k) := h3.symm
      rw [gl e1 hk, List.getElem_map]
    refine ⟨A, e, a1, ?_, fun kk hk => ?_, fun kk hk c hc => ?_⟩
    · simp only [AO.ren, List.length_map]; rw [hlen, ← h2]; exact a2
    · rw [hek kk hk, sealed_len, a3]; exact h2
    · have hkk : kk < o'.els.length := by simp [AO.ren] at hk; omega
      have e2 : (o.ren (rmap L S.nx)).els[kk].cells = (sealed S.obj (fun i => L.contains i) k o'.els[kk]).cells := by rw [hek kk hk]
      rw [gl e2 hc]
      have := cells_sealed hH (fun i => L.contains i) _ hF hO k o'.els[kk] (fun c => A.getD (kk * o'.sz + c) undef) (fun c hc => a4 kk hkk c hc) c (by rw [← e2]; exact hc)
      have e3 : (o.ren (rmap L S.nx)).sz = o'.sz := h2.symm
      rw [e3]; exact this
theorem Sim.leq {w0 : Home} {F0 D : Nat → Prop} {μ : Nat → Option Nat} {F : Nat → Prop} {G : List Value} {a : Act} {w : World} {L : List Nat} {S' : St} (hS : Sim w0 F0 D μ F G S n a w) (h : Leq L S S') :
    Sim w0 F0 (fun i => D (rmap L S.nx i)) (fun i => μ (rmap L S.nx i)) (frz S L μ F) G S' n a w := by
  obtain ⟨k, h⟩ := h
  have hD : ∀ i, D (rmap L S.nx i) → D (rmap L S.nx i) ∧ μ (rmap L S.nx i) = μ (rmap L S.nx i) := fun i hi => ⟨hi, rfl⟩
  have hF : ∀ b, F b → frz S L μ F b := fun b h => .inl h
  have hO : ∀ i o b, L.contains i = false → S.obj i = some o → μ i = some b → frz S L μ F b := fun i o b h1 h2 h3 => .inr ⟨i, o, h1, h2, h3⟩
  have hobj : ∀ i o, S'.obj i = some o → i < L.length ∧ ∃ o', S.obj (rmap L S.nx i) = some o' ∧ o'.sz = o.sz ∧ o'.els.map (sealed S.obj (fun i => L.contains i) k) = o.els.map (PV.ren (rmap L S.nx)) := fun i o hi => by
    unfold St.obj at hi
    cases hl : lk S'.hp i with
    | none => rw [hl] at hi; cases hi
    | some x =>
      rw [hl] at hi
      have hx : x = some o := hi
      exact h.hp (i, x) (lk_mem hl) o hx
  have hget : ∀ i, i < L.length → rmap L S.nx i ∈ L := fun i hi => by
    have e : rmap L S.nx i = L[i] := by simp [rmap, hi]
    rw [e]; exact List.getElem_mem hi
  have hno : ∀ i b o', i < L.length → S.obj (rmap L S.nx i) = some o' → μ (rmap L S.nx i) = some b → ¬ frz S L μ F b := fun i b o' hi h1 hib hbF => by
    rcases hbF with h | ⟨j, o2, g1, g2, g3⟩
    · exact (hS.heap.own _ _ b h1 hib).2 h
    · have := hS.heap.inj _ _ _ _ b h1 g2 hib g3
      rw [← this] at g1
      have := List.contains_iff_mem.2 (hget i hi)
      rw [g1] at this
      cases this
  refine ⟨hS.defers, hS.size, fun s => ?_, ⟨fun i o hi => ?_, fun i j o o' b hi hj hib hjb => ?_, fun i o b hi hib => ?_, hS.heap.ext, fun b hb => ?_, fun b hb => ?_⟩, fun i hi => ?_, by rw [h.ghl]; exact hS.ghl, fun i hi => ?_⟩
  · cases hl : lk S'.env s with
    | none => rw [show S'.get s = .junk by simp [St.get, hl]]; exact .junk _
    | some p =>
      rw [show S'.get s = p by simp [St.get, hl]]
      have := Rep.sealed hS.heap (fun i => L.contains i) _ hF hO k _ _ (hS.env s)
      rw [h.env (s, p) (lk_mem hl)] at this
      exact this.ren_inv hD _ rfl
  · obtain ⟨h0, o', h1, h2, h3⟩ := hobj i o hi
    obtain ⟨g1, g2⟩ := hS.heap.objs _ _ h1
    exact ⟨g1, (Stands.frz hS.heap g2 h2 h3).ren_inv hD⟩
  · obtain ⟨h0, o1, h1, h2, h3⟩ := hobj i o hi
    obtain ⟨k0, o2, k1, k2, k3⟩ := hobj j o' hj
    have e := hS.heap.inj _ _ _ _ b h1 k1 hib hjb
    exact nodup_inj h.nodup h0 k0 (by simpa [rmap, h0, k0] using e)
  · obtain ⟨h0, o', h1, h2, h3⟩ := hobj i o hi
    exact ⟨(hS.heap.own _ _ b h1 hib).1, hno i b o' h0 h1 hib⟩
  · rcases hb with h | ⟨i, o, h1, h2, h3⟩
    · exact hS.heap.f0 b h
    · exact .inr (hS.heap.own i o b h2 h3).1
  · rcases hb with h | ⟨i, o, h1, h2, h3⟩
    · exact hS.heap.fsz b h
    · exact (hS.heap.ok h2 h3).lt
  · rw [h.nx]
    exact (rmap_in hS.ids hi).1
  · have hi2 : i < S.gh.length := by rw [← h.ghl]; exact hi
    have := Rep.sealed hS.heap (fun i => L.contains i) _ hF hO k _ _ (hS.gh i hi2)
    rw [h.gh i hi hi2] at this
    exact this.ren_inv hD _ rfl
theorem Tri.weak {c : Code} {L : List Nat} {S' : St} (h : Leq L S S') (ht : Tri P n c S' Q) : Tri P n c S Q := fun w0 F0 _ _ _ G a w hS => ht w0 F0 _ _ _ G a w (hS.leq h)
def loopQ {α : Type} (S0 : α → St) (m : α → Nat) (x : α) (Q : Exit → St → Prop) : Exit → St → Prop := thenQ (fun S' => ∃ y L, m y < m x ∧ Leq L S' (S0 y)) Q
theorem Tri.loop {α : Type} {body : Code} (S0 : α → St) (m : α → Nat) (x0 : α) (L : List Nat) (h0 : Leq L S (S0 x0)) (h : ∀ x, Tri P n body (S0 x) (loopQ S0 m x Q)) : Tri P n (.loop body) S Q := fun w0 F0 D μ F G a w hS => by
  refine wp_loop_ghost (fun k a w => ∃ x D μ F, m x = k ∧ Sim w0 F0 D μ F G (S0 x) n a w) (m x0) ⟨x0, _, _, _, rfl, hS.leq h0⟩ fun k a w ⟨x, D, μ, F, hk, hSx⟩ => ?_
  refine wp_mono (h x w0 F0 D μ F G a w hSx) fun e a' w' ⟨S', D', μ', F', h1, h2⟩ => ?_
  cases e with
  | normal =>
    obtain ⟨y, L', hlt, hle⟩ := h1
    exact ⟨m y, by rw [← hk]; exact hlt, y, _, _, _, rfl, h2.leq hle⟩
  | exit id => exact ⟨S', D', μ', F', h1, h2⟩
  | goto l => exact ⟨S', D', μ', F', h1, h2⟩
  | ret => exact ⟨S', D', μ', F', h1, h2⟩
  | panic ch => exact ⟨S', D', μ', F', h1, h2⟩
  | outgrown => exact ⟨S', D', μ', F', h1, h2⟩
def retV (S : St) : List Nat → PV
  | [t] => S.get t
  | ts => .tup (ts.map S.get)
theorem run_results {w : World} {fn : Func} {ts : List Nat} (hr : fn.results = (ts.map ResultVar.tmp).toArray) {D : Nat → Prop} {μ : Nat → Option Nat} {F : Nat → Prop} {tmps : Array Value} (he : ∀ s, Rep D μ F w (S.get s) (tmps.getD s undef)) :
    ∃ v, (results fn tmps).run P w = .ok v w ∧ Rep D μ F w (retV S ts) v := by
  have hm : ∀ (f : ResultVar → Sem Value), (∀ t, (f (.tmp t)).run P w = .ok (tmps.getD t undef) w) → ∀ (l : List Nat), ((l.map ResultVar.tmp).mapM f).run P w = .ok (l.map fun t => tmps.getD t undef) w := by
    intro f hf l
    induction l with
    | nil => simp
    | cons t l ih => rw [List.map_cons, List.mapM_cons]; simp only [Sem.run_bind, hf, Result.andThen_ok, ih, Sem.run_pure]; rfl
  have hrun : (results fn tmps).run P w = .ok (if h : (ts.map fun t => tmps.getD t undef).toArray.size = 1 then (ts.map fun t => tmps.getD t undef).toArray[0] else .tuple (ts.map fun t => tmps.getD t undef).toArray) w := by
    unfold results
    rw [hr, Array.mapM_eq_mapM_toList, Sem.run_bind, Sem.run_map, hm _ (fun t => rfl)]
    rfl
  refine ⟨_, hrun, ?_⟩
  match ts with
  | [t] => simp [retV]; simpa [Array.getD_eq_getD_getElem?] using he t
  | [] => simp [retV]; exact .tup _ _ rfl (fun i hi => by simp at hi)
  | a :: b :: r =>
    rw [dif_neg (by simp)]
    refine .tup _ _ (by simp) fun i hi => ?_
    have hi' : i < (a :: b :: r).length := by simpa using hi
    have e : ((a :: b :: r).map fun t => tmps.getD t undef).toArray.getD i undef = tmps.getD ((a :: b :: r)[i]) undef := by
      rw [Array.getD_eq_getD_getElem?, List.getElem?_toArray, List.getElem?_map, List.getElem?_eq_getElem hi']; rfl
    rw [e, List.getElem_map]
    exact he _
def ResOk (S : St) (ts : List Nat) (r : PV) (os : List AO) : Prop :=
  ∃ (L : List Nat) (k : Nat), L.length = os.length ∧ L.Nodup ∧ sealed S.obj (fun i => L.contains i) k (retV S ts) = r.ren (rmap L S.nx) ∧
    ∀ i o, os[i]? = some o → ∃ o', S.obj (rmap L S.nx i) = some o' ∧ o'.sz = o.sz ∧ o'.els.map (sealed S.obj (fun i => L.contains i) k) = o.els.map (PV.ren (rmap L S.nx))
theorem ResOk.is {w1 : World} {F0 D : Nat → Prop} {μ : Nat → Option Nat} {F : Nat → Prop} {w : World} {ts : List Nat} {r : PV} {os : List AO} (h : ResOk S ts r os) (hH : HeapSim ⟨w1, fun _ => False⟩ F0 D μ F S.obj w) (ids : ∀ i, D i → i < S.nx) {v : Value} (hv : Rep D μ F w (retV S ts) v) : ResIs F0 w1 w r os v := by
  obtain ⟨L, k, hL, hnd, hr, ho⟩ := h
  have hD : ∀ i, D (rmap L S.nx i) → i < os.length ∧ μ (rmap L S.nx i) = μ (rmap L S.nx i) := fun i hi => ⟨by rw [← hL]; exact (rmap_in ids hi).1, rfl⟩
  have hF : ∀ b, F b → F b ∨ ∃ i o, L.contains i = false ∧ S.obj i = some o ∧ μ i = some b := fun b h => .inl h
  have hO : ∀ i o b, L.contains i = false → S.obj i = some o → μ i = some b → F b ∨ ∃ i o, L.contains i = false ∧ S.obj i = some o ∧ μ i = some b := fun i o b h1 h2 h3 => .inr ⟨i, o, h1, h2, h3⟩
  have hget : ∀ i, i < os.length → ∃ o', S.obj (rmap L S.nx i) = some o' ∧ rmap L S.nx i ∈ L ∧ rmap L S.nx i = L.getD i 0 := fun i hi => by
    obtain ⟨o', h1, _⟩ := ho i _ (List.getElem?_eq_getElem hi)
    have hi' : i < L.length := by rw [hL]; exact hi
    have e : rmap L S.nx i = L[i] := by simp [rmap, hi']
    exact ⟨o', h1, by rw [e]; exact List.getElem_mem hi', by rw [e]; simp [List.getD_eq_getElem?_getD, hi']⟩
  have hno : ∀ i b, i < os.length → μ (rmap L S.nx i) = some b → ¬ (F b ∨ ∃ i o, L.contains i = false ∧ S.obj i = some o ∧ μ i = some b) := fun i b hi hib hbF => by
    obtain ⟨o', h1, h2, _⟩ := hget i hi
    rcases hbF with h | ⟨j, o2, g1, g2, g3⟩
    · exact (hH.own _ _ b h1 hib).2 h
    · have := hH.inj _ _ _ _ b h1 g2 hib g3
      rw [← this] at g1
      have := List.contains_iff_mem.2 h2
      rw [g1] at this
      cases this
  refine ⟨fun i => μ (rmap L S.nx i), fun b => F b ∨ ∃ i o, L.contains i = false ∧ S.obj i = some o ∧ μ i = some b, ?_, fun i o hi => ?_, fun i b hi hib => ?_, fun i j b hi hj hib hjb => ?_, fun b hb => ?_⟩
  · have := Rep.sealed hH (fun i => L.contains i) _ hF hO k _ _ hv
    rw [hr] at this
    exact this.ren_inv hD _ rfl
  · obtain ⟨o', h1, h2, h3⟩ := ho i o hi
    obtain ⟨_, hst⟩ := hH.objs _ _ h1
    have key : Stands D μ (fun b => F b ∨ ∃ i o, L.contains i = false ∧ S.obj i = some o ∧ μ i = some b) w (o.ren (rmap L S.nx)) (μ (rmap L S.nx i)) := by
      cases hm : μ (rmap L S.nx i) with
      | none =>
        rw [hm] at hst
        have h' : o'.els = [] := hst
        show (o.ren (rmap L S.nx)).els = []
        unfold AO.ren
        rw [← h3, h']; rfl
      | some b =>
        rw [hm] at hst
        obtain ⟨A, e, a1, a2, a3, a4⟩ := hst
        have hlen : o.els.length = o'.els.length := by have := congrArg List.length h3; simpa using this.symm
        have hek : ∀ kk (hk : kk < (o.ren (rmap L S.nx)).els.length), (o.ren (rmap L S.nx)).els[kk] = sealed S.obj (fun i => L.contains i) k (o'.els[kk]'(by simp [AO.ren] at hk; omega)) := fun kk hk => by
          have e1 : (o.ren (rmap L S.nx)).els = o'.els.map (sealed S.obj (fun i => L.contains i) k) := h3.symm
          rw [gl e1 hk, List.getElem_map]
        refine ⟨A, e, a1, ?_, fun kk hk => ?_, fun kk hk c hc => ?_⟩
        · simp only [AO.ren, List.length_map]; rw [hlen, ← h2]; exact a2
        · rw [hek kk hk, sealed_len, a3]; exact h2
        · have hkk : kk < o'.els.length := by simp [AO.ren] at hk; omega
          have e2 : (o.ren (rmap L S.nx)).els[kk].cells = (sealed S.obj (fun i => L.contains i) k o'.els[kk]).cells := by rw [hek kk hk]
          rw [gl e2 hc]
          have := cells_sealed hH (fun i => L.contains i) _ hF hO k o'.els[kk] (fun c => A.getD (kk * o'.sz + c) undef) (fun c hc => a4 kk hkk c hc) c (by rw [← e2]; exact hc)
          have e3 : (o.ren (rmap L S.nx)).sz = o'.sz := h2.symm
          rw [e3]; exact this
    exact key.ren_inv hD
  · obtain ⟨o', h1, _⟩ := hget i hi
    exact ⟨(hH.own _ _ b h1 hib).1.resolve_right id, hno i b hi hib⟩
  · obtain ⟨o1, h1, _⟩ := hget i hi
    obtain ⟨o2, h2, _⟩ := hget j hj
    have e := hH.inj _ _ _ _ b h1 h2 hib hjb
    have hi' : i < L.length := by rw [hL]; exact hi
    have hj' : j < L.length := by rw [hL]; exact hj
    exact nodup_inj hnd hi' hj' (by simpa [rmap, hi', hj'] using e)
  · rcases hb with h | ⟨i, o, h1, h2, h3⟩
    · exact ⟨(hH.f0 b h).imp id (·.resolve_right id), hH.fsz b h⟩
    · exact ⟨.inr ((hH.own i o b h2 h3).1.resolve_right id), (hH.ok h2 h3).lt⟩
def argEnv : Nat → List PV → List (Nat × PV)
  | _, [] => []
  | k, p :: l => (k, p) :: argEnv (k + 1) l
theorem lk_argEnv : ∀ (l : List PV) (k s : Nat), lk (argEnv k l) s = if k ≤ s then l[s - k]? else none
  | [], k, s => by simp [argEnv, lk]
  | p :: l, k, s => by
    rw [argEnv, lk, lk_argEnv l (k + 1) s]
    by_cases h : k = s
    · subst h; simp
    · rw [if_neg h]
      by_cases h2 : k + 1 ≤ s
      · rw [if_pos h2, if_pos (by omega), show s - k = (s - (k + 1)) + 1 by omega]; simp
      · rw [if_neg h2, if_neg (by omega)]
def retQ (ts : List Nat) (r : PV) (os : List AO) : Exit → St → Prop
  | .normal, S => ResOk S ts r os
  | .ret, S => ResOk S ts r os
  | _, _ => False
theorem PureCall.intro {f : FuncId} {fn : Func} {c : Code} {args : List PV} {r : PV} {os : List AO} {ts : List Nat} (hf : P.funcs[f]? = some fn) (hb : fn.body = some c) (hr : fn.results = (ts.map ResultVar.tmp).toArray) (hn : fn.ntmps = n) (hla : args.length ≤ n) (hpure : args.all PV.pure = true)
    (h : Tri P n c ⟨argEnv 0 args, [], 0, []⟩ (retQ ts r os)) : PureCall P f args r os := by
  intro D μ F w vs hvs hargs hFs
  refine calls_of_wp hf hb ?_
  have hS : Sim ⟨w, fun _ => False⟩ F (fun _ => False) μ F [] ⟨argEnv 0 args, [], 0, []⟩ n { tmps := vs ++ Array.replicate (fn.ntmps - vs.size) undef, defers := [] } w := by
    refine ⟨rfl, by simp [hvs, hn]; omega, fun s => ?_, ⟨fun i o hi => (by cases hi), fun i j o o' b hi => (by cases hi), fun i o b hi => (by cases hi), Ext.refl _ _, fun b hb => .inl hb, hFs⟩, fun i hi => hi.elim, rfl, fun i hi => by simp at hi⟩
    show Rep _ μ F w ((lk (argEnv 0 args) s).getD .junk) _
    rw [lk_argEnv]
    simp only [Nat.zero_le, if_true, Nat.sub_zero]
    by_cases hs : s < args.length
    · rw [List.getElem?_eq_getElem hs]
      simp only [Option.getD_some]
      have e : (vs ++ Array.replicate (fn.ntmps - vs.size) undef).getD s undef = vs.getD s undef := by
        simp only [Array.getD_eq_getD_getElem?]
        rw [Array.getElem?_append_left (by omega)]
      rw [e]
      exact (hargs s hs).pureAny (all_get hpure s hs)
    · rw [List.getElem?_eq_none (by omega)]
      exact .junk _
  refine wp_mono (h _ F _ μ F [] _ w hS) fun e a' w' ⟨S', D', μ', F', h1, h2⟩ => ?_
  have fin : ResOk S' ts r os → a'.defers = [] ∧ ∃ v, (results fn a'.tmps).run P w' = .ok v w' ∧ ∃ v', Ending.returned v = .returned v' ∧ Below w.heap.size w w' ∧ ResIs F w w' r os v' := fun hres => by
    obtain ⟨v, hv, hrep⟩ := run_results (P := P) (S := S') hr h2.env
    exact ⟨h2.defers, v, hv, v, rfl, h2.heap.ext.below (fun _ h => h), hres.is h2.heap h2.ids hrep⟩
  cases e with
  | normal => exact fin h1
  | ret => exact fin h1
  | exit id => exact h1.elim
  | goto l => exact h1.elim
  | panic ch => exact h1.elim
  | outgrown => exact h1.elim
def objEnv : Nat → List (Option AO) → List (Nat × Option AO)
  | _, [] => []
  | k, o :: l => (k, o) :: objEnv (k + 1) l
theorem lk_objEnv : ∀ (l : List (Option AO)) (k s : Nat), lk (objEnv k l) s = if k ≤ s then l[s - k]? else none
  | [], k, s => by simp [objEnv, lk]
  | p :: l, k, s => by
    rw [objEnv, lk, lk_objEnv l (k + 1) s]
    by_cases h : k = s
    · subst h; simp
    · rw [if_neg h]
      by_cases h2 : k + 1 ≤ s
      · rw [if_pos h2, if_pos (by omega), show s - k = (s - (k + 1)) + 1 by omega]; simp
      · rw [if_neg h2, if_neg (by omega)]
def marks : Nat → List AO → List PV
  | _, [] => []
  | k, o :: l => .ob k o.sz 0 0 :: marks (k + 1) l
theorem marks_length : ∀ (l : List AO) (k : Nat), (marks k l).length = l.length
  | [], _ => rfl
  | _ :: l, k => by rw [marks, List.length_cons, marks_length l, List.length_cons]
theorem marks_get : ∀ (l : List AO) (k i : Nat), (marks k l)[i]? = (l[i]?).map fun o => .ob (k + i) o.sz 0 0
  | [], _, _ => by simp [marks]
  | _ :: l, k, 0 => by simp [marks]
  | _ :: l, k, i + 1 => by rw [marks, List.getElem?_cons_succ, marks_get l (k + 1) i, List.getElem?_cons_succ, show k + 1 + i = k + (i + 1) by omega]
def placeV : Option Nat → Value
  | some b => .slice (some ⟨b, 0, none⟩) 0 0
  | none => .slice none 0 0
def ResP (S : St) (ts : List Nat) (r : PV) (hp : List AO) (hp' : List (Option AO)) (os : List AO) : Prop :=
  ∃ (L : List Nat) (k : Nat), sealed S.obj (fun i => L.contains i) k (retV S ts) = r.ren (rmap L S.nx) ∧ LeqS k L S ⟨[], objEnv 0 (hp' ++ os.map some), hp'.length + os.length, marks 0 hp⟩
def retP (ts : List Nat) (r : PV) (hp : List AO) (hp' : List (Option AO)) (os : List AO) : Exit → St → Prop
  | .normal, S => ResP S ts r hp hp' os
  | .ret, S => ResP S ts r hp hp' os
  | _, _ => False
theorem HeapSim.widen {w0 : Home} {F0 D D' : Nat → Prop} {μ : Nat → Option Nat} {F : Nat → Prop} {H : Nat → Option AO} {w : World} (h : HeapSim w0 F0 D μ F H w) (hD : ∀ i, D i → D' i) : HeapSim w0 F0 D' μ F H w :=
  ⟨fun i o hi => ⟨hD i (h.objs i o hi).1, (h.objs i o hi).2.stay (Stay.refl _ _) (fun i hi => ⟨hD i hi, rfl⟩) (fun _ h => h) (fun _ _ => rfl)⟩, h.inj, h.own, h.ext, h.f0, h.fsz⟩
theorem ProcCall.intro {f : FuncId} {fn : Func} {c : Code} {args : List PV} {hp : List AO} {r : PV} {hp' : List (Option AO)} {os : List AO} {ts : List Nat} (hf : P.funcs[f]? = some fn) (hb : fn.body = some c) (hr : fn.results = (ts.map ResultVar.tmp).toArray) (hn : fn.ntmps = n) (hla : args.length ≤ n)
    (hlen : hp'.length = hp.length) (h : Tri P n c ⟨argEnv 0 args, objEnv 0 (hp.map some), hp.length, marks 0 hp⟩ (retP ts r hp hp' os)) : ProcCall P f args hp r hp' os := by
  refine ⟨hlen, fun μ F w vs hH hvs hargs => calls_of_wp hf hb ?_⟩
  have hobj : (St.mk (argEnv 0 args) (objEnv 0 (hp.map some)) hp.length (marks 0 hp)).obj = fun i => hp[i]? := by
    funext i
    show (lk (objEnv 0 (hp.map some)) i).join = _
    rw [lk_objEnv]
    simp only [Nat.zero_le, if_true, Nat.sub_zero, List.getElem?_map]
    cases hp[i]? <;> rfl
  have hS : Sim ⟨w, fun b => ∃ i, i < hp.length ∧ μ i = some b⟩ F (· < hp.length) μ F ((List.range hp.length).map fun i => placeV (μ i)) ⟨argEnv 0 args, objEnv 0 (hp.map some), hp.length, marks 0 hp⟩ n { tmps := vs ++ Array.replicate (fn.ntmps - vs.size) undef, defers := [] } w := by
    refine ⟨rfl, by simp [hvs, hn]; omega, fun s => ?_, by rw [hobj]; exact hH, fun i hi => hi, by simp [marks_length], fun i hi => ?_⟩
    · show Rep _ μ F w ((lk (argEnv 0 args) s).getD .junk) _
      rw [lk_argEnv]
      simp only [Nat.zero_le, if_true, Nat.sub_zero]
      by_cases hs : s < args.length
      · rw [List.getElem?_eq_getElem hs]
        simp only [Option.getD_some]
        have e : (vs ++ Array.replicate (fn.ntmps - vs.size) undef).getD s undef = vs.getD s undef := by
          simp only [Array.getD_eq_getD_getElem?]
          rw [Array.getElem?_append_left (by omega)]
        rw [e]
        exact hargs s hs
      · rw [List.getElem?_eq_none (by omega)]
        exact .junk _
    · simp only at hi
      have hi' : i < hp.length := by rwa [marks_length] at hi
      have e1 : (marks 0 hp)[i]'hi = .ob i (hp[i]).sz 0 0 := by
        have := marks_get hp 0 i
        rw [List.getElem?_eq_getElem hi, List.getElem?_eq_getElem hi'] at this
        simpa using this
      have e2 : ((List.range hp.length).map fun i => placeV (μ i)).getD i undef = placeV (μ i) := by simp [List.getD_eq_getElem?_getD, hi']
      rw [e1, e2]
      cases hm : μ i with
      | none => exact .obn i _ hi' hm
      | some b =>
        have := Rep.ob (D := (· < hp.length)) (μ := μ) (F := F) (w := w) i (hp[i]).sz 0 0 0 b hi' hm (Nat.le_refl _) (by unfold maxLen; omega) (by simp)
        simpa [placeV] using this
  refine wp_mono (h _ F _ μ F _ _ w hS) fun e a' w' ⟨S', D', μ', F', h1, h2⟩ => ?_
  have fin : ResP S' ts r hp hp' os → a'.defers = [] ∧ ∃ v, (results fn a'.tmps).run P w' = .ok v w' ∧ ∃ v', Ending.returned v = .returned v' ∧ ∃ (μ2 : Nat → Option Nat) (F2 : Nat → Prop), Rep (· < hp.length + os.length) μ2 F2 w' r v' ∧
      HeapSim ⟨w, fun b => ∃ i, i < hp.length ∧ μ i = some b⟩ F (· < hp.length + os.length) μ2 F2 (fun i => ((hp' ++ os.map some)[i]?).join) w' ∧ (∀ i, i < hp.length → μ2 i = μ i) := fun ⟨L, k, hr1, hl⟩ => by
    obtain ⟨v, hv, hrep⟩ := run_results (P := P) (S := S') hr h2.env
    have h3 := h2.leq ⟨k, hl⟩
    have hD : ∀ i, D' (rmap L S'.nx i) → i < hp.length + os.length ∧ μ' (rmap L S'.nx i) = μ' (rmap L S'.nx i) := fun i hi => ⟨by
      have := h3.ids i hi
      have e : (St.mk [] (objEnv 0 (hp' ++ os.map some)) (hp'.length + os.length) (marks 0 hp)).nx = hp'.length + os.length := rfl
      rw [e] at this; omega, rfl⟩
    refine ⟨h2.defers, v, hv, v, rfl, fun i => μ' (rmap L S'.nx i), frz S' L μ' F', ?_, ?_, fun i hi => ?_⟩
    · have := Rep.sealed h2.heap (fun i => L.contains i) (frz S' L μ' F') (fun b h => .inl h) (fun i o b h1 h2 h3 => .inr ⟨i, o, h1, h2, h3⟩) k _ _ hrep
      rw [hr1] at this
      exact this.ren_inv hD _ rfl
    · have := h3.heap.widen (D' := (· < hp.length + os.length)) (fun i hi => (hD i hi).1)
      have e : (St.mk [] (objEnv 0 (hp' ++ os.map some)) (hp'.length + os.length) (marks 0 hp)).obj = fun i => ((hp' ++ os.map some)[i]?).join := by
        funext i
        show (lk (objEnv 0 (hp' ++ os.map some)) i).join = _
        rw [lk_objEnv]; simp
      rw [e] at this
      exact this
    · have hi2 : i < (marks 0 hp).length := by rw [marks_length]; exact hi
      have := h3.gh i hi2
      have e1 : (marks 0 hp)[i]'hi2 = .ob i (hp[i]).sz 0 0 := by
        have := marks_get hp 0 i
        rw [List.getElem?_eq_getElem hi2, List.getElem?_eq_getElem hi] at this
        simpa using this
      have e2 : ((List.range hp.length).map fun i => placeV (μ i)).getD i undef = placeV (μ i) := by simp [List.getD_eq_getElem?_getD, hi]
      simp only [e1, e2] at this
      generalize hpv : placeV (μ i) = pv at this
      cases this with
      | ob _ _ _ _ cap b g1 g2 g3 g4 g5 =>
        show μ' (rmap L S'.nx i) = μ i
        rw [g2]
        cases hm : μ i with
        | none => rw [hm] at hpv; cases hpv
        | some b2 => rw [hm] at hpv; simp only [placeV, Value.slice.injEq, Option.some.injEq, Addr.mk.injEq] at hpv; rw [hpv.1.1]
      | obn _ _ g1 g2 =>
        show μ' (rmap L S'.nx i) = μ i
        rw [g2]
        cases hm : μ i with
        | none => rfl
        | some b2 => rw [hm] at hpv; cases hpv
  cases e with
  | normal => exact fin h1
  | ret => exact fin h1
  | exit id => exact h1.elim
  | goto l => exact h1.elim
  | panic ch => exact h1.elim
  | outgrown => exact h1.elim
end
end Go.Proofs.YtfnkciboencifaaDoor
