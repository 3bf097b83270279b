/-
  The clean machine: its state, and what it means that an operation does what it says.
-/
import Derived.Test.YtfnkciboencifaaDoorPV1
import Derived.WalkKit
import Derived.WalkSpells
import Derived.WalkLawsBesides
import Derived.Laws.Small
set_option linter.all false
namespace Go.Proofs.YtfnkciboencifaaDoor
open Go Go.RowKit

/-- A table of numbered things: the newest row counts. -/
def lk {α : Type} : List (Nat × α) → Nat → Option α
  | [], _ => none
  | (i, x) :: t, j => if i = j then some x else lk t j

structure St where
  env : List (Nat × PV)
  hp : List (Nat × Option AO)
  nx : Nat
  gh : List PV := []
def St.get (S : St) (s : Nat) : PV := (lk S.env s).getD .junk
def St.obj (S : St) (i : Nat) : Option AO := (lk S.hp i).join
def St.ev (S : St) : Operand → PV
  | .tmp t => S.get t
  | .const v => .atom v
  | .global _ => .junk
  | .func f => .fn f []

/-- What an operation does to the own objects. -/
structure Eff where
  add : List AO
  del : List Nat
  set : List (Nat × AO)
  rd : List Nat
def e0 : Eff := ⟨[], [], [], []⟩
def addH : Nat → List AO → List (Nat × Option AO) → List (Nat × Option AO)
  | _, [], h => h
  | n, o :: r, h => addH (n + 1) r ((n, some o) :: h)
def Eff.hp (e : Eff) (n : Nat) (h : List (Nat × Option AO)) : List (Nat × Option AO) :=
  addH n e.add (e.set.map (fun p => (p.1, some p.2)) ++ (e.del.map (fun i => (i, none)) ++ h))
def St.fin (S : St) (dst : Option Tmp) (r : PV) (e : Eff) : St :=
  ⟨match dst with | some d => (d, r) :: S.env | none => S.env, e.hp S.nx S.hp, S.nx + e.add.length, S.gh⟩

/-- The same on tables that are functions. -/
def Eff.app (e : Eff) (n : Nat) (H : Nat → Option AO) : Nat → Option AO := fun i =>
  if n ≤ i ∧ i < n + e.add.length then e.add[i - n]? else
  match lk e.set i with
  | some o => some o
  | none => if i ∈ e.del then none else H i

theorem lk_append {α : Type} (a b : List (Nat × α)) (i : Nat) : lk (a ++ b) i = (lk a i).or (lk b i) := by
  induction a with
  | nil => rfl
  | cons p a ih => obtain ⟨j, x⟩ := p; simp only [List.cons_append, lk]; split <;> simp_all
theorem lk_addH (i : Nat) : ∀ (l : List AO) (n : Nat) (h : List (Nat × Option AO)), lk (addH n l h) i = if n ≤ i ∧ i < n + l.length then some l[i - n]? else lk h i
  | [], n, h => by simp only [addH, List.length_nil]; rw [if_neg (by omega)]
  | o :: r, n, h => by
    rw [addH, lk_addH i r (n + 1)]
    by_cases h1 : n + 1 ≤ i ∧ i < n + 1 + r.length
    · rw [if_pos h1, if_pos (by simp; omega), show i - n = (i - (n + 1)) + 1 by omega]; simp
    · rw [if_neg h1, lk]
      by_cases h2 : n = i
      · subst h2; rw [if_pos rfl, if_pos (by simp)]; simp
      · rw [if_neg h2, if_neg (by simp; omega)]
theorem lk_dels (l : List Nat) (i : Nat) : lk (l.map (fun i => (i, (none : Option AO)))) i = if i ∈ l then some none else none := by
  induction l with
  | nil => simp [lk]
  | cons a l ih =>
    simp only [List.map_cons, lk, ih, List.mem_cons]
    by_cases h : a = i
    · simp [h]
    · simp [h, Ne.symm h]
theorem lk_sets (l : List (Nat × AO)) (i : Nat) : lk (l.map (fun p => (p.1, some p.2))) i = (lk l i).map some := by
  induction l with
  | nil => rfl
  | cons p l ih => obtain ⟨j, x⟩ := p; simp only [List.map_cons, lk, ih]; split <;> simp
theorem St.obj_fin (S : St) (dst : Option Tmp) (r : PV) (e : Eff) : (S.fin dst r e).obj = e.app S.nx S.obj := by
  funext i
  show (lk (e.hp S.nx S.hp) i).join = _
  unfold Eff.hp Eff.app St.obj
  rw [lk_addH, lk_append, lk_append, lk_sets, lk_dels]
  by_cases h : S.nx ≤ i ∧ i < S.nx + e.add.length
  · rw [if_pos h, if_pos h]; simp
  · rw [if_neg h, if_neg h]
    cases lk e.set i with
    | some o => simp
    | none => by_cases h2 : i ∈ e.del <;> simp [h2]

/-- The operation does what is said, wherever it finds the objects that it reads. -/
def Sound (P : Program) (op : Op) (S : St) (r : PV) (e : Eff) : Prop :=
  ∀ (o : Oper) (a : Act) (w0 : Home) (F0 D : Nat → Prop) (μ : Nat → Option Nat) (F : Nat → Prop) (H : Nat → Option AO) (w : World), o.op = op → HeapSim w0 F0 D μ F H w →
    (∀ x, x ∈ op.operands.toList → Rep D μ F w (S.ev x) (a.eval x)) → (∀ i, i ∈ e.rd → H i = S.obj i) → (∀ k, k < e.add.length → ¬ D (S.nx + k)) →
    ∀ (next : Act → World → Prop) (Q : Exit → Act → World → Prop),
      (∀ v w' (D' : Nat → Prop) μ' F', Rep D' μ' F' w' r v → HeapSim w0 F0 D' μ' F' (e.app S.nx H) w' → Stay F w w' → (∀ i, D i → D' i ∧ μ' i = μ i) → (∀ b, F b → F' b) →
        (∀ i, D' i → D i ∨ (S.nx ≤ i ∧ i < S.nx + e.add.length)) → next (a.put o.dst v) w') → o.wp P a w next Q

/-- The same where the numbers in use are known. -/
def SoundI (P : Program) (op : Op) (S : St) (r : PV) (e : Eff) : Prop :=
  ∀ (o : Oper) (a : Act) (w0 : Home) (F0 D : Nat → Prop) (μ : Nat → Option Nat) (F : Nat → Prop) (w : World), o.op = op → HeapSim w0 F0 D μ F S.obj w →
    (∀ x, x ∈ op.operands.toList → Rep D μ F w (S.ev x) (a.eval x)) → (∀ i, D i → i < S.nx) →
    ∀ (next : Act → World → Prop) (Q : Exit → Act → World → Prop),
      (∀ v w' (D' : Nat → Prop) μ' F', Rep D' μ' F' w' r v → HeapSim w0 F0 D' μ' F' (e.app S.nx S.obj) w' → Stay F w w' → (∀ i, D i → D' i ∧ μ' i = μ i) → (∀ b, F b → F' b) →
        (∀ i, D' i → D i ∨ (S.nx ≤ i ∧ i < S.nx + e.add.length)) → next (a.put o.dst v) w') → o.wp P a w next Q
theorem Sound.toI {P : Program} {op : Op} {S : St} {r : PV} {e : Eff} (h : Sound P op S r e) : SoundI P op S r e := fun o a w0 F0 D μ F w ho hH hx hD next Q hn =>
  h o a w0 F0 D μ F S.obj w ho hH hx (fun _ _ => rfl) (fun k _ hk => by have := hD _ hk; omega) next Q hn

theorem Eff.app_e0 (n : Nat) (H : Nat → Option AO) (rd : List Nat) : (⟨[], [], [], rd⟩ : Eff).app n H = H := by
  funext i; unfold Eff.app; simp [lk]
  intro h1 h2; omega

/-- Operations that only look. -/
theorem Sound.quiet {P : Program} {op : Op} {S : St} {r : PV} {rd : List Nat}
    (h : ∀ (o : Oper) (a : Act) (w0 : Home) (F0 D : Nat → Prop) (μ : Nat → Option Nat) (F : Nat → Prop) (H : Nat → Option AO) (w : World), o.op = op → HeapSim w0 F0 D μ F H w →
      (∀ x, x ∈ op.operands.toList → Rep D μ F w (S.ev x) (a.eval x)) → (∀ i, i ∈ rd → H i = S.obj i) → ∃ v, (execOp a.eval o).run P w = .ok (.value v) w ∧ Rep D μ F w r v) : Sound P op S r ⟨[], [], [], rd⟩ := by
  intro o a w0 F0 D μ F H w ho hH hx hr _ next Q hn
  obtain ⟨v, h1, h2⟩ := h o a w0 F0 D μ F H w ho hH hx hr
  unfold Oper.wp
  rw [h1]
  exact hn v w D μ F h2 (by rw [Eff.app_e0]; exact hH) (Stay.refl _ _) (fun _ h => ⟨h, rfl⟩) (fun _ h => h) (fun _ h => .inl h)

/-- Operations that make one own object. -/
theorem Eff.app_add (n : Nat) (o : AO) (H : Nat → Option AO) (rd : List Nat) : (⟨[o], [], [], rd⟩ : Eff).app n H = upd H n (some o) := by
  funext i; unfold Eff.app upd; simp only [lk, List.length_singleton]
  by_cases h : i = n
  · subst h; simp
  · rw [if_neg (by omega), if_neg h]; simp
theorem Sound.makes {P : Program} {op : Op} {S : St} {r : PV} {rd : List Nat} {ob : AO}
    (h : ∀ (o : Oper) (a : Act) (w0 : Home) (F0 D : Nat → Prop) (μ : Nat → Option Nat) (F : Nat → Prop) (H : Nat → Option AO) (w : World), o.op = op → HeapSim w0 F0 D μ F H w →
      (∀ x, x ∈ op.operands.toList → Rep D μ F w (S.ev x) (a.eval x)) → (∀ i, i ∈ rd → H i = S.obj i) → ¬ D S.nx →
      ∃ v w' m, (execOp a.eval o).run P w = .ok (.value v) w' ∧ Rep (also D S.nx) (upd μ S.nx m) F w' r v ∧ HeapSim w0 F0 (also D S.nx) (upd μ S.nx m) F (upd H S.nx (some ob)) w' ∧ Stay F w w') : Sound P op S r ⟨[ob], [], [], rd⟩ := by
  intro o a w0 F0 D μ F H w ho hH hx hr hD next Q hn
  have hD0 : ¬ D S.nx := by simpa using hD 0 (by simp)
  obtain ⟨v, w', m, h1, h2, h3, h4⟩ := h o a w0 F0 D μ F H w ho hH hx hr hD0
  unfold Oper.wp
  rw [h1]
  exact hn v w' _ _ F h2 (by rw [Eff.app_add]; exact h3) h4 (also_ok m hD0) (fun _ h => h) (fun i hi => hi.elim .inl (fun e => .inr (by subst e; simp)))

section
variable {P : Program}
def tAgg (P : Program) (t : TypeId) : Option Bool := (P.underlying t).map fun | .struct _ | .array _ _ => true | _ => false
def tSize (P : Program) (t : TypeId) : Option Nat := (P.info? t).map (·.size)
def tBytes (P : Program) (t : TypeId) : Option Nat := (P.info? t).map (·.bytes)
def tElem (P : Program) (t : TypeId) : Option TypeId := match P.underlying t with | some (.slice e) => some e | _ => none
def tArr (P : Program) (t : TypeId) : Option (Nat × TypeId) := match P.underlying t with | some (.array n e) => some (n, e) | _ => none
def tFld (P : Program) (t : TypeId) (f : Nat) : Option (Nat × TypeId) := match P.underlying t with | some (.struct fs) => (fs[f]?).map fun x => (x.offset, x.type) | _ => none
def tStr (P : Program) (t : TypeId) : Bool := match P.underlying t with | some .string => true | _ => false
def tInt (P : Program) (t : TypeId) : Option IntKind := match P.underlying t with | some (.int k) => some k | _ => none
def pvOf : Value → PV
  | .agg cs => .agg (cs.toList.map .atom)
  | v => .atom v
/-- The zero of a type: a plain value whose cells are simple. -/
def tZero (P : Program) (t : TypeId) (z : PV) : Prop := ∃ i v, P.info? t = some i ∧ i.zero = some v ∧ pvOf v = z ∧ v.cells.size = i.size ∧ v.cells.all (·.oneCell') = true

theorem pvOf_cells (v : Value) (h : v.cells.all (·.oneCell') = true) : (pvOf v).cells = v.cells.toList.map .atom := by
  cases v <;> first | rfl | simp [pvOf, PV.cells, Value.cells]
theorem ev_atom {D : Nat → Prop} {μ : Nat → Option Nat} {F : Nat → Prop} {w : World} {p : PV} {u v : Value} (h : Rep D μ F w p u) (hp : p = .atom v) : u = v := by
  subst hp; cases h; rfl

theorem Sound.move {x : Operand} {S : St} : Sound P (.move x) S (S.ev x) e0 := Sound.quiet fun o a _ _ _ _ _ _ w ho _ hx _ => ⟨_, by unfold execOp; simp only [ho]; rfl, hx x (by simp [Op.operands])⟩
theorem Sound.assign {x : Operand} {S : St} : Sound P (.assign x) S (S.ev x) e0 := Sound.quiet fun o a _ _ _ _ _ _ w ho _ hx _ => ⟨_, by unfold execOp; simp only [ho]; rfl, hx x (by simp [Op.operands])⟩
theorem Sound.pick {c x y : Operand} {S : St} {t : Bool} (h : S.ev c = .atom (.bool t)) : Sound P (.pick c x y) S (bif t then S.ev x else S.ev y) e0 := Sound.quiet fun o a _ _ _ _ _ _ w ho _ hx _ => by
  have hc := ev_atom (hx c (by simp [Op.operands])) h
  refine ⟨if t then a.eval x else a.eval y, by unfold execOp; simp only [ho, hc]; cases t <;> simp [asBool], ?_⟩
  cases t
  · exact hx y (by simp [Op.operands])
  · exact hx x (by simp [Op.operands])

theorem run_tSize {t : TypeId} {n : Nat} (h : tSize P t = some n) (w : World) : (sizeOf t).run P w = .ok n w := by
  unfold tSize at h
  cases hi : P.info? t with
  | none => simp [hi] at h
  | some i => simp [hi] at h; simp [sizeOf, typeInfo, hi, h]
theorem run_tAgg {t : TypeId} {b : Bool} (h : tAgg P t = some b) (w : World) : (isAgg t).run P w = .ok b w := by
  unfold tAgg at h
  cases hu : P.underlying t with
  | none => simp [hu] at h
  | some d => simp [hu] at h; cases d <;> simp at h <;> simp [isAgg, run_underlying hu, h]
theorem und_elem {t e : TypeId} (h : tElem P t = some e) : P.underlying t = some (.slice e) := by
  unfold tElem at h; split at h <;> first | (rename_i hu; simp at h; rw [hu, h]) | cases h
theorem und_arr {t e : TypeId} {n : Nat} (h : tArr P t = some (n, e)) : P.underlying t = some (.array n e) := by
  unfold tArr at h; split at h <;> first | (rename_i hu; simp at h; rw [hu, h.1, h.2]) | cases h
theorem und_str {t : TypeId} (h : tStr P t = true) : P.underlying t = some .string := by
  unfold tStr at h; split at h <;> first | assumption | cases h
theorem und_int {t : TypeId} {k : IntKind} (h : tInt P t = some k) : P.underlying t = some (.int k) := by
  unfold tInt at h; split at h <;> first | (rename_i hu; simp at h; rw [hu, h]) | cases h

/-- A variable's box. -/
theorem Sound.box {t : TypeId} {x : Operand} {S : St} {sz : Nat} (hs : (S.ev x).cells.length = sz) (h1 : (S.ev x).cells.all PV.one = true) : Sound P (.box t x) S (.ptr S.nx sz 0 0) ⟨[⟨sz, [S.ev x]⟩], [], [], []⟩ :=
  Sound.makes fun o a w0 F0 D μ F H w ho hH hx _ hD => by
    obtain ⟨c1, c2, c3⟩ := (hx x (by simp [Op.operands])).cells h1
    have hS := hH.alloc S.nx hD (a.eval x).cells t ⟨sz, [S.ev x]⟩ (by simp [c1, hs]) (fun k hk => by
      have : k = 0 := by simp at hk; omega
      subst this; exact hs) (fun k hk c hc => by
      have : k = 0 := by simp at hk; omega
      subst this; simpa using c2 c hc)
    refine ⟨.pointer (some ⟨w.heap.size, 0, none⟩), _, some w.heap.size, ?_, ?_, hS, Stay.below ((Below.refl _ _).alloc (Nat.le_refl _) _)⟩
    · unfold execOp; simp [ho, Instr.box, newVar, newRow]
    · have := Rep.ptr (D := also D S.nx) (μ := upd μ S.nx (some w.heap.size)) (F := F) (w := w.alloc (.cells (a.eval x).cells t)) S.nx sz 0 0 w.heap.size (.inr rfl) (upd_same _ _ _)
      simpa using this

theorem Sound.alloc {t : TypeId} {S : St} {z : PV} (hz : tZero P t z) : Sound P (.alloc t) S (.ptr S.nx z.cells.length 0 0) ⟨[⟨z.cells.length, [z]⟩], [], [], []⟩ :=
  Sound.makes fun o a w0 F0 D μ F H w ho hH hx _ hD => by
    obtain ⟨i, v, hi, hv, rfl, hsz, h1⟩ := hz
    have hc := pvOf_cells v h1
    have hS := hH.alloc S.nx hD v.cells t ⟨(pvOf v).cells.length, [pvOf v]⟩ (by simp [hc]) (fun k hk => by
      have : k = 0 := by simp at hk; omega
      subst this; rfl) (fun k hk c hcc => by
      have : k = 0 := by simp at hk; omega
      subst this
      simp only [List.getElem_cons_zero, hc, Nat.zero_mul, Nat.zero_add] at hcc ⊢
      have hlt : c < v.cells.size := by simpa using hcc
      have e : v.cells.getD c undef = v.cells[c] := by simp [hlt]
      rw [e, List.getElem_map, Array.getElem_toList]
      exact .atom _)
    refine ⟨.pointer (some ⟨w.heap.size, 0, none⟩), _, some w.heap.size, ?_, ?_, hS, Stay.below ((Below.refl _ _).alloc (Nat.le_refl _) _)⟩
    · unfold execOp; simp [ho, Instr.alloc, zeroValue, typeInfo, hi, hv, newVar, newRow]
    · have := Rep.ptr (D := also D S.nx) (μ := upd μ S.nx (some w.heap.size)) (F := F) (w := w.alloc (.cells v.cells t)) S.nx (pvOf v).cells.length 0 0 w.heap.size (.inr rfl) (upd_same _ _ _)
      simpa using this

/-- A part of a value: some cells from one on. -/
def PV.part (v : PV) (ag : Bool) (c n : Nat) : PV := bif ag then (if c = 0 ∧ n = v.cells.length then .agg v.cells else .agg ((v.cells.drop c).take n)) else v.cells.getD c .junk

theorem run_loadVar_part {D : Nat → Prop} {μ : Nat → Option Nat} {F : Nat → Prop} {w : World} {t : TypeId} {ag : Bool} {n c : Nat} {p : PV} {ad : Addr} (ha : tAgg P t = some ag) (hn : tSize P t = some n)
    (hin : bif ag then c + n ≤ p.cells.length else c < p.cells.length) (hspot : ad.spot = none)
    (h : ∀ j (hj : j < p.cells.length), c ≤ j → ∃ v, w.cell? ⟨ad.block, ad.off + (j - c), none⟩ = some v ∧ Rep D μ F w p.cells[j] v) :
    ∃ v, (loadVar t ad).run P w = .ok v w ∧ Rep D μ F w (p.part ag c n) v := by
  have hadd : ∀ j, ad.add j = ⟨ad.block, ad.off + j, none⟩ := fun j => by
    obtain ⟨b, off, sp⟩ := ad
    simp at hspot; subst hspot
    unfold Addr.add; split <;> simp_all
  unfold loadVar
  simp only [Sem.run_bind, run_tAgg ha, Result.andThen_ok]
  cases ag
  · have hin' : c < p.cells.length := hin
    obtain ⟨v, hv, hr⟩ := h c hin' (Nat.le_refl _)
    have hv' : w.cell? ad = some v := by
      obtain ⟨b, off, sp⟩ := ad
      simp at hspot; subst hspot
      simpa using hv
    refine ⟨v, by simp [hv'], ?_⟩
    unfold PV.part
    simp only [cond_false]
    rw [cellget _ _ hin']
    exact hr
  · have hin' : c + n ≤ p.cells.length := hin
    let f : Nat → Value := fun j => ((w.cell? ⟨ad.block, ad.off + j, none⟩).getD undef)
    have hl := run_loadCells (P := P) w ad n f (fun j hj => by
      obtain ⟨v, hv, _⟩ := h (c + j) (by omega) (by omega)
      rw [show c + j - c = j by omega] at hv
      rw [hadd]; simp only [f, hv]; rfl)
    refine ⟨.agg ((List.range n).map f).toArray, by simp [run_tSize hn, hl], ?_⟩
    have key : Rep D μ F w (.agg ((p.cells.drop c).take n)) (.agg ((List.range n).map f).toArray) := by
      refine .agg _ _ (by simp; omega) fun j hj => ?_
      have hj' : j < n := by simp at hj; omega
      obtain ⟨v, hv, hr⟩ := h (c + j) (by omega) (by omega)
      rw [show c + j - c = j by omega] at hv
      simp only [List.getElem_take, List.getElem_drop]
      have e : ((List.range n).map f).toArray.getD j undef = v := by simp [hj', f, hv]
      rw [e]; exact hr
    unfold PV.part
    simp only [cond_true]
    split
    · rename_i hc
      obtain ⟨rfl, rfl⟩ := hc
      simpa using key
    · exact key

/-- A load out of an own object. -/
theorem Sound.load {t : TypeId} {x : Operand} {S : St} {i sz k c : Nat} {o : AO} {ag : Bool} {n : Nat} (hx : S.ev x = .ptr i sz k c) (ho : S.obj i = some o) (hsz : o.sz = sz) (hk : k < o.els.length) (ha : tAgg P t = some ag) (hn : tSize P t = some n)
    (hin : bif ag then c + n ≤ (o.els.getD k .junk).cells.length else c < (o.els.getD k .junk).cells.length) : Sound P (.load t x) S ((o.els.getD k .junk).part ag c n) ⟨[], [], [], [i]⟩ :=
  Sound.quiet fun op a w0 F0 D μ F H w hop hH hxs hr => by
    have hp := hxs x (by simp [Op.operands])
    rw [hx] at hp
    have hi : H i = some o := (hr i (by simp)).trans ho
    generalize he : a.eval x = u at hp
    cases hp with
    | ptr _ _ _ _ b hD hb =>
      have hok := hH.ok hi hb
      rw [cellget _ _ hk] at hin ⊢
      obtain ⟨v, h1, h2⟩ := run_loadVar_part (D := D) (μ := μ) (F := F) (w := w) (ad := ⟨b, k * sz + c, none⟩) ha hn hin rfl (fun j hj hcj => by
        obtain ⟨v, g1, _, g3⟩ := hok.cell hk hj
        refine ⟨v, ?_, g3⟩
        rw [← hsz]
        rw [show k * o.sz + c + (j - c) = k * o.sz + j by omega]; exact g1)
      exact ⟨v, by unfold execOp; simp [hop, he, Instr.loadAt, Instr.sureAddr, h1], h2⟩

/-- A load out of a frozen row. -/
theorem Sound.loadF {t : TypeId} {x : Operand} {S : St} {sz k c : Nat} {l : List PV} {ag : Bool} {n : Nat} (hx : S.ev x = .fptr sz l k c) (hk : k < l.length) (ha : tAgg P t = some ag) (hn : tSize P t = some n)
    (hin : bif ag then c + n ≤ (l.getD k .junk).cells.length else c < (l.getD k .junk).cells.length) : Sound P (.load t x) S ((l.getD k .junk).part ag c n) e0 :=
  Sound.quiet fun op a w0 F0 D μ F H w hop hH hxs hr => by
    have hp := hxs x (by simp [Op.operands])
    rw [hx] at hp
    generalize he : a.eval x = u at hp
    cases hp with
    | fptr _ _ _ _ b off g hF hg hcl hrep =>
      rw [cellget _ _ hk] at hin ⊢
      obtain ⟨v, h1, h2⟩ := run_loadVar_part (D := D) (μ := μ) (F := F) (w := w) (ad := ⟨b, off + (k * sz + c), none⟩) ha hn hin rfl (fun j hj hcj => by
        refine ⟨g (k * sz + j), ?_, hrep k hk j hj⟩
        have := hg (k * sz + j) (mul_cell hk (by rw [← hcl k hk]; exact hj))
        rw [show off + (k * sz + c) + (j - c) = off + (k * sz + j) by omega]; exact this)
      exact ⟨v, by unfold execOp; simp [hop, he, Instr.loadAt, Instr.sureAddr, h1], h2⟩
end
end Go.Proofs.YtfnkciboencifaaDoor

