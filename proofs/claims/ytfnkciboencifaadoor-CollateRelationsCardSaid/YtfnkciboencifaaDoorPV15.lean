/-
  The clean machine: regions reckoned value by value.
-/
import Derived.Test.YtfnkciboencifaaDoorPV14
set_option linter.all false
namespace Go.Proofs.YtfnkciboencifaaDoor
open Go Go.RowKit
set_option linter.unusedVariables false

/-- A state of memory alone. -/
def M (hp : List (Nat × Option AO)) (nx : Nat) : St := ⟨[], hp, nx, []⟩
def bndV (d : Nat) : Option PV → Option Int
  | none => some d
  | some v => match v with | .atom (.int _ n) => some n | _ => none
def vSliceV (P : Program) (t : TypeId) (a : PV) (lo hi : Option PV) (K : PV → Eff → Prop) : Prop :=
  match a with
  | .atom (.string s) => tStr P t = true ∧ match bndV 0 lo, bndV s.size hi with
    | some l, some h => 0 ≤ l ∧ l ≤ h ∧ h ≤ s.size ∧ K (.atom (.string (s.extract l.toNat h.toNat))) e0
    | _, _ => False
  | .sl sz ls => match tElem P t with
    | some e => tSize P e = some sz ∧ match bndV 0 lo, bndV ls.length hi with
      | some l, some h => 0 ≤ l ∧ l ≤ h ∧ h ≤ ls.length ∧ K (.sl sz ((ls.drop l.toNat).take (h.toNat - l.toNat))) e0
      | _, _ => False
    | none => False
  | .ob i sz off len => match tElem P t with
    | some e => tSize P e = some sz ∧ match bndV 0 lo, bndV len hi with
      | some l, some h => 0 ≤ l ∧ l ≤ h ∧ h ≤ len ∧ (l = 0 → K (.ob i sz off h.toNat) e0) ∧ (l ≠ 0 → (l < h → K (.ob i sz (off + l.toNat) (h.toNat - l.toNat)) e0) ∧ (l = h → K (.sl sz []) e0))
      | _, _ => False
    | none => False
  | _ => False
def vBinOV (P : Program) (op : BinOp) (t : TypeId) (y : Operand) (a b : PV) (K : PV → Eff → Prop) : Prop :=
  match op, isNilC y with
  | .eql, true => match nilSl a, tElem P t with | some b, some _ => K (.atom (.bool b)) e0 | _, _ => False
  | .neq, true => match nilSl a, tElem P t with | some b, some _ => K (.atom (.bool (!b))) e0 | _, _ => False
  | op, _ => vBin P op t a b K
def vFnV (P : Program) (S : St) (g : PV) (vals : List PV) (K : PV → Eff → Prop) : Prop :=
  match g with
  | .fn f cap => vCall P f ((vals ++ cap).map (sealed S.obj (fun _ => false) 6)) fun r os =>
      (noObL (vals ++ cap) || (r.flatB && os.all fun o => o.els.all PV.flatB)) = true ∧ K (r.ren (· + S.nx)) ⟨os.map (AO.ren (· + S.nx)), [], [], (vals ++ cap).flatMap (reach S.obj 6)⟩
  | _ => False
def vFnIV (P : Program) (S : St) (g : PV) (vals : List PV) (K : PV → Eff → Prop) : Prop :=
  match g with
  | .fn f cap => vFnV P S (.fn f cap) vals K ∨ vProc P S f (vals ++ cap) K
  | _ => False
def vPick (c x y : PV) (K : PV → Eff → Prop) : Prop := match c with | .atom (.bool t) => K (bif t then x else y) e0 | _ => False
def vBox (nx : Nat) (x : PV) (K : PV → Eff → Prop) : Prop := x.cells.all PV.one = true ∧ K (.ptr nx x.cells.length 0 0) (mk1 ⟨x.cells.length, [x]⟩)
def vAlloc (P : Program) (t : TypeId) (nx : Nat) (K : PV → Eff → Prop) : Prop := match tzo P t with | some z => K (.ptr nx z.cells.length 0 0) (mk1 ⟨z.cells.length, [z]⟩) | none => False
def vBuild (P : Program) (t : TypeId) (ps : List (Nat × PV)) (K : PV → Eff → Prop) : Prop :=
  match tzo P t with
  | some z => tKnown P t = true ∧ match putAll (tPlace P t) z.cells ps with | some L => K (.agg L) e0 | none => False
  | none => False
def vBuildS (P : Program) (t : TypeId) (n : Nat) (nx : Nat) (ps : List (Nat × PV)) (K : PV → Eff → Prop) : Prop :=
  match tElem P t with
  | some e => match tzo P e with
    | some z => n * z.cells.length ≤ 16777216 ∧ n ≤ 16777216 ∧ (∀ p, p ∈ ps → p.1 < n ∧ p.2.cells.length = z.cells.length ∧ p.2.cells.all PV.one = true) ∧
        K (.ob nx z.cells.length 0 n) (mk1 ⟨z.cells.length, setParts (List.replicate n z) ps⟩)
    | none => False
  | none => False
def vNil (a : PV) (K : PV → Eff → Prop) : Prop := match a with | .ptr i sz k c => K (.ptr i sz k c) e0 | .fn f l => K (.fn f l) e0 | _ => False
def vExtract (a : PV) (k : Nat) (K : PV → Eff → Prop) : Prop := match a with | .tup l => k < l.length ∧ K (l.getD k .junk) e0 | _ => False
def vMakeFV (fn : Fn) (first : List Operand) (cap : List PV) (K : PV → Eff → Prop) : Prop :=
  match fn, first with
  | .func f, [] => K (.fn f cap) e0
  | _, _ => False

/-- What an operation asks, by the values of its operands. -/
def vopV (P : Program) (op : Op) (ev : Operand → PV) (hp : List (Nat × Option AO)) (nx : Nat) (K : PV → Eff → Prop) : Prop :=
  match op with
  | .move x => K (ev x) e0
  | .assign x => K (ev x) e0
  | .pick c x y => vPick (ev c) (ev x) (ev y) K
  | .box _ x => vBox nx (ev x) K
  | .alloc t => vAlloc P t nx K
  | .build t ps => vBuild P t (ps.toList.map fun p => (p.1, ev p.2)) K
  | .buildSlice t n ps => vBuildS P t n nx (ps.toList.map fun p => (p.1, ev p.2)) K
  | .load t a => vLoad P t (M hp nx) (ev a) K
  | .store t a v => vStore P t (M hp nx) (ev a) (ev v) K
  | .nilCheck a => vNil (ev a) K
  | .binOp op t x y _ => vBinOV P op t y (ev x) (ev y) K
  | .unOp op _ x => vUn op (ev x) K
  | .convert t t' x => vConvert P t t' (M hp nx) (ev x) K
  | .makeFunc fn first cap => vMakeFV fn first.toList (cap.toList.map ev) K
  | .makeSlice t x y => vMake P t (M hp nx) (ev x) (ev y) K
  | .slice t x lo hi none => vSliceV P t (ev x) (lo.map ev) (hi.map ev) K
  | .fieldAddr t x f => vFieldAddr P t f (ev x) K
  | .field t x f => vField P t f (ev x) K
  | .indexAddr t x i => vIndexAddr P t (ev x) (ev i) K
  | .index t x i => vIndex P t (ev x) (ev i) K
  | .extract x k => vExtract (ev x) k K
  | .call c => match c.callee, c.args.toList, c.argTypes.toList with
    | .builtin .len, [x], [t] => vLen P t (ev x) K
    | .builtin .append, [x, y], [t, t'] => t = t' ∧ vAppend P t (M hp nx) (ev x) (ev y) K
    | .builtin .min, [x, y], _ => vMinMax false (ev x) (ev y) K
    | .builtin .max, [x, y], _ => vMinMax true (ev x) (ev y) K
    | .value g, xs, _ => vFnV P (M hp nx) (ev g) (xs.map ev) K
    | _, _, _ => False
  | _ => False
def vopVI (P : Program) (op : Op) (ev : Operand → PV) (hp : List (Nat × Option AO)) (nx : Nat) (K : PV → Eff → Prop) : Prop :=
  match op with
  | .call c => match c.callee with
    | .value g => vFnIV P (M hp nx) (ev g) (c.args.toList.map ev) K
    | _ => vopV P (.call c) ev hp nx K
  | op => vopV P op ev hp nx K

section
variable {P : Program} {S : St} {K : PV → Eff → Prop}
theorem bndV_bnd {d : Nat} {x : Option Operand} : bndV d (x.map S.ev) = bnd S d x := by cases x <;> rfl
theorem vopV_sound {op : Op} (h : vopV P op S.ev S.hp S.nx K) : ∃ r e, Sound P op S r e ∧ K r e := by
  refine vop_sound ?_
  cases op with
  | slice t x lo hi mx =>
    cases mx with
    | none => simp only [vopV, vSliceV, bndV_bnd] at h; exact h
    | some m => exact h
  | call c =>
    obtain ⟨callee, ⟨xs⟩, ⟨ts⟩⟩ := c
    simp only [vopV] at h
    simp only [vop, vCallO]
    split at h <;> try exact h.elim
    all_goals exact h
  | _ => exact h
theorem vProc_M {f : FuncId} {vals : List PV} (h : vProc P (M S.hp S.nx) f vals K) : vProc P S f vals K := by
  obtain ⟨L, n, args, hp, r, hp', os, h1, hl, h2, h3⟩ := h
  exact ⟨L, n, args, hp, r, hp', os, h1, ⟨hl.nodup, hl.len, hl.args, hl.objs⟩, h2, h3⟩
theorem vFnIV_to {g : PV} {xs : List Operand} (h : vFnIV P (M S.hp S.nx) g (xs.map S.ev) K) : vFnI P S g xs K := by
  cases g <;> first | exact h | exact h.imp id vProc_M
theorem vopVI_sound {op : Op} (h : vopVI P op S.ev S.hp S.nx K) : ∃ r e, SoundI P op S r e ∧ K r e := by
  have base : ∀ op, vopV P op S.ev S.hp S.nx K → ∃ r e, SoundI P op S r e ∧ K r e := fun op h => by
    obtain ⟨r, e, h1, h2⟩ := vopV_sound h
    exact ⟨r, e, h1.toI, h2⟩
  cases op with
  | call c =>
    obtain ⟨callee, xs, ts⟩ := c
    cases callee with
    | value g => exact vFnI_sound (vFnIV_to h)
    | _ => exact base _ h
  | _ => exact base _ h

/-- An effect that changes nothing. -/
def QuietE (e : Eff) : Prop := e.add = [] ∧ e.del = [] ∧ e.set = []
def quietOp : Op → Bool
  | .move _ | .assign _ | .pick _ _ _ | .load _ _ | .nilCheck _ | .binOp _ _ _ _ _ | .unOp _ _ _ | .makeFunc _ _ _ | .slice _ _ _ _ _ | .fieldAddr _ _ _ | .field _ _ _ | .indexAddr _ _ _ | .index _ _ _ | .extract _ _ | .build _ _ => true
  | .call c => match c.callee with | .builtin .len | .builtin .min | .builtin .max => true | _ => false
  | _ => false
theorem q0 {r : PV} (h : K r e0) : K r e0 ∧ QuietE e0 := ⟨h, rfl, rfl, rfl⟩
theorem vBin_q {op : BinOp} {t : TypeId} {a b : PV} (h : vBin P op t a b K) : vBin P op t a b (fun r e => K r e ∧ QuietE e) := by
  unfold vBin at h ⊢
  split at h <;> try exact h.elim
  rename_i u v
  split at h
  · exact ⟨h.1, h.2.1, q0 h.2.2⟩
  · exact ⟨h.1, h.2.1, q0 h.2.2⟩
  · exact ⟨h.1, q0 h.2⟩
  · exact ⟨h.1, q0 h.2⟩
  · exact ⟨h.1, q0 h.2⟩
  · exact ⟨h.1, q0 h.2⟩
  · exact ⟨h.1, q0 h.2⟩
  · split at h <;> try exact h.elim
    exact q0 h
theorem vopV_q {op : Op} {ev : Operand → PV} {hp : List (Nat × Option AO)} {nx : Nat} (hq : quietOp op = true) (h : vopV P op ev hp nx K) : vopV P op ev hp nx (fun r e => K r e ∧ QuietE e) := by
  cases op <;> try (cases hq; done)
  case move => exact q0 h
  case assign => exact q0 h
  case pick => unfold vopV vPick at h ⊢; simp only at h ⊢; split at h <;> first | exact h.elim | exact q0 h
  case load =>
    unfold vopV vLoad at h ⊢; simp only at h ⊢
    split at h <;> try exact h.elim
    split at h <;> try exact h.elim
    · split at h <;> try exact h.elim
      exact ⟨h.1, h.2.1, h.2.2.1, h.2.2.2, rfl, rfl, rfl⟩
    · exact ⟨h.1, h.2.1, q0 h.2.2⟩
  case nilCheck => unfold vopV vNil at h ⊢; simp only at h ⊢; split at h <;> first | exact h.elim | exact q0 h
  case binOp op t x y t' =>
    unfold vopV vBinOV at h ⊢; simp only at h ⊢
    split at h
    · split at h <;> first | exact h.elim | exact q0 h
    · split at h <;> first | exact h.elim | exact q0 h
    · exact vBin_q h
  case unOp => unfold vopV vUn at h ⊢; simp only at h ⊢; split at h <;> first | exact h.elim | exact q0 h
  case makeFunc => unfold vopV vMakeFV at h ⊢; simp only at h ⊢; split at h <;> first | exact h.elim | exact q0 h
  case slice t x lo hi mx =>
    cases mx with
    | some m => exact h
    | none =>
      unfold vopV vSliceV at h ⊢; simp only at h ⊢
      split at h <;> try exact h.elim
      · obtain ⟨h1, h⟩ := h
        refine ⟨h1, ?_⟩
        split at h <;> try exact h.elim
        exact ⟨h.1, h.2.1, h.2.2.1, q0 h.2.2.2⟩
      · split at h <;> try exact h.elim
        obtain ⟨h1, h⟩ := h
        refine ⟨h1, ?_⟩
        split at h <;> try exact h.elim
        exact ⟨h.1, h.2.1, h.2.2.1, q0 h.2.2.2⟩
      · split at h <;> try exact h.elim
        obtain ⟨h1, h⟩ := h
        refine ⟨h1, ?_⟩
        split at h <;> try exact h.elim
        exact ⟨h.1, h.2.1, h.2.2.1, fun e => q0 (h.2.2.2.1 e), fun e => ⟨fun g => q0 ((h.2.2.2.2 e).1 g), fun g => q0 ((h.2.2.2.2 e).2 g)⟩⟩
  case fieldAddr =>
    unfold vopV vFieldAddr at h ⊢; simp only at h ⊢
    split at h <;> try exact h.elim
    split at h <;> try exact h.elim
    obtain ⟨h1, h⟩ := h
    refine ⟨h1, ?_⟩
    split at h <;> first | exact h.elim | exact q0 h
  case field =>
    unfold vopV vField at h ⊢; simp only at h ⊢
    split at h <;> try exact h.elim
    split at h <;> try exact h.elim
    split at h <;> try exact h.elim
    exact ⟨h.1, q0 h.2⟩
  case indexAddr =>
    unfold vopV vIndexAddr at h ⊢; simp only at h ⊢
    split at h <;> try exact h.elim
    split at h <;> try exact h.elim
    · split at h <;> try exact h.elim
      exact ⟨h.1, h.2.1, h.2.2.1, q0 h.2.2.2⟩
    · split at h <;> try exact h.elim
      exact ⟨h.1, h.2.1, h.2.2.1, q0 h.2.2.2⟩
    · split at h <;> try exact h.elim
      split at h <;> try exact h.elim
      exact ⟨h.1, h.2.1, q0 h.2.2⟩
    · split at h <;> try exact h.elim
      split at h <;> try exact h.elim
      exact ⟨h.1, h.2.1, q0 h.2.2⟩
  case index =>
    unfold vopV vIndex at h ⊢; simp only at h ⊢
    split at h <;> try exact h.elim
    split at h <;> try exact h.elim
    · exact ⟨h.1, h.2.1, h.2.2.1, q0 h.2.2.2⟩
    · split at h <;> try exact h.elim
      split at h <;> try exact h.elim
      exact ⟨h.1, h.2.1, h.2.2.1, q0 h.2.2.2⟩
  case extract => unfold vopV vExtract at h ⊢; simp only at h ⊢; split at h <;> first | exact h.elim | exact ⟨h.1, q0 h.2⟩
  case build =>
    unfold vopV vBuild at h ⊢; simp only at h ⊢
    split at h <;> try exact h.elim
    obtain ⟨h1, h⟩ := h
    refine ⟨h1, ?_⟩
    split at h <;> first | exact h.elim | exact q0 h
  case call c =>
    obtain ⟨callee, ⟨xs⟩, ⟨ts⟩⟩ := c
    cases callee <;> try (cases hq; done)
    rename_i b
    cases b <;> try (cases hq; done)
    all_goals (simp only [vopV] at h ⊢; split at h <;> try exact h.elim)
    all_goals (rename_i he; first | (cases he; done) | skip)
    all_goals (first | (unfold vLen at h ⊢; split at h <;> first | exact h.elim | exact ⟨h.1, q0 h.2⟩ | exact ⟨h.1, h.2.1, q0 h.2.2⟩) | (unfold vMinMax at h ⊢; split at h <;> first | exact h.elim | exact ⟨h.1, q0 h.2⟩))
end
end Go.Proofs.YtfnkciboencifaaDoor

