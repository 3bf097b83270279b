/-
  The clean machine: regions reckoned value by value.
-/
import Derived.Test.YtfnkciboencifaaDoorKV14
import Derived.Test.YtfnkciboencifaaDoorProg
import Derived.KernelRfl
set_option linter.all false
namespace Go.Proofs.YtfnkciboencifaaDoor
open Go Go.RowKit
set_option linter.unusedVariables false

/-- A state of memory alone. -/
def M (hp : List (Nat × Option AO)) (nx : Nat) : St := ⟨[], hp, nx, []⟩
def bndV (d : Nat) : Option PV → Option Int
  | none => some d
  | some v => match v with | .atom (.int _ n) => some n | _ => none
def vSliceV (P : Program) (t : TypeId) (a : PV) (lo hi : Option PV) (K : PV → Eff → Prop) : Prop :=
  match a with
  | .atom (.string s) => tStr P t = true ∧ match bndV 0 lo, bndV s.size hi with
    | some l, some h => 0 ≤ l ∧ l ≤ h ∧ h ≤ s.size ∧ K (.atom (.string (s.extract l.toNat h.toNat))) e0
    | _, _ => False
  | .sl sz ls => match tElem P t with
    | some e => tSize P e = some sz ∧ match bndV 0 lo, bndV ls.length hi with
      | some l, some h => 0 ≤ l ∧ l ≤ h ∧ h ≤ ls.length ∧ K (.sl sz ((ls.drop l.toNat).take (h.toNat - l.toNat))) e0
      | _, _ => False
    | none => False
  | .ob i sz off len => match tElem P t with
    | some e => tSize P e = some sz ∧ match bndV 0 lo, bndV len hi with
      | some l, some h => 0 ≤ l ∧ l ≤ h ∧ h ≤ len ∧ (l = 0 → K (.ob i sz off h.toNat) e0) ∧ (l ≠ 0 → (l < h → K (.ob i sz (off + l.toNat) (h.toNat - l.toNat)) e0) ∧ (l = h → K (.sl sz []) e0))
      | _, _ => False
    | none => False
  | _ => False
def vBinOV (P : Program) (op : BinOp) (t : TypeId) (y : Operand) (a b : PV) (K : PV → Eff → Prop) : Prop :=
  match op, isNilC y with
  | .eql, true => match nilSl a, tElem P t with | some b, some _ => K (.atom (.bool b)) e0 | _, _ => False
  | .neq, true => match nilSl a, tElem P t with | some b, some _ => K (.atom (.bool (!b))) e0 | _, _ => False
  | op, _ => vBin P op t a b K
def vFnV (P : Program) (S : St) (g : PV) (vals : List PV) (K : PV → Eff → Prop) : Prop :=
  match g with
  | .fn f cap => vCall P f ((vals ++ cap).map (sealed S.obj (fun _ => false) 6)) fun r os =>
      (noObL (vals ++ cap) || (r.flatB && os.all fun o => o.els.all PV.flatB)) = true ∧ K (r.ren (· + S.nx)) ⟨os.map (AO.ren (· + S.nx)), [], [], (vals ++ cap).flatMap (reach S.obj 6)⟩
  | _ => False
def vFnIV (P : Program) (S : St) (g : PV) (vals : List PV) (K : PV → Eff → Prop) : Prop :=
  match g with
  | .fn f cap => vFnV P S (.fn f cap) vals K ∨ vProc P S f (vals ++ cap) K
  | _ => False
def vPick (c x y : PV) (K : PV → Eff → Prop) : Prop := match c with | .atom (.bool t) => K (bif t then x else y) e0 | _ => False
def vBox (nx : Nat) (x : PV) (K : PV → Eff → Prop) : Prop := x.cells.all PV.one = true ∧ K (.ptr nx x.cells.length 0 0) (mk1 ⟨x.cells.length, [x]⟩)
def vAlloc (P : Program) (t : TypeId) (nx : Nat) (K : PV → Eff → Prop) : Prop := match tzo P t with | some z => K (.ptr nx z.cells.length 0 0) (mk1 ⟨z.cells.length, [z]⟩) | none => False
def vBuild (P : Program) (t : TypeId) (ps : List (Nat × PV)) (K : PV → Eff → Prop) : Prop :=
  match tzo P t with
  | some z => tKnown P t = true ∧ match putAll (tPlace P t) z.cells ps with | some L => K (.agg L) e0 | none => False
  | none => False
def vBuildS (P : Program) (t : TypeId) (n : Nat) (nx : Nat) (ps : List (Nat × PV)) (K : PV → Eff → Prop) : Prop :=
  match tElem P t with
  | some e => match tzo P e with
    | some z => n * z.cells.length ≤ 16777216 ∧ n ≤ 16777216 ∧ (∀ p, p ∈ ps → p.1 < n ∧ p.2.cells.length = z.cells.length ∧ p.2.cells.all PV.one = true) ∧
        K (.ob nx z.cells.length 0 n) (mk1 ⟨z.cells.length, setParts (List.replicate n z) ps⟩)
    | none => False
  | none => False
def vNil (a : PV) (K : PV → Eff → Prop) : Prop := match a with | .ptr i sz k c => K (.ptr i sz k c) e0 | .fn f l => K (.fn f l) e0 | _ => False
def vExtract (a : PV) (k : Nat) (K : PV → Eff → Prop) : Prop := match a with | .tup l => k < l.length ∧ K (l.getD k .junk) e0 | _ => False
def vMakeFV (fn : Fn) (first : List Operand) (cap : List PV) (K : PV → Eff → Prop) : Prop :=
  match fn, first with
  | .func f, [] => K (.fn f cap) e0
  | _, _ => False

/-- What an operation asks, by the values of its operands. -/
def vopV (P : Program) (op : Op) (ev : Operand → PV) (hp : List (Nat × Option AO)) (nx : Nat) (K : PV → Eff → Prop) : Prop :=
  match op with
  | .move x => K (ev x) e0
  | .assign x => K (ev x) e0
  | .pick c x y => vPick (ev c) (ev x) (ev y) K
  | .box _ x => vBox nx (ev x) K
  | .alloc t => vAlloc P t nx K
  | .build t ps => vBuild P t (ps.toList.map fun p => (p.1, ev p.2)) K
  | .buildSlice t n ps => vBuildS P t n nx (ps.toList.map fun p => (p.1, ev p.2)) K
  | .load t a => vLoad P t (M hp nx) (ev a) K
  | .store t a v => vStore P t (M hp nx) (ev a) (ev v) K
  | .nilCheck a => vNil (ev a) K
  | .binOp op t x y _ => vBinOV P op t y (ev x) (ev y) K
  | .unOp op _ x => vUn op (ev x) K
  | .convert t t' x => vConvert P t t' (M hp nx) (ev x) K
  | .makeFunc fn first cap => vMakeFV fn first.toList (cap.toList.map ev) K
  | .makeSlice t x y => vMake P t (M hp nx) (ev x) (ev y) K
  | .slice t x lo hi none => vSliceV P t (ev x) (lo.map ev) (hi.map ev) K
  | .fieldAddr t x f => vFieldAddr P t f (ev x) K
  | .field t x f => vField P t f (ev x) K
  | .indexAddr t x i => vIndexAddr P t (ev x) (ev i) K
  | .index t x i => vIndex P t (ev x) (ev i) K
  | .extract x k => vExtract (ev x) k K
  | .call c => match c.callee, c.args.toList, c.argTypes.toList with
    | .builtin .len, [x], [t] => vLen P t (ev x) K
    | .builtin .append, [x, y], [t, t'] => t = t' ∧ vAppend P t (M hp nx) (ev x) (ev y) K
    | .builtin .min, [x, y], _ => vMinMax false (ev x) (ev y) K
    | .builtin .max, [x, y], _ => vMinMax true (ev x) (ev y) K
    | .value g, xs, _ => vFnV P (M hp nx) (ev g) (xs.map ev) K
    | _, _, _ => False
  | _ => False
def vopVI (P : Program) (op : Op) (ev : Operand → PV) (hp : List (Nat × Option AO)) (nx : Nat) (K : PV → Eff → Prop) : Prop :=
  match op with
  | .call c => match c.callee with
    | .value g => vFnIV P (M hp nx) (ev g) (c.args.toList.map ev) K
    | _ => vopV P (.call c) ev hp nx K
  | op => vopV P op ev hp nx K

section
variable {P : Program} {S : St} {K : PV → Eff → Prop}
theorem bndV_bnd {d : Nat} {x : Option Operand} : bndV d (x.map S.ev) = bnd S d x := by cases x <;> rfl
theorem vopV_sound {op : Op} (h : vopV P op S.ev S.hp S.nx K) : ∃ r e, Sound P op S r e ∧ K r e := by
  refine vop_sound ?_
  cases op with
  | slice t x lo hi mx =>
    cases mx with
    | none => simp only [vopV, vSliceV, bndV_bnd] at h; exact h
    | some m => exact h
  | call c =>
    obtain ⟨callee, ⟨xs⟩, ⟨ts⟩⟩ := c
    simp only [vopV] at h
    simp only [vop, vCallO]
    split at h <;> try exact h.elim
    all_goals exact h
  | _ => exact h
theorem vProc_M {f : FuncId} {vals : List PV} (h : vProc P (M S.hp S.nx) f vals K) : vProc P S f vals K := by
  obtain ⟨L, n, args, hp, r, hp', os, h1, hl, h2, h3⟩ := h
  exact ⟨L, n, args, hp, r, hp', os, h1, ⟨hl.nodup, hl.len, hl.args, hl.objs⟩, h2, h3⟩
theorem vFnIV_to {g : PV} {xs : List Operand} (h : vFnIV P (M S.hp S.nx) g (xs.map S.ev) K) : vFnI P S g xs K := by
  cases g <;> first | exact h | exact h.imp id vProc_M
theorem vopVI_sound {op : Op} (h : vopVI P op S.ev S.hp S.nx K) : ∃ r e, SoundI P op S r e ∧ K r e := by
  have base : ∀ op, vopV P op S.ev S.hp S.nx K → ∃ r e, SoundI P op S r e ∧ K r e := fun op h => by
    obtain ⟨r, e, h1, h2⟩ := vopV_sound h
    exact ⟨r, e, h1.toI, h2⟩
  cases op with
  | call c =>
    obtain ⟨callee, xs, ts⟩ := c
    cases callee with
    | value g => exact vFnI_sound (vFnIV_to h)
    | _ => exact base _ h
  | _ => exact base _ h

/-- An effect that changes nothing. -/
def QuietE (e : Eff) : Prop := e.add = [] ∧ e.del = [] ∧ e.set = []
def quietOp : Op → Bool
  | .move _ | .assign _ | .pick _ _ _ | .load _ _ | .nilCheck _ | .binOp _ _ _ _ _ | .unOp _ _ _ | .makeFunc _ _ _ | .slice _ _ _ _ _ | .fieldAddr _ _ _ | .field _ _ _ | .indexAddr _ _ _ | .index _ _ _ | .extract _ _ | .build _ _ => true
  | .call c => match c.callee with | .builtin .len | .builtin .min | .builtin .max => true | _ => false
  | _ => false
theorem q0 {r : PV} (h : K r e0) : K r e0 ∧ QuietE e0 := ⟨h, rfl, rfl, rfl⟩
theorem vBin_q {op : BinOp} {t : TypeId} {a b : PV} (h : vBin P op t a b K) : vBin P op t a b (fun r e => K r e ∧ QuietE e) := by
  unfold vBin at h ⊢
  split at h <;> try exact h.elim
  rename_i u v
  split at h
  · exact ⟨h.1, h.2.1, q0 h.2.2⟩
  · exact ⟨h.1, h.2.1, q0 h.2.2⟩
  · exact ⟨h.1, q0 h.2⟩
  · exact ⟨h.1, q0 h.2⟩
  · exact ⟨h.1, q0 h.2⟩
  · exact ⟨h.1, q0 h.2⟩
  · exact ⟨h.1, q0 h.2⟩
  · split at h <;> try exact h.elim
    exact q0 h
theorem vopV_q {op : Op} {ev : Operand → PV} {hp : List (Nat × Option AO)} {nx : Nat} (hq : quietOp op = true) (h : vopV P op ev hp nx K) : vopV P op ev hp nx (fun r e => K r e ∧ QuietE e) := by
  cases op <;> try (cases hq; done)
  case move => exact q0 h
  case assign => exact q0 h
  case pick => unfold vopV vPick at h ⊢; simp only at h ⊢; split at h <;> first | exact h.elim | exact q0 h
  case load =>
    unfold vopV vLoad at h ⊢; simp only at h ⊢
    split at h <;> try exact h.elim
    split at h <;> try exact h.elim
    · split at h <;> try exact h.elim
      exact ⟨h.1, h.2.1, h.2.2.1, h.2.2.2, rfl, rfl, rfl⟩
    · exact ⟨h.1, h.2.1, q0 h.2.2⟩
  case nilCheck => unfold vopV vNil at h ⊢; simp only at h ⊢; split at h <;> first | exact h.elim | exact q0 h
  case binOp op t x y t' =>
    unfold vopV vBinOV at h ⊢; simp only at h ⊢
    split at h
    · split at h <;> first | exact h.elim | exact q0 h
    · split at h <;> first | exact h.elim | exact q0 h
    · exact vBin_q h
  case unOp => unfold vopV vUn at h ⊢; simp only at h ⊢; split at h <;> first | exact h.elim | exact q0 h
  case makeFunc => unfold vopV vMakeFV at h ⊢; simp only at h ⊢; split at h <;> first | exact h.elim | exact q0 h
  case slice t x lo hi mx =>
    cases mx with
    | some m => exact h
    | none =>
      unfold vopV vSliceV at h ⊢; simp only at h ⊢
      split at h <;> try exact h.elim
      · obtain ⟨h1, h⟩ := h
        refine ⟨h1, ?_⟩
        split at h <;> try exact h.elim
        exact ⟨h.1, h.2.1, h.2.2.1, q0 h.2.2.2⟩
      · split at h <;> try exact h.elim
        obtain ⟨h1, h⟩ := h
        refine ⟨h1, ?_⟩
        split at h <;> try exact h.elim
        exact ⟨h.1, h.2.1, h.2.2.1, q0 h.2.2.2⟩
      · split at h <;> try exact h.elim
        obtain ⟨h1, h⟩ := h
        refine ⟨h1, ?_⟩
        split at h <;> try exact h.elim
        exact ⟨h.1, h.2.1, h.2.2.1, fun e => q0 (h.2.2.2.1 e), fun e => ⟨fun g => q0 ((h.2.2.2.2 e).1 g), fun g => q0 ((h.2.2.2.2 e).2 g)⟩⟩
  case fieldAddr =>
    unfold vopV vFieldAddr at h ⊢; simp only at h ⊢
    split at h <;> try exact h.elim
    split at h <;> try exact h.elim
    obtain ⟨h1, h⟩ := h
    refine ⟨h1, ?_⟩
    split at h <;> first | exact h.elim | exact q0 h
  case field =>
    unfold vopV vField at h ⊢; simp only at h ⊢
    split at h <;> try exact h.elim
    split at h <;> try exact h.elim
    split at h <;> try exact h.elim
    exact ⟨h.1, q0 h.2⟩
  case indexAddr =>
    unfold vopV vIndexAddr at h ⊢; simp only at h ⊢
    split at h <;> try exact h.elim
    split at h <;> try exact h.elim
    · split at h <;> try exact h.elim
      exact ⟨h.1, h.2.1, h.2.2.1, q0 h.2.2.2⟩
    · split at h <;> try exact h.elim
      exact ⟨h.1, h.2.1, h.2.2.1, q0 h.2.2.2⟩
    · split at h <;> try exact h.elim
      split at h <;> try exact h.elim
      exact ⟨h.1, h.2.1, q0 h.2.2⟩
    · split at h <;> try exact h.elim
      split at h <;> try exact h.elim
      exact ⟨h.1, h.2.1, q0 h.2.2⟩
  case index =>
    unfold vopV vIndex at h ⊢; simp only at h ⊢
    split at h <;> try exact h.elim
    split at h <;> try exact h.elim
    · exact ⟨h.1, h.2.1, h.2.2.1, q0 h.2.2.2⟩
    · split at h <;> try exact h.elim
      split at h <;> try exact h.elim
      exact ⟨h.1, h.2.1, h.2.2.1, q0 h.2.2.2⟩
  case extract => unfold vopV vExtract at h ⊢; simp only at h ⊢; split at h <;> first | exact h.elim | exact ⟨h.1, q0 h.2⟩
  case build =>
    unfold vopV vBuild at h ⊢; simp only at h ⊢
    split at h <;> try exact h.elim
    obtain ⟨h1, h⟩ := h
    refine ⟨h1, ?_⟩
    split at h <;> first | exact h.elim | exact q0 h
  case call c =>
    obtain ⟨callee, ⟨xs⟩, ⟨ts⟩⟩ := c
    cases callee <;> try (cases hq; done)
    rename_i b
    cases b <;> try (cases hq; done)
    all_goals (simp only [vopV] at h ⊢; split at h <;> try exact h.elim)
    all_goals (rename_i he; first | (cases he; done) | skip)
    all_goals (first | (unfold vLen at h ⊢; split at h <;> first | exact h.elim | exact ⟨h.1, q0 h.2⟩ | exact ⟨h.1, h.2.1, q0 h.2.2⟩) | (unfold vMinMax at h ⊢; split at h <;> first | exact h.elim | exact ⟨h.1, q0 h.2⟩))
end
end Go.Proofs.YtfnkciboencifaaDoor
set_option linter.all false
namespace Go.Proofs.YtfnkciboencifaaDoor
open Go Go.RowKit
set_option linter.unusedVariables false

/-- What was passed over. -/
def pvU : PV := .atom (.tuple #[])
def St.put (S : St) (dst : Option Tmp) (r : PV) : St := ⟨match dst with | some d => (d, r) :: S.env | none => S.env, S.hp, S.nx, S.gh⟩
theorem fin_quiet {S : St} {dst : Option Tmp} {r : PV} {e : Eff} (h : QuietE e) : S.fin dst r e = S.put dst r := by
  obtain ⟨add, del, set, rd⟩ := e
  obtain ⟨h1, h2, h3⟩ := h
  simp only at h1 h2 h3
  subst h1; subst h2; subst h3
  rfl
/- What an operation asks, sealed: the kernel compares these by their parts and does not look behind them. -/
structure XvLoad (P : Program) (t : TypeId) (S : St) (a : PV) (K : PV → Eff → Prop) : Prop where
  out : vLoad P t S a K
theorem XvLoad_eq {P : Program} {t : TypeId} {S : St} {a : PV} {K : PV → Eff → Prop} : XvLoad P t S a K = vLoad P t S a K := propext ⟨XvLoad.out, XvLoad.mk⟩
structure XvStore (P : Program) (t : TypeId) (S : St) (a v : PV) (K : PV → Eff → Prop) : Prop where
  out : vStore P t S a v K
theorem XvStore_eq {P : Program} {t : TypeId} {S : St} {a v : PV} {K : PV → Eff → Prop} : XvStore P t S a v K = vStore P t S a v K := propext ⟨XvStore.out, XvStore.mk⟩
structure XvFieldAddr (P : Program) (t : TypeId) (f : Nat) (a : PV) (K : PV → Eff → Prop) : Prop where
  out : vFieldAddr P t f a K
theorem XvFieldAddr_eq {P : Program} {t : TypeId} {f : Nat} {a : PV} {K : PV → Eff → Prop} : XvFieldAddr P t f a K = vFieldAddr P t f a K := propext ⟨XvFieldAddr.out, XvFieldAddr.mk⟩
structure XvField (P : Program) (t : TypeId) (f : Nat) (a : PV) (K : PV → Eff → Prop) : Prop where
  out : vField P t f a K
theorem XvField_eq {P : Program} {t : TypeId} {f : Nat} {a : PV} {K : PV → Eff → Prop} : XvField P t f a K = vField P t f a K := propext ⟨XvField.out, XvField.mk⟩
structure XvIndexAddr (P : Program) (t : TypeId) (a i : PV) (K : PV → Eff → Prop) : Prop where
  out : vIndexAddr P t a i K
theorem XvIndexAddr_eq {P : Program} {t : TypeId} {a i : PV} {K : PV → Eff → Prop} : XvIndexAddr P t a i K = vIndexAddr P t a i K := propext ⟨XvIndexAddr.out, XvIndexAddr.mk⟩
structure XvIndex (P : Program) (t : TypeId) (a i : PV) (K : PV → Eff → Prop) : Prop where
  out : vIndex P t a i K
theorem XvIndex_eq {P : Program} {t : TypeId} {a i : PV} {K : PV → Eff → Prop} : XvIndex P t a i K = vIndex P t a i K := propext ⟨XvIndex.out, XvIndex.mk⟩
structure XvBinOV (P : Program) (op : BinOp) (t : TypeId) (y : Operand) (a b : PV) (K : PV → Eff → Prop) : Prop where
  out : vBinOV P op t y a b K
theorem XvBinOV_eq {P : Program} {op : BinOp} {t : TypeId} {y : Operand} {a b : PV} {K : PV → Eff → Prop} : XvBinOV P op t y a b K = vBinOV P op t y a b K := propext ⟨XvBinOV.out, XvBinOV.mk⟩
structure XvUn (op : UnOp) (a : PV) (K : PV → Eff → Prop) : Prop where
  out : vUn op a K
theorem XvUn_eq {op : UnOp} {a : PV} {K : PV → Eff → Prop} : XvUn op a K = vUn op a K := propext ⟨XvUn.out, XvUn.mk⟩
structure XvConvert (P : Program) (t t2 : TypeId) (S : St) (a : PV) (K : PV → Eff → Prop) : Prop where
  out : vConvert P t t2 S a K
theorem XvConvert_eq {P : Program} {t t2 : TypeId} {S : St} {a : PV} {K : PV → Eff → Prop} : XvConvert P t t2 S a K = vConvert P t t2 S a K := propext ⟨XvConvert.out, XvConvert.mk⟩
structure XvMake (P : Program) (t : TypeId) (S : St) (a b : PV) (K : PV → Eff → Prop) : Prop where
  out : vMake P t S a b K
theorem XvMake_eq {P : Program} {t : TypeId} {S : St} {a b : PV} {K : PV → Eff → Prop} : XvMake P t S a b K = vMake P t S a b K := propext ⟨XvMake.out, XvMake.mk⟩
structure XvSliceV (P : Program) (t : TypeId) (a : PV) (lo hi : Option PV) (K : PV → Eff → Prop) : Prop where
  out : vSliceV P t a lo hi K
theorem XvSliceV_eq {P : Program} {t : TypeId} {a : PV} {lo hi : Option PV} {K : PV → Eff → Prop} : XvSliceV P t a lo hi K = vSliceV P t a lo hi K := propext ⟨XvSliceV.out, XvSliceV.mk⟩
structure XvPick (c x y : PV) (K : PV → Eff → Prop) : Prop where
  out : vPick c x y K
theorem XvPick_eq {c x y : PV} {K : PV → Eff → Prop} : XvPick c x y K = vPick c x y K := propext ⟨XvPick.out, XvPick.mk⟩
structure XvBox (nx : Nat) (x : PV) (K : PV → Eff → Prop) : Prop where
  out : vBox nx x K
theorem XvBox_eq {nx : Nat} {x : PV} {K : PV → Eff → Prop} : XvBox nx x K = vBox nx x K := propext ⟨XvBox.out, XvBox.mk⟩
structure XvAlloc (P : Program) (t : TypeId) (nx : Nat) (K : PV → Eff → Prop) : Prop where
  out : vAlloc P t nx K
theorem XvAlloc_eq {P : Program} {t : TypeId} {nx : Nat} {K : PV → Eff → Prop} : XvAlloc P t nx K = vAlloc P t nx K := propext ⟨XvAlloc.out, XvAlloc.mk⟩
structure XvBuild (P : Program) (t : TypeId) (ps : List (Nat × PV)) (K : PV → Eff → Prop) : Prop where
  out : vBuild P t ps K
theorem XvBuild_eq {P : Program} {t : TypeId} {ps : List (Nat × PV)} {K : PV → Eff → Prop} : XvBuild P t ps K = vBuild P t ps K := propext ⟨XvBuild.out, XvBuild.mk⟩
structure XvBuildS (P : Program) (t : TypeId) (n nx : Nat) (ps : List (Nat × PV)) (K : PV → Eff → Prop) : Prop where
  out : vBuildS P t n nx ps K
theorem XvBuildS_eq {P : Program} {t : TypeId} {n nx : Nat} {ps : List (Nat × PV)} {K : PV → Eff → Prop} : XvBuildS P t n nx ps K = vBuildS P t n nx ps K := propext ⟨XvBuildS.out, XvBuildS.mk⟩
structure XvNil (a : PV) (K : PV → Eff → Prop) : Prop where
  out : vNil a K
theorem XvNil_eq {a : PV} {K : PV → Eff → Prop} : XvNil a K = vNil a K := propext ⟨XvNil.out, XvNil.mk⟩
structure XvExtract (a : PV) (k : Nat) (K : PV → Eff → Prop) : Prop where
  out : vExtract a k K
theorem XvExtract_eq {a : PV} {k : Nat} {K : PV → Eff → Prop} : XvExtract a k K = vExtract a k K := propext ⟨XvExtract.out, XvExtract.mk⟩
structure XvMakeFV (fn : Fn) (first : List Operand) (cap : List PV) (K : PV → Eff → Prop) : Prop where
  out : vMakeFV fn first cap K
theorem XvMakeFV_eq {fn : Fn} {first : List Operand} {cap : List PV} {K : PV → Eff → Prop} : XvMakeFV fn first cap K = vMakeFV fn first cap K := propext ⟨XvMakeFV.out, XvMakeFV.mk⟩
structure XvLen (P : Program) (t : TypeId) (a : PV) (K : PV → Eff → Prop) : Prop where
  out : vLen P t a K
theorem XvLen_eq {P : Program} {t : TypeId} {a : PV} {K : PV → Eff → Prop} : XvLen P t a K = vLen P t a K := propext ⟨XvLen.out, XvLen.mk⟩
structure XvAppend (P : Program) (t : TypeId) (S : St) (a b : PV) (K : PV → Eff → Prop) : Prop where
  out : vAppend P t S a b K
theorem XvAppend_eq {P : Program} {t : TypeId} {S : St} {a b : PV} {K : PV → Eff → Prop} : XvAppend P t S a b K = vAppend P t S a b K := propext ⟨XvAppend.out, XvAppend.mk⟩
structure XvMinMax (mx : Bool) (a b : PV) (K : PV → Eff → Prop) : Prop where
  out : vMinMax mx a b K
theorem XvMinMax_eq {mx : Bool} {a b : PV} {K : PV → Eff → Prop} : XvMinMax mx a b K = vMinMax mx a b K := propext ⟨XvMinMax.out, XvMinMax.mk⟩
structure XvFnV (P : Program) (S : St) (g : PV) (vals : List PV) (K : PV → Eff → Prop) : Prop where
  out : vFnV P S g vals K
theorem XvFnV_eq {P : Program} {S : St} {g : PV} {vals : List PV} {K : PV → Eff → Prop} : XvFnV P S g vals K = vFnV P S g vals K := propext ⟨XvFnV.out, XvFnV.mk⟩
structure XvFnIV (P : Program) (S : St) (g : PV) (vals : List PV) (K : PV → Eff → Prop) : Prop where
  out : vFnIV P S g vals K
theorem XvFnIV_eq {P : Program} {S : St} {g : PV} {vals : List PV} {K : PV → Eff → Prop} : XvFnIV P S g vals K = vFnIV P S g vals K := propext ⟨XvFnIV.out, XvFnIV.mk⟩
def wopV (P : Program) (op : Op) (ev : Operand → PV) (hp : List (Nat × Option AO)) (nx : Nat) (K : PV → Eff → Prop) : Prop :=
  match op with
  | .move x => K (ev x) e0
  | .assign x => K (ev x) e0
  | .pick c x y => XvPick (ev c) (ev x) (ev y) K
  | .box _ x => XvBox nx (ev x) K
  | .alloc t => XvAlloc P t nx K
  | .build t ps => XvBuild P t (ps.toList.map fun p => (p.1, ev p.2)) K
  | .buildSlice t n ps => XvBuildS P t n nx (ps.toList.map fun p => (p.1, ev p.2)) K
  | .load t a => XvLoad P t (M hp nx) (ev a) K
  | .store t a v => XvStore P t (M hp nx) (ev a) (ev v) K
  | .nilCheck a => XvNil (ev a) K
  | .binOp op t x y _ => XvBinOV P op t y (ev x) (ev y) K
  | .unOp op _ x => XvUn op (ev x) K
  | .convert t t' x => XvConvert P t t' (M hp nx) (ev x) K
  | .makeFunc fn first cap => XvMakeFV fn first.toList (cap.toList.map ev) K
  | .makeSlice t x y => XvMake P t (M hp nx) (ev x) (ev y) K
  | .slice t x lo hi none => XvSliceV P t (ev x) (lo.map ev) (hi.map ev) K
  | .fieldAddr t x f => XvFieldAddr P t f (ev x) K
  | .field t x f => XvField P t f (ev x) K
  | .indexAddr t x i => XvIndexAddr P t (ev x) (ev i) K
  | .index t x i => XvIndex P t (ev x) (ev i) K
  | .extract x k => XvExtract (ev x) k K
  | .call c => match c.callee, c.args.toList, c.argTypes.toList with
    | .builtin .len, [x], [t] => XvLen P t (ev x) K
    | .builtin .append, [x, y], [t, t'] => t = t' ∧ XvAppend P t (M hp nx) (ev x) (ev y) K
    | .builtin .min, [x, y], _ => XvMinMax false (ev x) (ev y) K
    | .builtin .max, [x, y], _ => XvMinMax true (ev x) (ev y) K
    | .value g, xs, _ => XvFnV P (M hp nx) (ev g) (xs.map ev) K
    | _, _, _ => False
  | _ => False
def wopVI (P : Program) (op : Op) (ev : Operand → PV) (hp : List (Nat × Option AO)) (nx : Nat) (K : PV → Eff → Prop) : Prop :=
  match op with
  | .call c => match c.callee with
    | .value g => XvFnIV P (M hp nx) (ev g) (c.args.toList.map ev) K
    | _ => wopV P (.call c) ev hp nx K
  | op => wopV P op ev hp nx K
theorem wopV_to {P : Program} {op : Op} {ev : Operand → PV} {hp : List (Nat × Option AO)} {nx : Nat} {K : PV → Eff → Prop} (h : wopV P op ev hp nx K) : vopV P op ev hp nx K := by
  cases op with
  | slice t x lo hi mx =>
    cases mx with
    | none => exact h.out
    | some m => exact h
  | call c =>
    obtain ⟨callee, ⟨xs⟩, ⟨ts⟩⟩ := c
    simp only [wopV] at h
    simp only [vopV]
    split at h <;> first | exact h.elim | exact h.out | exact ⟨h.1, h.2.out⟩
  | _ => first | exact h | exact h.out | exact h.elim
theorem wopVI_to {P : Program} {op : Op} {ev : Operand → PV} {hp : List (Nat × Option AO)} {nx : Nat} {K : PV → Eff → Prop} (h : wopVI P op ev hp nx K) : vopVI P op ev hp nx K := by
  cases op with
  | call c =>
    obtain ⟨callee, xs, ts⟩ := c
    cases callee with
    | value g => exact h.out
    | builtin b => exact wopV_to (show wopV P (.call ⟨.builtin b, xs, ts⟩) ev hp nx K from h)
    | invoke r m => exact wopV_to (show wopV P (.call ⟨.invoke r m, xs, ts⟩) ev hp nx K from h)
  | _ => (first | exact @wopV_to P (.move _) ev hp nx K h | exact @wopV_to P (.assign _) ev hp nx K h | exact h.out | exact h.elim | (rename_i lo hi mx; cases mx; exact h.out; exact h.elim))
/-- A guarded operation: what follows knows how the guard stood. -/
def gq (v : PV) (want : Bool) (run : (PV → Prop) → Prop) (k : PV → PV → Prop) : Prop :=
  match v with
  | .atom (.bool b) => xG b want (run (k (.atom (.bool want)))) (k (.atom (.bool (!want))) pvU)
  | .atom (.tuple vs) => k (.atom (.tuple vs)) pvU
  | _ => False
def ge (v : PV) (want : Bool) (run : (PV → Eff → Prop) → Prop) (k : PV → PV → Eff → Prop) : Prop :=
  match v with
  | .atom (.bool b) => xG b want (run (k (.atom (.bool want)))) (k (.atom (.bool (!want))) pvU e0)
  | .atom (.tuple vs) => k (.atom (.tuple vs)) pvU e0
  | _ => False
structure Xgq (v : PV) (want : Bool) (run : (PV → Prop) → Prop) (k : PV → PV → Prop) : Prop where
  out : gq v want run k
structure Xge (v : PV) (want : Bool) (run : (PV → Eff → Prop) → Prop) (k : PV → PV → Eff → Prop) : Prop where
  out : ge v want run k
theorem Xgq_eq {v : PV} {want : Bool} {run : (PV → Prop) → Prop} {k : PV → PV → Prop} : Xgq v want run k = gq v want run k := propext ⟨Xgq.out, Xgq.mk⟩
theorem Xge_eq {v : PV} {want : Bool} {run : (PV → Eff → Prop) → Prop} {k : PV → PV → Eff → Prop} : Xge v want run k = ge v want run k := propext ⟨Xge.out, Xge.mk⟩
theorem gq_cases {ops : Array Oper} {S0 S : St} {o : Oper} {j : Nat} {want : Bool} {d : Tmp} {run : (PV → Prop) → Prop} {k : PV → PV → Prop} (hS : SEq S0 S) (hg : o.guard = some (j, want)) (hd : (ops[j]?).bind (·.dst) = some d) (h : gq (S.get d) want run k) :
    ∃ g, S.get d = g ∧ ((gWant ops S0 o true ∧ run (k g)) ∨ (gWant ops S0 o false ∧ k g pvU)) := by
  unfold gq at h
  split at h
  · rename_i b hs
    by_cases hb : b = want
    · subst hb; exact ⟨_, hs, .inl ⟨.inr ⟨j, b, d, hg, hd, by rw [hS.get]; exact hs⟩, h.1 rfl⟩⟩
    · have hb' : b = !want := by cases b <;> cases want <;> simp_all
      subst hb'
      exact ⟨_, hs, .inr ⟨⟨j, want, d, hg, hd, .inl (by rw [hS.get]; exact hs)⟩, h.2 rfl⟩⟩
  · rename_i vs hs
    exact ⟨_, hs, .inr ⟨⟨j, want, d, hg, hd, .inr ⟨vs, by rw [hS.get]; exact hs⟩⟩, h⟩⟩
  · exact h.elim
theorem ge_cases {ops : Array Oper} {S0 S : St} {o : Oper} {j : Nat} {want : Bool} {d : Tmp} {run : (PV → Eff → Prop) → Prop} {k : PV → PV → Eff → Prop} (hS : SEq S0 S) (hg : o.guard = some (j, want)) (hd : (ops[j]?).bind (·.dst) = some d) (h : ge (S.get d) want run k) :
    ∃ g, S.get d = g ∧ ((gWant ops S0 o true ∧ run (k g)) ∨ (gWant ops S0 o false ∧ k g pvU e0)) := by
  unfold ge at h
  split at h
  · rename_i b hs
    by_cases hb : b = want
    · subst hb; exact ⟨_, hs, .inl ⟨.inr ⟨j, b, d, hg, hd, by rw [hS.get]; exact hs⟩, h.1 rfl⟩⟩
    · have hb' : b = !want := by cases b <;> cases want <;> simp_all
      subst hb'
      exact ⟨_, hs, .inr ⟨⟨j, want, d, hg, hd, .inl (by rw [hS.get]; exact hs)⟩, h.2 rfl⟩⟩
  · rename_i vs hs
    exact ⟨_, hs, .inr ⟨⟨j, want, d, hg, hd, .inr ⟨vs, by rw [hS.get]; exact hs⟩⟩, h⟩⟩
  · exact h.elim

/-- Operations in the order of the text. -/
def yOps (P : Program) (ops : Array Oper) : List Oper → St → (St → Prop) → Prop
  | [], S, K => K S
  | o :: rest, S, K =>
    match o.guard with
    | none => bif quietOp o.op then wopV P o.op S.ev S.hp S.nx (fun r _ => yOps P ops rest (S.put o.dst r) K)
        else wopVI P o.op S.ev S.hp S.nx (fun r e => yOps P ops rest (S.fin o.dst r e) K)
    | some (j, want) => match (ops[j]?).bind (·.dst) with
      | some d => bif quietOp o.op then Xgq (S.get d) want (fun k => wopV P o.op S.ev S.hp S.nx (fun r _ => k r)) (fun g r => yOps P ops rest ((S.known d g).put o.dst r) K)
        else Xge (S.get d) want (fun k => wopVI P o.op S.ev S.hp S.nx k) (fun g r e => yOps P ops rest ((S.known d g).fin o.dst r e) K)
      | none => False
theorem yOps_sound {P : Program} {ops : Array Oper} {K : St → Prop} : ∀ (l : List Oper) (S0 S : St), SEq S0 S → yOps P ops l S K → vOps P ops l S0 (fun S1 => ∃ S', SEq S1 S' ∧ K S')
  | [], S0, S, hS, h => ⟨S, hS, h⟩
  | o :: rest, S0, S, hS, h => by
    refine vGuard_mk ?_
    unfold yOps at h
    split at h
    · rename_i hg
      left
      refine ⟨.inl hg, ?_⟩
      cases hq : quietOp o.op with
      | true =>
        simp only [hq, cond_true, cond_false] at h
        obtain ⟨r, e, h1, h2, h3⟩ := vopV_sound (vopV_q hq (wopV_to h))
        exact ⟨r, e, (h1.seq hS).toI, yOps_sound rest _ _ (hS.fin _ _ _) (by rw [fin_quiet h3]; exact h2)⟩
      | false =>
        simp only [hq, cond_true, cond_false] at h
        obtain ⟨r, e, h1, h2⟩ := vopVI_sound (wopVI_to h)
        exact ⟨r, e, h1.seq hS, yOps_sound rest _ _ (hS.fin _ _ _) h2⟩
    · rename_i j want hg
      split at h
      · rename_i d hd
        cases hq : quietOp o.op with
        | true =>
          simp only [hq, cond_true, cond_false] at h
          obtain ⟨g, hgd, ⟨hw, h⟩ | ⟨hw, h⟩⟩ := gq_cases hS hg hd h.out
          · obtain ⟨r, e, h1, h2, h3⟩ := vopV_sound (vopV_q hq (wopV_to h))
            exact .inl ⟨hw, r, e, (h1.seq hS).toI, yOps_sound rest _ _ ((hS.trans (SEq.known hgd)).fin _ _ _) (by rw [fin_quiet h3]; exact h2)⟩
          · exact .inr ⟨hw, yOps_sound rest _ _ ((hS.trans (SEq.known hgd)).fin _ _ e0) h⟩
        | false =>
          simp only [hq, cond_true, cond_false] at h
          obtain ⟨g, hgd, ⟨hw, h⟩ | ⟨hw, h⟩⟩ := ge_cases hS hg hd h.out
          · obtain ⟨r, e, h1, h2⟩ := vopVI_sound (wopVI_to h)
            exact .inl ⟨hw, r, e, h1.seq hS, yOps_sound rest _ _ ((hS.trans (SEq.known hgd)).fin _ _ _) h2⟩
          · exact .inr ⟨hw, yOps_sound rest _ _ ((hS.trans (SEq.known hgd)).fin _ _ e0) h⟩
      · exact h.elim
/-- The same, with its trace. -/
def yOpsT (P : Program) (ops : Array Oper) : List Oper → St → List Tr → (St → List Tr → Prop) → Prop
  | [], S, tr, K => K S tr
  | o :: rest, S, tr, K =>
    match o.guard with
    | none => bif quietOp o.op then wopV P o.op S.ev S.hp S.nx (fun r e => yOpsT P ops rest (S.put o.dst r) (tr ++ [⟨S.nx, 0, e.rd, [], []⟩]) K)
        else wopV P o.op S.ev S.hp S.nx (fun r e => yOpsT P ops rest (S.fin o.dst r e) (tr ++ [e.tr S.nx]) K)
    | some (j, want) => match (ops[j]?).bind (·.dst) with
      | some d => bif quietOp o.op then Xge (S.get d) want (fun k => wopV P o.op S.ev S.hp S.nx k) (fun g r e => yOpsT P ops rest ((S.known d g).put o.dst r) (tr ++ [⟨S.nx, 0, e.rd, [], []⟩]) K)
        else Xge (S.get d) want (fun k => wopV P o.op S.ev S.hp S.nx k) (fun g r e => yOpsT P ops rest ((S.known d g).fin o.dst r e) (tr ++ [e.tr S.nx]) K)
      | none => False
theorem tr_quiet {e : Eff} {n : Nat} (h : QuietE e) : e.tr n = ⟨n, 0, e.rd, [], []⟩ := by
  obtain ⟨add, del, set, rd⟩ := e
  obtain ⟨h1, h2, h3⟩ := h
  simp only at h1 h2 h3
  subst h1; subst h2; subst h3
  rfl
theorem yOpsT_sound {P : Program} {ops : Array Oper} {K : St → List Tr → Prop} : ∀ (l : List Oper) (S0 S : St) (tr : List Tr), SEq S0 S → yOpsT P ops l S tr K → vOpsT P ops l S0 tr (fun S1 tr => ∃ S', SEq S1 S' ∧ K S' tr)
  | [], S0, S, tr, hS, h => ⟨S, hS, h⟩
  | o :: rest, S0, S, tr, hS, h => by
    refine vGuard_mk ?_
    unfold yOpsT at h
    split at h
    · rename_i hg
      left
      refine ⟨.inl hg, ?_⟩
      cases hq : quietOp o.op with
      | true =>
        simp only [hq, cond_true, cond_false] at h
        obtain ⟨r, e, h1, h2, h3⟩ := vopV_sound (vopV_q hq (wopV_to h))
        exact ⟨r, e, h1.seq hS, yOpsT_sound rest _ _ _ (hS.fin _ _ _) (by rw [fin_quiet h3, tr_quiet h3, hS.nx]; exact h2)⟩
      | false =>
        simp only [hq, cond_true, cond_false] at h
        obtain ⟨r, e, h1, h3⟩ := vopV_sound (wopV_to h)
        exact ⟨r, e, h1.seq hS, yOpsT_sound rest _ _ _ (hS.fin _ _ _) (by rw [hS.nx]; exact h3)⟩
    · rename_i j want hg
      split at h
      · rename_i d hd
        cases hq : quietOp o.op with
        | true =>
          simp only [hq, cond_true, cond_false] at h
          obtain ⟨g, hgd, ⟨hw, h⟩ | ⟨hw, h⟩⟩ := ge_cases hS hg hd h.out
          · obtain ⟨r, e, h1, h2, h3⟩ := vopV_sound (vopV_q hq (wopV_to h))
            exact .inl ⟨hw, r, e, h1.seq hS, yOpsT_sound rest _ _ _ ((hS.trans (SEq.known hgd)).fin _ _ _) (by rw [fin_quiet h3, tr_quiet h3, hS.nx]; exact h2)⟩
          · exact .inr ⟨hw, yOpsT_sound rest _ _ _ ((hS.trans (SEq.known hgd)).fin _ _ e0) (by rw [hS.nx]; exact h)⟩
        | false =>
          simp only [hq, cond_true, cond_false] at h
          obtain ⟨g, hgd, ⟨hw, h⟩ | ⟨hw, h⟩⟩ := ge_cases hS hg hd h.out
          · obtain ⟨r, e, h1, h3⟩ := vopV_sound (wopV_to h)
            exact .inl ⟨hw, r, e, h1.seq hS, yOpsT_sound rest _ _ _ ((hS.trans (SEq.known hgd)).fin _ _ _) (by rw [hS.nx]; exact h3)⟩
          · exact .inr ⟨hw, yOpsT_sound rest _ _ _ ((hS.trans (SEq.known hgd)).fin _ _ e0) (by rw [hS.nx]; exact h)⟩
      · exact h.elim

theorem vOpsT_mono {P : Program} {ops : Array Oper} {K K' : St → List Tr → Prop} (hK : ∀ S tr, K S tr → K' S tr) : ∀ (l : List Oper) (S : St) (tr : List Tr), vOpsT P ops l S tr K → vOpsT P ops l S tr K'
  | [], S, tr, h => hK S tr h
  | o :: rest, S, tr, h => by
    refine vGuard_mk ?_
    rcases vGuard_cases h with ⟨hg, r, e, h1, h3⟩ | ⟨hg, h3⟩
    · exact .inl ⟨hg, r, e, h1, vOpsT_mono hK rest _ _ h3⟩
    · exact .inr ⟨hg, vOpsT_mono hK rest _ _ h3⟩
/-- Only these slots are kept. -/
def St.pick (S : St) (l : List Nat) : St := ⟨l.map fun s => (s, S.get s), S.hp, S.nx, S.gh⟩
theorem pick_get (S : St) (l : List Nat) (s : Nat) : (S.pick l).get s = S.get s ∨ (S.pick l).get s = .junk := by
  show (lk (l.map fun s => (s, S.get s)) s).getD .junk = _ ∨ (lk (l.map fun s => (s, S.get s)) s).getD .junk = .junk
  induction l with
  | nil => exact .inr rfl
  | cons a l ih =>
    simp only [List.map_cons, lk]
    by_cases h : a = s
    · subst h; left; simp
    · rw [if_neg h]; exact ih
theorem Sim.pick {w0 : Home} {F0 D : Nat → Prop} {μ : Nat → Option Nat} {F : Nat → Prop} {G : List Value} {S : St} {n : Nat} {a : Act} {w : World} (h : Sim w0 F0 D μ F G S n a w) (l : List Nat) : Sim w0 F0 D μ F G (S.pick l) n a w :=
  ⟨h.defers, h.size, fun s => by rcases pick_get S l s with e | e <;> rw [e]; exact h.env s; exact .junk _, h.heap, h.ids, h.ghl, h.gh⟩

section
variable {P : Program} {n : Nat} {S : St} {Q : Exit → St → Prop}
theorem Tri.regY {id : Nat} {l : List Oper} (live : List Nat) (T : St → (St → Prop) → Prop) (hd : dstOk n l = true) (hT : ∀ K, yOps P l.toArray l S (fun S1 => K (S1.pick live)) = T S K) (h : ∀ K : St → Prop, (∀ S', Q .normal S' → K S') → T S K) :
    Tri P n (.region id l.toArray false) S Q := fun w0 F0 D μ F G a w hS =>
  wp_region_list (vOps_sound l S D μ F a w (dstOk_spec hd) (yOps_sound _ _ _ (SEq.refl S) (by rw [hT]; exact h _ (fun _ h => h))) hS fun S1 D' μ' F' a' w' ⟨S2, he, hK⟩ hS' => ⟨S2.pick live, D', μ', F', hK, (hS'.seq he).pick live⟩)
theorem Tri.seqY {id : Nat} {l : List Oper} {y : Code} (live : List Nat) (T : St → (St → Prop) → Prop) (hd : dstOk n l = true) (hT : ∀ K, yOps P l.toArray l S (fun S1 => K (S1.pick live)) = T S K) (h : ∀ K : St → Prop, (∀ S', Tri P n y S' Q → K S') → T S K) :
    Tri P n (.seq (.region id l.toArray false) y) S Q := Tri.seq (Tri.regY live T hd hT h)
theorem Tri.regYD {id : Nat} {l : List Oper} (n0 : Nat) (live : List Nat) (T : List (List Nat) → St → (St → Prop) → Prop) (hm : P.follows .mixedOrders = true) (hB : growB l.toArray (growDeps l) n0 = true) (hd : dstOk n l = true)
    (hT : ∀ K, yOpsT P l.toArray (l.take n0) S [] (fun S1 tr => trOk S.nx (growDeps l) tr = true ∧ yOps P l.toArray (l.drop n0) S1 (fun S1 => K (S1.pick live))) = T (growDeps l) S K) (h : ∀ K : St → Prop, (∀ S', Q .normal S' → K S') → T (growDeps l) S K) :
    Tri P n (.region id l.toArray true) S Q := fun w0 F0 D μ F G a w hS =>
  draw_sound (K := fun S1 => ∃ S2, SEq S1 S2 ∧ Q .normal (S2.pick live)) n0 (growDeps l) hm hB (dstOk_spec hd) (by
    have := yOpsT_sound _ _ _ _ (SEq.refl S) (by rw [hT]; exact h _ (fun _ h => h))
    exact vOpsT_mono (fun S1 tr ⟨S2, he, hk⟩ => ⟨hk.1, yOps_sound _ _ _ he hk.2⟩) _ _ _ this) hS fun S1 D' μ' F' a' w' ⟨S2, he, hK⟩ hS' => ⟨S2.pick live, D', μ', F', hK, (hS'.seq he).pick live⟩
theorem Tri.seqYD {id : Nat} {l : List Oper} {y : Code} (n0 : Nat) (live : List Nat) (T : List (List Nat) → St → (St → Prop) → Prop) (hm : P.follows .mixedOrders = true) (hB : growB l.toArray (growDeps l) n0 = true) (hd : dstOk n l = true)
    (hT : ∀ K, yOpsT P l.toArray (l.take n0) S [] (fun S1 tr => trOk S.nx (growDeps l) tr = true ∧ yOps P l.toArray (l.drop n0) S1 (fun S1 => K (S1.pick live))) = T (growDeps l) S K) (h : ∀ K : St → Prop, (∀ S', Tri P n y S' Q → K S') → T (growDeps l) S K) :
    Tri P n (.seq (.region id l.toArray true) y) S Q := Tri.seq (Tri.regYD n0 live T hm hB hd hT h)
end

/- The reckoning does not look at what stands behind an operation before it has come there. -/
@[congr] theorem gq.cong {v v' : PV} {want : Bool} {run : (PV → Prop) → Prop} {k : PV → PV → Prop} (h : v = v') : gq v want run k = gq v' want run k := by rw [h]
@[congr] theorem ge.cong {v v' : PV} {want : Bool} {run : (PV → Eff → Prop) → Prop} {k : PV → PV → Eff → Prop} (h : v = v') : ge v want run k = ge v' want run k := by rw [h]
@[congr] theorem vSliceV.cong {P : Program} {t : TypeId} {a a' : PV} {lo lo' hi hi' : Option PV} {K : PV → Eff → Prop} (h : a = a') (h1 : lo = lo') (h2 : hi = hi') : vSliceV P t a lo hi K = vSliceV P t a' lo' hi' K := by subst h h1 h2; rfl
@[congr] theorem vBinOV.cong {P : Program} {op : BinOp} {t : TypeId} {y : Operand} {a a' b b' : PV} {K : PV → Eff → Prop} (h : a = a') (h2 : b = b') : vBinOV P op t y a b K = vBinOV P op t y a' b' K := by subst h h2; rfl
@[congr] theorem vFnV.cong {P : Program} {S S' : St} {g g' : PV} {xs xs' : List PV} {K : PV → Eff → Prop} (h : S = S') (h1 : g = g') (h2 : xs = xs') : vFnV P S g xs K = vFnV P S' g' xs' K := by subst h h1 h2; rfl
@[congr] theorem vFnIV.cong {P : Program} {S S' : St} {g g' : PV} {xs xs' : List PV} {K : PV → Eff → Prop} (h : S = S') (h1 : g = g') (h2 : xs = xs') : vFnIV P S g xs K = vFnIV P S' g' xs' K := by subst h h1 h2; rfl
@[congr] theorem vPick.cong {c c' x y : PV} {K : PV → Eff → Prop} (h : c = c') : vPick c x y K = vPick c' x y K := by rw [h]
@[congr] theorem vBox.cong {nx nx' : Nat} {x x' : PV} {K : PV → Eff → Prop} (h : nx = nx') (h1 : x = x') : vBox nx x K = vBox nx' x' K := by rw [h, h1]
@[congr] theorem vAlloc.cong {P : Program} {t : TypeId} {nx nx' : Nat} {K : PV → Eff → Prop} (h : nx = nx') : vAlloc P t nx K = vAlloc P t nx' K := by rw [h]
@[congr] theorem vBuild.cong {P : Program} {t : TypeId} {ps ps' : List (Nat × PV)} {K : PV → Eff → Prop} (h : ps = ps') : vBuild P t ps K = vBuild P t ps' K := by rw [h]
@[congr] theorem vBuildS.cong {P : Program} {t : TypeId} {n nx nx' : Nat} {ps ps' : List (Nat × PV)} {K : PV → Eff → Prop} (h : nx = nx') (h1 : ps = ps') : vBuildS P t n nx ps K = vBuildS P t n nx' ps' K := by rw [h, h1]
@[congr] theorem vNil.cong {a a' : PV} {K : PV → Eff → Prop} (h : a = a') : vNil a K = vNil a' K := by rw [h]
@[congr] theorem vExtract.cong {a a' : PV} {k : Nat} {K : PV → Eff → Prop} (h : a = a') : vExtract a k K = vExtract a' k K := by rw [h]
@[congr] theorem vMakeFV.cong {fn : Fn} {first : List Operand} {cap cap' : List PV} {K : PV → Eff → Prop} (h : cap = cap') : vMakeFV fn first cap K = vMakeFV fn first cap' K := by rw [h]
end Go.Proofs.YtfnkciboencifaaDoor
set_option linter.all false
namespace Go.Proofs.YtfnkciboencifaaDoor
open Go Go.RowKit
set_option maxRecDepth 100000
theorem tAgg_1 : tAgg Tryd.prog 1 = some false := by kernel_rfl
theorem tSize_1 : tSize Tryd.prog 1 = some 1 := by kernel_rfl
theorem tBytes_1 : tBytes Tryd.prog 1 = some 8 := by kernel_rfl
theorem tElem_1 : tElem Tryd.prog 1 = none := by kernel_rfl
theorem tStr_1 : tStr Tryd.prog 1 = false := by kernel_rfl
theorem tInt_1 : tInt Tryd.prog 1 = none := by kernel_rfl
theorem tAgg_2 : tAgg Tryd.prog 2 = some false := by kernel_rfl
theorem tSize_2 : tSize Tryd.prog 2 = some 1 := by kernel_rfl
theorem tBytes_2 : tBytes Tryd.prog 2 = some 8 := by kernel_rfl
theorem tElem_2 : tElem Tryd.prog 2 = none := by kernel_rfl
theorem tStr_2 : tStr Tryd.prog 2 = false := by kernel_rfl
theorem tInt_2 : tInt Tryd.prog 2 = some .i64 := by kernel_rfl
theorem tUnd_2 : ((Tryd.prog.underlying 2).isSome = true) := by kernel_rfl
theorem tzo_2 : tzo Tryd.prog 2 = some (.atom (.int .i64 0)) := by kernel_rfl
theorem tAgg_3 : tAgg Tryd.prog 3 = some false := by kernel_rfl
theorem tSize_3 : tSize Tryd.prog 3 = some 1 := by kernel_rfl
theorem tBytes_3 : tBytes Tryd.prog 3 = some 8 := by kernel_rfl
theorem tElem_3 : tElem Tryd.prog 3 = none := by kernel_rfl
theorem tStr_3 : tStr Tryd.prog 3 = false := by kernel_rfl
theorem tInt_3 : tInt Tryd.prog 3 = some .i64 := by kernel_rfl
theorem tUnd_3 : ((Tryd.prog.underlying 3).isSome = true) := by kernel_rfl
theorem tzo_3 : tzo Tryd.prog 3 = some (.atom (.int .i64 0)) := by kernel_rfl
theorem tAgg_4 : tAgg Tryd.prog 4 = some false := by kernel_rfl
theorem tSize_4 : tSize Tryd.prog 4 = some 1 := by kernel_rfl
theorem tBytes_4 : tBytes Tryd.prog 4 = some 1 := by kernel_rfl
theorem tElem_4 : tElem Tryd.prog 4 = none := by kernel_rfl
theorem tStr_4 : tStr Tryd.prog 4 = false := by kernel_rfl
theorem tInt_4 : tInt Tryd.prog 4 = none := by kernel_rfl
theorem tUnd_4 : ((Tryd.prog.underlying 4).isSome = true) := by kernel_rfl
theorem tBool_4 : Tryd.prog.underlying 4 = some .bool := by kernel_rfl
theorem tzo_4 : tzo Tryd.prog 4 = some (.atom (.bool false)) := by kernel_rfl
theorem tAgg_5 : tAgg Tryd.prog 5 = some false := by kernel_rfl
theorem tSize_5 : tSize Tryd.prog 5 = some 1 := by kernel_rfl
theorem tBytes_5 : tBytes Tryd.prog 5 = some 1 := by kernel_rfl
theorem tElem_5 : tElem Tryd.prog 5 = none := by kernel_rfl
theorem tStr_5 : tStr Tryd.prog 5 = false := by kernel_rfl
theorem tInt_5 : tInt Tryd.prog 5 = some .u8 := by kernel_rfl
theorem tUnd_5 : ((Tryd.prog.underlying 5).isSome = true) := by kernel_rfl
theorem tzo_5 : tzo Tryd.prog 5 = some (.atom (.int .u8 0)) := by kernel_rfl
theorem tAgg_6 : tAgg Tryd.prog 6 = some false := by kernel_rfl
theorem tSize_6 : tSize Tryd.prog 6 = some 1 := by kernel_rfl
theorem tBytes_6 : tBytes Tryd.prog 6 = some 1 := by kernel_rfl
theorem tElem_6 : tElem Tryd.prog 6 = none := by kernel_rfl
theorem tStr_6 : tStr Tryd.prog 6 = false := by kernel_rfl
theorem tInt_6 : tInt Tryd.prog 6 = some .u8 := by kernel_rfl
theorem tUnd_6 : ((Tryd.prog.underlying 6).isSome = true) := by kernel_rfl
theorem tzo_6 : tzo Tryd.prog 6 = some (.atom (.int .u8 0)) := by kernel_rfl
theorem tAgg_7 : tAgg Tryd.prog 7 = some true := by kernel_rfl
theorem tSize_7 : tSize Tryd.prog 7 = some 4 := by kernel_rfl
theorem tBytes_7 : tBytes Tryd.prog 7 = some 24 := by kernel_rfl
theorem tElem_7 : tElem Tryd.prog 7 = none := by kernel_rfl
theorem tStr_7 : tStr Tryd.prog 7 = false := by kernel_rfl
theorem tInt_7 : tInt Tryd.prog 7 = none := by kernel_rfl
theorem tFld_7_0 : tFld Tryd.prog 7 0 = some (0, 2) := by kernel_rfl
theorem tPlace_7_0 : tPlace Tryd.prog 7 0 = some (0, 1) := by kernel_rfl
theorem tFld_7_1 : tFld Tryd.prog 7 1 = some (1, 3) := by kernel_rfl
theorem tPlace_7_1 : tPlace Tryd.prog 7 1 = some (1, 1) := by kernel_rfl
theorem tFld_7_2 : tFld Tryd.prog 7 2 = some (2, 4) := by kernel_rfl
theorem tPlace_7_2 : tPlace Tryd.prog 7 2 = some (2, 1) := by kernel_rfl
theorem tFld_7_3 : tFld Tryd.prog 7 3 = some (3, 6) := by kernel_rfl
theorem tPlace_7_3 : tPlace Tryd.prog 7 3 = some (3, 1) := by kernel_rfl
theorem tKnown_7 : tKnown Tryd.prog 7 = true := by kernel_rfl
theorem tzo_7 : tzo Tryd.prog 7 = some (.agg [.atom (.int .i64 0), .atom (.int .i64 0), .atom (.bool false), .atom (.int .u8 0)]) := by kernel_rfl
theorem tAgg_8 : tAgg Tryd.prog 8 = some true := by kernel_rfl
theorem tSize_8 : tSize Tryd.prog 8 = some 4 := by kernel_rfl
theorem tBytes_8 : tBytes Tryd.prog 8 = some 24 := by kernel_rfl
theorem tElem_8 : tElem Tryd.prog 8 = none := by kernel_rfl
theorem tStr_8 : tStr Tryd.prog 8 = false := by kernel_rfl
theorem tInt_8 : tInt Tryd.prog 8 = none := by kernel_rfl
theorem tFld_8_0 : tFld Tryd.prog 8 0 = some (0, 2) := by kernel_rfl
theorem tPlace_8_0 : tPlace Tryd.prog 8 0 = some (0, 1) := by kernel_rfl
theorem tFld_8_1 : tFld Tryd.prog 8 1 = some (1, 3) := by kernel_rfl
theorem tPlace_8_1 : tPlace Tryd.prog 8 1 = some (1, 1) := by kernel_rfl
theorem tFld_8_2 : tFld Tryd.prog 8 2 = some (2, 4) := by kernel_rfl
theorem tPlace_8_2 : tPlace Tryd.prog 8 2 = some (2, 1) := by kernel_rfl
theorem tFld_8_3 : tFld Tryd.prog 8 3 = some (3, 6) := by kernel_rfl
theorem tPlace_8_3 : tPlace Tryd.prog 8 3 = some (3, 1) := by kernel_rfl
theorem tKnown_8 : tKnown Tryd.prog 8 = true := by kernel_rfl
theorem tzo_8 : tzo Tryd.prog 8 = some (.agg [.atom (.int .i64 0), .atom (.int .i64 0), .atom (.bool false), .atom (.int .u8 0)]) := by kernel_rfl
theorem tAgg_9 : tAgg Tryd.prog 9 = some false := by kernel_rfl
theorem tSize_9 : tSize Tryd.prog 9 = some 1 := by kernel_rfl
theorem tBytes_9 : tBytes Tryd.prog 9 = some 16 := by kernel_rfl
theorem tElem_9 : tElem Tryd.prog 9 = none := by kernel_rfl
theorem tStr_9 : tStr Tryd.prog 9 = true := by kernel_rfl
theorem tInt_9 : tInt Tryd.prog 9 = none := by kernel_rfl
theorem tUnd_9 : ((Tryd.prog.underlying 9).isSome = true) := by kernel_rfl
theorem tzo_9 : tzo Tryd.prog 9 = some (.atom (.string ⟨#[]⟩)) := by kernel_rfl
theorem tAgg_10 : tAgg Tryd.prog 10 = some false := by kernel_rfl
theorem tSize_10 : tSize Tryd.prog 10 = some 1 := by kernel_rfl
theorem tBytes_10 : tBytes Tryd.prog 10 = some 16 := by kernel_rfl
theorem tElem_10 : tElem Tryd.prog 10 = none := by kernel_rfl
theorem tStr_10 : tStr Tryd.prog 10 = true := by kernel_rfl
theorem tInt_10 : tInt Tryd.prog 10 = none := by kernel_rfl
theorem tUnd_10 : ((Tryd.prog.underlying 10).isSome = true) := by kernel_rfl
theorem tzo_10 : tzo Tryd.prog 10 = some (.atom (.string ⟨#[]⟩)) := by kernel_rfl
theorem tAgg_11 : tAgg Tryd.prog 11 = some false := by kernel_rfl
theorem tSize_11 : tSize Tryd.prog 11 = some 1 := by kernel_rfl
theorem tBytes_11 : tBytes Tryd.prog 11 = some 16 := by kernel_rfl
theorem tElem_11 : tElem Tryd.prog 11 = none := by kernel_rfl
theorem tStr_11 : tStr Tryd.prog 11 = true := by kernel_rfl
theorem tInt_11 : tInt Tryd.prog 11 = none := by kernel_rfl
theorem tUnd_11 : ((Tryd.prog.underlying 11).isSome = true) := by kernel_rfl
theorem tzo_11 : tzo Tryd.prog 11 = some (.atom (.string ⟨#[]⟩)) := by kernel_rfl
theorem tAgg_12 : tAgg Tryd.prog 12 = some false := by kernel_rfl
theorem tSize_12 : tSize Tryd.prog 12 = some 1 := by kernel_rfl
theorem tBytes_12 : tBytes Tryd.prog 12 = some 8 := by kernel_rfl
theorem tElem_12 : tElem Tryd.prog 12 = none := by kernel_rfl
theorem tStr_12 : tStr Tryd.prog 12 = false := by kernel_rfl
theorem tInt_12 : tInt Tryd.prog 12 = some .u64 := by kernel_rfl
theorem tUnd_12 : ((Tryd.prog.underlying 12).isSome = true) := by kernel_rfl
theorem tzo_12 : tzo Tryd.prog 12 = some (.atom (.int .u64 0)) := by kernel_rfl
theorem tAgg_13 : tAgg Tryd.prog 13 = some true := by kernel_rfl
theorem tSize_13 : tSize Tryd.prog 13 = some 2 := by kernel_rfl
theorem tBytes_13 : tBytes Tryd.prog 13 = some 24 := by kernel_rfl
theorem tElem_13 : tElem Tryd.prog 13 = none := by kernel_rfl
theorem tStr_13 : tStr Tryd.prog 13 = false := by kernel_rfl
theorem tInt_13 : tInt Tryd.prog 13 = none := by kernel_rfl
theorem tFld_13_0 : tFld Tryd.prog 13 0 = some (0, 9) := by kernel_rfl
theorem tPlace_13_0 : tPlace Tryd.prog 13 0 = some (0, 1) := by kernel_rfl
theorem tFld_13_1 : tFld Tryd.prog 13 1 = some (1, 12) := by kernel_rfl
theorem tPlace_13_1 : tPlace Tryd.prog 13 1 = some (1, 1) := by kernel_rfl
theorem tKnown_13 : tKnown Tryd.prog 13 = true := by kernel_rfl
theorem tzo_13 : tzo Tryd.prog 13 = some (.agg [.atom (.string ⟨#[]⟩), .atom (.int .u64 0)]) := by kernel_rfl
theorem tAgg_14 : tAgg Tryd.prog 14 = some true := by kernel_rfl
theorem tSize_14 : tSize Tryd.prog 14 = some 2 := by kernel_rfl
theorem tBytes_14 : tBytes Tryd.prog 14 = some 24 := by kernel_rfl
theorem tElem_14 : tElem Tryd.prog 14 = none := by kernel_rfl
theorem tStr_14 : tStr Tryd.prog 14 = false := by kernel_rfl
theorem tInt_14 : tInt Tryd.prog 14 = none := by kernel_rfl
theorem tFld_14_0 : tFld Tryd.prog 14 0 = some (0, 9) := by kernel_rfl
theorem tPlace_14_0 : tPlace Tryd.prog 14 0 = some (0, 1) := by kernel_rfl
theorem tFld_14_1 : tFld Tryd.prog 14 1 = some (1, 12) := by kernel_rfl
theorem tPlace_14_1 : tPlace Tryd.prog 14 1 = some (1, 1) := by kernel_rfl
theorem tKnown_14 : tKnown Tryd.prog 14 = true := by kernel_rfl
theorem tzo_14 : tzo Tryd.prog 14 = some (.agg [.atom (.string ⟨#[]⟩), .atom (.int .u64 0)]) := by kernel_rfl
theorem tAgg_15 : tAgg Tryd.prog 15 = some false := by kernel_rfl
theorem tSize_15 : tSize Tryd.prog 15 = some 1 := by kernel_rfl
theorem tBytes_15 : tBytes Tryd.prog 15 = some 8 := by kernel_rfl
theorem tElem_15 : tElem Tryd.prog 15 = none := by kernel_rfl
theorem tStr_15 : tStr Tryd.prog 15 = false := by kernel_rfl
theorem tInt_15 : tInt Tryd.prog 15 = none := by kernel_rfl
theorem tzo_15 : tzo Tryd.prog 15 = some (.atom (.pointer none)) := by kernel_rfl
theorem tAgg_16 : tAgg Tryd.prog 16 = some false := by kernel_rfl
theorem tSize_16 : tSize Tryd.prog 16 = some 1 := by kernel_rfl
theorem tBytes_16 : tBytes Tryd.prog 16 = some 8 := by kernel_rfl
theorem tElem_16 : tElem Tryd.prog 16 = none := by kernel_rfl
theorem tStr_16 : tStr Tryd.prog 16 = false := by kernel_rfl
theorem tInt_16 : tInt Tryd.prog 16 = none := by kernel_rfl
theorem tzo_16 : tzo Tryd.prog 16 = some (.atom (.pointer none)) := by kernel_rfl
theorem tAgg_17 : tAgg Tryd.prog 17 = some false := by kernel_rfl
theorem tSize_17 : tSize Tryd.prog 17 = some 1 := by kernel_rfl
theorem tBytes_17 : tBytes Tryd.prog 17 = some 8 := by kernel_rfl
theorem tElem_17 : tElem Tryd.prog 17 = none := by kernel_rfl
theorem tStr_17 : tStr Tryd.prog 17 = false := by kernel_rfl
theorem tInt_17 : tInt Tryd.prog 17 = none := by kernel_rfl
theorem tzo_17 : tzo Tryd.prog 17 = some (.atom (.pointer none)) := by kernel_rfl
theorem tAgg_18 : tAgg Tryd.prog 18 = some true := by kernel_rfl
theorem tSize_18 : tSize Tryd.prog 18 = some 1 := by kernel_rfl
theorem tBytes_18 : tBytes Tryd.prog 18 = some 8 := by kernel_rfl
theorem tElem_18 : tElem Tryd.prog 18 = none := by kernel_rfl
theorem tStr_18 : tStr Tryd.prog 18 = false := by kernel_rfl
theorem tInt_18 : tInt Tryd.prog 18 = none := by kernel_rfl
theorem tFld_18_0 : tFld Tryd.prog 18 0 = some (0, 17) := by kernel_rfl
theorem tPlace_18_0 : tPlace Tryd.prog 18 0 = some (0, 1) := by kernel_rfl
theorem tKnown_18 : tKnown Tryd.prog 18 = true := by kernel_rfl
theorem tzo_18 : tzo Tryd.prog 18 = some (.agg [.atom (.pointer none)]) := by kernel_rfl
theorem tAgg_19 : tAgg Tryd.prog 19 = some true := by kernel_rfl
theorem tSize_19 : tSize Tryd.prog 19 = some 1 := by kernel_rfl
theorem tBytes_19 : tBytes Tryd.prog 19 = some 8 := by kernel_rfl
theorem tElem_19 : tElem Tryd.prog 19 = none := by kernel_rfl
theorem tStr_19 : tStr Tryd.prog 19 = false := by kernel_rfl
theorem tInt_19 : tInt Tryd.prog 19 = none := by kernel_rfl
theorem tFld_19_0 : tFld Tryd.prog 19 0 = some (0, 17) := by kernel_rfl
theorem tPlace_19_0 : tPlace Tryd.prog 19 0 = some (0, 1) := by kernel_rfl
theorem tKnown_19 : tKnown Tryd.prog 19 = true := by kernel_rfl
theorem tzo_19 : tzo Tryd.prog 19 = some (.agg [.atom (.pointer none)]) := by kernel_rfl
theorem tAgg_21 : tAgg Tryd.prog 21 = some false := by kernel_rfl
theorem tSize_21 : tSize Tryd.prog 21 = some 1 := by kernel_rfl
theorem tBytes_21 : tBytes Tryd.prog 21 = some 4 := by kernel_rfl
theorem tElem_21 : tElem Tryd.prog 21 = none := by kernel_rfl
theorem tStr_21 : tStr Tryd.prog 21 = false := by kernel_rfl
theorem tInt_21 : tInt Tryd.prog 21 = some .i32 := by kernel_rfl
theorem tUnd_21 : ((Tryd.prog.underlying 21).isSome = true) := by kernel_rfl
theorem tzo_21 : tzo Tryd.prog 21 = some (.atom (.int .i32 0)) := by kernel_rfl
theorem tAgg_22 : tAgg Tryd.prog 22 = some false := by kernel_rfl
theorem tSize_22 : tSize Tryd.prog 22 = some 1 := by kernel_rfl
theorem tBytes_22 : tBytes Tryd.prog 22 = some 24 := by kernel_rfl
theorem tElem_22 : tElem Tryd.prog 22 = some 3 := by kernel_rfl
theorem tStr_22 : tStr Tryd.prog 22 = false := by kernel_rfl
theorem tInt_22 : tInt Tryd.prog 22 = none := by kernel_rfl
theorem tzo_22 : tzo Tryd.prog 22 = some (.atom (.slice none 0 0)) := by kernel_rfl
theorem tAgg_23 : tAgg Tryd.prog 23 = some false := by kernel_rfl
theorem tSize_23 : tSize Tryd.prog 23 = some 1 := by kernel_rfl
theorem tBytes_23 : tBytes Tryd.prog 23 = some 24 := by kernel_rfl
theorem tElem_23 : tElem Tryd.prog 23 = some 35 := by kernel_rfl
theorem tStr_23 : tStr Tryd.prog 23 = false := by kernel_rfl
theorem tInt_23 : tInt Tryd.prog 23 = none := by kernel_rfl
theorem tzo_23 : tzo Tryd.prog 23 = some (.atom (.slice none 0 0)) := by kernel_rfl
theorem tAgg_24 : tAgg Tryd.prog 24 = some false := by kernel_rfl
theorem tSize_24 : tSize Tryd.prog 24 = some 1 := by kernel_rfl
theorem tBytes_24 : tBytes Tryd.prog 24 = some 8 := by kernel_rfl
theorem tElem_24 : tElem Tryd.prog 24 = none := by kernel_rfl
theorem tStr_24 : tStr Tryd.prog 24 = false := by kernel_rfl
theorem tInt_24 : tInt Tryd.prog 24 = none := by kernel_rfl
theorem tAgg_25 : tAgg Tryd.prog 25 = some false := by kernel_rfl
theorem tSize_25 : tSize Tryd.prog 25 = some 1 := by kernel_rfl
theorem tBytes_25 : tBytes Tryd.prog 25 = some 24 := by kernel_rfl
theorem tElem_25 : tElem Tryd.prog 25 = some 9 := by kernel_rfl
theorem tStr_25 : tStr Tryd.prog 25 = false := by kernel_rfl
theorem tInt_25 : tInt Tryd.prog 25 = none := by kernel_rfl
theorem tzo_25 : tzo Tryd.prog 25 = some (.atom (.slice none 0 0)) := by kernel_rfl
theorem tAgg_26 : tAgg Tryd.prog 26 = some false := by kernel_rfl
theorem tSize_26 : tSize Tryd.prog 26 = some 1 := by kernel_rfl
theorem tBytes_26 : tBytes Tryd.prog 26 = some 8 := by kernel_rfl
theorem tElem_26 : tElem Tryd.prog 26 = none := by kernel_rfl
theorem tStr_26 : tStr Tryd.prog 26 = false := by kernel_rfl
theorem tInt_26 : tInt Tryd.prog 26 = none := by kernel_rfl
theorem tAgg_27 : tAgg Tryd.prog 27 = some false := by kernel_rfl
theorem tSize_27 : tSize Tryd.prog 27 = some 1 := by kernel_rfl
theorem tBytes_27 : tBytes Tryd.prog 27 = some 8 := by kernel_rfl
theorem tElem_27 : tElem Tryd.prog 27 = none := by kernel_rfl
theorem tStr_27 : tStr Tryd.prog 27 = false := by kernel_rfl
theorem tInt_27 : tInt Tryd.prog 27 = none := by kernel_rfl
theorem tAgg_28 : tAgg Tryd.prog 28 = some false := by kernel_rfl
theorem tSize_28 : tSize Tryd.prog 28 = some 1 := by kernel_rfl
theorem tBytes_28 : tBytes Tryd.prog 28 = some 24 := by kernel_rfl
theorem tElem_28 : tElem Tryd.prog 28 = some 5 := by kernel_rfl
theorem tStr_28 : tStr Tryd.prog 28 = false := by kernel_rfl
theorem tInt_28 : tInt Tryd.prog 28 = none := by kernel_rfl
theorem tzo_28 : tzo Tryd.prog 28 = some (.atom (.slice none 0 0)) := by kernel_rfl
theorem tAgg_29 : tAgg Tryd.prog 29 = some false := by kernel_rfl
theorem tSize_29 : tSize Tryd.prog 29 = some 1 := by kernel_rfl
theorem tBytes_29 : tBytes Tryd.prog 29 = some 8 := by kernel_rfl
theorem tElem_29 : tElem Tryd.prog 29 = none := by kernel_rfl
theorem tStr_29 : tStr Tryd.prog 29 = false := by kernel_rfl
theorem tInt_29 : tInt Tryd.prog 29 = none := by kernel_rfl
theorem tAgg_30 : tAgg Tryd.prog 30 = some false := by kernel_rfl
theorem tSize_30 : tSize Tryd.prog 30 = some 1 := by kernel_rfl
theorem tBytes_30 : tBytes Tryd.prog 30 = some 8 := by kernel_rfl
theorem tElem_30 : tElem Tryd.prog 30 = none := by kernel_rfl
theorem tStr_30 : tStr Tryd.prog 30 = false := by kernel_rfl
theorem tInt_30 : tInt Tryd.prog 30 = some .i64 := by kernel_rfl
theorem tUnd_30 : ((Tryd.prog.underlying 30).isSome = true) := by kernel_rfl
theorem tzo_30 : tzo Tryd.prog 30 = some (.atom (.int .i64 0)) := by kernel_rfl
theorem tAgg_31 : tAgg Tryd.prog 31 = some false := by kernel_rfl
theorem tSize_31 : tSize Tryd.prog 31 = some 1 := by kernel_rfl
theorem tBytes_31 : tBytes Tryd.prog 31 = some 8 := by kernel_rfl
theorem tElem_31 : tElem Tryd.prog 31 = none := by kernel_rfl
theorem tStr_31 : tStr Tryd.prog 31 = false := by kernel_rfl
theorem tInt_31 : tInt Tryd.prog 31 = none := by kernel_rfl
theorem tAgg_32 : tAgg Tryd.prog 32 = some true := by kernel_rfl
theorem tSize_32 : tSize Tryd.prog 32 = some 4 := by kernel_rfl
theorem tBytes_32 : tBytes Tryd.prog 32 = some 64 := by kernel_rfl
theorem tElem_32 : tElem Tryd.prog 32 = none := by kernel_rfl
theorem tStr_32 : tStr Tryd.prog 32 = false := by kernel_rfl
theorem tInt_32 : tInt Tryd.prog 32 = none := by kernel_rfl
theorem tFld_32_0 : tFld Tryd.prog 32 0 = some (0, 4) := by kernel_rfl
theorem tPlace_32_0 : tPlace Tryd.prog 32 0 = some (0, 1) := by kernel_rfl
theorem tFld_32_1 : tFld Tryd.prog 32 1 = some (1, 25) := by kernel_rfl
theorem tPlace_32_1 : tPlace Tryd.prog 32 1 = some (1, 1) := by kernel_rfl
theorem tFld_32_2 : tFld Tryd.prog 32 2 = some (2, 4) := by kernel_rfl
theorem tPlace_32_2 : tPlace Tryd.prog 32 2 = some (2, 1) := by kernel_rfl
theorem tFld_32_3 : tFld Tryd.prog 32 3 = some (3, 25) := by kernel_rfl
theorem tPlace_32_3 : tPlace Tryd.prog 32 3 = some (3, 1) := by kernel_rfl
theorem tKnown_32 : tKnown Tryd.prog 32 = true := by kernel_rfl
theorem tzo_32 : tzo Tryd.prog 32 = some (.agg [.atom (.bool false), .atom (.slice none 0 0), .atom (.bool false), .atom (.slice none 0 0)]) := by kernel_rfl
theorem tAgg_33 : tAgg Tryd.prog 33 = some true := by kernel_rfl
theorem tSize_33 : tSize Tryd.prog 33 = some 4 := by kernel_rfl
theorem tBytes_33 : tBytes Tryd.prog 33 = some 64 := by kernel_rfl
theorem tElem_33 : tElem Tryd.prog 33 = none := by kernel_rfl
theorem tStr_33 : tStr Tryd.prog 33 = false := by kernel_rfl
theorem tInt_33 : tInt Tryd.prog 33 = none := by kernel_rfl
theorem tFld_33_0 : tFld Tryd.prog 33 0 = some (0, 4) := by kernel_rfl
theorem tPlace_33_0 : tPlace Tryd.prog 33 0 = some (0, 1) := by kernel_rfl
theorem tFld_33_1 : tFld Tryd.prog 33 1 = some (1, 25) := by kernel_rfl
theorem tPlace_33_1 : tPlace Tryd.prog 33 1 = some (1, 1) := by kernel_rfl
theorem tFld_33_2 : tFld Tryd.prog 33 2 = some (2, 4) := by kernel_rfl
theorem tPlace_33_2 : tPlace Tryd.prog 33 2 = some (2, 1) := by kernel_rfl
theorem tFld_33_3 : tFld Tryd.prog 33 3 = some (3, 25) := by kernel_rfl
theorem tPlace_33_3 : tPlace Tryd.prog 33 3 = some (3, 1) := by kernel_rfl
theorem tKnown_33 : tKnown Tryd.prog 33 = true := by kernel_rfl
theorem tzo_33 : tzo Tryd.prog 33 = some (.agg [.atom (.bool false), .atom (.slice none 0 0), .atom (.bool false), .atom (.slice none 0 0)]) := by kernel_rfl
theorem tAgg_34 : tAgg Tryd.prog 34 = some false := by kernel_rfl
theorem tSize_34 : tSize Tryd.prog 34 = some 1 := by kernel_rfl
theorem tBytes_34 : tBytes Tryd.prog 34 = some 8 := by kernel_rfl
theorem tElem_34 : tElem Tryd.prog 34 = none := by kernel_rfl
theorem tStr_34 : tStr Tryd.prog 34 = false := by kernel_rfl
theorem tInt_34 : tInt Tryd.prog 34 = none := by kernel_rfl
theorem tAgg_35 : tAgg Tryd.prog 35 = some true := by kernel_rfl
theorem tSize_35 : tSize Tryd.prog 35 = some 4 := by kernel_rfl
theorem tBytes_35 : tBytes Tryd.prog 35 = some 64 := by kernel_rfl
theorem tElem_35 : tElem Tryd.prog 35 = none := by kernel_rfl
theorem tStr_35 : tStr Tryd.prog 35 = false := by kernel_rfl
theorem tInt_35 : tInt Tryd.prog 35 = none := by kernel_rfl
theorem tFld_35_0 : tFld Tryd.prog 35 0 = some (0, 4) := by kernel_rfl
theorem tPlace_35_0 : tPlace Tryd.prog 35 0 = some (0, 1) := by kernel_rfl
theorem tFld_35_1 : tFld Tryd.prog 35 1 = some (1, 25) := by kernel_rfl
theorem tPlace_35_1 : tPlace Tryd.prog 35 1 = some (1, 1) := by kernel_rfl
theorem tFld_35_2 : tFld Tryd.prog 35 2 = some (2, 4) := by kernel_rfl
theorem tPlace_35_2 : tPlace Tryd.prog 35 2 = some (2, 1) := by kernel_rfl
theorem tFld_35_3 : tFld Tryd.prog 35 3 = some (3, 25) := by kernel_rfl
theorem tPlace_35_3 : tPlace Tryd.prog 35 3 = some (3, 1) := by kernel_rfl
theorem tKnown_35 : tKnown Tryd.prog 35 = true := by kernel_rfl
theorem tzo_35 : tzo Tryd.prog 35 = some (.agg [.atom (.bool false), .atom (.slice none 0 0), .atom (.bool false), .atom (.slice none 0 0)]) := by kernel_rfl
theorem tAgg_36 : tAgg Tryd.prog 36 = some false := by kernel_rfl
theorem tSize_36 : tSize Tryd.prog 36 = some 1 := by kernel_rfl
theorem tBytes_36 : tBytes Tryd.prog 36 = some 8 := by kernel_rfl
theorem tElem_36 : tElem Tryd.prog 36 = none := by kernel_rfl
theorem tStr_36 : tStr Tryd.prog 36 = false := by kernel_rfl
theorem tInt_36 : tInt Tryd.prog 36 = none := by kernel_rfl
theorem tAgg_38 : tAgg Tryd.prog 38 = some false := by kernel_rfl
theorem tSize_38 : tSize Tryd.prog 38 = some 1 := by kernel_rfl
theorem tBytes_38 : tBytes Tryd.prog 38 = some 8 := by kernel_rfl
theorem tElem_38 : tElem Tryd.prog 38 = none := by kernel_rfl
theorem tStr_38 : tStr Tryd.prog 38 = false := by kernel_rfl
theorem tInt_38 : tInt Tryd.prog 38 = none := by kernel_rfl
theorem tAgg_39 : tAgg Tryd.prog 39 = some false := by kernel_rfl
theorem tSize_39 : tSize Tryd.prog 39 = some 1 := by kernel_rfl
theorem tBytes_39 : tBytes Tryd.prog 39 = some 8 := by kernel_rfl
theorem tElem_39 : tElem Tryd.prog 39 = none := by kernel_rfl
theorem tStr_39 : tStr Tryd.prog 39 = false := by kernel_rfl
theorem tInt_39 : tInt Tryd.prog 39 = none := by kernel_rfl
theorem tAgg_40 : tAgg Tryd.prog 40 = some false := by kernel_rfl
theorem tSize_40 : tSize Tryd.prog 40 = some 1 := by kernel_rfl
theorem tBytes_40 : tBytes Tryd.prog 40 = some 8 := by kernel_rfl
theorem tElem_40 : tElem Tryd.prog 40 = none := by kernel_rfl
theorem tStr_40 : tStr Tryd.prog 40 = false := by kernel_rfl
theorem tInt_40 : tInt Tryd.prog 40 = none := by kernel_rfl
theorem tAgg_41 : tAgg Tryd.prog 41 = some false := by kernel_rfl
theorem tSize_41 : tSize Tryd.prog 41 = some 1 := by kernel_rfl
theorem tBytes_41 : tBytes Tryd.prog 41 = some 8 := by kernel_rfl
theorem tElem_41 : tElem Tryd.prog 41 = none := by kernel_rfl
theorem tStr_41 : tStr Tryd.prog 41 = false := by kernel_rfl
theorem tInt_41 : tInt Tryd.prog 41 = none := by kernel_rfl
theorem tAgg_42 : tAgg Tryd.prog 42 = some false := by kernel_rfl
theorem tSize_42 : tSize Tryd.prog 42 = some 1 := by kernel_rfl
theorem tBytes_42 : tBytes Tryd.prog 42 = some 8 := by kernel_rfl
theorem tElem_42 : tElem Tryd.prog 42 = none := by kernel_rfl
theorem tStr_42 : tStr Tryd.prog 42 = false := by kernel_rfl
theorem tInt_42 : tInt Tryd.prog 42 = none := by kernel_rfl
theorem tAgg_44 : tAgg Tryd.prog 44 = some false := by kernel_rfl
theorem tSize_44 : tSize Tryd.prog 44 = some 1 := by kernel_rfl
theorem tBytes_44 : tBytes Tryd.prog 44 = some 8 := by kernel_rfl
theorem tElem_44 : tElem Tryd.prog 44 = none := by kernel_rfl
theorem tStr_44 : tStr Tryd.prog 44 = false := by kernel_rfl
theorem tInt_44 : tInt Tryd.prog 44 = none := by kernel_rfl
theorem tAgg_45 : tAgg Tryd.prog 45 = some false := by kernel_rfl
theorem tSize_45 : tSize Tryd.prog 45 = some 1 := by kernel_rfl
theorem tBytes_45 : tBytes Tryd.prog 45 = some 8 := by kernel_rfl
theorem tElem_45 : tElem Tryd.prog 45 = none := by kernel_rfl
theorem tStr_45 : tStr Tryd.prog 45 = false := by kernel_rfl
theorem tInt_45 : tInt Tryd.prog 45 = none := by kernel_rfl
theorem tAgg_46 : tAgg Tryd.prog 46 = some false := by kernel_rfl
theorem tSize_46 : tSize Tryd.prog 46 = some 1 := by kernel_rfl
theorem tBytes_46 : tBytes Tryd.prog 46 = some 8 := by kernel_rfl
theorem tElem_46 : tElem Tryd.prog 46 = none := by kernel_rfl
theorem tStr_46 : tStr Tryd.prog 46 = false := by kernel_rfl
theorem tInt_46 : tInt Tryd.prog 46 = none := by kernel_rfl
theorem tAgg_47 : tAgg Tryd.prog 47 = some false := by kernel_rfl
theorem tSize_47 : tSize Tryd.prog 47 = some 1 := by kernel_rfl
theorem tBytes_47 : tBytes Tryd.prog 47 = some 24 := by kernel_rfl
theorem tElem_47 : tElem Tryd.prog 47 = some 25 := by kernel_rfl
theorem tStr_47 : tStr Tryd.prog 47 = false := by kernel_rfl
theorem tInt_47 : tInt Tryd.prog 47 = none := by kernel_rfl
theorem tzo_47 : tzo Tryd.prog 47 = some (.atom (.slice none 0 0)) := by kernel_rfl
theorem tAgg_48 : tAgg Tryd.prog 48 = some false := by kernel_rfl
theorem tSize_48 : tSize Tryd.prog 48 = some 1 := by kernel_rfl
theorem tBytes_48 : tBytes Tryd.prog 48 = some 8 := by kernel_rfl
theorem tElem_48 : tElem Tryd.prog 48 = none := by kernel_rfl
theorem tStr_48 : tStr Tryd.prog 48 = false := by kernel_rfl
theorem tInt_48 : tInt Tryd.prog 48 = none := by kernel_rfl
theorem tAgg_50 : tAgg Tryd.prog 50 = some false := by kernel_rfl
theorem tSize_50 : tSize Tryd.prog 50 = some 1 := by kernel_rfl
theorem tBytes_50 : tBytes Tryd.prog 50 = some 8 := by kernel_rfl
theorem tElem_50 : tElem Tryd.prog 50 = none := by kernel_rfl
theorem tStr_50 : tStr Tryd.prog 50 = false := by kernel_rfl
theorem tInt_50 : tInt Tryd.prog 50 = none := by kernel_rfl
theorem tAgg_51 : tAgg Tryd.prog 51 = some false := by kernel_rfl
theorem tSize_51 : tSize Tryd.prog 51 = some 1 := by kernel_rfl
theorem tBytes_51 : tBytes Tryd.prog 51 = some 8 := by kernel_rfl
theorem tElem_51 : tElem Tryd.prog 51 = none := by kernel_rfl
theorem tStr_51 : tStr Tryd.prog 51 = false := by kernel_rfl
theorem tInt_51 : tInt Tryd.prog 51 = none := by kernel_rfl
theorem tAgg_52 : tAgg Tryd.prog 52 = some false := by kernel_rfl
theorem tSize_52 : tSize Tryd.prog 52 = some 1 := by kernel_rfl
theorem tBytes_52 : tBytes Tryd.prog 52 = some 8 := by kernel_rfl
theorem tElem_52 : tElem Tryd.prog 52 = none := by kernel_rfl
theorem tStr_52 : tStr Tryd.prog 52 = false := by kernel_rfl
theorem tInt_52 : tInt Tryd.prog 52 = none := by kernel_rfl
theorem tAgg_53 : tAgg Tryd.prog 53 = some false := by kernel_rfl
theorem tSize_53 : tSize Tryd.prog 53 = some 1 := by kernel_rfl
theorem tBytes_53 : tBytes Tryd.prog 53 = some 8 := by kernel_rfl
theorem tElem_53 : tElem Tryd.prog 53 = none := by kernel_rfl
theorem tStr_53 : tStr Tryd.prog 53 = false := by kernel_rfl
theorem tInt_53 : tInt Tryd.prog 53 = none := by kernel_rfl
theorem tAgg_54 : tAgg Tryd.prog 54 = some false := by kernel_rfl
theorem tSize_54 : tSize Tryd.prog 54 = some 1 := by kernel_rfl
theorem tBytes_54 : tBytes Tryd.prog 54 = some 8 := by kernel_rfl
theorem tElem_54 : tElem Tryd.prog 54 = none := by kernel_rfl
theorem tStr_54 : tStr Tryd.prog 54 = false := by kernel_rfl
theorem tInt_54 : tInt Tryd.prog 54 = none := by kernel_rfl
theorem tAgg_55 : tAgg Tryd.prog 55 = some false := by kernel_rfl
theorem tSize_55 : tSize Tryd.prog 55 = some 1 := by kernel_rfl
theorem tBytes_55 : tBytes Tryd.prog 55 = some 8 := by kernel_rfl
theorem tElem_55 : tElem Tryd.prog 55 = none := by kernel_rfl
theorem tStr_55 : tStr Tryd.prog 55 = false := by kernel_rfl
theorem tInt_55 : tInt Tryd.prog 55 = none := by kernel_rfl
theorem tAgg_56 : tAgg Tryd.prog 56 = some false := by kernel_rfl
theorem tSize_56 : tSize Tryd.prog 56 = some 1 := by kernel_rfl
theorem tBytes_56 : tBytes Tryd.prog 56 = some 8 := by kernel_rfl
theorem tElem_56 : tElem Tryd.prog 56 = none := by kernel_rfl
theorem tStr_56 : tStr Tryd.prog 56 = false := by kernel_rfl
theorem tInt_56 : tInt Tryd.prog 56 = none := by kernel_rfl
theorem tAgg_57 : tAgg Tryd.prog 57 = some false := by kernel_rfl
theorem tSize_57 : tSize Tryd.prog 57 = some 1 := by kernel_rfl
theorem tBytes_57 : tBytes Tryd.prog 57 = some 24 := by kernel_rfl
theorem tElem_57 : tElem Tryd.prog 57 = some 58 := by kernel_rfl
theorem tStr_57 : tStr Tryd.prog 57 = false := by kernel_rfl
theorem tInt_57 : tInt Tryd.prog 57 = none := by kernel_rfl
theorem tzo_57 : tzo Tryd.prog 57 = some (.atom (.slice none 0 0)) := by kernel_rfl
theorem tAgg_58 : tAgg Tryd.prog 58 = some true := by kernel_rfl
theorem tSize_58 : tSize Tryd.prog 58 = some 2 := by kernel_rfl
theorem tBytes_58 : tBytes Tryd.prog 58 = some 16 := by kernel_rfl
theorem tElem_58 : tElem Tryd.prog 58 = none := by kernel_rfl
theorem tStr_58 : tStr Tryd.prog 58 = false := by kernel_rfl
theorem tInt_58 : tInt Tryd.prog 58 = none := by kernel_rfl
theorem tArr_58 : tArr Tryd.prog 58 = some (2, 3) := by kernel_rfl
theorem tPlace_58 (i : Nat) : tPlace Tryd.prog 58 i = some (i * 1, 1) := by rfl
theorem tKnown_58 : tKnown Tryd.prog 58 = true := by kernel_rfl
theorem tzo_58 : tzo Tryd.prog 58 = some (.agg [.atom (.int .i64 0), .atom (.int .i64 0)]) := by kernel_rfl
theorem tAgg_59 : tAgg Tryd.prog 59 = some false := by kernel_rfl
theorem tSize_59 : tSize Tryd.prog 59 = some 1 := by kernel_rfl
theorem tBytes_59 : tBytes Tryd.prog 59 = some 24 := by kernel_rfl
theorem tElem_59 : tElem Tryd.prog 59 = some 57 := by kernel_rfl
theorem tStr_59 : tStr Tryd.prog 59 = false := by kernel_rfl
theorem tInt_59 : tInt Tryd.prog 59 = none := by kernel_rfl
theorem tzo_59 : tzo Tryd.prog 59 = some (.atom (.slice none 0 0)) := by kernel_rfl
theorem tAgg_61 : tAgg Tryd.prog 61 = some false := by kernel_rfl
theorem tSize_61 : tSize Tryd.prog 61 = some 1 := by kernel_rfl
theorem tBytes_61 : tBytes Tryd.prog 61 = some 8 := by kernel_rfl
theorem tElem_61 : tElem Tryd.prog 61 = none := by kernel_rfl
theorem tStr_61 : tStr Tryd.prog 61 = false := by kernel_rfl
theorem tInt_61 : tInt Tryd.prog 61 = none := by kernel_rfl
theorem tAgg_62 : tAgg Tryd.prog 62 = some false := by kernel_rfl
theorem tSize_62 : tSize Tryd.prog 62 = some 1 := by kernel_rfl
theorem tBytes_62 : tBytes Tryd.prog 62 = some 8 := by kernel_rfl
theorem tElem_62 : tElem Tryd.prog 62 = none := by kernel_rfl
theorem tStr_62 : tStr Tryd.prog 62 = false := by kernel_rfl
theorem tInt_62 : tInt Tryd.prog 62 = none := by kernel_rfl
theorem tAgg_63 : tAgg Tryd.prog 63 = some false := by kernel_rfl
theorem tSize_63 : tSize Tryd.prog 63 = some 1 := by kernel_rfl
theorem tBytes_63 : tBytes Tryd.prog 63 = some 8 := by kernel_rfl
theorem tElem_63 : tElem Tryd.prog 63 = none := by kernel_rfl
theorem tStr_63 : tStr Tryd.prog 63 = false := by kernel_rfl
theorem tInt_63 : tInt Tryd.prog 63 = none := by kernel_rfl
theorem tAgg_64 : tAgg Tryd.prog 64 = some false := by kernel_rfl
theorem tSize_64 : tSize Tryd.prog 64 = some 1 := by kernel_rfl
theorem tBytes_64 : tBytes Tryd.prog 64 = some 8 := by kernel_rfl
theorem tElem_64 : tElem Tryd.prog 64 = none := by kernel_rfl
theorem tStr_64 : tStr Tryd.prog 64 = false := by kernel_rfl
theorem tInt_64 : tInt Tryd.prog 64 = none := by kernel_rfl
theorem tAgg_65 : tAgg Tryd.prog 65 = some false := by kernel_rfl
theorem tSize_65 : tSize Tryd.prog 65 = some 1 := by kernel_rfl
theorem tBytes_65 : tBytes Tryd.prog 65 = some 24 := by kernel_rfl
theorem tElem_65 : tElem Tryd.prog 65 = some 4 := by kernel_rfl
theorem tStr_65 : tStr Tryd.prog 65 = false := by kernel_rfl
theorem tInt_65 : tInt Tryd.prog 65 = none := by kernel_rfl
theorem tzo_65 : tzo Tryd.prog 65 = some (.atom (.slice none 0 0)) := by kernel_rfl
theorem tAgg_66 : tAgg Tryd.prog 66 = some false := by kernel_rfl
theorem tSize_66 : tSize Tryd.prog 66 = some 1 := by kernel_rfl
theorem tBytes_66 : tBytes Tryd.prog 66 = some 8 := by kernel_rfl
theorem tElem_66 : tElem Tryd.prog 66 = none := by kernel_rfl
theorem tStr_66 : tStr Tryd.prog 66 = false := by kernel_rfl
theorem tInt_66 : tInt Tryd.prog 66 = none := by kernel_rfl
theorem tAgg_67 : tAgg Tryd.prog 67 = some false := by kernel_rfl
theorem tSize_67 : tSize Tryd.prog 67 = some 1 := by kernel_rfl
theorem tBytes_67 : tBytes Tryd.prog 67 = some 8 := by kernel_rfl
theorem tElem_67 : tElem Tryd.prog 67 = none := by kernel_rfl
theorem tStr_67 : tStr Tryd.prog 67 = false := by kernel_rfl
theorem tInt_67 : tInt Tryd.prog 67 = none := by kernel_rfl
theorem tAgg_68 : tAgg Tryd.prog 68 = some false := by kernel_rfl
theorem tSize_68 : tSize Tryd.prog 68 = some 1 := by kernel_rfl
theorem tBytes_68 : tBytes Tryd.prog 68 = some 24 := by kernel_rfl
theorem tElem_68 : tElem Tryd.prog 68 = some 100 := by kernel_rfl
theorem tStr_68 : tStr Tryd.prog 68 = false := by kernel_rfl
theorem tInt_68 : tInt Tryd.prog 68 = none := by kernel_rfl
theorem tzo_68 : tzo Tryd.prog 68 = some (.atom (.slice none 0 0)) := by kernel_rfl
theorem tAgg_69 : tAgg Tryd.prog 69 = some false := by kernel_rfl
theorem tSize_69 : tSize Tryd.prog 69 = some 1 := by kernel_rfl
theorem tBytes_69 : tBytes Tryd.prog 69 = some 8 := by kernel_rfl
theorem tElem_69 : tElem Tryd.prog 69 = none := by kernel_rfl
theorem tStr_69 : tStr Tryd.prog 69 = false := by kernel_rfl
theorem tInt_69 : tInt Tryd.prog 69 = none := by kernel_rfl
theorem tAgg_70 : tAgg Tryd.prog 70 = some false := by kernel_rfl
theorem tSize_70 : tSize Tryd.prog 70 = some 1 := by kernel_rfl
theorem tBytes_70 : tBytes Tryd.prog 70 = some 8 := by kernel_rfl
theorem tElem_70 : tElem Tryd.prog 70 = none := by kernel_rfl
theorem tStr_70 : tStr Tryd.prog 70 = false := by kernel_rfl
theorem tInt_70 : tInt Tryd.prog 70 = none := by kernel_rfl
theorem tAgg_71 : tAgg Tryd.prog 71 = some false := by kernel_rfl
theorem tSize_71 : tSize Tryd.prog 71 = some 1 := by kernel_rfl
theorem tBytes_71 : tBytes Tryd.prog 71 = some 8 := by kernel_rfl
theorem tElem_71 : tElem Tryd.prog 71 = none := by kernel_rfl
theorem tStr_71 : tStr Tryd.prog 71 = false := by kernel_rfl
theorem tInt_71 : tInt Tryd.prog 71 = none := by kernel_rfl
theorem tAgg_72 : tAgg Tryd.prog 72 = some false := by kernel_rfl
theorem tSize_72 : tSize Tryd.prog 72 = some 1 := by kernel_rfl
theorem tBytes_72 : tBytes Tryd.prog 72 = some 8 := by kernel_rfl
theorem tElem_72 : tElem Tryd.prog 72 = none := by kernel_rfl
theorem tStr_72 : tStr Tryd.prog 72 = false := by kernel_rfl
theorem tInt_72 : tInt Tryd.prog 72 = none := by kernel_rfl
theorem tAgg_73 : tAgg Tryd.prog 73 = some false := by kernel_rfl
theorem tSize_73 : tSize Tryd.prog 73 = some 1 := by kernel_rfl
theorem tBytes_73 : tBytes Tryd.prog 73 = some 8 := by kernel_rfl
theorem tElem_73 : tElem Tryd.prog 73 = none := by kernel_rfl
theorem tStr_73 : tStr Tryd.prog 73 = false := by kernel_rfl
theorem tInt_73 : tInt Tryd.prog 73 = none := by kernel_rfl
theorem tAgg_74 : tAgg Tryd.prog 74 = some false := by kernel_rfl
theorem tSize_74 : tSize Tryd.prog 74 = some 1 := by kernel_rfl
theorem tBytes_74 : tBytes Tryd.prog 74 = some 8 := by kernel_rfl
theorem tElem_74 : tElem Tryd.prog 74 = none := by kernel_rfl
theorem tStr_74 : tStr Tryd.prog 74 = false := by kernel_rfl
theorem tInt_74 : tInt Tryd.prog 74 = none := by kernel_rfl
theorem tAgg_75 : tAgg Tryd.prog 75 = some false := by kernel_rfl
theorem tSize_75 : tSize Tryd.prog 75 = some 1 := by kernel_rfl
theorem tBytes_75 : tBytes Tryd.prog 75 = some 8 := by kernel_rfl
theorem tElem_75 : tElem Tryd.prog 75 = none := by kernel_rfl
theorem tStr_75 : tStr Tryd.prog 75 = false := by kernel_rfl
theorem tInt_75 : tInt Tryd.prog 75 = none := by kernel_rfl
theorem tAgg_76 : tAgg Tryd.prog 76 = some true := by kernel_rfl
theorem tSize_76 : tSize Tryd.prog 76 = some 128 := by kernel_rfl
theorem tBytes_76 : tBytes Tryd.prog 76 = some 128 := by kernel_rfl
theorem tElem_76 : tElem Tryd.prog 76 = none := by kernel_rfl
theorem tStr_76 : tStr Tryd.prog 76 = false := by kernel_rfl
theorem tInt_76 : tInt Tryd.prog 76 = none := by kernel_rfl
theorem tArr_76 : tArr Tryd.prog 76 = some (128, 4) := by kernel_rfl
theorem tPlace_76 (i : Nat) : tPlace Tryd.prog 76 i = some (i * 1, 1) := by rfl
theorem tKnown_76 : tKnown Tryd.prog 76 = true := by kernel_rfl
theorem tzo_76 : tzo Tryd.prog 76 = some (.agg (List.replicate 128 (.atom (.bool false)))) := by kernel_rfl
theorem tAgg_78 : tAgg Tryd.prog 78 = some false := by kernel_rfl
theorem tSize_78 : tSize Tryd.prog 78 = some 1 := by kernel_rfl
theorem tBytes_78 : tBytes Tryd.prog 78 = some 8 := by kernel_rfl
theorem tElem_78 : tElem Tryd.prog 78 = none := by kernel_rfl
theorem tStr_78 : tStr Tryd.prog 78 = false := by kernel_rfl
theorem tInt_78 : tInt Tryd.prog 78 = none := by kernel_rfl
theorem tAgg_79 : tAgg Tryd.prog 79 = some false := by kernel_rfl
theorem tSize_79 : tSize Tryd.prog 79 = some 1 := by kernel_rfl
theorem tBytes_79 : tBytes Tryd.prog 79 = some 8 := by kernel_rfl
theorem tElem_79 : tElem Tryd.prog 79 = none := by kernel_rfl
theorem tStr_79 : tStr Tryd.prog 79 = false := by kernel_rfl
theorem tInt_79 : tInt Tryd.prog 79 = none := by kernel_rfl
theorem tAgg_80 : tAgg Tryd.prog 80 = some false := by kernel_rfl
theorem tSize_80 : tSize Tryd.prog 80 = some 1 := by kernel_rfl
theorem tBytes_80 : tBytes Tryd.prog 80 = some 8 := by kernel_rfl
theorem tElem_80 : tElem Tryd.prog 80 = none := by kernel_rfl
theorem tStr_80 : tStr Tryd.prog 80 = false := by kernel_rfl
theorem tInt_80 : tInt Tryd.prog 80 = none := by kernel_rfl
theorem tAgg_81 : tAgg Tryd.prog 81 = some false := by kernel_rfl
theorem tSize_81 : tSize Tryd.prog 81 = some 1 := by kernel_rfl
theorem tBytes_81 : tBytes Tryd.prog 81 = some 8 := by kernel_rfl
theorem tElem_81 : tElem Tryd.prog 81 = none := by kernel_rfl
theorem tStr_81 : tStr Tryd.prog 81 = false := by kernel_rfl
theorem tInt_81 : tInt Tryd.prog 81 = none := by kernel_rfl
theorem tAgg_82 : tAgg Tryd.prog 82 = some false := by kernel_rfl
theorem tSize_82 : tSize Tryd.prog 82 = some 1 := by kernel_rfl
theorem tBytes_82 : tBytes Tryd.prog 82 = some 8 := by kernel_rfl
theorem tElem_82 : tElem Tryd.prog 82 = none := by kernel_rfl
theorem tStr_82 : tStr Tryd.prog 82 = false := by kernel_rfl
theorem tInt_82 : tInt Tryd.prog 82 = none := by kernel_rfl
theorem tAgg_83 : tAgg Tryd.prog 83 = some false := by kernel_rfl
theorem tSize_83 : tSize Tryd.prog 83 = some 1 := by kernel_rfl
theorem tBytes_83 : tBytes Tryd.prog 83 = some 8 := by kernel_rfl
theorem tElem_83 : tElem Tryd.prog 83 = none := by kernel_rfl
theorem tStr_83 : tStr Tryd.prog 83 = false := by kernel_rfl
theorem tInt_83 : tInt Tryd.prog 83 = none := by kernel_rfl
theorem tAgg_84 : tAgg Tryd.prog 84 = some false := by kernel_rfl
theorem tSize_84 : tSize Tryd.prog 84 = some 1 := by kernel_rfl
theorem tBytes_84 : tBytes Tryd.prog 84 = some 24 := by kernel_rfl
theorem tElem_84 : tElem Tryd.prog 84 = some 22 := by kernel_rfl
theorem tStr_84 : tStr Tryd.prog 84 = false := by kernel_rfl
theorem tInt_84 : tInt Tryd.prog 84 = none := by kernel_rfl
theorem tzo_84 : tzo Tryd.prog 84 = some (.atom (.slice none 0 0)) := by kernel_rfl
theorem tAgg_85 : tAgg Tryd.prog 85 = some false := by kernel_rfl
theorem tSize_85 : tSize Tryd.prog 85 = some 1 := by kernel_rfl
theorem tBytes_85 : tBytes Tryd.prog 85 = some 8 := by kernel_rfl
theorem tElem_85 : tElem Tryd.prog 85 = none := by kernel_rfl
theorem tStr_85 : tStr Tryd.prog 85 = false := by kernel_rfl
theorem tInt_85 : tInt Tryd.prog 85 = none := by kernel_rfl
theorem tAgg_86 : tAgg Tryd.prog 86 = some false := by kernel_rfl
theorem tSize_86 : tSize Tryd.prog 86 = some 1 := by kernel_rfl
theorem tBytes_86 : tBytes Tryd.prog 86 = some 24 := by kernel_rfl
theorem tElem_86 : tElem Tryd.prog 86 = some 84 := by kernel_rfl
theorem tStr_86 : tStr Tryd.prog 86 = false := by kernel_rfl
theorem tInt_86 : tInt Tryd.prog 86 = none := by kernel_rfl
theorem tzo_86 : tzo Tryd.prog 86 = some (.atom (.slice none 0 0)) := by kernel_rfl
theorem tAgg_87 : tAgg Tryd.prog 87 = some false := by kernel_rfl
theorem tSize_87 : tSize Tryd.prog 87 = some 1 := by kernel_rfl
theorem tBytes_87 : tBytes Tryd.prog 87 = some 8 := by kernel_rfl
theorem tElem_87 : tElem Tryd.prog 87 = none := by kernel_rfl
theorem tStr_87 : tStr Tryd.prog 87 = false := by kernel_rfl
theorem tInt_87 : tInt Tryd.prog 87 = none := by kernel_rfl
theorem tAgg_88 : tAgg Tryd.prog 88 = some false := by kernel_rfl
theorem tSize_88 : tSize Tryd.prog 88 = some 1 := by kernel_rfl
theorem tBytes_88 : tBytes Tryd.prog 88 = some 8 := by kernel_rfl
theorem tElem_88 : tElem Tryd.prog 88 = none := by kernel_rfl
theorem tStr_88 : tStr Tryd.prog 88 = false := by kernel_rfl
theorem tInt_88 : tInt Tryd.prog 88 = none := by kernel_rfl
theorem tAgg_89 : tAgg Tryd.prog 89 = some false := by kernel_rfl
theorem tSize_89 : tSize Tryd.prog 89 = some 1 := by kernel_rfl
theorem tBytes_89 : tBytes Tryd.prog 89 = some 8 := by kernel_rfl
theorem tElem_89 : tElem Tryd.prog 89 = none := by kernel_rfl
theorem tStr_89 : tStr Tryd.prog 89 = false := by kernel_rfl
theorem tInt_89 : tInt Tryd.prog 89 = none := by kernel_rfl
theorem tAgg_90 : tAgg Tryd.prog 90 = some false := by kernel_rfl
theorem tSize_90 : tSize Tryd.prog 90 = some 1 := by kernel_rfl
theorem tBytes_90 : tBytes Tryd.prog 90 = some 8 := by kernel_rfl
theorem tElem_90 : tElem Tryd.prog 90 = none := by kernel_rfl
theorem tStr_90 : tStr Tryd.prog 90 = false := by kernel_rfl
theorem tInt_90 : tInt Tryd.prog 90 = none := by kernel_rfl
theorem tAgg_91 : tAgg Tryd.prog 91 = some false := by kernel_rfl
theorem tSize_91 : tSize Tryd.prog 91 = some 1 := by kernel_rfl
theorem tBytes_91 : tBytes Tryd.prog 91 = some 24 := by kernel_rfl
theorem tElem_91 : tElem Tryd.prog 91 = some 65 := by kernel_rfl
theorem tStr_91 : tStr Tryd.prog 91 = false := by kernel_rfl
theorem tInt_91 : tInt Tryd.prog 91 = none := by kernel_rfl
theorem tzo_91 : tzo Tryd.prog 91 = some (.atom (.slice none 0 0)) := by kernel_rfl
theorem tAgg_93 : tAgg Tryd.prog 93 = some false := by kernel_rfl
theorem tSize_93 : tSize Tryd.prog 93 = some 1 := by kernel_rfl
theorem tBytes_93 : tBytes Tryd.prog 93 = some 8 := by kernel_rfl
theorem tElem_93 : tElem Tryd.prog 93 = none := by kernel_rfl
theorem tStr_93 : tStr Tryd.prog 93 = false := by kernel_rfl
theorem tInt_93 : tInt Tryd.prog 93 = none := by kernel_rfl
theorem tAgg_94 : tAgg Tryd.prog 94 = some false := by kernel_rfl
theorem tSize_94 : tSize Tryd.prog 94 = some 1 := by kernel_rfl
theorem tBytes_94 : tBytes Tryd.prog 94 = some 8 := by kernel_rfl
theorem tElem_94 : tElem Tryd.prog 94 = none := by kernel_rfl
theorem tStr_94 : tStr Tryd.prog 94 = false := by kernel_rfl
theorem tInt_94 : tInt Tryd.prog 94 = none := by kernel_rfl
theorem tAgg_95 : tAgg Tryd.prog 95 = some false := by kernel_rfl
theorem tSize_95 : tSize Tryd.prog 95 = some 1 := by kernel_rfl
theorem tBytes_95 : tBytes Tryd.prog 95 = some 8 := by kernel_rfl
theorem tElem_95 : tElem Tryd.prog 95 = none := by kernel_rfl
theorem tStr_95 : tStr Tryd.prog 95 = false := by kernel_rfl
theorem tInt_95 : tInt Tryd.prog 95 = none := by kernel_rfl
theorem tAgg_96 : tAgg Tryd.prog 96 = some false := by kernel_rfl
theorem tSize_96 : tSize Tryd.prog 96 = some 1 := by kernel_rfl
theorem tBytes_96 : tBytes Tryd.prog 96 = some 8 := by kernel_rfl
theorem tElem_96 : tElem Tryd.prog 96 = none := by kernel_rfl
theorem tStr_96 : tStr Tryd.prog 96 = false := by kernel_rfl
theorem tInt_96 : tInt Tryd.prog 96 = none := by kernel_rfl
theorem tAgg_97 : tAgg Tryd.prog 97 = some false := by kernel_rfl
theorem tSize_97 : tSize Tryd.prog 97 = some 1 := by kernel_rfl
theorem tBytes_97 : tBytes Tryd.prog 97 = some 8 := by kernel_rfl
theorem tElem_97 : tElem Tryd.prog 97 = none := by kernel_rfl
theorem tStr_97 : tStr Tryd.prog 97 = false := by kernel_rfl
theorem tInt_97 : tInt Tryd.prog 97 = none := by kernel_rfl
theorem tAgg_98 : tAgg Tryd.prog 98 = some false := by kernel_rfl
theorem tSize_98 : tSize Tryd.prog 98 = some 1 := by kernel_rfl
theorem tBytes_98 : tBytes Tryd.prog 98 = some 8 := by kernel_rfl
theorem tElem_98 : tElem Tryd.prog 98 = none := by kernel_rfl
theorem tStr_98 : tStr Tryd.prog 98 = false := by kernel_rfl
theorem tInt_98 : tInt Tryd.prog 98 = none := by kernel_rfl
theorem tAgg_99 : tAgg Tryd.prog 99 = some true := by kernel_rfl
theorem tSize_99 : tSize Tryd.prog 99 = some 3 := by kernel_rfl
theorem tBytes_99 : tBytes Tryd.prog 99 = some 24 := by kernel_rfl
theorem tElem_99 : tElem Tryd.prog 99 = none := by kernel_rfl
theorem tStr_99 : tStr Tryd.prog 99 = false := by kernel_rfl
theorem tInt_99 : tInt Tryd.prog 99 = none := by kernel_rfl
theorem tFld_99_0 : tFld Tryd.prog 99 0 = some (0, 3) := by kernel_rfl
theorem tPlace_99_0 : tPlace Tryd.prog 99 0 = some (0, 1) := by kernel_rfl
theorem tFld_99_1 : tFld Tryd.prog 99 1 = some (1, 3) := by kernel_rfl
theorem tPlace_99_1 : tPlace Tryd.prog 99 1 = some (1, 1) := by kernel_rfl
theorem tFld_99_2 : tFld Tryd.prog 99 2 = some (2, 3) := by kernel_rfl
theorem tPlace_99_2 : tPlace Tryd.prog 99 2 = some (2, 1) := by kernel_rfl
theorem tKnown_99 : tKnown Tryd.prog 99 = true := by kernel_rfl
theorem tzo_99 : tzo Tryd.prog 99 = some (.agg [.atom (.int .i64 0), .atom (.int .i64 0), .atom (.int .i64 0)]) := by kernel_rfl
theorem tAgg_100 : tAgg Tryd.prog 100 = some true := by kernel_rfl
theorem tSize_100 : tSize Tryd.prog 100 = some 3 := by kernel_rfl
theorem tBytes_100 : tBytes Tryd.prog 100 = some 24 := by kernel_rfl
theorem tElem_100 : tElem Tryd.prog 100 = none := by kernel_rfl
theorem tStr_100 : tStr Tryd.prog 100 = false := by kernel_rfl
theorem tInt_100 : tInt Tryd.prog 100 = none := by kernel_rfl
theorem tFld_100_0 : tFld Tryd.prog 100 0 = some (0, 3) := by kernel_rfl
theorem tPlace_100_0 : tPlace Tryd.prog 100 0 = some (0, 1) := by kernel_rfl
theorem tFld_100_1 : tFld Tryd.prog 100 1 = some (1, 3) := by kernel_rfl
theorem tPlace_100_1 : tPlace Tryd.prog 100 1 = some (1, 1) := by kernel_rfl
theorem tFld_100_2 : tFld Tryd.prog 100 2 = some (2, 3) := by kernel_rfl
theorem tPlace_100_2 : tPlace Tryd.prog 100 2 = some (2, 1) := by kernel_rfl
theorem tKnown_100 : tKnown Tryd.prog 100 = true := by kernel_rfl
theorem tzo_100 : tzo Tryd.prog 100 = some (.agg [.atom (.int .i64 0), .atom (.int .i64 0), .atom (.int .i64 0)]) := by kernel_rfl
theorem tAgg_101 : tAgg Tryd.prog 101 = some false := by kernel_rfl
theorem tSize_101 : tSize Tryd.prog 101 = some 1 := by kernel_rfl
theorem tBytes_101 : tBytes Tryd.prog 101 = some 8 := by kernel_rfl
theorem tElem_101 : tElem Tryd.prog 101 = none := by kernel_rfl
theorem tStr_101 : tStr Tryd.prog 101 = false := by kernel_rfl
theorem tInt_101 : tInt Tryd.prog 101 = none := by kernel_rfl
theorem tAgg_102 : tAgg Tryd.prog 102 = some false := by kernel_rfl
theorem tSize_102 : tSize Tryd.prog 102 = some 1 := by kernel_rfl
theorem tBytes_102 : tBytes Tryd.prog 102 = some 8 := by kernel_rfl
theorem tElem_102 : tElem Tryd.prog 102 = none := by kernel_rfl
theorem tStr_102 : tStr Tryd.prog 102 = false := by kernel_rfl
theorem tInt_102 : tInt Tryd.prog 102 = none := by kernel_rfl
theorem tAgg_103 : tAgg Tryd.prog 103 = some false := by kernel_rfl
theorem tSize_103 : tSize Tryd.prog 103 = some 1 := by kernel_rfl
theorem tBytes_103 : tBytes Tryd.prog 103 = some 8 := by kernel_rfl
theorem tElem_103 : tElem Tryd.prog 103 = none := by kernel_rfl
theorem tStr_103 : tStr Tryd.prog 103 = false := by kernel_rfl
theorem tInt_103 : tInt Tryd.prog 103 = none := by kernel_rfl
theorem tAgg_104 : tAgg Tryd.prog 104 = some true := by kernel_rfl
theorem tSize_104 : tSize Tryd.prog 104 = some 256 := by kernel_rfl
theorem tBytes_104 : tBytes Tryd.prog 104 = some 2048 := by kernel_rfl
theorem tElem_104 : tElem Tryd.prog 104 = none := by kernel_rfl
theorem tStr_104 : tStr Tryd.prog 104 = false := by kernel_rfl
theorem tInt_104 : tInt Tryd.prog 104 = none := by kernel_rfl
theorem tArr_104 : tArr Tryd.prog 104 = some (256, 3) := by kernel_rfl
theorem tPlace_104 (i : Nat) : tPlace Tryd.prog 104 i = some (i * 1, 1) := by rfl
theorem tKnown_104 : tKnown Tryd.prog 104 = true := by kernel_rfl
theorem tzo_104 : tzo Tryd.prog 104 = some (.agg (List.replicate 256 (.atom (.int .i64 0)))) := by kernel_rfl
theorem tAgg_106 : tAgg Tryd.prog 106 = some false := by kernel_rfl
theorem tSize_106 : tSize Tryd.prog 106 = some 1 := by kernel_rfl
theorem tBytes_106 : tBytes Tryd.prog 106 = some 8 := by kernel_rfl
theorem tElem_106 : tElem Tryd.prog 106 = none := by kernel_rfl
theorem tStr_106 : tStr Tryd.prog 106 = false := by kernel_rfl
theorem tInt_106 : tInt Tryd.prog 106 = none := by kernel_rfl
theorem tAgg_107 : tAgg Tryd.prog 107 = some false := by kernel_rfl
theorem tSize_107 : tSize Tryd.prog 107 = some 1 := by kernel_rfl
theorem tBytes_107 : tBytes Tryd.prog 107 = some 8 := by kernel_rfl
theorem tElem_107 : tElem Tryd.prog 107 = none := by kernel_rfl
theorem tStr_107 : tStr Tryd.prog 107 = false := by kernel_rfl
theorem tInt_107 : tInt Tryd.prog 107 = none := by kernel_rfl
theorem tAgg_108 : tAgg Tryd.prog 108 = some false := by kernel_rfl
theorem tSize_108 : tSize Tryd.prog 108 = some 1 := by kernel_rfl
theorem tBytes_108 : tBytes Tryd.prog 108 = some 8 := by kernel_rfl
theorem tElem_108 : tElem Tryd.prog 108 = none := by kernel_rfl
theorem tStr_108 : tStr Tryd.prog 108 = false := by kernel_rfl
theorem tInt_108 : tInt Tryd.prog 108 = none := by kernel_rfl
theorem tAgg_109 : tAgg Tryd.prog 109 = some false := by kernel_rfl
theorem tSize_109 : tSize Tryd.prog 109 = some 1 := by kernel_rfl
theorem tBytes_109 : tBytes Tryd.prog 109 = some 8 := by kernel_rfl
theorem tElem_109 : tElem Tryd.prog 109 = none := by kernel_rfl
theorem tStr_109 : tStr Tryd.prog 109 = false := by kernel_rfl
theorem tInt_109 : tInt Tryd.prog 109 = none := by kernel_rfl
theorem tAgg_111 : tAgg Tryd.prog 111 = some false := by kernel_rfl
theorem tSize_111 : tSize Tryd.prog 111 = some 1 := by kernel_rfl
theorem tBytes_111 : tBytes Tryd.prog 111 = some 8 := by kernel_rfl
theorem tElem_111 : tElem Tryd.prog 111 = none := by kernel_rfl
theorem tStr_111 : tStr Tryd.prog 111 = false := by kernel_rfl
theorem tInt_111 : tInt Tryd.prog 111 = none := by kernel_rfl
theorem tAgg_112 : tAgg Tryd.prog 112 = some false := by kernel_rfl
theorem tSize_112 : tSize Tryd.prog 112 = some 1 := by kernel_rfl
theorem tBytes_112 : tBytes Tryd.prog 112 = some 8 := by kernel_rfl
theorem tElem_112 : tElem Tryd.prog 112 = none := by kernel_rfl
theorem tStr_112 : tStr Tryd.prog 112 = false := by kernel_rfl
theorem tInt_112 : tInt Tryd.prog 112 = none := by kernel_rfl
theorem tAgg_113 : tAgg Tryd.prog 113 = some false := by kernel_rfl
theorem tSize_113 : tSize Tryd.prog 113 = some 1 := by kernel_rfl
theorem tBytes_113 : tBytes Tryd.prog 113 = some 8 := by kernel_rfl
theorem tElem_113 : tElem Tryd.prog 113 = none := by kernel_rfl
theorem tStr_113 : tStr Tryd.prog 113 = false := by kernel_rfl
theorem tInt_113 : tInt Tryd.prog 113 = none := by kernel_rfl
theorem tAgg_114 : tAgg Tryd.prog 114 = some true := by kernel_rfl
theorem tSize_114 : tSize Tryd.prog 114 = some 256 := by kernel_rfl
theorem tBytes_114 : tBytes Tryd.prog 114 = some 256 := by kernel_rfl
theorem tElem_114 : tElem Tryd.prog 114 = none := by kernel_rfl
theorem tStr_114 : tStr Tryd.prog 114 = false := by kernel_rfl
theorem tInt_114 : tInt Tryd.prog 114 = none := by kernel_rfl
theorem tArr_114 : tArr Tryd.prog 114 = some (256, 4) := by kernel_rfl
theorem tPlace_114 (i : Nat) : tPlace Tryd.prog 114 i = some (i * 1, 1) := by rfl
theorem tKnown_114 : tKnown Tryd.prog 114 = true := by kernel_rfl
theorem tzo_114 : tzo Tryd.prog 114 = some (.agg (List.replicate 256 (.atom (.bool false)))) := by kernel_rfl
theorem tAgg_115 : tAgg Tryd.prog 115 = some true := by kernel_rfl
theorem tSize_115 : tSize Tryd.prog 115 = some 256 := by kernel_rfl
theorem tBytes_115 : tBytes Tryd.prog 115 = some 256 := by kernel_rfl
theorem tElem_115 : tElem Tryd.prog 115 = none := by kernel_rfl
theorem tStr_115 : tStr Tryd.prog 115 = false := by kernel_rfl
theorem tInt_115 : tInt Tryd.prog 115 = none := by kernel_rfl
theorem tArr_115 : tArr Tryd.prog 115 = some (256, 4) := by kernel_rfl
theorem tPlace_115 (i : Nat) : tPlace Tryd.prog 115 i = some (i * 1, 1) := by rfl
theorem tKnown_115 : tKnown Tryd.prog 115 = true := by kernel_rfl
theorem tzo_115 : tzo Tryd.prog 115 = some (.agg (List.replicate 256 (.atom (.bool false)))) := by kernel_rfl
theorem tAgg_117 : tAgg Tryd.prog 117 = some false := by kernel_rfl
theorem tSize_117 : tSize Tryd.prog 117 = some 1 := by kernel_rfl
theorem tBytes_117 : tBytes Tryd.prog 117 = some 8 := by kernel_rfl
theorem tElem_117 : tElem Tryd.prog 117 = none := by kernel_rfl
theorem tStr_117 : tStr Tryd.prog 117 = false := by kernel_rfl
theorem tInt_117 : tInt Tryd.prog 117 = none := by kernel_rfl
theorem tAgg_118 : tAgg Tryd.prog 118 = some false := by kernel_rfl
theorem tSize_118 : tSize Tryd.prog 118 = some 1 := by kernel_rfl
theorem tBytes_118 : tBytes Tryd.prog 118 = some 8 := by kernel_rfl
theorem tElem_118 : tElem Tryd.prog 118 = none := by kernel_rfl
theorem tStr_118 : tStr Tryd.prog 118 = false := by kernel_rfl
theorem tInt_118 : tInt Tryd.prog 118 = none := by kernel_rfl
theorem tAgg_119 : tAgg Tryd.prog 119 = some false := by kernel_rfl
theorem tSize_119 : tSize Tryd.prog 119 = some 1 := by kernel_rfl
theorem tBytes_119 : tBytes Tryd.prog 119 = some 8 := by kernel_rfl
theorem tElem_119 : tElem Tryd.prog 119 = none := by kernel_rfl
theorem tStr_119 : tStr Tryd.prog 119 = false := by kernel_rfl
theorem tInt_119 : tInt Tryd.prog 119 = none := by kernel_rfl
theorem tzo_119 : tzo Tryd.prog 119 = some (.atom (.pointer none)) := by kernel_rfl
theorem tAgg_120 : tAgg Tryd.prog 120 = some false := by kernel_rfl
theorem tSize_120 : tSize Tryd.prog 120 = some 1 := by kernel_rfl
theorem tBytes_120 : tBytes Tryd.prog 120 = some 8 := by kernel_rfl
theorem tElem_120 : tElem Tryd.prog 120 = none := by kernel_rfl
theorem tStr_120 : tStr Tryd.prog 120 = false := by kernel_rfl
theorem tInt_120 : tInt Tryd.prog 120 = none := by kernel_rfl
theorem tAgg_121 : tAgg Tryd.prog 121 = some false := by kernel_rfl
theorem tSize_121 : tSize Tryd.prog 121 = some 1 := by kernel_rfl
theorem tBytes_121 : tBytes Tryd.prog 121 = some 8 := by kernel_rfl
theorem tElem_121 : tElem Tryd.prog 121 = none := by kernel_rfl
theorem tStr_121 : tStr Tryd.prog 121 = false := by kernel_rfl
theorem tInt_121 : tInt Tryd.prog 121 = none := by kernel_rfl
theorem tAgg_122 : tAgg Tryd.prog 122 = some false := by kernel_rfl
theorem tSize_122 : tSize Tryd.prog 122 = some 1 := by kernel_rfl
theorem tBytes_122 : tBytes Tryd.prog 122 = some 8 := by kernel_rfl
theorem tElem_122 : tElem Tryd.prog 122 = none := by kernel_rfl
theorem tStr_122 : tStr Tryd.prog 122 = false := by kernel_rfl
theorem tInt_122 : tInt Tryd.prog 122 = none := by kernel_rfl
theorem tAgg_123 : tAgg Tryd.prog 123 = some false := by kernel_rfl
theorem tSize_123 : tSize Tryd.prog 123 = some 1 := by kernel_rfl
theorem tBytes_123 : tBytes Tryd.prog 123 = some 8 := by kernel_rfl
theorem tElem_123 : tElem Tryd.prog 123 = none := by kernel_rfl
theorem tStr_123 : tStr Tryd.prog 123 = false := by kernel_rfl
theorem tInt_123 : tInt Tryd.prog 123 = none := by kernel_rfl
theorem tAgg_124 : tAgg Tryd.prog 124 = some false := by kernel_rfl
theorem tSize_124 : tSize Tryd.prog 124 = some 1 := by kernel_rfl
theorem tBytes_124 : tBytes Tryd.prog 124 = some 8 := by kernel_rfl
theorem tElem_124 : tElem Tryd.prog 124 = none := by kernel_rfl
theorem tStr_124 : tStr Tryd.prog 124 = false := by kernel_rfl
theorem tInt_124 : tInt Tryd.prog 124 = none := by kernel_rfl
theorem tAgg_125 : tAgg Tryd.prog 125 = some false := by kernel_rfl
theorem tSize_125 : tSize Tryd.prog 125 = some 1 := by kernel_rfl
theorem tBytes_125 : tBytes Tryd.prog 125 = some 8 := by kernel_rfl
theorem tElem_125 : tElem Tryd.prog 125 = none := by kernel_rfl
theorem tStr_125 : tStr Tryd.prog 125 = false := by kernel_rfl
theorem tInt_125 : tInt Tryd.prog 125 = none := by kernel_rfl
theorem tAgg_127 : tAgg Tryd.prog 127 = some false := by kernel_rfl
theorem tSize_127 : tSize Tryd.prog 127 = some 1 := by kernel_rfl
theorem tBytes_127 : tBytes Tryd.prog 127 = some 8 := by kernel_rfl
theorem tElem_127 : tElem Tryd.prog 127 = none := by kernel_rfl
theorem tStr_127 : tStr Tryd.prog 127 = false := by kernel_rfl
theorem tInt_127 : tInt Tryd.prog 127 = none := by kernel_rfl
theorem tAgg_128 : tAgg Tryd.prog 128 = some false := by kernel_rfl
theorem tSize_128 : tSize Tryd.prog 128 = some 1 := by kernel_rfl
theorem tBytes_128 : tBytes Tryd.prog 128 = some 8 := by kernel_rfl
theorem tElem_128 : tElem Tryd.prog 128 = none := by kernel_rfl
theorem tStr_128 : tStr Tryd.prog 128 = false := by kernel_rfl
theorem tInt_128 : tInt Tryd.prog 128 = none := by kernel_rfl
theorem tAgg_129 : tAgg Tryd.prog 129 = some false := by kernel_rfl
theorem tSize_129 : tSize Tryd.prog 129 = some 1 := by kernel_rfl
theorem tBytes_129 : tBytes Tryd.prog 129 = some 24 := by kernel_rfl
theorem tElem_129 : tElem Tryd.prog 129 = some 131 := by kernel_rfl
theorem tStr_129 : tStr Tryd.prog 129 = false := by kernel_rfl
theorem tInt_129 : tInt Tryd.prog 129 = none := by kernel_rfl
theorem tzo_129 : tzo Tryd.prog 129 = some (.atom (.slice none 0 0)) := by kernel_rfl
theorem tAgg_130 : tAgg Tryd.prog 130 = some true := by kernel_rfl
theorem tSize_130 : tSize Tryd.prog 130 = some 2 := by kernel_rfl
theorem tBytes_130 : tBytes Tryd.prog 130 = some 16 := by kernel_rfl
theorem tElem_130 : tElem Tryd.prog 130 = none := by kernel_rfl
theorem tStr_130 : tStr Tryd.prog 130 = false := by kernel_rfl
theorem tInt_130 : tInt Tryd.prog 130 = none := by kernel_rfl
theorem tFld_130_0 : tFld Tryd.prog 130 0 = some (0, 3) := by kernel_rfl
theorem tPlace_130_0 : tPlace Tryd.prog 130 0 = some (0, 1) := by kernel_rfl
theorem tFld_130_1 : tFld Tryd.prog 130 1 = some (1, 3) := by kernel_rfl
theorem tPlace_130_1 : tPlace Tryd.prog 130 1 = some (1, 1) := by kernel_rfl
theorem tKnown_130 : tKnown Tryd.prog 130 = true := by kernel_rfl
theorem tzo_130 : tzo Tryd.prog 130 = some (.agg [.atom (.int .i64 0), .atom (.int .i64 0)]) := by kernel_rfl
theorem tAgg_131 : tAgg Tryd.prog 131 = some true := by kernel_rfl
theorem tSize_131 : tSize Tryd.prog 131 = some 2 := by kernel_rfl
theorem tBytes_131 : tBytes Tryd.prog 131 = some 16 := by kernel_rfl
theorem tElem_131 : tElem Tryd.prog 131 = none := by kernel_rfl
theorem tStr_131 : tStr Tryd.prog 131 = false := by kernel_rfl
theorem tInt_131 : tInt Tryd.prog 131 = none := by kernel_rfl
theorem tFld_131_0 : tFld Tryd.prog 131 0 = some (0, 3) := by kernel_rfl
theorem tPlace_131_0 : tPlace Tryd.prog 131 0 = some (0, 1) := by kernel_rfl
theorem tFld_131_1 : tFld Tryd.prog 131 1 = some (1, 3) := by kernel_rfl
theorem tPlace_131_1 : tPlace Tryd.prog 131 1 = some (1, 1) := by kernel_rfl
theorem tKnown_131 : tKnown Tryd.prog 131 = true := by kernel_rfl
theorem tzo_131 : tzo Tryd.prog 131 = some (.agg [.atom (.int .i64 0), .atom (.int .i64 0)]) := by kernel_rfl
theorem tAgg_132 : tAgg Tryd.prog 132 = some false := by kernel_rfl
theorem tSize_132 : tSize Tryd.prog 132 = some 1 := by kernel_rfl
theorem tBytes_132 : tBytes Tryd.prog 132 = some 8 := by kernel_rfl
theorem tElem_132 : tElem Tryd.prog 132 = none := by kernel_rfl
theorem tStr_132 : tStr Tryd.prog 132 = false := by kernel_rfl
theorem tInt_132 : tInt Tryd.prog 132 = none := by kernel_rfl
theorem tzo_132 : tzo Tryd.prog 132 = some (.atom (.pointer none)) := by kernel_rfl
theorem tAgg_133 : tAgg Tryd.prog 133 = some true := by kernel_rfl
theorem tSize_133 : tSize Tryd.prog 133 = some 2 := by kernel_rfl
theorem tBytes_133 : tBytes Tryd.prog 133 = some 32 := by kernel_rfl
theorem tElem_133 : tElem Tryd.prog 133 = none := by kernel_rfl
theorem tStr_133 : tStr Tryd.prog 133 = false := by kernel_rfl
theorem tInt_133 : tInt Tryd.prog 133 = none := by kernel_rfl
theorem tFld_133_0 : tFld Tryd.prog 133 0 = some (0, 132) := by kernel_rfl
theorem tPlace_133_0 : tPlace Tryd.prog 133 0 = some (0, 1) := by kernel_rfl
theorem tFld_133_1 : tFld Tryd.prog 133 1 = some (1, 28) := by kernel_rfl
theorem tPlace_133_1 : tPlace Tryd.prog 133 1 = some (1, 1) := by kernel_rfl
theorem tKnown_133 : tKnown Tryd.prog 133 = true := by kernel_rfl
theorem tzo_133 : tzo Tryd.prog 133 = some (.agg [.atom (.pointer none), .atom (.slice none 0 0)]) := by kernel_rfl
theorem tAgg_134 : tAgg Tryd.prog 134 = some true := by kernel_rfl
theorem tSize_134 : tSize Tryd.prog 134 = some 2 := by kernel_rfl
theorem tBytes_134 : tBytes Tryd.prog 134 = some 32 := by kernel_rfl
theorem tElem_134 : tElem Tryd.prog 134 = none := by kernel_rfl
theorem tStr_134 : tStr Tryd.prog 134 = false := by kernel_rfl
theorem tInt_134 : tInt Tryd.prog 134 = none := by kernel_rfl
theorem tFld_134_0 : tFld Tryd.prog 134 0 = some (0, 132) := by kernel_rfl
theorem tPlace_134_0 : tPlace Tryd.prog 134 0 = some (0, 1) := by kernel_rfl
theorem tFld_134_1 : tFld Tryd.prog 134 1 = some (1, 28) := by kernel_rfl
theorem tPlace_134_1 : tPlace Tryd.prog 134 1 = some (1, 1) := by kernel_rfl
theorem tKnown_134 : tKnown Tryd.prog 134 = true := by kernel_rfl
theorem tzo_134 : tzo Tryd.prog 134 = some (.agg [.atom (.pointer none), .atom (.slice none 0 0)]) := by kernel_rfl
theorem tAgg_137 : tAgg Tryd.prog 137 = some false := by kernel_rfl
theorem tSize_137 : tSize Tryd.prog 137 = some 1 := by kernel_rfl
theorem tBytes_137 : tBytes Tryd.prog 137 = some 8 := by kernel_rfl
theorem tElem_137 : tElem Tryd.prog 137 = none := by kernel_rfl
theorem tStr_137 : tStr Tryd.prog 137 = false := by kernel_rfl
theorem tInt_137 : tInt Tryd.prog 137 = none := by kernel_rfl
theorem tAgg_138 : tAgg Tryd.prog 138 = some false := by kernel_rfl
theorem tSize_138 : tSize Tryd.prog 138 = some 1 := by kernel_rfl
theorem tBytes_138 : tBytes Tryd.prog 138 = some 8 := by kernel_rfl
theorem tElem_138 : tElem Tryd.prog 138 = none := by kernel_rfl
theorem tStr_138 : tStr Tryd.prog 138 = false := by kernel_rfl
theorem tInt_138 : tInt Tryd.prog 138 = none := by kernel_rfl
theorem tAgg_139 : tAgg Tryd.prog 139 = some false := by kernel_rfl
theorem tSize_139 : tSize Tryd.prog 139 = some 1 := by kernel_rfl
theorem tBytes_139 : tBytes Tryd.prog 139 = some 8 := by kernel_rfl
theorem tElem_139 : tElem Tryd.prog 139 = none := by kernel_rfl
theorem tStr_139 : tStr Tryd.prog 139 = false := by kernel_rfl
theorem tInt_139 : tInt Tryd.prog 139 = none := by kernel_rfl
theorem tAgg_140 : tAgg Tryd.prog 140 = some false := by kernel_rfl
theorem tSize_140 : tSize Tryd.prog 140 = some 1 := by kernel_rfl
theorem tBytes_140 : tBytes Tryd.prog 140 = some 8 := by kernel_rfl
theorem tElem_140 : tElem Tryd.prog 140 = none := by kernel_rfl
theorem tStr_140 : tStr Tryd.prog 140 = false := by kernel_rfl
theorem tInt_140 : tInt Tryd.prog 140 = none := by kernel_rfl
theorem tAgg_141 : tAgg Tryd.prog 141 = some false := by kernel_rfl
theorem tSize_141 : tSize Tryd.prog 141 = some 1 := by kernel_rfl
theorem tBytes_141 : tBytes Tryd.prog 141 = some 8 := by kernel_rfl
theorem tElem_141 : tElem Tryd.prog 141 = none := by kernel_rfl
theorem tStr_141 : tStr Tryd.prog 141 = false := by kernel_rfl
theorem tInt_141 : tInt Tryd.prog 141 = none := by kernel_rfl
theorem tAgg_142 : tAgg Tryd.prog 142 = some false := by kernel_rfl
theorem tSize_142 : tSize Tryd.prog 142 = some 1 := by kernel_rfl
theorem tBytes_142 : tBytes Tryd.prog 142 = some 8 := by kernel_rfl
theorem tElem_142 : tElem Tryd.prog 142 = none := by kernel_rfl
theorem tStr_142 : tStr Tryd.prog 142 = false := by kernel_rfl
theorem tInt_142 : tInt Tryd.prog 142 = none := by kernel_rfl
theorem tzo_142 : tzo Tryd.prog 142 = some (.atom (.pointer none)) := by kernel_rfl
theorem tAgg_143 : tAgg Tryd.prog 143 = some false := by kernel_rfl
theorem tSize_143 : tSize Tryd.prog 143 = some 1 := by kernel_rfl
theorem tBytes_143 : tBytes Tryd.prog 143 = some 8 := by kernel_rfl
theorem tElem_143 : tElem Tryd.prog 143 = none := by kernel_rfl
theorem tStr_143 : tStr Tryd.prog 143 = false := by kernel_rfl
theorem tInt_143 : tInt Tryd.prog 143 = some .u64 := by kernel_rfl
theorem tUnd_143 : ((Tryd.prog.underlying 143).isSome = true) := by kernel_rfl
theorem tzo_143 : tzo Tryd.prog 143 = some (.atom (.int .u64 0)) := by kernel_rfl
theorem tAgg_144 : tAgg Tryd.prog 144 = some true := by kernel_rfl
theorem tSize_144 : tSize Tryd.prog 144 = some 256 := by kernel_rfl
theorem tBytes_144 : tBytes Tryd.prog 144 = some 256 := by kernel_rfl
theorem tElem_144 : tElem Tryd.prog 144 = none := by kernel_rfl
theorem tStr_144 : tStr Tryd.prog 144 = false := by kernel_rfl
theorem tInt_144 : tInt Tryd.prog 144 = none := by kernel_rfl
theorem tArr_144 : tArr Tryd.prog 144 = some (256, 5) := by kernel_rfl
theorem tPlace_144 (i : Nat) : tPlace Tryd.prog 144 i = some (i * 1, 1) := by rfl
theorem tKnown_144 : tKnown Tryd.prog 144 = true := by kernel_rfl
theorem tzo_144 : tzo Tryd.prog 144 = some (.agg (List.replicate 256 (.atom (.int .u8 0)))) := by kernel_rfl
theorem tAgg_145 : tAgg Tryd.prog 145 = some true := by kernel_rfl
theorem tSize_145 : tSize Tryd.prog 145 = some 2 := by kernel_rfl
theorem tBytes_145 : tBytes Tryd.prog 145 = some 2 := by kernel_rfl
theorem tElem_145 : tElem Tryd.prog 145 = none := by kernel_rfl
theorem tStr_145 : tStr Tryd.prog 145 = false := by kernel_rfl
theorem tInt_145 : tInt Tryd.prog 145 = none := by kernel_rfl
theorem tFld_145_0 : tFld Tryd.prog 145 0 = some (0, 5) := by kernel_rfl
theorem tPlace_145_0 : tPlace Tryd.prog 145 0 = some (0, 1) := by kernel_rfl
theorem tFld_145_1 : tFld Tryd.prog 145 1 = some (1, 5) := by kernel_rfl
theorem tPlace_145_1 : tPlace Tryd.prog 145 1 = some (1, 1) := by kernel_rfl
theorem tKnown_145 : tKnown Tryd.prog 145 = true := by kernel_rfl
theorem tzo_145 : tzo Tryd.prog 145 = some (.agg [.atom (.int .u8 0), .atom (.int .u8 0)]) := by kernel_rfl
theorem tAgg_146 : tAgg Tryd.prog 146 = some true := by kernel_rfl
theorem tSize_146 : tSize Tryd.prog 146 = some 2 := by kernel_rfl
theorem tBytes_146 : tBytes Tryd.prog 146 = some 2 := by kernel_rfl
theorem tElem_146 : tElem Tryd.prog 146 = none := by kernel_rfl
theorem tStr_146 : tStr Tryd.prog 146 = false := by kernel_rfl
theorem tInt_146 : tInt Tryd.prog 146 = none := by kernel_rfl
theorem tFld_146_0 : tFld Tryd.prog 146 0 = some (0, 5) := by kernel_rfl
theorem tPlace_146_0 : tPlace Tryd.prog 146 0 = some (0, 1) := by kernel_rfl
theorem tFld_146_1 : tFld Tryd.prog 146 1 = some (1, 5) := by kernel_rfl
theorem tPlace_146_1 : tPlace Tryd.prog 146 1 = some (1, 1) := by kernel_rfl
theorem tKnown_146 : tKnown Tryd.prog 146 = true := by kernel_rfl
theorem tzo_146 : tzo Tryd.prog 146 = some (.agg [.atom (.int .u8 0), .atom (.int .u8 0)]) := by kernel_rfl
theorem tAgg_147 : tAgg Tryd.prog 147 = some true := by kernel_rfl
theorem tSize_147 : tSize Tryd.prog 147 = some 32 := by kernel_rfl
theorem tBytes_147 : tBytes Tryd.prog 147 = some 32 := by kernel_rfl
theorem tElem_147 : tElem Tryd.prog 147 = none := by kernel_rfl
theorem tStr_147 : tStr Tryd.prog 147 = false := by kernel_rfl
theorem tInt_147 : tInt Tryd.prog 147 = none := by kernel_rfl
theorem tArr_147 : tArr Tryd.prog 147 = some (16, 146) := by kernel_rfl
theorem tPlace_147 (i : Nat) : tPlace Tryd.prog 147 i = some (i * 2, 2) := by rfl
theorem tKnown_147 : tKnown Tryd.prog 147 = true := by kernel_rfl
theorem tzo_147 : tzo Tryd.prog 147 = some (.agg (List.replicate 32 (.atom (.int .u8 0)))) := by kernel_rfl
theorem tAgg_148 : tAgg Tryd.prog 148 = some false := by kernel_rfl
theorem tSize_148 : tSize Tryd.prog 148 = some 1 := by kernel_rfl
theorem tBytes_148 : tBytes Tryd.prog 148 = some 8 := by kernel_rfl
theorem tElem_148 : tElem Tryd.prog 148 = none := by kernel_rfl
theorem tStr_148 : tStr Tryd.prog 148 = false := by kernel_rfl
theorem tInt_148 : tInt Tryd.prog 148 = none := by kernel_rfl
theorem tAgg_149 : tAgg Tryd.prog 149 = some false := by kernel_rfl
theorem tSize_149 : tSize Tryd.prog 149 = some 1 := by kernel_rfl
theorem tBytes_149 : tBytes Tryd.prog 149 = some 8 := by kernel_rfl
theorem tElem_149 : tElem Tryd.prog 149 = none := by kernel_rfl
theorem tStr_149 : tStr Tryd.prog 149 = false := by kernel_rfl
theorem tInt_149 : tInt Tryd.prog 149 = none := by kernel_rfl
theorem tAgg_151 : tAgg Tryd.prog 151 = some false := by kernel_rfl
theorem tSize_151 : tSize Tryd.prog 151 = some 1 := by kernel_rfl
theorem tBytes_151 : tBytes Tryd.prog 151 = some 8 := by kernel_rfl
theorem tElem_151 : tElem Tryd.prog 151 = none := by kernel_rfl
theorem tStr_151 : tStr Tryd.prog 151 = false := by kernel_rfl
theorem tInt_151 : tInt Tryd.prog 151 = none := by kernel_rfl
theorem tAgg_152 : tAgg Tryd.prog 152 = some true := by kernel_rfl
theorem tSize_152 : tSize Tryd.prog 152 = some 4 := by kernel_rfl
theorem tBytes_152 : tBytes Tryd.prog 152 = some 40 := by kernel_rfl
theorem tElem_152 : tElem Tryd.prog 152 = none := by kernel_rfl
theorem tStr_152 : tStr Tryd.prog 152 = false := by kernel_rfl
theorem tInt_152 : tInt Tryd.prog 152 = none := by kernel_rfl
theorem tFld_152_0 : tFld Tryd.prog 152 0 = some (0, 17) := by kernel_rfl
theorem tPlace_152_0 : tPlace Tryd.prog 152 0 = some (0, 1) := by kernel_rfl
theorem tFld_152_1 : tFld Tryd.prog 152 1 = some (1, 17) := by kernel_rfl
theorem tPlace_152_1 : tPlace Tryd.prog 152 1 = some (1, 1) := by kernel_rfl
theorem tFld_152_2 : tFld Tryd.prog 152 2 = some (2, 17) := by kernel_rfl
theorem tPlace_152_2 : tPlace Tryd.prog 152 2 = some (2, 1) := by kernel_rfl
theorem tFld_152_3 : tFld Tryd.prog 152 3 = some (3, 9) := by kernel_rfl
theorem tPlace_152_3 : tPlace Tryd.prog 152 3 = some (3, 1) := by kernel_rfl
theorem tKnown_152 : tKnown Tryd.prog 152 = true := by kernel_rfl
theorem tzo_152 : tzo Tryd.prog 152 = some (.agg [.atom (.pointer none), .atom (.pointer none), .atom (.pointer none), .atom (.string ⟨#[]⟩)]) := by kernel_rfl
theorem tAgg_153 : tAgg Tryd.prog 153 = some true := by kernel_rfl
theorem tSize_153 : tSize Tryd.prog 153 = some 4 := by kernel_rfl
theorem tBytes_153 : tBytes Tryd.prog 153 = some 40 := by kernel_rfl
theorem tElem_153 : tElem Tryd.prog 153 = none := by kernel_rfl
theorem tStr_153 : tStr Tryd.prog 153 = false := by kernel_rfl
theorem tInt_153 : tInt Tryd.prog 153 = none := by kernel_rfl
theorem tFld_153_0 : tFld Tryd.prog 153 0 = some (0, 17) := by kernel_rfl
theorem tPlace_153_0 : tPlace Tryd.prog 153 0 = some (0, 1) := by kernel_rfl
theorem tFld_153_1 : tFld Tryd.prog 153 1 = some (1, 17) := by kernel_rfl
theorem tPlace_153_1 : tPlace Tryd.prog 153 1 = some (1, 1) := by kernel_rfl
theorem tFld_153_2 : tFld Tryd.prog 153 2 = some (2, 17) := by kernel_rfl
theorem tPlace_153_2 : tPlace Tryd.prog 153 2 = some (2, 1) := by kernel_rfl
theorem tFld_153_3 : tFld Tryd.prog 153 3 = some (3, 9) := by kernel_rfl
theorem tPlace_153_3 : tPlace Tryd.prog 153 3 = some (3, 1) := by kernel_rfl
theorem tKnown_153 : tKnown Tryd.prog 153 = true := by kernel_rfl
theorem tzo_153 : tzo Tryd.prog 153 = some (.agg [.atom (.pointer none), .atom (.pointer none), .atom (.pointer none), .atom (.string ⟨#[]⟩)]) := by kernel_rfl
theorem tAgg_154 : tAgg Tryd.prog 154 = some true := by kernel_rfl
theorem tSize_154 : tSize Tryd.prog 154 = some 0 := by kernel_rfl
theorem tBytes_154 : tBytes Tryd.prog 154 = some 0 := by kernel_rfl
theorem tElem_154 : tElem Tryd.prog 154 = none := by kernel_rfl
theorem tStr_154 : tStr Tryd.prog 154 = false := by kernel_rfl
theorem tInt_154 : tInt Tryd.prog 154 = none := by kernel_rfl
theorem tArr_154 : tArr Tryd.prog 154 = some (0, 16) := by kernel_rfl
theorem tPlace_154 (i : Nat) : tPlace Tryd.prog 154 i = some (i * 1, 1) := by rfl
theorem tKnown_154 : tKnown Tryd.prog 154 = true := by kernel_rfl
theorem tzo_154 : tzo Tryd.prog 154 = some (.agg []) := by kernel_rfl
theorem tAgg_155 : tAgg Tryd.prog 155 = some true := by kernel_rfl
theorem tSize_155 : tSize Tryd.prog 155 = some 0 := by kernel_rfl
theorem tBytes_155 : tBytes Tryd.prog 155 = some 0 := by kernel_rfl
theorem tElem_155 : tElem Tryd.prog 155 = none := by kernel_rfl
theorem tStr_155 : tStr Tryd.prog 155 = false := by kernel_rfl
theorem tInt_155 : tInt Tryd.prog 155 = none := by kernel_rfl
theorem tFld_155_0 : tFld Tryd.prog 155 0 = some (0, 154) := by kernel_rfl
theorem tPlace_155_0 : tPlace Tryd.prog 155 0 = some (0, 0) := by kernel_rfl
theorem tKnown_155 : tKnown Tryd.prog 155 = true := by kernel_rfl
theorem tzo_155 : tzo Tryd.prog 155 = some (.agg []) := by kernel_rfl
theorem tAgg_156 : tAgg Tryd.prog 156 = some true := by kernel_rfl
theorem tSize_156 : tSize Tryd.prog 156 = some 0 := by kernel_rfl
theorem tBytes_156 : tBytes Tryd.prog 156 = some 0 := by kernel_rfl
theorem tElem_156 : tElem Tryd.prog 156 = none := by kernel_rfl
theorem tStr_156 : tStr Tryd.prog 156 = false := by kernel_rfl
theorem tInt_156 : tInt Tryd.prog 156 = none := by kernel_rfl
theorem tFld_156_0 : tFld Tryd.prog 156 0 = some (0, 154) := by kernel_rfl
theorem tPlace_156_0 : tPlace Tryd.prog 156 0 = some (0, 0) := by kernel_rfl
theorem tKnown_156 : tKnown Tryd.prog 156 = true := by kernel_rfl
theorem tzo_156 : tzo Tryd.prog 156 = some (.agg []) := by kernel_rfl
theorem tAgg_157 : tAgg Tryd.prog 157 = some false := by kernel_rfl
theorem tSize_157 : tSize Tryd.prog 157 = some 1 := by kernel_rfl
theorem tBytes_157 : tBytes Tryd.prog 157 = some 8 := by kernel_rfl
theorem tElem_157 : tElem Tryd.prog 157 = none := by kernel_rfl
theorem tStr_157 : tStr Tryd.prog 157 = false := by kernel_rfl
theorem tInt_157 : tInt Tryd.prog 157 = none := by kernel_rfl
theorem tAgg_158 : tAgg Tryd.prog 158 = some false := by kernel_rfl
theorem tSize_158 : tSize Tryd.prog 158 = some 1 := by kernel_rfl
theorem tBytes_158 : tBytes Tryd.prog 158 = some 4 := by kernel_rfl
theorem tElem_158 : tElem Tryd.prog 158 = none := by kernel_rfl
theorem tStr_158 : tStr Tryd.prog 158 = false := by kernel_rfl
theorem tInt_158 : tInt Tryd.prog 158 = some .u32 := by kernel_rfl
theorem tUnd_158 : ((Tryd.prog.underlying 158).isSome = true) := by kernel_rfl
theorem tzo_158 : tzo Tryd.prog 158 = some (.atom (.int .u32 0)) := by kernel_rfl
theorem tAgg_159 : tAgg Tryd.prog 159 = some false := by kernel_rfl
theorem tSize_159 : tSize Tryd.prog 159 = some 1 := by kernel_rfl
theorem tBytes_159 : tBytes Tryd.prog 159 = some 1 := by kernel_rfl
theorem tElem_159 : tElem Tryd.prog 159 = none := by kernel_rfl
theorem tStr_159 : tStr Tryd.prog 159 = false := by kernel_rfl
theorem tInt_159 : tInt Tryd.prog 159 = some .u8 := by kernel_rfl
theorem tUnd_159 : ((Tryd.prog.underlying 159).isSome = true) := by kernel_rfl
theorem tzo_159 : tzo Tryd.prog 159 = some (.atom (.int .u8 0)) := by kernel_rfl
theorem tAgg_160 : tAgg Tryd.prog 160 = some false := by kernel_rfl
theorem tSize_160 : tSize Tryd.prog 160 = some 1 := by kernel_rfl
theorem tBytes_160 : tBytes Tryd.prog 160 = some 1 := by kernel_rfl
theorem tElem_160 : tElem Tryd.prog 160 = none := by kernel_rfl
theorem tStr_160 : tStr Tryd.prog 160 = false := by kernel_rfl
theorem tInt_160 : tInt Tryd.prog 160 = some .u8 := by kernel_rfl
theorem tUnd_160 : ((Tryd.prog.underlying 160).isSome = true) := by kernel_rfl
theorem tzo_160 : tzo Tryd.prog 160 = some (.atom (.int .u8 0)) := by kernel_rfl
theorem tAgg_161 : tAgg Tryd.prog 161 = some false := by kernel_rfl
theorem tSize_161 : tSize Tryd.prog 161 = some 1 := by kernel_rfl
theorem tBytes_161 : tBytes Tryd.prog 161 = some 8 := by kernel_rfl
theorem tElem_161 : tElem Tryd.prog 161 = none := by kernel_rfl
theorem tStr_161 : tStr Tryd.prog 161 = false := by kernel_rfl
theorem tInt_161 : tInt Tryd.prog 161 = none := by kernel_rfl
theorem tAgg_162 : tAgg Tryd.prog 162 = some false := by kernel_rfl
theorem tSize_162 : tSize Tryd.prog 162 = some 1 := by kernel_rfl
theorem tBytes_162 : tBytes Tryd.prog 162 = some 4 := by kernel_rfl
theorem tElem_162 : tElem Tryd.prog 162 = none := by kernel_rfl
theorem tStr_162 : tStr Tryd.prog 162 = false := by kernel_rfl
theorem tInt_162 : tInt Tryd.prog 162 = some .i32 := by kernel_rfl
theorem tUnd_162 : ((Tryd.prog.underlying 162).isSome = true) := by kernel_rfl
theorem tzo_162 : tzo Tryd.prog 162 = some (.atom (.int .i32 0)) := by kernel_rfl
theorem tAgg_163 : tAgg Tryd.prog 163 = some false := by kernel_rfl
theorem tSize_163 : tSize Tryd.prog 163 = some 1 := by kernel_rfl
theorem tBytes_163 : tBytes Tryd.prog 163 = some 4 := by kernel_rfl
theorem tElem_163 : tElem Tryd.prog 163 = none := by kernel_rfl
theorem tStr_163 : tStr Tryd.prog 163 = false := by kernel_rfl
theorem tInt_163 : tInt Tryd.prog 163 = some .i32 := by kernel_rfl
theorem tUnd_163 : ((Tryd.prog.underlying 163).isSome = true) := by kernel_rfl
theorem tzo_163 : tzo Tryd.prog 163 = some (.atom (.int .i32 0)) := by kernel_rfl
theorem tAgg_164 : tAgg Tryd.prog 164 = some true := by kernel_rfl
theorem tSize_164 : tSize Tryd.prog 164 = some 11 := by kernel_rfl
theorem tBytes_164 : tBytes Tryd.prog 164 = some 48 := by kernel_rfl
theorem tElem_164 : tElem Tryd.prog 164 = none := by kernel_rfl
theorem tStr_164 : tStr Tryd.prog 164 = false := by kernel_rfl
theorem tInt_164 : tInt Tryd.prog 164 = none := by kernel_rfl
theorem tFld_164_0 : tFld Tryd.prog 164 0 = some (0, 12) := by kernel_rfl
theorem tPlace_164_0 : tPlace Tryd.prog 164 0 = some (0, 1) := by kernel_rfl
theorem tFld_164_1 : tFld Tryd.prog 164 1 = some (1, 12) := by kernel_rfl
theorem tPlace_164_1 : tPlace Tryd.prog 164 1 = some (1, 1) := by kernel_rfl
theorem tFld_164_2 : tFld Tryd.prog 164 2 = some (2, 158) := by kernel_rfl
theorem tPlace_164_2 : tPlace Tryd.prog 164 2 = some (2, 1) := by kernel_rfl
theorem tFld_164_3 : tFld Tryd.prog 164 3 = some (3, 159) := by kernel_rfl
theorem tPlace_164_3 : tPlace Tryd.prog 164 3 = some (3, 1) := by kernel_rfl
theorem tFld_164_4 : tFld Tryd.prog 164 4 = some (4, 5) := by kernel_rfl
theorem tPlace_164_4 : tPlace Tryd.prog 164 4 = some (4, 1) := by kernel_rfl
theorem tFld_164_5 : tFld Tryd.prog 164 5 = some (5, 5) := by kernel_rfl
theorem tPlace_164_5 : tPlace Tryd.prog 164 5 = some (5, 1) := by kernel_rfl
theorem tFld_164_6 : tFld Tryd.prog 164 6 = some (6, 160) := by kernel_rfl
theorem tPlace_164_6 : tPlace Tryd.prog 164 6 = some (6, 1) := by kernel_rfl
theorem tFld_164_7 : tFld Tryd.prog 164 7 = some (7, 161) := by kernel_rfl
theorem tPlace_164_7 : tPlace Tryd.prog 164 7 = some (7, 1) := by kernel_rfl
theorem tFld_164_8 : tFld Tryd.prog 164 8 = some (8, 142) := by kernel_rfl
theorem tPlace_164_8 : tPlace Tryd.prog 164 8 = some (8, 1) := by kernel_rfl
theorem tFld_164_9 : tFld Tryd.prog 164 9 = some (9, 162) := by kernel_rfl
theorem tPlace_164_9 : tPlace Tryd.prog 164 9 = some (9, 1) := by kernel_rfl
theorem tFld_164_10 : tFld Tryd.prog 164 10 = some (10, 163) := by kernel_rfl
theorem tPlace_164_10 : tPlace Tryd.prog 164 10 = some (10, 1) := by kernel_rfl
theorem tKnown_164 : tKnown Tryd.prog 164 = true := by kernel_rfl
theorem tzo_164 : tzo Tryd.prog 164 = some (.agg [.atom (.int .u64 0), .atom (.int .u64 0), .atom (.int .u32 0), .atom (.int .u8 0), .atom (.int .u8 0), .atom (.int .u8 0), .atom (.int .u8 0), .atom (.nilFunc), .atom (.pointer none), .atom (.int .i32 0), .atom (.int .i32 0)]) := by kernel_rfl
theorem tAgg_165 : tAgg Tryd.prog 165 = some true := by kernel_rfl
theorem tSize_165 : tSize Tryd.prog 165 = some 11 := by kernel_rfl
theorem tBytes_165 : tBytes Tryd.prog 165 = some 48 := by kernel_rfl
theorem tElem_165 : tElem Tryd.prog 165 = none := by kernel_rfl
theorem tStr_165 : tStr Tryd.prog 165 = false := by kernel_rfl
theorem tInt_165 : tInt Tryd.prog 165 = none := by kernel_rfl
theorem tFld_165_0 : tFld Tryd.prog 165 0 = some (0, 12) := by kernel_rfl
theorem tPlace_165_0 : tPlace Tryd.prog 165 0 = some (0, 1) := by kernel_rfl
theorem tFld_165_1 : tFld Tryd.prog 165 1 = some (1, 12) := by kernel_rfl
theorem tPlace_165_1 : tPlace Tryd.prog 165 1 = some (1, 1) := by kernel_rfl
theorem tFld_165_2 : tFld Tryd.prog 165 2 = some (2, 158) := by kernel_rfl
theorem tPlace_165_2 : tPlace Tryd.prog 165 2 = some (2, 1) := by kernel_rfl
theorem tFld_165_3 : tFld Tryd.prog 165 3 = some (3, 159) := by kernel_rfl
theorem tPlace_165_3 : tPlace Tryd.prog 165 3 = some (3, 1) := by kernel_rfl
theorem tFld_165_4 : tFld Tryd.prog 165 4 = some (4, 5) := by kernel_rfl
theorem tPlace_165_4 : tPlace Tryd.prog 165 4 = some (4, 1) := by kernel_rfl
theorem tFld_165_5 : tFld Tryd.prog 165 5 = some (5, 5) := by kernel_rfl
theorem tPlace_165_5 : tPlace Tryd.prog 165 5 = some (5, 1) := by kernel_rfl
theorem tFld_165_6 : tFld Tryd.prog 165 6 = some (6, 160) := by kernel_rfl
theorem tPlace_165_6 : tPlace Tryd.prog 165 6 = some (6, 1) := by kernel_rfl
theorem tFld_165_7 : tFld Tryd.prog 165 7 = some (7, 161) := by kernel_rfl
theorem tPlace_165_7 : tPlace Tryd.prog 165 7 = some (7, 1) := by kernel_rfl
theorem tFld_165_8 : tFld Tryd.prog 165 8 = some (8, 142) := by kernel_rfl
theorem tPlace_165_8 : tPlace Tryd.prog 165 8 = some (8, 1) := by kernel_rfl
theorem tFld_165_9 : tFld Tryd.prog 165 9 = some (9, 162) := by kernel_rfl
theorem tPlace_165_9 : tPlace Tryd.prog 165 9 = some (9, 1) := by kernel_rfl
theorem tFld_165_10 : tFld Tryd.prog 165 10 = some (10, 163) := by kernel_rfl
theorem tPlace_165_10 : tPlace Tryd.prog 165 10 = some (10, 1) := by kernel_rfl
theorem tKnown_165 : tKnown Tryd.prog 165 = true := by kernel_rfl
theorem tzo_165 : tzo Tryd.prog 165 = some (.agg [.atom (.int .u64 0), .atom (.int .u64 0), .atom (.int .u32 0), .atom (.int .u8 0), .atom (.int .u8 0), .atom (.int .u8 0), .atom (.int .u8 0), .atom (.nilFunc), .atom (.pointer none), .atom (.int .i32 0), .atom (.int .i32 0)]) := by kernel_rfl
end Go.Proofs.YtfnkciboencifaaDoor
