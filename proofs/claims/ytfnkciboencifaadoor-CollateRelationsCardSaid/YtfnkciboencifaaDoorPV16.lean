/-
  The clean machine: regions reckoned value by value; what is not read any more is dropped.
-/
import Derived.Test.YtfnkciboencifaaDoorPV15
set_option linter.all false
namespace Go.Proofs.YtfnkciboencifaaDoor
open Go Go.RowKit
set_option linter.unusedVariables false

/-- What was passed over. -/
def pvU : PV := .atom (.tuple #[])
def St.put (S : St) (dst : Option Tmp) (r : PV) : St := ⟨match dst with | some d => (d, r) :: S.env | none => S.env, S.hp, S.nx, S.gh⟩
theorem fin_quiet {S : St} {dst : Option Tmp} {r : PV} {e : Eff} (h : QuietE e) : S.fin dst r e = S.put dst r := by
  obtain ⟨add, del, set, rd⟩ := e
  obtain ⟨h1, h2, h3⟩ := h
  simp only at h1 h2 h3
  subst h1; subst h2; subst h3
  rfl
/- What an operation asks, sealed: the kernel compares these by their parts and does not look behind them. -/
structure XvLoad (P : Program) (t : TypeId) (S : St) (a : PV) (K : PV → Eff → Prop) : Prop where
  out : vLoad P t S a K
theorem XvLoad_eq {P : Program} {t : TypeId} {S : St} {a : PV} {K : PV → Eff → Prop} : XvLoad P t S a K = vLoad P t S a K := propext ⟨XvLoad.out, XvLoad.mk⟩
structure XvStore (P : Program) (t : TypeId) (S : St) (a v : PV) (K : PV → Eff → Prop) : Prop where
  out : vStore P t S a v K
theorem XvStore_eq {P : Program} {t : TypeId} {S : St} {a v : PV} {K : PV → Eff → Prop} : XvStore P t S a v K = vStore P t S a v K := propext ⟨XvStore.out, XvStore.mk⟩
structure XvFieldAddr (P : Program) (t : TypeId) (f : Nat) (a : PV) (K : PV → Eff → Prop) : Prop where
  out : vFieldAddr P t f a K
theorem XvFieldAddr_eq {P : Program} {t : TypeId} {f : Nat} {a : PV} {K : PV → Eff → Prop} : XvFieldAddr P t f a K = vFieldAddr P t f a K := propext ⟨XvFieldAddr.out, XvFieldAddr.mk⟩
structure XvField (P : Program) (t : TypeId) (f : Nat) (a : PV) (K : PV → Eff → Prop) : Prop where
  out : vField P t f a K
theorem XvField_eq {P : Program} {t : TypeId} {f : Nat} {a : PV} {K : PV → Eff → Prop} : XvField P t f a K = vField P t f a K := propext ⟨XvField.out, XvField.mk⟩
structure XvIndexAddr (P : Program) (t : TypeId) (a i : PV) (K : PV → Eff → Prop) : Prop where
  out : vIndexAddr P t a i K
theorem XvIndexAddr_eq {P : Program} {t : TypeId} {a i : PV} {K : PV → Eff → Prop} : XvIndexAddr P t a i K = vIndexAddr P t a i K := propext ⟨XvIndexAddr.out, XvIndexAddr.mk⟩
structure XvIndex (P : Program) (t : TypeId) (a i : PV) (K : PV → Eff → Prop) : Prop where
  out : vIndex P t a i K
theorem XvIndex_eq {P : Program} {t : TypeId} {a i : PV} {K : PV → Eff → Prop} : XvIndex P t a i K = vIndex P t a i K := propext ⟨XvIndex.out, XvIndex.mk⟩
structure XvBinOV (P : Program) (op : BinOp) (t : TypeId) (y : Operand) (a b : PV) (K : PV → Eff → Prop) : Prop where
  out : vBinOV P op t y a b K
theorem XvBinOV_eq {P : Program} {op : BinOp} {t : TypeId} {y : Operand} {a b : PV} {K : PV → Eff → Prop} : XvBinOV P op t y a b K = vBinOV P op t y a b K := propext ⟨XvBinOV.out, XvBinOV.mk⟩
structure XvUn (op : UnOp) (a : PV) (K : PV → Eff → Prop) : Prop where
  out : vUn op a K
theorem XvUn_eq {op : UnOp} {a : PV} {K : PV → Eff → Prop} : XvUn op a K = vUn op a K := propext ⟨XvUn.out, XvUn.mk⟩
structure XvConvert (P : Program) (t t2 : TypeId) (S : St) (a : PV) (K : PV → Eff → Prop) : Prop where
  out : vConvert P t t2 S a K
theorem XvConvert_eq {P : Program} {t t2 : TypeId} {S : St} {a : PV} {K : PV → Eff → Prop} : XvConvert P t t2 S a K = vConvert P t t2 S a K := propext ⟨XvConvert.out, XvConvert.mk⟩
structure XvMake (P : Program) (t : TypeId) (S : St) (a b : PV) (K : PV → Eff → Prop) : Prop where
  out : vMake P t S a b K
theorem XvMake_eq {P : Program} {t : TypeId} {S : St} {a b : PV} {K : PV → Eff → Prop} : XvMake P t S a b K = vMake P t S a b K := propext ⟨XvMake.out, XvMake.mk⟩
structure XvSliceV (P : Program) (t : TypeId) (a : PV) (lo hi : Option PV) (K : PV → Eff → Prop) : Prop where
  out : vSliceV P t a lo hi K
theorem XvSliceV_eq {P : Program} {t : TypeId} {a : PV} {lo hi : Option PV} {K : PV → Eff → Prop} : XvSliceV P t a lo hi K = vSliceV P t a lo hi K := propext ⟨XvSliceV.out, XvSliceV.mk⟩
structure XvPick (c x y : PV) (K : PV → Eff → Prop) : Prop where
  out : vPick c x y K
theorem XvPick_eq {c x y : PV} {K : PV → Eff → Prop} : XvPick c x y K = vPick c x y K := propext ⟨XvPick.out, XvPick.mk⟩
structure XvBox (nx : Nat) (x : PV) (K : PV → Eff → Prop) : Prop where
  out : vBox nx x K
theorem XvBox_eq {nx : Nat} {x : PV} {K : PV → Eff → Prop} : XvBox nx x K = vBox nx x K := propext ⟨XvBox.out, XvBox.mk⟩
structure XvAlloc (P : Program) (t : TypeId) (nx : Nat) (K : PV → Eff → Prop) : Prop where
  out : vAlloc P t nx K
theorem XvAlloc_eq {P : Program} {t : TypeId} {nx : Nat} {K : PV → Eff → Prop} : XvAlloc P t nx K = vAlloc P t nx K := propext ⟨XvAlloc.out, XvAlloc.mk⟩
structure XvBuild (P : Program) (t : TypeId) (ps : List (Nat × PV)) (K : PV → Eff → Prop) : Prop where
  out : vBuild P t ps K
theorem XvBuild_eq {P : Program} {t : TypeId} {ps : List (Nat × PV)} {K : PV → Eff → Prop} : XvBuild P t ps K = vBuild P t ps K := propext ⟨XvBuild.out, XvBuild.mk⟩
structure XvBuildS (P : Program) (t : TypeId) (n nx : Nat) (ps : List (Nat × PV)) (K : PV → Eff → Prop) : Prop where
  out : vBuildS P t n nx ps K
theorem XvBuildS_eq {P : Program} {t : TypeId} {n nx : Nat} {ps : List (Nat × PV)} {K : PV → Eff → Prop} : XvBuildS P t n nx ps K = vBuildS P t n nx ps K := propext ⟨XvBuildS.out, XvBuildS.mk⟩
structure XvNil (a : PV) (K : PV → Eff → Prop) : Prop where
  out : vNil a K
theorem XvNil_eq {a : PV} {K : PV → Eff → Prop} : XvNil a K = vNil a K := propext ⟨XvNil.out, XvNil.mk⟩
structure XvExtract (a : PV) (k : Nat) (K : PV → Eff → Prop) : Prop where
  out : vExtract a k K
theorem XvExtract_eq {a : PV} {k : Nat} {K : PV → Eff → Prop} : XvExtract a k K = vExtract a k K := propext ⟨XvExtract.out, XvExtract.mk⟩
structure XvMakeFV (fn : Fn) (first : List Operand) (cap : List PV) (K : PV → Eff → Prop) : Prop where
  out : vMakeFV fn first cap K
theorem XvMakeFV_eq {fn : Fn} {first : List Operand} {cap : List PV} {K : PV → Eff → Prop} : XvMakeFV fn first cap K = vMakeFV fn first cap K := propext ⟨XvMakeFV.out, XvMakeFV.mk⟩
structure XvLen (P : Program) (t : TypeId) (a : PV) (K : PV → Eff → Prop) : Prop where
  out : vLen P t a K
theorem XvLen_eq {P : Program} {t : TypeId} {a : PV} {K : PV → Eff → Prop} : XvLen P t a K = vLen P t a K := propext ⟨XvLen.out, XvLen.mk⟩
structure XvAppend (P : Program) (t : TypeId) (S : St) (a b : PV) (K : PV → Eff → Prop) : Prop where
  out : vAppend P t S a b K
theorem XvAppend_eq {P : Program} {t : TypeId} {S : St} {a b : PV} {K : PV → Eff → Prop} : XvAppend P t S a b K = vAppend P t S a b K := propext ⟨XvAppend.out, XvAppend.mk⟩
structure XvMinMax (mx : Bool) (a b : PV) (K : PV → Eff → Prop) : Prop where
  out : vMinMax mx a b K
theorem XvMinMax_eq {mx : Bool} {a b : PV} {K : PV → Eff → Prop} : XvMinMax mx a b K = vMinMax mx a b K := propext ⟨XvMinMax.out, XvMinMax.mk⟩
structure XvFnV (P : Program) (S : St) (g : PV) (vals : List PV) (K : PV → Eff → Prop) : Prop where
  out : vFnV P S g vals K
theorem XvFnV_eq {P : Program} {S : St} {g : PV} {vals : List PV} {K : PV → Eff → Prop} : XvFnV P S g vals K = vFnV P S g vals K := propext ⟨XvFnV.out, XvFnV.mk⟩
structure XvFnIV (P : Program) (S : St) (g : PV) (vals : List PV) (K : PV → Eff → Prop) : Prop where
  out : vFnIV P S g vals K
theorem XvFnIV_eq {P : Program} {S : St} {g : PV} {vals : List PV} {K : PV → Eff → Prop} : XvFnIV P S g vals K = vFnIV P S g vals K := propext ⟨XvFnIV.out, XvFnIV.mk⟩
def wopV (P : Program) (op : Op) (ev : Operand → PV) (hp : List (Nat × Option AO)) (nx : Nat) (K : PV → Eff → Prop) : Prop :=
  match op with
  | .move x => K (ev x) e0
  | .assign x => K (ev x) e0
  | .pick c x y => XvPick (ev c) (ev x) (ev y) K
  | .box _ x => XvBox nx (ev x) K
  | .alloc t => XvAlloc P t nx K
  | .build t ps => XvBuild P t (ps.toList.map fun p => (p.1, ev p.2)) K
  | .buildSlice t n ps => XvBuildS P t n nx (ps.toList.map fun p => (p.1, ev p.2)) K
  | .load t a => XvLoad P t (M hp nx) (ev a) K
  | .store t a v => XvStore P t (M hp nx) (ev a) (ev v) K
  | .nilCheck a => XvNil (ev a) K
  | .binOp op t x y _ => XvBinOV P op t y (ev x) (ev y) K
  | .unOp op _ x => XvUn op (ev x) K
  | .convert t t' x => XvConvert P t t' (M hp nx) (ev x) K
  | .makeFunc fn first cap => XvMakeFV fn first.toList (cap.toList.map ev) K
  | .makeSlice t x y => XvMake P t (M hp nx) (ev x) (ev y) K
  | .slice t x lo hi none => XvSliceV P t (ev x) (lo.map ev) (hi.map ev) K
  | .fieldAddr t x f => XvFieldAddr P t f (ev x) K
  | .field t x f => XvField P t f (ev x) K
  | .indexAddr t x i => XvIndexAddr P t (ev x) (ev i) K
  | .index t x i => XvIndex P t (ev x) (ev i) K
  | .extract x k => XvExtract (ev x) k K
  | .call c => match c.callee, c.args.toList, c.argTypes.toList with
    | .builtin .len, [x], [t] => XvLen P t (ev x) K
    | .builtin .append, [x, y], [t, t'] => t = t' ∧ XvAppend P t (M hp nx) (ev x) (ev y) K
    | .builtin .min, [x, y], _ => XvMinMax false (ev x) (ev y) K
    | .builtin .max, [x, y], _ => XvMinMax true (ev x) (ev y) K
    | .value g, xs, _ => XvFnV P (M hp nx) (ev g) (xs.map ev) K
    | _, _, _ => False
  | _ => False
def wopVI (P : Program) (op : Op) (ev : Operand → PV) (hp : List (Nat × Option AO)) (nx : Nat) (K : PV → Eff → Prop) : Prop :=
  match op with
  | .call c => match c.callee with
    | .value g => XvFnIV P (M hp nx) (ev g) (c.args.toList.map ev) K
    | _ => wopV P (.call c) ev hp nx K
  | op => wopV P op ev hp nx K
theorem wopV_to {P : Program} {op : Op} {ev : Operand → PV} {hp : List (Nat × Option AO)} {nx : Nat} {K : PV → Eff → Prop} (h : wopV P op ev hp nx K) : vopV P op ev hp nx K := by
  cases op with
  | slice t x lo hi mx =>
    cases mx with
    | none => exact h.out
    | some m => exact h
  | call c =>
    obtain ⟨callee, ⟨xs⟩, ⟨ts⟩⟩ := c
    simp only [wopV] at h
    simp only [vopV]
    split at h <;> first | exact h.elim | exact h.out | exact ⟨h.1, h.2.out⟩
  | _ => first | exact h | exact h.out | exact h.elim
theorem wopVI_to {P : Program} {op : Op} {ev : Operand → PV} {hp : List (Nat × Option AO)} {nx : Nat} {K : PV → Eff → Prop} (h : wopVI P op ev hp nx K) : vopVI P op ev hp nx K := by
  cases op with
  | call c =>
    obtain ⟨callee, xs, ts⟩ := c
    cases callee with
    | value g => exact h.out
    | builtin b => exact wopV_to (show wopV P (.call ⟨.builtin b, xs, ts⟩) ev hp nx K from h)
    | invoke r m => exact wopV_to (show wopV P (.call ⟨.invoke r m, xs, ts⟩) ev hp nx K from h)
  | _ => (first | exact @wopV_to P (.move _) ev hp nx K h | exact @wopV_to P (.assign _) ev hp nx K h | exact h.out | exact h.elim | (rename_i lo hi mx; cases mx; exact h.out; exact h.elim))
/-- A guarded operation: what follows knows how the guard stood. -/
def gq (v : PV) (want : Bool) (run : (PV → Prop) → Prop) (k : PV → PV → Prop) : Prop :=
  match v with
  | .atom (.bool b) => xG b want (run (k (.atom (.bool want)))) (k (.atom (.bool (!want))) pvU)
  | .atom (.tuple vs) => k (.atom (.tuple vs)) pvU
  | _ => False
def ge (v : PV) (want : Bool) (run : (PV → Eff → Prop) → Prop) (k : PV → PV → Eff → Prop) : Prop :=
  match v with
  | .atom (.bool b) => xG b want (run (k (.atom (.bool want)))) (k (.atom (.bool (!want))) pvU e0)
  | .atom (.tuple vs) => k (.atom (.tuple vs)) pvU e0
  | _ => False
structure Xgq (v : PV) (want : Bool) (run : (PV → Prop) → Prop) (k : PV → PV → Prop) : Prop where
  out : gq v want run k
structure Xge (v : PV) (want : Bool) (run : (PV → Eff → Prop) → Prop) (k : PV → PV → Eff → Prop) : Prop where
  out : ge v want run k
theorem Xgq_eq {v : PV} {want : Bool} {run : (PV → Prop) → Prop} {k : PV → PV → Prop} : Xgq v want run k = gq v want run k := propext ⟨Xgq.out, Xgq.mk⟩
theorem Xge_eq {v : PV} {want : Bool} {run : (PV → Eff → Prop) → Prop} {k : PV → PV → Eff → Prop} : Xge v want run k = ge v want run k := propext ⟨Xge.out, Xge.mk⟩
theorem gq_cases {ops : Array Oper} {S0 S : St} {o : Oper} {j : Nat} {want : Bool} {d : Tmp} {run : (PV → Prop) → Prop} {k : PV → PV → Prop} (hS : SEq S0 S) (hg : o.guard = some (j, want)) (hd : (ops[j]?).bind (·.dst) = some d) (h : gq (S.get d) want run k) :
    ∃ g, S.get d = g ∧ ((gWant ops S0 o true ∧ run (k g)) ∨ (gWant ops S0 o false ∧ k g pvU)) := by
  unfold gq at h
  split at h
  · rename_i b hs
    by_cases hb : b = want
    · subst hb; exact ⟨_, hs, .inl ⟨.inr ⟨j, b, d, hg, hd, by rw [hS.get]; exact hs⟩, h.1 rfl⟩⟩
    · have hb' : b = !want := by cases b <;> cases want <;> simp_all
      subst hb'
      exact ⟨_, hs, .inr ⟨⟨j, want, d, hg, hd, .inl (by rw [hS.get]; exact hs)⟩, h.2 rfl⟩⟩
  · rename_i vs hs
    exact ⟨_, hs, .inr ⟨⟨j, want, d, hg, hd, .inr ⟨vs, by rw [hS.get]; exact hs⟩⟩, h⟩⟩
  · exact h.elim
theorem ge_cases {ops : Array Oper} {S0 S : St} {o : Oper} {j : Nat} {want : Bool} {d : Tmp} {run : (PV → Eff → Prop) → Prop} {k : PV → PV → Eff → Prop} (hS : SEq S0 S) (hg : o.guard = some (j, want)) (hd : (ops[j]?).bind (·.dst) = some d) (h : ge (S.get d) want run k) :
    ∃ g, S.get d = g ∧ ((gWant ops S0 o true ∧ run (k g)) ∨ (gWant ops S0 o false ∧ k g pvU e0)) := by
  unfold ge at h
  split at h
  · rename_i b hs
    by_cases hb : b = want
    · subst hb; exact ⟨_, hs, .inl ⟨.inr ⟨j, b, d, hg, hd, by rw [hS.get]; exact hs⟩, h.1 rfl⟩⟩
    · have hb' : b = !want := by cases b <;> cases want <;> simp_all
      subst hb'
      exact ⟨_, hs, .inr ⟨⟨j, want, d, hg, hd, .inl (by rw [hS.get]; exact hs)⟩, h.2 rfl⟩⟩
  · rename_i vs hs
    exact ⟨_, hs, .inr ⟨⟨j, want, d, hg, hd, .inr ⟨vs, by rw [hS.get]; exact hs⟩⟩, h⟩⟩
  · exact h.elim

/-- Operations in the order of the text. -/
def yOps (P : Program) (ops : Array Oper) : List Oper → St → (St → Prop) → Prop
  | [], S, K => K S
  | o :: rest, S, K =>
    match o.guard with
    | none => bif quietOp o.op then wopV P o.op S.ev S.hp S.nx (fun r _ => yOps P ops rest (S.put o.dst r) K)
        else wopVI P o.op S.ev S.hp S.nx (fun r e => yOps P ops rest (S.fin o.dst r e) K)
    | some (j, want) => match (ops[j]?).bind (·.dst) with
      | some d => bif quietOp o.op then Xgq (S.get d) want (fun k => wopV P o.op S.ev S.hp S.nx (fun r _ => k r)) (fun g r => yOps P ops rest ((S.known d g).put o.dst r) K)
        else Xge (S.get d) want (fun k => wopVI P o.op S.ev S.hp S.nx k) (fun g r e => yOps P ops rest ((S.known d g).fin o.dst r e) K)
      | none => False
theorem yOps_sound {P : Program} {ops : Array Oper} {K : St → Prop} : ∀ (l : List Oper) (S0 S : St), SEq S0 S → yOps P ops l S K → vOps P ops l S0 (fun S1 => ∃ S', SEq S1 S' ∧ K S')
  | [], S0, S, hS, h => ⟨S, hS, h⟩
  | o :: rest, S0, S, hS, h => by
    refine vGuard_mk ?_
    unfold yOps at h
    split at h
    · rename_i hg
      left
      refine ⟨.inl hg, ?_⟩
      cases hq : quietOp o.op with
      | true =>
        simp only [hq, cond_true, cond_false] at h
        obtain ⟨r, e, h1, h2, h3⟩ := vopV_sound (vopV_q hq (wopV_to h))
        exact ⟨r, e, (h1.seq hS).toI, yOps_sound rest _ _ (hS.fin _ _ _) (by rw [fin_quiet h3]; exact h2)⟩
      | false =>
        simp only [hq, cond_true, cond_false] at h
        obtain ⟨r, e, h1, h2⟩ := vopVI_sound (wopVI_to h)
        exact ⟨r, e, h1.seq hS, yOps_sound rest _ _ (hS.fin _ _ _) h2⟩
    · rename_i j want hg
      split at h
      · rename_i d hd
        cases hq : quietOp o.op with
        | true =>
          simp only [hq, cond_true, cond_false] at h
          obtain ⟨g, hgd, ⟨hw, h⟩ | ⟨hw, h⟩⟩ := gq_cases hS hg hd h.out
          · obtain ⟨r, e, h1, h2, h3⟩ := vopV_sound (vopV_q hq (wopV_to h))
            exact .inl ⟨hw, r, e, (h1.seq hS).toI, yOps_sound rest _ _ ((hS.trans (SEq.known hgd)).fin _ _ _) (by rw [fin_quiet h3]; exact h2)⟩
          · exact .inr ⟨hw, yOps_sound rest _ _ ((hS.trans (SEq.known hgd)).fin _ _ e0) h⟩
        | false =>
          simp only [hq, cond_true, cond_false] at h
          obtain ⟨g, hgd, ⟨hw, h⟩ | ⟨hw, h⟩⟩ := ge_cases hS hg hd h.out
          · obtain ⟨r, e, h1, h2⟩ := vopVI_sound (wopVI_to h)
            exact .inl ⟨hw, r, e, h1.seq hS, yOps_sound rest _ _ ((hS.trans (SEq.known hgd)).fin _ _ _) h2⟩
          · exact .inr ⟨hw, yOps_sound rest _ _ ((hS.trans (SEq.known hgd)).fin _ _ e0) h⟩
      · exact h.elim
/-- The same, with its trace. -/
def yOpsT (P : Program) (ops : Array Oper) : List Oper → St → List Tr → (St → List Tr → Prop) → Prop
  | [], S, tr, K => K S tr
  | o :: rest, S, tr, K =>
    match o.guard with
    | none => bif quietOp o.op then wopV P o.op S.ev S.hp S.nx (fun r e => yOpsT P ops rest (S.put o.dst r) (tr ++ [⟨S.nx, 0, e.rd, [], []⟩]) K)
        else wopV P o.op S.ev S.hp S.nx (fun r e => yOpsT P ops rest (S.fin o.dst r e) (tr ++ [e.tr S.nx]) K)
    | some (j, want) => match (ops[j]?).bind (·.dst) with
      | some d => bif quietOp o.op then Xge (S.get d) want (fun k => wopV P o.op S.ev S.hp S.nx k) (fun g r e => yOpsT P ops rest ((S.known d g).put o.dst r) (tr ++ [⟨S.nx, 0, e.rd, [], []⟩]) K)
        else Xge (S.get d) want (fun k => wopV P o.op S.ev S.hp S.nx k) (fun g r e => yOpsT P ops rest ((S.known d g).fin o.dst r e) (tr ++ [e.tr S.nx]) K)
      | none => False
theorem tr_quiet {e : Eff} {n : Nat} (h : QuietE e) : e.tr n = ⟨n, 0, e.rd, [], []⟩ := by
  obtain ⟨add, del, set, rd⟩ := e
  obtain ⟨h1, h2, h3⟩ := h
  simp only at h1 h2 h3
  subst h1; subst h2; subst h3
  rfl
theorem yOpsT_sound {P : Program} {ops : Array Oper} {K : St → List Tr → Prop} : ∀ (l : List Oper) (S0 S : St) (tr : List Tr), SEq S0 S → yOpsT P ops l S tr K → vOpsT P ops l S0 tr (fun S1 tr => ∃ S', SEq S1 S' ∧ K S' tr)
  | [], S0, S, tr, hS, h => ⟨S, hS, h⟩
  | o :: rest, S0, S, tr, hS, h => by
    refine vGuard_mk ?_
    unfold yOpsT at h
    split at h
    · rename_i hg
      left
      refine ⟨.inl hg, ?_⟩
      cases hq : quietOp o.op with
      | true =>
        simp only [hq, cond_true, cond_false] at h
        obtain ⟨r, e, h1, h2, h3⟩ := vopV_sound (vopV_q hq (wopV_to h))
        exact ⟨r, e, h1.seq hS, yOpsT_sound rest _ _ _ (hS.fin _ _ _) (by rw [fin_quiet h3, tr_quiet h3, hS.nx]; exact h2)⟩
      | false =>
        simp only [hq, cond_true, cond_false] at h
        obtain ⟨r, e, h1, h3⟩ := vopV_sound (wopV_to h)
        exact ⟨r, e, h1.seq hS, yOpsT_sound rest _ _ _ (hS.fin _ _ _) (by rw [hS.nx]; exact h3)⟩
    · rename_i j want hg
      split at h
      · rename_i d hd
        cases hq : quietOp o.op with
        | true =>
          simp only [hq, cond_true, cond_false] at h
          obtain ⟨g, hgd, ⟨hw, h⟩ | ⟨hw, h⟩⟩ := ge_cases hS hg hd h.out
          · obtain ⟨r, e, h1, h2, h3⟩ := vopV_sound (vopV_q hq (wopV_to h))
            exact .inl ⟨hw, r, e, h1.seq hS, yOpsT_sound rest _ _ _ ((hS.trans (SEq.known hgd)).fin _ _ _) (by rw [fin_quiet h3, tr_quiet h3, hS.nx]; exact h2)⟩
          · exact .inr ⟨hw, yOpsT_sound rest _ _ _ ((hS.trans (SEq.known hgd)).fin _ _ e0) (by rw [hS.nx]; exact h)⟩
        | false =>
          simp only [hq, cond_true, cond_false] at h
          obtain ⟨g, hgd, ⟨hw, h⟩ | ⟨hw, h⟩⟩ := ge_cases hS hg hd h.out
          · obtain ⟨r, e, h1, h3⟩ := vopV_sound (wopV_to h)
            exact .inl ⟨hw, r, e, h1.seq hS, yOpsT_sound rest _ _ _ ((hS.trans (SEq.known hgd)).fin _ _ _) (by rw [hS.nx]; exact h3)⟩
          · exact .inr ⟨hw, yOpsT_sound rest _ _ _ ((hS.trans (SEq.known hgd)).fin _ _ e0) (by rw [hS.nx]; exact h)⟩
      · exact h.elim

theorem vOpsT_mono {P : Program} {ops : Array Oper} {K K' : St → List Tr → Prop} (hK : ∀ S tr, K S tr → K' S tr) : ∀ (l : List Oper) (S : St) (tr : List Tr), vOpsT P ops l S tr K → vOpsT P ops l S tr K'
  | [], S, tr, h => hK S tr h
  | o :: rest, S, tr, h => by
    refine vGuard_mk ?_
    rcases vGuard_cases h with ⟨hg, r, e, h1, h3⟩ | ⟨hg, h3⟩
    · exact .inl ⟨hg, r, e, h1, vOpsT_mono hK rest _ _ h3⟩
    · exact .inr ⟨hg, vOpsT_mono hK rest _ _ h3⟩
/-- Only these slots are kept. -/
def St.pick (S : St) (l : List Nat) : St := ⟨l.map fun s => (s, S.get s), S.hp, S.nx, S.gh⟩
theorem pick_get (S : St) (l : List Nat) (s : Nat) : (S.pick l).get s = S.get s ∨ (S.pick l).get s = .junk := by
  show (lk (l.map fun s => (s, S.get s)) s).getD .junk = _ ∨ (lk (l.map fun s => (s, S.get s)) s).getD .junk = .junk
  induction l with
  | nil => exact .inr rfl
  | cons a l ih =>
    simp only [List.map_cons, lk]
    by_cases h : a = s
    · subst h; left; simp
    · rw [if_neg h]; exact ih
theorem Sim.pick {w0 : Home} {F0 D : Nat → Prop} {μ : Nat → Option Nat} {F : Nat → Prop} {G : List Value} {S : St} {n : Nat} {a : Act} {w : World} (h : Sim w0 F0 D μ F G S n a w) (l : List Nat) : Sim w0 F0 D μ F G (S.pick l) n a w :=
  ⟨h.defers, h.size, fun s => by rcases pick_get S l s with e | e <;> rw [e]; exact h.env s; exact .junk _, h.heap, h.ids, h.ghl, h.gh⟩

section
variable {P : Program} {n : Nat} {S : St} {Q : Exit → St → Prop}
theorem Tri.regY {id : Nat} {l : List Oper} (live : List Nat) (T : St → (St → Prop) → Prop) (hd : dstOk n l = true) (hT : ∀ K, yOps P l.toArray l S (fun S1 => K (S1.pick live)) = T S K) (h : ∀ K : St → Prop, (∀ S', Q .normal S' → K S') → T S K) :
    Tri P n (.region id l.toArray false) S Q := fun w0 F0 D μ F G a w hS =>
  wp_region_list (vOps_sound l S D μ F a w (dstOk_spec hd) (yOps_sound _ _ _ (SEq.refl S) (by rw [hT]; exact h _ (fun _ h => h))) hS fun S1 D' μ' F' a' w' ⟨S2, he, hK⟩ hS' => ⟨S2.pick live, D', μ', F', hK, (hS'.seq he).pick live⟩)
theorem Tri.seqY {id : Nat} {l : List Oper} {y : Code} (live : List Nat) (T : St → (St → Prop) → Prop) (hd : dstOk n l = true) (hT : ∀ K, yOps P l.toArray l S (fun S1 => K (S1.pick live)) = T S K) (h : ∀ K : St → Prop, (∀ S', Tri P n y S' Q → K S') → T S K) :
    Tri P n (.seq (.region id l.toArray false) y) S Q := Tri.seq (Tri.regY live T hd hT h)
theorem Tri.regYD {id : Nat} {l : List Oper} (n0 : Nat) (live : List Nat) (T : List (List Nat) → St → (St → Prop) → Prop) (hm : P.follows .mixedOrders = true) (hB : growB l.toArray (growDeps l) n0 = true) (hd : dstOk n l = true)
    (hT : ∀ K, yOpsT P l.toArray (l.take n0) S [] (fun S1 tr => trOk S.nx (growDeps l) tr = true ∧ yOps P l.toArray (l.drop n0) S1 (fun S1 => K (S1.pick live))) = T (growDeps l) S K) (h : ∀ K : St → Prop, (∀ S', Q .normal S' → K S') → T (growDeps l) S K) :
    Tri P n (.region id l.toArray true) S Q := fun w0 F0 D μ F G a w hS =>
  draw_sound (K := fun S1 => ∃ S2, SEq S1 S2 ∧ Q .normal (S2.pick live)) n0 (growDeps l) hm hB (dstOk_spec hd) (by
    have := yOpsT_sound _ _ _ _ (SEq.refl S) (by rw [hT]; exact h _ (fun _ h => h))
    exact vOpsT_mono (fun S1 tr ⟨S2, he, hk⟩ => ⟨hk.1, yOps_sound _ _ _ he hk.2⟩) _ _ _ this) hS fun S1 D' μ' F' a' w' ⟨S2, he, hK⟩ hS' => ⟨S2.pick live, D', μ', F', hK, (hS'.seq he).pick live⟩
theorem Tri.seqYD {id : Nat} {l : List Oper} {y : Code} (n0 : Nat) (live : List Nat) (T : List (List Nat) → St → (St → Prop) → Prop) (hm : P.follows .mixedOrders = true) (hB : growB l.toArray (growDeps l) n0 = true) (hd : dstOk n l = true)
    (hT : ∀ K, yOpsT P l.toArray (l.take n0) S [] (fun S1 tr => trOk S.nx (growDeps l) tr = true ∧ yOps P l.toArray (l.drop n0) S1 (fun S1 => K (S1.pick live))) = T (growDeps l) S K) (h : ∀ K : St → Prop, (∀ S', Tri P n y S' Q → K S') → T (growDeps l) S K) :
    Tri P n (.seq (.region id l.toArray true) y) S Q := Tri.seq (Tri.regYD n0 live T hm hB hd hT h)
end

/- The reckoning does not look at what stands behind an operation before it has come there. -/
@[congr] theorem gq.cong {v v' : PV} {want : Bool} {run : (PV → Prop) → Prop} {k : PV → PV → Prop} (h : v = v') : gq v want run k = gq v' want run k := by rw [h]
@[congr] theorem ge.cong {v v' : PV} {want : Bool} {run : (PV → Eff → Prop) → Prop} {k : PV → PV → Eff → Prop} (h : v = v') : ge v want run k = ge v' want run k := by rw [h]
@[congr] theorem vSliceV.cong {P : Program} {t : TypeId} {a a' : PV} {lo lo' hi hi' : Option PV} {K : PV → Eff → Prop} (h : a = a') (h1 : lo = lo') (h2 : hi = hi') : vSliceV P t a lo hi K = vSliceV P t a' lo' hi' K := by subst h h1 h2; rfl
@[congr] theorem vBinOV.cong {P : Program} {op : BinOp} {t : TypeId} {y : Operand} {a a' b b' : PV} {K : PV → Eff → Prop} (h : a = a') (h2 : b = b') : vBinOV P op t y a b K = vBinOV P op t y a' b' K := by subst h h2; rfl
@[congr] theorem vFnV.cong {P : Program} {S S' : St} {g g' : PV} {xs xs' : List PV} {K : PV → Eff → Prop} (h : S = S') (h1 : g = g') (h2 : xs = xs') : vFnV P S g xs K = vFnV P S' g' xs' K := by subst h h1 h2; rfl
@[congr] theorem vFnIV.cong {P : Program} {S S' : St} {g g' : PV} {xs xs' : List PV} {K : PV → Eff → Prop} (h : S = S') (h1 : g = g') (h2 : xs = xs') : vFnIV P S g xs K = vFnIV P S' g' xs' K := by subst h h1 h2; rfl
@[congr] theorem vPick.cong {c c' x y : PV} {K : PV → Eff → Prop} (h : c = c') : vPick c x y K = vPick c' x y K := by rw [h]
@[congr] theorem vBox.cong {nx nx' : Nat} {x x' : PV} {K : PV → Eff → Prop} (h : nx = nx') (h1 : x = x') : vBox nx x K = vBox nx' x' K := by rw [h, h1]
@[congr] theorem vAlloc.cong {P : Program} {t : TypeId} {nx nx' : Nat} {K : PV → Eff → Prop} (h : nx = nx') : vAlloc P t nx K = vAlloc P t nx' K := by rw [h]
@[congr] theorem vBuild.cong {P : Program} {t : TypeId} {ps ps' : List (Nat × PV)} {K : PV → Eff → Prop} (h : ps = ps') : vBuild P t ps K = vBuild P t ps' K := by rw [h]
@[congr] theorem vBuildS.cong {P : Program} {t : TypeId} {n nx nx' : Nat} {ps ps' : List (Nat × PV)} {K : PV → Eff → Prop} (h : nx = nx') (h1 : ps = ps') : vBuildS P t n nx ps K = vBuildS P t n nx' ps' K := by rw [h, h1]
@[congr] theorem vNil.cong {a a' : PV} {K : PV → Eff → Prop} (h : a = a') : vNil a K = vNil a' K := by rw [h]
@[congr] theorem vExtract.cong {a a' : PV} {k : Nat} {K : PV → Eff → Prop} (h : a = a') : vExtract a k K = vExtract a' k K := by rw [h]
@[congr] theorem vMakeFV.cong {fn : Fn} {first : List Operand} {cap cap' : List PV} {K : PV → Eff → Prop} (h : cap = cap') : vMakeFV fn first cap K = vMakeFV fn first cap' K := by rw [h]
end Go.Proofs.YtfnkciboencifaaDoor

