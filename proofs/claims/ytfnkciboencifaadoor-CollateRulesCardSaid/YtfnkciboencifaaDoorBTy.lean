/-
  The clean machine: regions reckoned value by value; what is not read any more is dropped.
-/
import Derived.Test.YtfnkciboencifaaDoorBV15
import Derived.Test.YtfnkciboencifaaDoorProg
import Derived.KernelRfl
set_option linter.all false
namespace Go.Proofs.YtfnkciboencifaaDoor
open Go Go.RowKit
set_option linter.unusedVariables false
def pvU : PV := .atom (.tuple #[])
def St.put (S : St) (dst : Option Tmp) (r : PV) : St := ⟨match dst with | some d => (d, r) :: S.env | none => S.env, S.hp, S.nx, S.gh⟩
theorem fin_quiet {S : St} {dst : Option Tmp} {r : PV} {e : Eff} (h : QuietE e) : S.fin dst r e = S.put dst r := by
  obtain ⟨add, del, set, rd⟩ := e
  obtain ⟨h1, h2, h3⟩ := h
  simp only at h1 h2 h3
  subst h1; subst h2; subst h3
  rfl
/- What an operation asks, sealed: the kernel compares these by their parts and does not look behind them. -/
structure XvLoad (P : Program) (t : TypeId) (S : St) (a : PV) (K : PV → Eff → Prop) : Prop where
  out : vLoad P t S a K
theorem XvLoad_eq {P : Program} {t : TypeId} {S : St} {a : PV} {K : PV → Eff → Prop} : XvLoad P t S a K = vLoad P t S a K := propext ⟨XvLoad.out, XvLoad.mk⟩
structure XvStore (P : Program) (t : TypeId) (S : St) (a v : PV) (K : PV → Eff → Prop) : Prop where
  out : vStore P t S a v K
theorem XvStore_eq {P : Program} {t : TypeId} {S : St} {a v : PV} {K : PV → Eff → Prop} : XvStore P t S a v K = vStore P t S a v K := propext ⟨XvStore.out, XvStore.mk⟩
structure XvFieldAddr (P : Program) (t : TypeId) (f : Nat) (a : PV) (K : PV → Eff → Prop) : Prop where
  out : vFieldAddr P t f a K
theorem XvFieldAddr_eq {P : Program} {t : TypeId} {f : Nat} {a : PV} {K : PV → Eff → Prop} : XvFieldAddr P t f a K = vFieldAddr P t f a K := propext ⟨XvFieldAddr.out, XvFieldAddr.mk⟩
structure XvField (P : Program) (t : TypeId) (f : Nat) (a : PV) (K : PV → Eff → Prop) : Prop where
  out : vField P t f a K
theorem XvField_eq {P : Program} {t : TypeId} {f : Nat} {a : PV} {K : PV → Eff → Prop} : XvField P t f a K = vField P t f a K := propext ⟨XvField.out, XvField.mk⟩
structure XvIndexAddr (P : Program) (t : TypeId) (a i : PV) (K : PV → Eff → Prop) : Prop where
  out : vIndexAddr P t a i K
theorem XvIndexAddr_eq {P : Program} {t : TypeId} {a i : PV} {K : PV → Eff → Prop} : XvIndexAddr P t a i K = vIndexAddr P t a i K := propext ⟨XvIndexAddr.out, XvIndexAddr.mk⟩
structure XvIndex (P : Program) (t : TypeId) (a i : PV) (K : PV → Eff → Prop) : Prop where
  out : vIndex P t a i K
theorem XvIndex_eq {P : Program} {t : TypeId} {a i : PV} {K : PV → Eff → Prop} : XvIndex P t a i K = vIndex P t a i K := propext ⟨XvIndex.out, XvIndex.mk⟩
structure XvBinOV (P : Program) (op : BinOp) (t : TypeId) (y : Operand) (a b : PV) (K : PV → Eff → Prop) : Prop where
  out : vBinOV P op t y a b K
theorem XvBinOV_eq {P : Program} {op : BinOp} {t : TypeId} {y : Operand} {a b : PV} {K : PV → Eff → Prop} : XvBinOV P op t y a b K = vBinOV P op t y a b K := propext ⟨XvBinOV.out, XvBinOV.mk⟩
structure XvUn (op : UnOp) (a : PV) (K : PV → Eff → Prop) : Prop where
  out : vUn op a K
theorem XvUn_eq {op : UnOp} {a : PV} {K : PV → Eff → Prop} : XvUn op a K = vUn op a K := propext ⟨XvUn.out, XvUn.mk⟩
structure XvConvert (P : Program) (t t2 : TypeId) (S : St) (a : PV) (K : PV → Eff → Prop) : Prop where
  out : vConvert P t t2 S a K
theorem XvConvert_eq {P : Program} {t t2 : TypeId} {S : St} {a : PV} {K : PV → Eff → Prop} : XvConvert P t t2 S a K = vConvert P t t2 S a K := propext ⟨XvConvert.out, XvConvert.mk⟩
structure XvMake (P : Program) (t : TypeId) (S : St) (a b : PV) (K : PV → Eff → Prop) : Prop where
  out : vMake P t S a b K
theorem XvMake_eq {P : Program} {t : TypeId} {S : St} {a b : PV} {K : PV → Eff → Prop} : XvMake P t S a b K = vMake P t S a b K := propext ⟨XvMake.out, XvMake.mk⟩
structure XvSliceV (P : Program) (t : TypeId) (a : PV) (lo hi : Option PV) (K : PV → Eff → Prop) : Prop where
  out : vSliceV P t a lo hi K
theorem XvSliceV_eq {P : Program} {t : TypeId} {a : PV} {lo hi : Option PV} {K : PV → Eff → Prop} : XvSliceV P t a lo hi K = vSliceV P t a lo hi K := propext ⟨XvSliceV.out, XvSliceV.mk⟩
structure XvPick (c x y : PV) (K : PV → Eff → Prop) : Prop where
  out : vPick c x y K
theorem XvPick_eq {c x y : PV} {K : PV → Eff → Prop} : XvPick c x y K = vPick c x y K := propext ⟨XvPick.out, XvPick.mk⟩
structure XvBox (nx : Nat) (x : PV) (K : PV → Eff → Prop) : Prop where
  out : vBox nx x K
theorem XvBox_eq {nx : Nat} {x : PV} {K : PV → Eff → Prop} : XvBox nx x K = vBox nx x K := propext ⟨XvBox.out, XvBox.mk⟩
structure XvAlloc (P : Program) (t : TypeId) (nx : Nat) (K : PV → Eff → Prop) : Prop where
  out : vAlloc P t nx K
theorem XvAlloc_eq {P : Program} {t : TypeId} {nx : Nat} {K : PV → Eff → Prop} : XvAlloc P t nx K = vAlloc P t nx K := propext ⟨XvAlloc.out, XvAlloc.mk⟩
structure XvBuild (P : Program) (t : TypeId) (ps : List (Nat × PV)) (K : PV → Eff → Prop) : Prop where
  out : vBuild P t ps K
theorem XvBuild_eq {P : Program} {t : TypeId} {ps : List (Nat × PV)} {K : PV → Eff → Prop} : XvBuild P t ps K = vBuild P t ps K := propext ⟨XvBuild.out, XvBuild.mk⟩
structure XvBuildS (P : Program) (t : TypeId) (n nx : Nat) (ps : List (Nat × PV)) (K : PV → Eff → Prop) : Prop where
  out : vBuildS P t n nx ps K
theorem XvBuildS_eq {P : Program} {t : TypeId} {n nx : Nat} {ps : List (Nat × PV)} {K : PV → Eff → Prop} : XvBuildS P t n nx ps K = vBuildS P t n nx ps K := propext ⟨XvBuildS.out, XvBuildS.mk⟩
structure XvNil (a : PV) (K : PV → Eff → Prop) : Prop where
  out : vNil a K
theorem XvNil_eq {a : PV} {K : PV → Eff → Prop} : XvNil a K = vNil a K := propext ⟨XvNil.out, XvNil.mk⟩
structure XvExtract (a : PV) (k : Nat) (K : PV → Eff → Prop) : Prop where
  out : vExtract a k K
theorem XvExtract_eq {a : PV} {k : Nat} {K : PV → Eff → Prop} : XvExtract a k K = vExtract a k K := propext ⟨XvExtract.out, XvExtract.mk⟩
structure XvMakeFV (fn : Fn) (first : List Operand) (cap : List PV) (K : PV → Eff → Prop) : Prop where
  out : vMakeFV fn first cap K
theorem XvMakeFV_eq {fn : Fn} {first : List Operand} {cap : List PV} {K : PV → Eff → Prop} : XvMakeFV fn first cap K = vMakeFV fn first cap K := propext ⟨XvMakeFV.out, XvMakeFV.mk⟩
structure XvLen (P : Program) (t : TypeId) (a : PV) (K : PV → Eff → Prop) : Prop where
  out : vLen P t a K
theorem XvLen_eq {P : Program} {t : TypeId} {a : PV} {K : PV → Eff → Prop} : XvLen P t a K = vLen P t a K := propext ⟨XvLen.out, XvLen.mk⟩
structure XvAppend (P : Program) (t : TypeId) (S : St) (a b : PV) (K : PV → Eff → Prop) : Prop where
  out : vAppend P t S a b K
theorem XvAppend_eq {P : Program} {t : TypeId} {S : St} {a b : PV} {K : PV → Eff → Prop} : XvAppend P t S a b K = vAppend P t S a b K := propext ⟨XvAppend.out, XvAppend.mk⟩
structure XvMinMax (mx : Bool) (a b : PV) (K : PV → Eff → Prop) : Prop where
  out : vMinMax mx a b K
theorem XvMinMax_eq {mx : Bool} {a b : PV} {K : PV → Eff → Prop} : XvMinMax mx a b K = vMinMax mx a b K := propext ⟨XvMinMax.out, XvMinMax.mk⟩
structure XvFnV (P : Program) (S : St) (g : PV) (vals : List PV) (K : PV → Eff → Prop) : Prop where
  out : vFnV P S g vals K
theorem XvFnV_eq {P : Program} {S : St} {g : PV} {vals : List PV} {K : PV → Eff → Prop} : XvFnV P S g vals K = vFnV P S g vals K := propext ⟨XvFnV.out, XvFnV.mk⟩
structure XvFnIV (P : Program) (S : St) (g : PV) (vals : List PV) (K : PV → Eff → Prop) : Prop where
  out : vFnIV P S g vals K
theorem XvFnIV_eq {P : Program} {S : St} {g : PV} {vals : List PV} {K : PV → Eff → Prop} : XvFnIV P S g vals K = vFnIV P S g vals K := propext ⟨XvFnIV.out, XvFnIV.mk⟩
def wopV (P : Program) (op : Op) (ev : Operand → PV) (hp : List (Nat × Option AO)) (nx : Nat) (K : PV → Eff → Prop) : Prop :=
  match op with
  | .move x => K (ev x) e0
  | .assign x => K (ev x) e0
  | .pick c x y => XvPick (ev c) (ev x) (ev y) K
  | .box _ x => XvBox nx (ev x) K
  | .alloc t => XvAlloc P t nx K
  | .build t ps => XvBuild P t (ps.toList.map fun p => (p.1, ev p.2)) K
  | .buildSlice t n ps => XvBuildS P t n nx (ps.toList.map fun p => (p.1, ev p.2)) K
  | .load t a => XvLoad P t (M hp nx) (ev a) K
  | .store t a v => XvStore P t (M hp nx) (ev a) (ev v) K
  | .nilCheck a => XvNil (ev a) K
  | .binOp op t x y _ => XvBinOV P op t y (ev x) (ev y) K
  | .unOp op _ x => XvUn op (ev x) K
  | .convert t t' x => XvConvert P t t' (M hp nx) (ev x) K
  | .makeFunc fn first cap => XvMakeFV fn first.toList (cap.toList.map ev) K
  | .makeSlice t x y => XvMake P t (M hp nx) (ev x) (ev y) K
  | .slice t x lo hi none => XvSliceV P t (ev x) (lo.map ev) (hi.map ev) K
  | .fieldAddr t x f => XvFieldAddr P t f (ev x) K
  | .field t x f => XvField P t f (ev x) K
  | .indexAddr t x i => XvIndexAddr P t (ev x) (ev i) K
  | .index t x i => XvIndex P t (ev x) (ev i) K
  | .extract x k => XvExtract (ev x) k K
  | .call c => match c.callee, c.args.toList, c.argTypes.toList with
    | .builtin .len, [x], [t] => XvLen P t (ev x) K
    | .builtin .append, [x, y], [t, t'] => t = t' ∧ XvAppend P t (M hp nx) (ev x) (ev y) K
    | .builtin .min, [x, y], _ => XvMinMax false (ev x) (ev y) K
    | .builtin .max, [x, y], _ => XvMinMax true (ev x) (ev y) K
    | .value g, xs, _ => XvFnV P (M hp nx) (ev g) (xs.map ev) K
    | _, _, _ => False
  | _ => False
def wopVI (P : Program) (op : Op) (ev : Operand → PV) (hp : List (Nat × Option AO)) (nx : Nat) (K : PV → Eff → Prop) : Prop :=
  match op with
  | .call c => match c.callee with
    | .value g => XvFnIV P (M hp nx) (ev g) (c.args.toList.map ev) K
    | _ => wopV P (.call c) ev hp nx K
  | op => wopV P op ev hp nx K
theorem wopV_to {P : Program} {op : Op} {ev : Operand → PV} {hp : List (Nat × Option AO)} {nx : Nat} {K : PV → Eff → Prop} (h : wopV P op ev hp nx K) : vopV P op ev hp nx K := by
  cases op with
  | slice t x lo hi mx =>
    cases mx with
    | none => exact h.out
    | some m => exact h
  | call c =>
    obtain ⟨callee, ⟨xs⟩, ⟨ts⟩⟩ := c
    simp only [wopV] at h
    simp only [vopV]
    split at h <;> first | exact h.elim | exact h.out | exact ⟨h.1, h.2.out⟩
  | _ => first | exact h | exact h.out | exact h.elim
theorem wopVI_to {P : Program} {op : Op} {ev : Operand → PV} {hp : List (Nat × Option AO)} {nx : Nat} {K : PV → Eff → Prop} (h : wopVI P op ev hp nx K) : vopVI P op ev hp nx K := by
  cases op with
  | call c =>
    obtain ⟨callee, xs, ts⟩ := c
    cases callee with
    | value g => exact h.out
    | builtin b => exact wopV_to (show wopV P (.call ⟨.builtin b, xs, ts⟩) ev hp nx K from h)
    | invoke r m => exact wopV_to (show wopV P (.call ⟨.invoke r m, xs, ts⟩) ev hp nx K from h)
  | _ => (first | exact @wopV_to P (.move _) ev hp nx K h | exact @wopV_to P (.assign _) ev hp nx K h | exact h.out | exact h.elim | (rename_i lo hi mx; cases mx; exact h.out; exact h.elim))
def gq (v : PV) (want : Bool) (run : (PV → Prop) → Prop) (k : PV → PV → Prop) : Prop :=
  match v with
  | .atom (.bool b) => xG b want (run (k (.atom (.bool want)))) (k (.atom (.bool (!want))) pvU)
  | .atom (.tuple vs) => k (.atom (.tuple vs)) pvU
  | _ => False
def ge (v : PV) (want : Bool) (run : (PV → Eff → Prop) → Prop) (k : PV → PV → Eff → Prop) : Prop :=
  match v with
  | .atom (.bool b) => xG b want (run (k (.atom (.bool want)))) (k (.atom (.bool (!want))) pvU e0)
  | .atom (.tuple vs) => k (.atom (.tuple vs)) pvU e0
  | _ => False
structure Xgq (v : PV) (want : Bool) (run : (PV → Prop) → Prop) (k : PV → PV → Prop) : Prop where
  out : gq v want run k
structure Xge (v : PV) (want : Bool) (run : (PV → Eff → Prop) → Prop) (k : PV → PV → Eff → Prop) : Prop where
  out : ge v want run k
theorem Xgq_eq {v : PV} {want : Bool} {run : (PV → Prop) → Prop} {k : PV → PV → Prop} : Xgq v want run k = gq v want run k := propext ⟨Xgq.out, Xgq.mk⟩
theorem Xge_eq {v : PV} {want : Bool} {run : (PV → Eff → Prop) → Prop} {k : PV → PV → Eff → Prop} : Xge v want run k = ge v want run k := propext ⟨Xge.out, Xge.mk⟩
theorem gq_cases {ops : Array Oper} {S0 S : St} {o : Oper} {j : Nat} {want : Bool} {d : Tmp} {run : (PV → Prop) → Prop} {k : PV → PV → Prop} (hS : SEq S0 S) (hg : o.guard = some (j, want)) (hd : (ops[j]?).bind (·.dst) = some d) (h : gq (S.get d) want run k) :
    ∃ g, S.get d = g ∧ ((gWant ops S0 o true ∧ run (k g)) ∨ (gWant ops S0 o false ∧ k g pvU)) := by
  unfold gq at h
  split at h
  · rename_i b hs
    by_cases hb : b = want
    · subst hb; exact ⟨_, hs, .inl ⟨.inr ⟨j, b, d, hg, hd, by rw [hS.get]; exact hs⟩, h.1 rfl⟩⟩
    · have hb' : b = !want := by cases b <;> cases want <;> simp_all
      subst hb'
      exact ⟨_, hs, .inr ⟨⟨j, want, d, hg, hd, .inl (by rw [hS.get]; exact hs)⟩, h.2 rfl⟩⟩
  · rename_i vs hs
    exact ⟨_, hs, .inr ⟨⟨j, want, d, hg, hd, .inr ⟨vs, by rw [hS.get]; exact hs⟩⟩, h⟩⟩
  · exact h.elim
theorem ge_cases {ops : Array Oper} {S0 S : St} {o : Oper} {j : Nat} {want : Bool} {d : Tmp} {run : (PV → Eff → Prop) → Prop} {k : PV → PV → Eff → Prop} (hS : SEq S0 S) (hg : o.guard = some (j, want)) (hd : (ops[j]?).bind (·.dst) = some d) (h : ge (S.get d) want run k) :
    ∃ g, S.get d = g ∧ ((gWant ops S0 o true ∧ run (k g)) ∨ (gWant ops S0 o false ∧ k g pvU e0)) := by
  unfold ge at h
  split at h
  · rename_i b hs
    by_cases hb : b = want
    · subst hb; exact ⟨_, hs, .inl ⟨.inr ⟨j, b, d, hg, hd, by rw [hS.get]; exact hs⟩, h.1 rfl⟩⟩
    · have hb' : b = !want := by cases b <;> cases want <;> simp_all
      subst hb'
      exact ⟨_, hs, .inr ⟨⟨j, want, d, hg, hd, .inl (by rw [hS.get]; exact hs)⟩, h.2 rfl⟩⟩
  · rename_i vs hs
    exact ⟨_, hs, .inr ⟨⟨j, want, d, hg, hd, .inr ⟨vs, by rw [hS.get]; exact hs⟩⟩, h⟩⟩
  · exact h.elim
def yOps (P : Program) (ops : Array Oper) : List Oper → St → (St → Prop) → Prop
  | [], S, K => K S
  | o :: rest, S, K =>
    match o.guard with
    | none => bif quietOp o.op then wopV P o.op S.ev S.hp S.nx (fun r _ => yOps P ops rest (S.put o.dst r) K)
        else wopVI P o.op S.ev S.hp S.nx (fun r e => yOps P ops rest (S.fin o.dst r e) K)
    | some (j, want) => match (ops[j]?).bind (·.dst) with
      | some d => bif quietOp o.op then Xgq (S.get d) want (fun k => wopV P o.op S.ev S.hp S.nx (fun r _ => k r)) (fun g r => yOps P ops rest ((S.known d g).put o.dst r) K)
        else Xge (S.get d) want (fun k => wopVI P o.op S.ev S.hp S.nx k) (fun g r e => yOps P ops rest ((S.known d g).fin o.dst r e) K)
      | none => False
theorem yOps_sound {P : Program} {ops : Array Oper} {K : St → Prop} : ∀ (l : List Oper) (S0 S : St), SEq S0 S → yOps P ops l S K → vOps P ops l S0 (fun S1 => ∃ S', SEq S1 S' ∧ K S')
  | [], S0, S, hS, h => ⟨S, hS, h⟩
  | o :: rest, S0, S, hS, h => by
    refine vGuard_mk ?_
    unfold yOps at h
    split at h
    · rename_i hg
      left
      refine ⟨.inl hg, ?_⟩
      cases hq : quietOp o.op with
      | true =>
        simp only [hq, cond_true, cond_false] at h
        obtain ⟨r, e, h1, h2, h3⟩ := vopV_sound (vopV_q hq (wopV_to h))
        exact ⟨r, e, (h1.seq hS).toI, yOps_sound rest _ _ (hS.fin _ _ _) (by rw [fin_quiet h3]; exact h2)⟩
      | false =>
        simp only [hq, cond_true, cond_false] at h
        obtain ⟨r, e, h1, h2⟩ := vopVI_sound (wopVI_to h)
        exact ⟨r, e, h1.seq hS, yOps_sound rest _ _ (hS.fin _ _ _) h2⟩
    · rename_i j want hg
      split at h
      · rename_i d hd
        cases hq : quietOp o.op with
        | true =>
          simp only [hq, cond_true, cond_false] at h
          obtain ⟨g, hgd, ⟨hw, h⟩ | ⟨hw, h⟩⟩ := gq_cases hS hg hd h.out
          · obtain ⟨r, e, h1, h2, h3⟩ := vopV_sound (vopV_q hq (wopV_to h))
            exact .inl ⟨hw, r, e, (h1.seq hS).toI, yOps_sound rest _ _ ((hS.trans (SEq.known hgd)).fin _ _ _) (by rw [fin_quiet h3]; exact h2)⟩
          · exact .inr ⟨hw, yOps_sound rest _ _ ((hS.trans (SEq.known hgd)).fin _ _ e0) h⟩
        | false =>
          simp only [hq, cond_true, cond_false] at h
          obtain ⟨g, hgd, ⟨hw, h⟩ | ⟨hw, h⟩⟩ := ge_cases hS hg hd h.out
          · obtain ⟨r, e, h1, h2⟩ := vopVI_sound (wopVI_to h)
            exact .inl ⟨hw, r, e, h1.seq hS, yOps_sound rest _ _ ((hS.trans (SEq.known hgd)).fin _ _ _) h2⟩
          · exact .inr ⟨hw, yOps_sound rest _ _ ((hS.trans (SEq.known hgd)).fin _ _ e0) h⟩
      · exact h.elim
def yOpsT (P : Program) (ops : Array Oper) : List Oper → St → List Tr → (St → List Tr → Prop) → Prop
  | [], S, tr, K => K S tr
  | o :: rest, S, tr, K =>
    match o.guard with
    | none => bif quietOp o.op then wopV P o.op S.ev S.hp S.nx (fun r e => yOpsT P ops rest (S.put o.dst r) (tr ++ [⟨S.nx, 0, e.rd, [], []⟩]) K)
        else wopV P o.op S.ev S.hp S.nx (fun r e => yOpsT P ops rest (S.fin o.dst r e) (tr ++ [e.tr S.nx]) K)
    | some (j, want) => match (ops[j]?).bind (·.dst) with
      | some d => bif quietOp o.op then Xge (S.get d) want (fun k => wopV P o.op S.ev S.hp S.nx k) (fun g r e => yOpsT P ops rest ((S.known d g).put o.dst r) (tr ++ [⟨S.nx, 0, e.rd, [], []⟩]) K)
        else Xge (S.get d) want (fun k => wopV P o.op S.ev S.hp S.nx k) (fun g r e => yOpsT P ops rest ((S.known d g).fin o.dst r e) (tr ++ [e.tr S.nx]) K)
      | none => False
theorem tr_quiet {e : Eff} {n : Nat} (h : QuietE e) : e.tr n = ⟨n, 0, e.rd, [], []⟩ := by
  obtain ⟨add, del, set, rd⟩ := e
  obtain ⟨h1, h2, h3⟩ := h
  simp only at h1 h2 h3
  subst h1; subst h2; subst h3
  rfl
theorem yOpsT_sound {P : Program} {ops : Array Oper} {K : St → List Tr → Prop} : ∀ (l : List Oper) (S0 S : St) (tr : List Tr), SEq S0 S → yOpsT P ops l S tr K → vOpsT P ops l S0 tr (fun S1 tr => ∃ S', SEq S1 S' ∧ K S' tr)
  | [], S0, S, tr, hS, h => ⟨S, hS, h⟩
  | o :: rest, S0, S, tr, hS, h => by
    refine vGuard_mk ?_
    unfold yOpsT at h
    split at h
    · rename_i hg
      left
      refine ⟨.inl hg, ?_⟩
      cases hq : quietOp o.op with
      | true =>
        simp only [hq, cond_true, cond_false] at h
        obtain ⟨r, e, h1, h2, h3⟩ := vopV_sound (vopV_q hq (wopV_to h))
        exact ⟨r, e, h1.seq hS, yOpsT_sound rest _ _ _ (hS.fin _ _ _) (by rw [fin_quiet h3, tr_quiet h3, hS.nx]; exact h2)⟩
      | false =>
        simp only [hq, cond_true, cond_false] at h
        obtain ⟨r, e, h1, h3⟩ := vopV_sound (wopV_to h)
        exact ⟨r, e, h1.seq hS, yOpsT_sound rest _ _ _ (hS.fin _ _ _) (by rw [hS.nx]; exact h3)⟩
    · rename_i j want hg
      split at h
      · rename_i d hd
        cases hq : quietOp o.op with
        | true =>
          simp only [hq, cond_true, cond_false] at h
          obtain ⟨g, hgd, ⟨hw, h⟩ | ⟨hw, h⟩⟩ := ge_cases hS hg hd h.out
          · obtain ⟨r, e, h1, h2, h3⟩ := vopV_sound (vopV_q hq (wopV_to h))
            exact .inl ⟨hw, r, e, h1.seq hS, yOpsT_sound rest _ _ _ ((hS.trans (SEq.known hgd)).fin _ _ _) (by rw [fin_quiet h3, tr_quiet h3, hS.nx]; exact h2)⟩
          · exact .inr ⟨hw, yOpsT_sound rest _ _ _ ((hS.trans (SEq.known hgd)).fin _ _ e0) (by rw [hS.nx]; exact h)⟩
        | false =>
          simp only [hq, cond_true, cond_false] at h
          obtain ⟨g, hgd, ⟨hw, h⟩ | ⟨hw, h⟩⟩ := ge_cases hS hg hd h.out
          · obtain ⟨r, e, h1, h3⟩ := vopV_sound (wopV_to h)
            exact .inl ⟨hw, r, e, h1.seq hS, yOpsT_sound rest _ _ _ ((hS.trans (SEq.known hgd)).fin _ _ _) (by rw [hS.nx]; exact h3)⟩
          · exact .inr ⟨hw, yOpsT_sound rest _ _ _ ((hS.trans (SEq.known hgd)).fin _ _ e0) (by rw [hS.nx]; exact h)⟩
      · exact h.elim
theorem vOpsT_mono {P : Program} {ops : Array Oper} {K K' : St → List Tr → Prop} (hK : ∀ S tr, K S tr → K' S tr) : ∀ (l : List Oper) (S : St) (tr : List Tr), vOpsT P ops l S tr K → vOpsT P ops l S tr K'
  | [], S, tr, h => hK S tr h
  | o :: rest, S, tr, h => by
    refine vGuard_mk ?_
    rcases vGuard_cases h with ⟨hg, r, e, h1, h3⟩ | ⟨hg, h3⟩
    · exact .inl ⟨hg, r, e, h1, vOpsT_mono hK rest _ _ h3⟩
    · exact .inr ⟨hg, vOpsT_mono hK rest _ _ h3⟩
def St.pick (S : St) (l : List Nat) : St := ⟨l.map fun s => (s, S.get s), S.hp, S.nx, S.gh⟩
theorem pick_get (S : St) (l : List Nat) (s : Nat) : (S.pick l).get s = S.get s ∨ (S.pick l).get s = .junk := by
  show (lk (l.map fun s => (s, S.get s)) s).getD .junk = _ ∨ (lk (l.map fun s => (s, S.get s)) s).getD .junk = .junk
  induction l with
  | nil => exact .inr rfl
  | cons a l ih =>
    simp only [List.map_cons, lk]
    by_cases h : a = s
    · subst h; left; simp
    · rw [if_neg h]; exact ih
theorem Sim.pick {w0 : Home} {F0 D : Nat → Prop} {μ : Nat → Option Nat} {F : Nat → Prop} {G : List Value} {S : St} {n : Nat} {a : Act} {w : World} (h : Sim w0 F0 D μ F G S n a w) (l : List Nat) : Sim w0 F0 D μ F G (S.pick l) n a w :=
  ⟨h.defers, h.size, fun s => by rcases pick_get S l s with e | e <;> rw [e]; exact h.env s; exact .junk _, h.heap, h.ids, h.ghl, h.gh⟩
section
variable {P : Program} {n : Nat} {S : St} {Q : Exit → St → Prop}
theorem Tri.regY {id : Nat} {l : List Oper} (live : List Nat) (T : St → (St → Prop) → Prop) (hd : dstOk n l = true) (hT : ∀ K, yOps P l.toArray l S (fun S1 => K (S1.pick live)) = T S K) (h : ∀ K : St → Prop, (∀ S', Q .normal S' → K S') → T S K) :
    Tri P n (.region id l.toArray false) S Q := fun w0 F0 D μ F G a w hS =>
  wp_region_list (vOps_sound l S D μ F a w (dstOk_spec hd) (yOps_sound _ _ _ (SEq.refl S) (by rw [hT]; exact h _ (fun _ h => h))) hS fun S1 D' μ' F' a' w' ⟨S2, he, hK⟩ hS' => ⟨S2.pick live, D', μ', F', hK, (hS'.seq he).pick live⟩)
theorem Tri.seqY {id : Nat} {l : List Oper} {y : Code} (live : List Nat) (T : St → (St → Prop) → Prop) (hd : dstOk n l = true) (hT : ∀ K, yOps P l.toArray l S (fun S1 => K (S1.pick live)) = T S K) (h : ∀ K : St → Prop, (∀ S', Tri P n y S' Q → K S') → T S K) :
    Tri P n (.seq (.region id l.toArray false) y) S Q := Tri.seq (Tri.regY live T hd hT h)
theorem Tri.regYD {id : Nat} {l : List Oper} (n0 : Nat) (live : List Nat) (T : List (List Nat) → St → (St → Prop) → Prop) (hm : P.follows .mixedOrders = true) (hB : growB l.toArray (growDeps l) n0 = true) (hd : dstOk n l = true)
    (hT : ∀ K, yOpsT P l.toArray (l.take n0) S [] (fun S1 tr => trOk S.nx (growDeps l) tr = true ∧ yOps P l.toArray (l.drop n0) S1 (fun S1 => K (S1.pick live))) = T (growDeps l) S K) (h : ∀ K : St → Prop, (∀ S', Q .normal S' → K S') → T (growDeps l) S K) :
    Tri P n (.region id l.toArray true) S Q := fun w0 F0 D μ F G a w hS =>
  draw_sound (K := fun S1 => ∃ S2, SEq S1 S2 ∧ Q .normal (S2.pick live)) n0 (growDeps l) hm hB (dstOk_spec hd) (by
    have := yOpsT_sound _ _ _ _ (SEq.refl S) (by rw [hT]; exact h _ (fun _ h => h))
    exact vOpsT_mono (fun S1 tr ⟨S2, he, hk⟩ => ⟨hk.1, yOps_sound _ _ _ he hk.2⟩) _ _ _ this) hS fun S1 D' μ' F' a' w' ⟨S2, he, hK⟩ hS' => ⟨S2.pick live, D', μ', F', hK, (hS'.seq he).pick live⟩
theorem Tri.seqYD {id : Nat} {l : List Oper} {y : Code} (n0 : Nat) (live : List Nat) (T : List (List Nat) → St → (St → Prop) → Prop) (hm : P.follows .mixedOrders = true) (hB : growB l.toArray (growDeps l) n0 = true) (hd : dstOk n l = true)
    (hT : ∀ K, yOpsT P l.toArray (l.take n0) S [] (fun S1 tr => trOk S.nx (growDeps l) tr = true ∧ yOps P l.toArray (l.drop n0) S1 (fun S1 => K (S1.pick live))) = T (growDeps l) S K) (h : ∀ K : St → Prop, (∀ S', Tri P n y S' Q → K S') → T (growDeps l) S K) :
    Tri P n (.seq (.region id l.toArray true) y) S Q := Tri.seq (Tri.regYD n0 live T hm hB hd hT h)
end
/- The reckoning does not look at what stands behind an operation before it has come there. -/
@[congr] theorem gq.cong {v v' : PV} {want : Bool} {run : (PV → Prop) → Prop} {k : PV → PV → Prop} (h : v = v') : gq v want run k = gq v' want run k := by rw [h]
@[congr] theorem ge.cong {v v' : PV} {want : Bool} {run : (PV → Eff → Prop) → Prop} {k : PV → PV → Eff → Prop} (h : v = v') : ge v want run k = ge v' want run k := by rw [h]
@[congr] theorem vSliceV.cong {P : Program} {t : TypeId} {a a' : PV} {lo lo' hi hi' : Option PV} {K : PV → Eff → Prop} (h : a = a') (h1 : lo = lo') (h2 : hi = hi') : vSliceV P t a lo hi K = vSliceV P t a' lo' hi' K := by subst h h1 h2; rfl
@[congr] theorem vBinOV.cong {P : Program} {op : BinOp} {t : TypeId} {y : Operand} {a a' b b' : PV} {K : PV → Eff → Prop} (h : a = a') (h2 : b = b') : vBinOV P op t y a b K = vBinOV P op t y a' b' K := by subst h h2; rfl
@[congr] theorem vFnV.cong {P : Program} {S S' : St} {g g' : PV} {xs xs' : List PV} {K : PV → Eff → Prop} (h : S = S') (h1 : g = g') (h2 : xs = xs') : vFnV P S g xs K = vFnV P S' g' xs' K := by subst h h1 h2; rfl
@[congr] theorem vFnIV.cong {P : Program} {S S' : St} {g g' : PV} {xs xs' : List PV} {K : PV → Eff → Prop} (h : S = S') (h1 : g = g') (h2 : xs = xs') : vFnIV P S g xs K = vFnIV P S' g' xs' K := by subst h h1 h2; rfl
@[congr] theorem vPick.cong {c c' x y : PV} {K : PV → Eff → Prop} (h : c = c') : vPick c x y K = vPick c' x y K := by rw [h]
@[congr] theorem vBox.cong {nx nx' : Nat} {x x' : PV} {K : PV → Eff → Prop} (h : nx = nx') (h1 : x = x') : vBox nx x K = vBox nx' x' K := by rw [h, h1]
@[congr] theorem vAlloc.cong {P : Program} {t : TypeId} {nx nx' : Nat} {K : PV → Eff → Prop} (h : nx = nx') : vAlloc P t nx K = vAlloc P t nx' K := by rw [h]
@[congr] theorem vBuild.cong {P : Program} {t : TypeId} {ps ps' : List (Nat × PV)} {K : PV → Eff → Prop} (h : ps = ps') : vBuild P t ps K = vBuild P t ps' K := by rw [h]
@[congr] theorem vBuildS.cong {P : Program} {t : TypeId} {n nx nx' : Nat} {ps ps' : List (Nat × PV)} {K : PV → Eff → Prop} (h : nx = nx') (h1 : ps = ps') : vBuildS P t n nx ps K = vBuildS P t n nx' ps' K := by rw [h, h1]
@[congr] theorem vNil.cong {a a' : PV} {K : PV → Eff → Prop} (h : a = a') : vNil a K = vNil a' K := by rw [h]
@[congr] theorem vExtract.cong {a a' : PV} {k : Nat} {K : PV → Eff → Prop} (h : a = a') : vExtract a k K = vExtract a' k K := by rw [h]
@[congr] theorem vMakeFV.cong {fn : Fn} {first : List Operand} {cap cap' : List PV} {K : PV → Eff → Prop} (h : cap = cap') : vMakeFV fn first cap K = vMakeFV fn first cap' K := by rw [h]
end Go.Proofs.YtfnkciboencifaaDoor
set_option linter.all false
namespace Go.Proofs.YtfnkciboencifaaDoor
open Go Go.RowKit
set_option maxRecDepth 100000
theorem tAgg_1 : tAgg Tryd.prog 1 = some false := by kernel_rfl
theorem tSize_1 : tSize Tryd.prog 1 = some 1 := by kernel_rfl
theorem tBytes_1 : tBytes Tryd.prog 1 = some 8 := by kernel_rfl
theorem tElem_1 : tElem Tryd.prog 1 = none := by kernel_rfl
theorem tStr_1 : tStr Tryd.prog 1 = false := by kernel_rfl
theorem tInt_1 : tInt Tryd.prog 1 = none := by kernel_rfl
theorem tAgg_2 : tAgg Tryd.prog 2 = some false := by kernel_rfl
theorem tSize_2 : tSize Tryd.prog 2 = some 1 := by kernel_rfl
theorem tBytes_2 : tBytes Tryd.prog 2 = some 8 := by kernel_rfl
theorem tElem_2 : tElem Tryd.prog 2 = none := by kernel_rfl
theorem tStr_2 : tStr Tryd.prog 2 = false := by kernel_rfl
theorem tInt_2 : tInt Tryd.prog 2 = some .i64 := by kernel_rfl
theorem tUnd_2 : ((Tryd.prog.underlying 2).isSome = true) := by kernel_rfl
theorem tzo_2 : tzo Tryd.prog 2 = some (.atom (.int .i64 0)) := by kernel_rfl
theorem tAgg_3 : tAgg Tryd.prog 3 = some false := by kernel_rfl
theorem tSize_3 : tSize Tryd.prog 3 = some 1 := by kernel_rfl
theorem tBytes_3 : tBytes Tryd.prog 3 = some 8 := by kernel_rfl
theorem tElem_3 : tElem Tryd.prog 3 = none := by kernel_rfl
theorem tStr_3 : tStr Tryd.prog 3 = false := by kernel_rfl
theorem tInt_3 : tInt Tryd.prog 3 = some .i64 := by kernel_rfl
theorem tUnd_3 : ((Tryd.prog.underlying 3).isSome = true) := by kernel_rfl
theorem tzo_3 : tzo Tryd.prog 3 = some (.atom (.int .i64 0)) := by kernel_rfl
theorem tAgg_4 : tAgg Tryd.prog 4 = some false := by kernel_rfl
theorem tSize_4 : tSize Tryd.prog 4 = some 1 := by kernel_rfl
theorem tBytes_4 : tBytes Tryd.prog 4 = some 1 := by kernel_rfl
theorem tElem_4 : tElem Tryd.prog 4 = none := by kernel_rfl
theorem tStr_4 : tStr Tryd.prog 4 = false := by kernel_rfl
theorem tInt_4 : tInt Tryd.prog 4 = none := by kernel_rfl
theorem tUnd_4 : ((Tryd.prog.underlying 4).isSome = true) := by kernel_rfl
theorem tBool_4 : Tryd.prog.underlying 4 = some .bool := by kernel_rfl
theorem tzo_4 : tzo Tryd.prog 4 = some (.atom (.bool false)) := by kernel_rfl
theorem tAgg_5 : tAgg Tryd.prog 5 = some false := by kernel_rfl
theorem tSize_5 : tSize Tryd.prog 5 = some 1 := by kernel_rfl
theorem tBytes_5 : tBytes Tryd.prog 5 = some 1 := by kernel_rfl
theorem tElem_5 : tElem Tryd.prog 5 = none := by kernel_rfl
theorem tStr_5 : tStr Tryd.prog 5 = false := by kernel_rfl
theorem tInt_5 : tInt Tryd.prog 5 = some .u8 := by kernel_rfl
theorem tUnd_5 : ((Tryd.prog.underlying 5).isSome = true) := by kernel_rfl
theorem tzo_5 : tzo Tryd.prog 5 = some (.atom (.int .u8 0)) := by kernel_rfl
theorem tAgg_9 : tAgg Tryd.prog 9 = some false := by kernel_rfl
theorem tSize_9 : tSize Tryd.prog 9 = some 1 := by kernel_rfl
theorem tBytes_9 : tBytes Tryd.prog 9 = some 16 := by kernel_rfl
theorem tElem_9 : tElem Tryd.prog 9 = none := by kernel_rfl
theorem tStr_9 : tStr Tryd.prog 9 = true := by kernel_rfl
theorem tInt_9 : tInt Tryd.prog 9 = none := by kernel_rfl
theorem tUnd_9 : ((Tryd.prog.underlying 9).isSome = true) := by kernel_rfl
theorem tzo_9 : tzo Tryd.prog 9 = some (.atom (.string ⟨#[]⟩)) := by kernel_rfl
theorem tAgg_21 : tAgg Tryd.prog 21 = some false := by kernel_rfl
theorem tSize_21 : tSize Tryd.prog 21 = some 1 := by kernel_rfl
theorem tBytes_21 : tBytes Tryd.prog 21 = some 4 := by kernel_rfl
theorem tElem_21 : tElem Tryd.prog 21 = none := by kernel_rfl
theorem tStr_21 : tStr Tryd.prog 21 = false := by kernel_rfl
theorem tInt_21 : tInt Tryd.prog 21 = some .i32 := by kernel_rfl
theorem tUnd_21 : ((Tryd.prog.underlying 21).isSome = true) := by kernel_rfl
theorem tzo_21 : tzo Tryd.prog 21 = some (.atom (.int .i32 0)) := by kernel_rfl
theorem tAgg_22 : tAgg Tryd.prog 22 = some false := by kernel_rfl
theorem tSize_22 : tSize Tryd.prog 22 = some 1 := by kernel_rfl
theorem tBytes_22 : tBytes Tryd.prog 22 = some 24 := by kernel_rfl
theorem tElem_22 : tElem Tryd.prog 22 = some 3 := by kernel_rfl
theorem tStr_22 : tStr Tryd.prog 22 = false := by kernel_rfl
theorem tInt_22 : tInt Tryd.prog 22 = none := by kernel_rfl
theorem tzo_22 : tzo Tryd.prog 22 = some (.atom (.slice none 0 0)) := by kernel_rfl
theorem tAgg_25 : tAgg Tryd.prog 25 = some false := by kernel_rfl
theorem tSize_25 : tSize Tryd.prog 25 = some 1 := by kernel_rfl
theorem tBytes_25 : tBytes Tryd.prog 25 = some 24 := by kernel_rfl
theorem tElem_25 : tElem Tryd.prog 25 = some 9 := by kernel_rfl
theorem tStr_25 : tStr Tryd.prog 25 = false := by kernel_rfl
theorem tInt_25 : tInt Tryd.prog 25 = none := by kernel_rfl
theorem tzo_25 : tzo Tryd.prog 25 = some (.atom (.slice none 0 0)) := by kernel_rfl
theorem tAgg_28 : tAgg Tryd.prog 28 = some false := by kernel_rfl
theorem tSize_28 : tSize Tryd.prog 28 = some 1 := by kernel_rfl
theorem tBytes_28 : tBytes Tryd.prog 28 = some 24 := by kernel_rfl
theorem tElem_28 : tElem Tryd.prog 28 = some 5 := by kernel_rfl
theorem tStr_28 : tStr Tryd.prog 28 = false := by kernel_rfl
theorem tInt_28 : tInt Tryd.prog 28 = none := by kernel_rfl
theorem tzo_28 : tzo Tryd.prog 28 = some (.atom (.slice none 0 0)) := by kernel_rfl
theorem tAgg_30 : tAgg Tryd.prog 30 = some false := by kernel_rfl
theorem tSize_30 : tSize Tryd.prog 30 = some 1 := by kernel_rfl
theorem tBytes_30 : tBytes Tryd.prog 30 = some 8 := by kernel_rfl
theorem tElem_30 : tElem Tryd.prog 30 = none := by kernel_rfl
theorem tStr_30 : tStr Tryd.prog 30 = false := by kernel_rfl
theorem tInt_30 : tInt Tryd.prog 30 = some .i64 := by kernel_rfl
theorem tUnd_30 : ((Tryd.prog.underlying 30).isSome = true) := by kernel_rfl
theorem tzo_30 : tzo Tryd.prog 30 = some (.atom (.int .i64 0)) := by kernel_rfl
theorem tAgg_33 : tAgg Tryd.prog 33 = some true := by kernel_rfl
theorem tSize_33 : tSize Tryd.prog 33 = some 4 := by kernel_rfl
theorem tBytes_33 : tBytes Tryd.prog 33 = some 64 := by kernel_rfl
theorem tElem_33 : tElem Tryd.prog 33 = none := by kernel_rfl
theorem tStr_33 : tStr Tryd.prog 33 = false := by kernel_rfl
theorem tInt_33 : tInt Tryd.prog 33 = none := by kernel_rfl
theorem tFld_33_0 : tFld Tryd.prog 33 0 = some (0, 4) := by kernel_rfl
theorem tPlace_33_0 : tPlace Tryd.prog 33 0 = some (0, 1) := by kernel_rfl
theorem tFld_33_1 : tFld Tryd.prog 33 1 = some (1, 25) := by kernel_rfl
theorem tPlace_33_1 : tPlace Tryd.prog 33 1 = some (1, 1) := by kernel_rfl
theorem tFld_33_2 : tFld Tryd.prog 33 2 = some (2, 4) := by kernel_rfl
theorem tPlace_33_2 : tPlace Tryd.prog 33 2 = some (2, 1) := by kernel_rfl
theorem tFld_33_3 : tFld Tryd.prog 33 3 = some (3, 25) := by kernel_rfl
theorem tPlace_33_3 : tPlace Tryd.prog 33 3 = some (3, 1) := by kernel_rfl
theorem tKnown_33 : tKnown Tryd.prog 33 = true := by kernel_rfl
theorem tzo_33 : tzo Tryd.prog 33 = some (.agg [.atom (.bool false), .atom (.slice none 0 0), .atom (.bool false), .atom (.slice none 0 0)]) := by kernel_rfl
theorem tAgg_35 : tAgg Tryd.prog 35 = some true := by kernel_rfl
theorem tSize_35 : tSize Tryd.prog 35 = some 4 := by kernel_rfl
theorem tBytes_35 : tBytes Tryd.prog 35 = some 64 := by kernel_rfl
theorem tElem_35 : tElem Tryd.prog 35 = none := by kernel_rfl
theorem tStr_35 : tStr Tryd.prog 35 = false := by kernel_rfl
theorem tInt_35 : tInt Tryd.prog 35 = none := by kernel_rfl
theorem tFld_35_0 : tFld Tryd.prog 35 0 = some (0, 4) := by kernel_rfl
theorem tPlace_35_0 : tPlace Tryd.prog 35 0 = some (0, 1) := by kernel_rfl
theorem tFld_35_1 : tFld Tryd.prog 35 1 = some (1, 25) := by kernel_rfl
theorem tPlace_35_1 : tPlace Tryd.prog 35 1 = some (1, 1) := by kernel_rfl
theorem tFld_35_2 : tFld Tryd.prog 35 2 = some (2, 4) := by kernel_rfl
theorem tPlace_35_2 : tPlace Tryd.prog 35 2 = some (2, 1) := by kernel_rfl
theorem tFld_35_3 : tFld Tryd.prog 35 3 = some (3, 25) := by kernel_rfl
theorem tPlace_35_3 : tPlace Tryd.prog 35 3 = some (3, 1) := by kernel_rfl
theorem tKnown_35 : tKnown Tryd.prog 35 = true := by kernel_rfl
theorem tzo_35 : tzo Tryd.prog 35 = some (.agg [.atom (.bool false), .atom (.slice none 0 0), .atom (.bool false), .atom (.slice none 0 0)]) := by kernel_rfl
theorem tAgg_47 : tAgg Tryd.prog 47 = some false := by kernel_rfl
theorem tSize_47 : tSize Tryd.prog 47 = some 1 := by kernel_rfl
theorem tBytes_47 : tBytes Tryd.prog 47 = some 24 := by kernel_rfl
theorem tElem_47 : tElem Tryd.prog 47 = some 25 := by kernel_rfl
theorem tStr_47 : tStr Tryd.prog 47 = false := by kernel_rfl
theorem tInt_47 : tInt Tryd.prog 47 = none := by kernel_rfl
theorem tzo_47 : tzo Tryd.prog 47 = some (.atom (.slice none 0 0)) := by kernel_rfl
theorem tAgg_68 : tAgg Tryd.prog 68 = some false := by kernel_rfl
theorem tSize_68 : tSize Tryd.prog 68 = some 1 := by kernel_rfl
theorem tBytes_68 : tBytes Tryd.prog 68 = some 24 := by kernel_rfl
theorem tElem_68 : tElem Tryd.prog 68 = some 100 := by kernel_rfl
theorem tStr_68 : tStr Tryd.prog 68 = false := by kernel_rfl
theorem tInt_68 : tInt Tryd.prog 68 = none := by kernel_rfl
theorem tzo_68 : tzo Tryd.prog 68 = some (.atom (.slice none 0 0)) := by kernel_rfl
theorem tAgg_74 : tAgg Tryd.prog 74 = some false := by kernel_rfl
theorem tSize_74 : tSize Tryd.prog 74 = some 1 := by kernel_rfl
theorem tBytes_74 : tBytes Tryd.prog 74 = some 8 := by kernel_rfl
theorem tElem_74 : tElem Tryd.prog 74 = none := by kernel_rfl
theorem tStr_74 : tStr Tryd.prog 74 = false := by kernel_rfl
theorem tInt_74 : tInt Tryd.prog 74 = none := by kernel_rfl
theorem tAgg_76 : tAgg Tryd.prog 76 = some true := by kernel_rfl
theorem tSize_76 : tSize Tryd.prog 76 = some 128 := by kernel_rfl
theorem tBytes_76 : tBytes Tryd.prog 76 = some 128 := by kernel_rfl
theorem tElem_76 : tElem Tryd.prog 76 = none := by kernel_rfl
theorem tStr_76 : tStr Tryd.prog 76 = false := by kernel_rfl
theorem tInt_76 : tInt Tryd.prog 76 = none := by kernel_rfl
theorem tArr_76 : tArr Tryd.prog 76 = some (128, 4) := by kernel_rfl
theorem tPlace_76 (i : Nat) : tPlace Tryd.prog 76 i = some (i * 1, 1) := by rfl
theorem tKnown_76 : tKnown Tryd.prog 76 = true := by kernel_rfl
theorem tzo_76 : tzo Tryd.prog 76 = some (.agg (List.replicate 128 (.atom (.bool false)))) := by kernel_rfl
theorem tAgg_100 : tAgg Tryd.prog 100 = some true := by kernel_rfl
theorem tSize_100 : tSize Tryd.prog 100 = some 3 := by kernel_rfl
theorem tBytes_100 : tBytes Tryd.prog 100 = some 24 := by kernel_rfl
theorem tElem_100 : tElem Tryd.prog 100 = none := by kernel_rfl
theorem tStr_100 : tStr Tryd.prog 100 = false := by kernel_rfl
theorem tInt_100 : tInt Tryd.prog 100 = none := by kernel_rfl
theorem tFld_100_0 : tFld Tryd.prog 100 0 = some (0, 3) := by kernel_rfl
theorem tPlace_100_0 : tPlace Tryd.prog 100 0 = some (0, 1) := by kernel_rfl
theorem tFld_100_1 : tFld Tryd.prog 100 1 = some (1, 3) := by kernel_rfl
theorem tPlace_100_1 : tPlace Tryd.prog 100 1 = some (1, 1) := by kernel_rfl
theorem tFld_100_2 : tFld Tryd.prog 100 2 = some (2, 3) := by kernel_rfl
theorem tPlace_100_2 : tPlace Tryd.prog 100 2 = some (2, 1) := by kernel_rfl
theorem tKnown_100 : tKnown Tryd.prog 100 = true := by kernel_rfl
theorem tzo_100 : tzo Tryd.prog 100 = some (.agg [.atom (.int .i64 0), .atom (.int .i64 0), .atom (.int .i64 0)]) := by kernel_rfl
theorem tAgg_104 : tAgg Tryd.prog 104 = some true := by kernel_rfl
theorem tSize_104 : tSize Tryd.prog 104 = some 256 := by kernel_rfl
theorem tBytes_104 : tBytes Tryd.prog 104 = some 2048 := by kernel_rfl
theorem tElem_104 : tElem Tryd.prog 104 = none := by kernel_rfl
theorem tStr_104 : tStr Tryd.prog 104 = false := by kernel_rfl
theorem tInt_104 : tInt Tryd.prog 104 = none := by kernel_rfl
theorem tArr_104 : tArr Tryd.prog 104 = some (256, 3) := by kernel_rfl
theorem tPlace_104 (i : Nat) : tPlace Tryd.prog 104 i = some (i * 1, 1) := by rfl
theorem tKnown_104 : tKnown Tryd.prog 104 = true := by kernel_rfl
theorem tzo_104 : tzo Tryd.prog 104 = some (.agg (List.replicate 256 (.atom (.int .i64 0)))) := by kernel_rfl
theorem tAgg_115 : tAgg Tryd.prog 115 = some true := by kernel_rfl
theorem tSize_115 : tSize Tryd.prog 115 = some 256 := by kernel_rfl
theorem tBytes_115 : tBytes Tryd.prog 115 = some 256 := by kernel_rfl
theorem tElem_115 : tElem Tryd.prog 115 = none := by kernel_rfl
theorem tStr_115 : tStr Tryd.prog 115 = false := by kernel_rfl
theorem tInt_115 : tInt Tryd.prog 115 = none := by kernel_rfl
theorem tArr_115 : tArr Tryd.prog 115 = some (256, 4) := by kernel_rfl
theorem tPlace_115 (i : Nat) : tPlace Tryd.prog 115 i = some (i * 1, 1) := by rfl
theorem tKnown_115 : tKnown Tryd.prog 115 = true := by kernel_rfl
theorem tzo_115 : tzo Tryd.prog 115 = some (.agg (List.replicate 256 (.atom (.bool false)))) := by kernel_rfl
theorem tAgg_119 : tAgg Tryd.prog 119 = some false := by kernel_rfl
theorem tSize_119 : tSize Tryd.prog 119 = some 1 := by kernel_rfl
theorem tBytes_119 : tBytes Tryd.prog 119 = some 8 := by kernel_rfl
theorem tElem_119 : tElem Tryd.prog 119 = none := by kernel_rfl
theorem tStr_119 : tStr Tryd.prog 119 = false := by kernel_rfl
theorem tInt_119 : tInt Tryd.prog 119 = none := by kernel_rfl
theorem tzo_119 : tzo Tryd.prog 119 = some (.atom (.pointer none)) := by kernel_rfl
theorem tAgg_121 : tAgg Tryd.prog 121 = some false := by kernel_rfl
theorem tSize_121 : tSize Tryd.prog 121 = some 1 := by kernel_rfl
theorem tBytes_121 : tBytes Tryd.prog 121 = some 8 := by kernel_rfl
theorem tElem_121 : tElem Tryd.prog 121 = none := by kernel_rfl
theorem tStr_121 : tStr Tryd.prog 121 = false := by kernel_rfl
theorem tInt_121 : tInt Tryd.prog 121 = none := by kernel_rfl
theorem tAgg_129 : tAgg Tryd.prog 129 = some false := by kernel_rfl
theorem tSize_129 : tSize Tryd.prog 129 = some 1 := by kernel_rfl
theorem tBytes_129 : tBytes Tryd.prog 129 = some 24 := by kernel_rfl
theorem tElem_129 : tElem Tryd.prog 129 = some 131 := by kernel_rfl
theorem tStr_129 : tStr Tryd.prog 129 = false := by kernel_rfl
theorem tInt_129 : tInt Tryd.prog 129 = none := by kernel_rfl
theorem tzo_129 : tzo Tryd.prog 129 = some (.atom (.slice none 0 0)) := by kernel_rfl
theorem tAgg_131 : tAgg Tryd.prog 131 = some true := by kernel_rfl
theorem tSize_131 : tSize Tryd.prog 131 = some 2 := by kernel_rfl
theorem tBytes_131 : tBytes Tryd.prog 131 = some 16 := by kernel_rfl
theorem tElem_131 : tElem Tryd.prog 131 = none := by kernel_rfl
theorem tStr_131 : tStr Tryd.prog 131 = false := by kernel_rfl
theorem tInt_131 : tInt Tryd.prog 131 = none := by kernel_rfl
theorem tFld_131_0 : tFld Tryd.prog 131 0 = some (0, 3) := by kernel_rfl
theorem tPlace_131_0 : tPlace Tryd.prog 131 0 = some (0, 1) := by kernel_rfl
theorem tFld_131_1 : tFld Tryd.prog 131 1 = some (1, 3) := by kernel_rfl
theorem tPlace_131_1 : tPlace Tryd.prog 131 1 = some (1, 1) := by kernel_rfl
theorem tKnown_131 : tKnown Tryd.prog 131 = true := by kernel_rfl
theorem tzo_131 : tzo Tryd.prog 131 = some (.agg [.atom (.int .i64 0), .atom (.int .i64 0)]) := by kernel_rfl
theorem tAgg_132 : tAgg Tryd.prog 132 = some false := by kernel_rfl
theorem tSize_132 : tSize Tryd.prog 132 = some 1 := by kernel_rfl
theorem tBytes_132 : tBytes Tryd.prog 132 = some 8 := by kernel_rfl
theorem tElem_132 : tElem Tryd.prog 132 = none := by kernel_rfl
theorem tStr_132 : tStr Tryd.prog 132 = false := by kernel_rfl
theorem tInt_132 : tInt Tryd.prog 132 = none := by kernel_rfl
theorem tzo_132 : tzo Tryd.prog 132 = some (.atom (.pointer none)) := by kernel_rfl
theorem tAgg_134 : tAgg Tryd.prog 134 = some true := by kernel_rfl
theorem tSize_134 : tSize Tryd.prog 134 = some 2 := by kernel_rfl
theorem tBytes_134 : tBytes Tryd.prog 134 = some 32 := by kernel_rfl
theorem tElem_134 : tElem Tryd.prog 134 = none := by kernel_rfl
theorem tStr_134 : tStr Tryd.prog 134 = false := by kernel_rfl
theorem tInt_134 : tInt Tryd.prog 134 = none := by kernel_rfl
theorem tFld_134_0 : tFld Tryd.prog 134 0 = some (0, 132) := by kernel_rfl
theorem tPlace_134_0 : tPlace Tryd.prog 134 0 = some (0, 1) := by kernel_rfl
theorem tFld_134_1 : tFld Tryd.prog 134 1 = some (1, 28) := by kernel_rfl
theorem tPlace_134_1 : tPlace Tryd.prog 134 1 = some (1, 1) := by kernel_rfl
theorem tKnown_134 : tKnown Tryd.prog 134 = true := by kernel_rfl
theorem tzo_134 : tzo Tryd.prog 134 = some (.agg [.atom (.pointer none), .atom (.slice none 0 0)]) := by kernel_rfl
theorem tAgg_142 : tAgg Tryd.prog 142 = some false := by kernel_rfl
theorem tSize_142 : tSize Tryd.prog 142 = some 1 := by kernel_rfl
theorem tBytes_142 : tBytes Tryd.prog 142 = some 8 := by kernel_rfl
theorem tElem_142 : tElem Tryd.prog 142 = none := by kernel_rfl
theorem tStr_142 : tStr Tryd.prog 142 = false := by kernel_rfl
theorem tInt_142 : tInt Tryd.prog 142 = none := by kernel_rfl
theorem tzo_142 : tzo Tryd.prog 142 = some (.atom (.pointer none)) := by kernel_rfl
theorem tAgg_144 : tAgg Tryd.prog 144 = some true := by kernel_rfl
theorem tSize_144 : tSize Tryd.prog 144 = some 256 := by kernel_rfl
theorem tBytes_144 : tBytes Tryd.prog 144 = some 256 := by kernel_rfl
theorem tElem_144 : tElem Tryd.prog 144 = none := by kernel_rfl
theorem tStr_144 : tStr Tryd.prog 144 = false := by kernel_rfl
theorem tInt_144 : tInt Tryd.prog 144 = none := by kernel_rfl
theorem tArr_144 : tArr Tryd.prog 144 = some (256, 5) := by kernel_rfl
theorem tPlace_144 (i : Nat) : tPlace Tryd.prog 144 i = some (i * 1, 1) := by rfl
theorem tKnown_144 : tKnown Tryd.prog 144 = true := by kernel_rfl
theorem tzo_144 : tzo Tryd.prog 144 = some (.agg (List.replicate 256 (.atom (.int .u8 0)))) := by kernel_rfl
theorem tAgg_146 : tAgg Tryd.prog 146 = some true := by kernel_rfl
theorem tSize_146 : tSize Tryd.prog 146 = some 2 := by kernel_rfl
theorem tBytes_146 : tBytes Tryd.prog 146 = some 2 := by kernel_rfl
theorem tElem_146 : tElem Tryd.prog 146 = none := by kernel_rfl
theorem tStr_146 : tStr Tryd.prog 146 = false := by kernel_rfl
theorem tInt_146 : tInt Tryd.prog 146 = none := by kernel_rfl
theorem tFld_146_0 : tFld Tryd.prog 146 0 = some (0, 5) := by kernel_rfl
theorem tPlace_146_0 : tPlace Tryd.prog 146 0 = some (0, 1) := by kernel_rfl
theorem tFld_146_1 : tFld Tryd.prog 146 1 = some (1, 5) := by kernel_rfl
theorem tPlace_146_1 : tPlace Tryd.prog 146 1 = some (1, 1) := by kernel_rfl
theorem tKnown_146 : tKnown Tryd.prog 146 = true := by kernel_rfl
theorem tzo_146 : tzo Tryd.prog 146 = some (.agg [.atom (.int .u8 0), .atom (.int .u8 0)]) := by kernel_rfl
theorem tAgg_147 : tAgg Tryd.prog 147 = some true := by kernel_rfl
theorem tSize_147 : tSize Tryd.prog 147 = some 32 := by kernel_rfl
theorem tBytes_147 : tBytes Tryd.prog 147 = some 32 := by kernel_rfl
theorem tElem_147 : tElem Tryd.prog 147 = none := by kernel_rfl
theorem tStr_147 : tStr Tryd.prog 147 = false := by kernel_rfl
theorem tInt_147 : tInt Tryd.prog 147 = none := by kernel_rfl
theorem tArr_147 : tArr Tryd.prog 147 = some (16, 146) := by kernel_rfl
theorem tPlace_147 (i : Nat) : tPlace Tryd.prog 147 i = some (i * 2, 2) := by rfl
theorem tKnown_147 : tKnown Tryd.prog 147 = true := by kernel_rfl
theorem tzo_147 : tzo Tryd.prog 147 = some (.agg (List.replicate 32 (.atom (.int .u8 0)))) := by kernel_rfl
end Go.Proofs.YtfnkciboencifaaDoor
