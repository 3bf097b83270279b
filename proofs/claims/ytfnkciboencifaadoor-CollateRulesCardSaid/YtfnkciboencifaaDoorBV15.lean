/-
  The clean machine: what each operation asks, reckoned.
-/
import Derived.Test.YtfnkciboencifaaDoorBV13
import Derived.Shelf.Abstract
set_option linter.all false
namespace Go.Proofs.YtfnkciboencifaaDoor
open Go Go.RowKit
def tzo (P : Program) (t : TypeId) : Option PV :=
  match P.info? t with
  | some i => match i.zero with
    | some v => if v.cells.size = i.size ∧ v.cells.all (·.oneCell') = true then some (pvOf v) else none
    | none => none
  | none => none
theorem tzo_zero {P : Program} {t : TypeId} {z : PV} (h : tzo P t = some z) : tZero P t z := by
  unfold tzo at h
  cases hi : P.info? t with
  | none => simp [hi] at h
  | some i =>
    cases hz : i.zero with
    | none => simp [hi, hz] at h
    | some v =>
      simp only [hi, hz] at h
      split at h
      · rename_i hc; cases h; exact ⟨i, v, hi, hz, rfl, hc.1, hc.2⟩
      · cases h
def Pure (P : Program) (f : FuncId) (args : List PV) (r : PV) (os : List AO) : Prop := Enters P f ∧ PureCall P f args r os
def vCall (P : Program) (f : FuncId) (args : List PV) (K : PV → List AO → Prop) : Prop := ∃ r os, Pure P f args r os ∧ K r os
@[congr] theorem vCall_congr {P : Program} {f : FuncId} {args args' : List PV} {K : PV → List AO → Prop} (h : args = args') : vCall P f args K = vCall P f args' K := by rw [h]
def mk1 (o : AO) : Eff := ⟨[o], [], [], []⟩
def rdE (rd : List Nat) : Eff := ⟨[], [], [], rd⟩
def vLoad (P : Program) (t : TypeId) (S : St) (a : PV) (K : PV → Eff → Prop) : Prop :=
  match tAgg P t, tSize P t with
  | some ag, some n => match a with
    | .ptr i sz k c => match S.obj i with
      | some o => o.sz = sz ∧ k < o.els.length ∧ (bif ag then c + n ≤ (o.els.getD k .junk).cells.length else c < (o.els.getD k .junk).cells.length) ∧ K ((o.els.getD k .junk).part ag c n) (rdE [i])
      | none => False
    | .fptr _ l k c => k < l.length ∧ (bif ag then c + n ≤ (l.getD k .junk).cells.length else c < (l.getD k .junk).cells.length) ∧ K ((l.getD k .junk).part ag c n) e0
    | _ => False
  | _, _ => False
def vStore (P : Program) (t : TypeId) (S : St) (a v : PV) (K : PV → Eff → Prop) : Prop :=
  match tSize P t with
  | some n => match a with
    | .ptr i sz k c => match S.obj i with
      | some o => o.sz = sz ∧ k < o.els.length ∧ n = v.cells.length ∧ v.cells.all PV.one = true ∧ c + v.cells.length ≤ (o.els.getD k .junk).cells.length ∧
          K .junk ⟨[], [], [(i, ⟨sz, o.els.set k ((o.els.getD k .junk).putPart c v)⟩)], [i]⟩
      | none => False
    | _ => False
  | none => False
def vFieldAddr (P : Program) (t : TypeId) (f : Nat) (a : PV) (K : PV → Eff → Prop) : Prop :=
  match tFld P t f with
  | some (off, e) => match tSize P e with
    | some n => n ≠ 0 ∧ match a with
      | .ptr i sz k c => K (.ptr i sz k (c + off)) e0
      | .fptr sz l k c => K (.fptr sz l k (c + off)) e0
      | _ => False
    | none => False
  | none => False
def vField (P : Program) (t : TypeId) (f : Nat) (a : PV) (K : PV → Eff → Prop) : Prop :=
  match tFld P t f with
  | some (off, e) => match tAgg P e, tSize P e with
    | some ag, some n => match a with
      | .agg l => (bif ag then off + n ≤ l.length else off < l.length) ∧ K ((PV.agg l).part ag off n) e0
      | _ => False
    | _, _ => False
  | none => False
def vIndexAddr (P : Program) (t : TypeId) (a i : PV) (K : PV → Eff → Prop) : Prop :=
  match i with
  | .atom (.int _ n) => match a with
    | .ob i sz off len => match tElem P t with
      | some e => tSize P e = some sz ∧ 0 ≤ n ∧ n < len ∧ K (.ptr i sz (off + n.toNat) 0) e0
      | none => False
    | .sl sz l => match tElem P t with
      | some e => tSize P e = some sz ∧ 0 ≤ n ∧ n < l.length ∧ K (.fptr sz l n.toNat 0) e0
      | none => False
    | .ptr i sz k c => match tArr P t with
      | some (m, e) => match tSize P e with
        | some es => 0 ≤ n ∧ n < m ∧ K (.ptr i sz k (c + n.toNat * es)) e0
        | none => False
      | none => False
    | .fptr sz l k c => match tArr P t with
      | some (m, e) => match tSize P e with
        | some es => 0 ≤ n ∧ n < m ∧ K (.fptr sz l k (c + n.toNat * es)) e0
        | none => False
      | none => False
    | _ => False
  | _ => False
def vIndex (P : Program) (t : TypeId) (a i : PV) (K : PV → Eff → Prop) : Prop :=
  match i with
  | .atom (.int _ n) => match a with
    | .atom (.string s) => tStr P t = true ∧ 0 ≤ n ∧ n < s.size ∧ K (.atom (.int .u8 ((byteAt s n.toNat).toNat : Nat))) e0
    | .agg l => match tArr P t with
      | some (m, e) => match tSize P e, tAgg P e with
        | some es, some ag => 0 ≤ n ∧ n < m ∧ (bif ag then n.toNat * es + es ≤ l.length else n.toNat * es < l.length) ∧ K ((PV.agg l).part ag (n.toNat * es) es) e0
        | _, _ => False
      | none => False
    | _ => False
  | _ => False
def vBin (P : Program) (op : BinOp) (t : TypeId) (a b : PV) (K : PV → Eff → Prop) : Prop :=
  match a, b with
  | .atom u, .atom v =>
    match op, u, v with
    | .quo, .int k a, .int k' b => k = k' ∧ b ≠ 0 ∧ K (.atom (.int k (k.wrap (a.tdiv b)))) e0
    | .rem, .int k a, .int k' b => k = k' ∧ b ≠ 0 ∧ K (.atom (.int k (a.tmod b))) e0
    | .shl, .int k a, .int _ b => 0 ≤ b ∧ K (.atom (.int k (k.wrap (a * 2 ^ (min b.toNat k.bits))))) e0
    | .shr, .int k a, .int _ b => 0 ≤ b ∧ K (.atom (.int k (a.fdiv (2 ^ (min b.toNat k.bits))))) e0
    | .add, .string a, .string b => a.size + b.size ≤ 9223372036854775807 ∧ K (.atom (.string (a ++ b))) e0
    | .eql, .bool a, .bool b => P.underlying t = some .bool ∧ K (.atom (.bool (a == b))) e0
    | .neq, .bool a, .bool b => P.underlying t = some .bool ∧ K (.atom (.bool (!(a == b)))) e0
    | op, u, v => match binV op u v with
      | some w => K (.atom w) e0
      | none => False
  | _, _ => False
def vSlice (P : Program) (t : TypeId) (S : St) (a : PV) (lo hi : Option Operand) (K : PV → Eff → Prop) : Prop :=
  match a with
  | .atom (.string s) => tStr P t = true ∧ match bnd S 0 lo, bnd S s.size hi with
    | some l, some h => 0 ≤ l ∧ l ≤ h ∧ h ≤ s.size ∧ K (.atom (.string (s.extract l.toNat h.toNat))) e0
    | _, _ => False
  | .sl sz ls => match tElem P t with
    | some e => tSize P e = some sz ∧ match bnd S 0 lo, bnd S ls.length hi with
      | some l, some h => 0 ≤ l ∧ l ≤ h ∧ h ≤ ls.length ∧ K (.sl sz ((ls.drop l.toNat).take (h.toNat - l.toNat))) e0
      | _, _ => False
    | none => False
  | .ob i sz off len => match tElem P t with
    | some e => tSize P e = some sz ∧ match bnd S 0 lo, bnd S len hi with
      | some l, some h => 0 ≤ l ∧ l ≤ h ∧ h ≤ len ∧ (l = 0 → K (.ob i sz off h.toNat) e0) ∧ (l ≠ 0 → (l < h → K (.ob i sz (off + l.toNat) (h.toNat - l.toNat)) e0) ∧ (l = h → K (.sl sz []) e0))
      | _, _ => False
    | none => False
  | _ => False
def vBase (S : St) (sz : Nat) (a : PV) (K : List PV → List Nat → Prop) : Prop :=
  match a with
  | .atom (.slice none 0 0) => K [] []
  | .ob i sz' 0 len => match S.obj i with
    | some o => sz' = sz ∧ o.sz = sz ∧ len ≤ o.els.length ∧ K (if len = o.els.length then o.els else o.els.take len) [i]
    | none => False
  | _ => False
def vSrc (S : St) (sz : Nat) (a : PV) (K : List PV → List Nat → Prop) : Prop :=
  match a with
  | .atom (.slice none 0 0) => K [] []
  | .sl sz' l => sz' = sz ∧ K l []
  | .ob i sz' off len => match S.obj i with
    | some o => sz' = sz ∧ o.sz = sz ∧ off + len ≤ o.els.length ∧ K (if off = 0 ∧ len = o.els.length then o.els else (o.els.drop off).take len) [i]
    | none => False
  | _ => False
def vAppend (P : Program) (t : TypeId) (S : St) (a b : PV) (K : PV → Eff → Prop) : Prop :=
  match tElem P t with
  | some e => match tzo P e, tBytes P e with
    | some z, some by_ => 0 < by_ ∧ vBase S z.cells.length a fun olds del => vSrc S z.cells.length b fun els rd => (els.all fun q => q.cells.all PV.one) = true ∧ (olds.length + els.length) * by_ ≤ 140737488355328 ∧
        K (.ob S.nx z.cells.length 0 (olds.length + els.length)) ⟨[⟨z.cells.length, olds ++ els⟩], del, [], del ++ rd⟩
    | _, _ => False
  | none => False
def vConvert (P : Program) (t t' : TypeId) (S : St) (a : PV) (K : PV → Eff → Prop) : Prop :=
  match a with
  | .atom (.int _ n) => (P.underlying t).isSome = true ∧ match tInt P t' with
    | some k' => K (.atom (.int k' (k'.wrap n))) e0
    | none => False
  | .atom (.string s) => tStr P t = true ∧ ((tStr P t' = true ∧ K (.atom (.string s)) e0) ∨ match tElem P t' with
    | some e => tInt P e = some .u8 ∧ s.size ≤ 9223372036854775807 ∧ K (.sl 1 (pvBytes s)) e0
    | none => False)
  | a => tStr P t' = true ∧ match tElem P t with
    | some e => tInt P e = some .u8 ∧ vSrc S 1 a fun els rd => els.all isByte = true ∧ K (.atom (.string ⟨(els.map pvByte).toArray⟩)) (rdE rd)
    | none => False
def vMake (P : Program) (t : TypeId) (S : St) (a b : PV) (K : PV → Eff → Prop) : Prop :=
  match a, b with
  | .atom (.int _ l), .atom (.int _ c) => match tElem P t with
    | some e => match tzo P e, tBytes P e with
      | some z, some by_ => 0 ≤ l ∧ l ≤ c ∧ (by_ : Int) * c ≤ 281474976710656 ∧ c ≤ 9223372036854775807 ∧ K (.ob S.nx z.cells.length 0 l.toNat) (mk1 ⟨z.cells.length, List.replicate l.toNat z⟩)
      | _, _ => False
    | none => False
  | _, _ => False
def vMinMax (mx : Bool) (a b : PV) (K : PV → Eff → Prop) : Prop :=
  match a, b with
  | .atom (.int k x), .atom (.int k' y) => k = k' ∧ K (.atom (.int k (bif mx then max x y else min x y))) e0
  | _, _ => False
def vLen (P : Program) (t : TypeId) (a : PV) (K : PV → Eff → Prop) : Prop :=
  match a with
  | .atom (.string s) => tStr P t = true ∧ K (.atom (.int .i64 s.size)) e0
  | .atom (.slice _ n _) => tStr P t = false ∧ (tElem P t).isSome = true ∧ K (.atom (.int .i64 n)) e0
  | .sl _ l => tStr P t = false ∧ (tElem P t).isSome = true ∧ K (.atom (.int .i64 l.length)) e0
  | .ob _ _ _ n => tStr P t = false ∧ (tElem P t).isSome = true ∧ K (.atom (.int .i64 n)) e0
  | _ => False
def vFn (P : Program) (S : St) (g : PV) (xs : List Operand) (K : PV → Eff → Prop) : Prop :=
  match g with
  | .fn f cap => vCall P f ((xs.map S.ev ++ cap).map (sealed S.obj (fun _ => false) 6)) fun r os =>
      (noObL (xs.map S.ev ++ cap) || (r.flatB && os.all fun o => o.els.all PV.flatB)) = true ∧ K (r.ren (· + S.nx)) ⟨os.map (AO.ren (· + S.nx)), [], [], (xs.map S.ev ++ cap).flatMap (reach S.obj 6)⟩
  | _ => False
def Proc (P : Program) (f : FuncId) (args : List PV) (hp : List AO) (r : PV) (hp' : List (Option AO)) (os : List AO) : Prop := Enters P f ∧ ProcCall P f args hp r hp' os
def vProc (P : Program) (S : St) (f : FuncId) (vals : List PV) (K : PV → Eff → Prop) : Prop :=
  ∃ (L : List Nat) (n : Nat) (args : List PV) (hp : List AO) (r : PV) (hp' : List (Option AO)) (os : List AO), Proc P f args hp r hp' os ∧ Lent S L n vals args hp ∧
    (n = 0 ∨ (r.flatB = true ∧ os.all (fun o => o.els.all PV.flatB) = true ∧ hp'.all flatO = true)) ∧ K (r.ren (pmap L S.nx)) ⟨os.map (AO.ren (pmap L S.nx)), procDel L hp', procSet (pmap L S.nx) L hp', []⟩
def vFnI (P : Program) (S : St) (g : PV) (xs : List Operand) (K : PV → Eff → Prop) : Prop :=
  match g with
  | .fn f cap => vFn P S (.fn f cap) xs K ∨ vProc P S f (xs.map S.ev ++ cap) K
  | _ => False
def isNilC : Operand → Bool
  | .const (.slice none 0 0) => true
  | _ => false
theorem isNilC_eq {y : Operand} (h : isNilC y = true) : y = .const (.slice none 0 0) := by
  unfold isNilC at h; split at h
  · rfl
  · cases h
def vBinO (P : Program) (op : BinOp) (t : TypeId) (S : St) (x y : Operand) (K : PV → Eff → Prop) : Prop :=
  match op, isNilC y with
  | .eql, true => match nilSl (S.ev x), tElem P t with | some b, some _ => K (.atom (.bool b)) e0 | _, _ => False
  | .neq, true => match nilSl (S.ev x), tElem P t with | some b, some _ => K (.atom (.bool (!b))) e0 | _, _ => False
  | op, _ => vBin P op t (S.ev x) (S.ev y) K
def vCallO (P : Program) (S : St) (callee : Callee) (xs : List Operand) (ts : List TypeId) (K : PV → Eff → Prop) : Prop :=
  match callee, xs, ts with
  | .builtin .len, [x], [t] => vLen P t (S.ev x) K
  | .builtin .append, [x, y], [t, t'] => t = t' ∧ vAppend P t S (S.ev x) (S.ev y) K
  | .builtin .min, [x, y], _ => vMinMax false (S.ev x) (S.ev y) K
  | .builtin .max, [x, y], _ => vMinMax true (S.ev x) (S.ev y) K
  | .value g, xs, _ => vFn P S (S.ev g) xs K
  | _, _, _ => False
def vMakeF (S : St) (fn : Fn) (first cap : List Operand) (K : PV → Eff → Prop) : Prop :=
  match fn, first with
  | .func f, [] => K (.fn f (cap.map S.ev)) e0
  | _, _ => False
def vUn (op : UnOp) (a : PV) (K : PV → Eff → Prop) : Prop :=
  match op, a with
  | .not, .atom (.bool b) => K (.atom (.bool (!b))) e0
  | .neg, .atom (.int k n) => K (.atom (.int k (k.wrap (-n)))) e0
  | _, _ => False
def vop (P : Program) (op : Op) (S : St) (K : PV → Eff → Prop) : Prop :=
  match op with
  | .move x => K (S.ev x) e0
  | .assign x => K (S.ev x) e0
  | .pick c x y => match S.ev c with | .atom (.bool t) => K (bif t then S.ev x else S.ev y) e0 | _ => False
  | .box _ x => (S.ev x).cells.all PV.one = true ∧ K (.ptr S.nx (S.ev x).cells.length 0 0) (mk1 ⟨(S.ev x).cells.length, [S.ev x]⟩)
  | .alloc t => match tzo P t with | some z => K (.ptr S.nx z.cells.length 0 0) (mk1 ⟨z.cells.length, [z]⟩) | none => False
  | .build t ps => match tzo P t with
    | some z => tKnown P t = true ∧ match putAll (tPlace P t) z.cells (evParts S ps) with | some L => K (.agg L) e0 | none => False
    | none => False
  | .buildSlice t n ps => match tElem P t with
    | some e => match tzo P e with
      | some z => n * z.cells.length ≤ 16777216 ∧ n ≤ 16777216 ∧ (∀ p, p ∈ evParts S ps → p.1 < n ∧ p.2.cells.length = z.cells.length ∧ p.2.cells.all PV.one = true) ∧
          K (.ob S.nx z.cells.length 0 n) (mk1 ⟨z.cells.length, setParts (List.replicate n z) (evParts S ps)⟩)
      | none => False
    | none => False
  | .load t a => vLoad P t S (S.ev a) K
  | .store t a v => vStore P t S (S.ev a) (S.ev v) K
  | .nilCheck a => match S.ev a with | .ptr i sz k c => K (.ptr i sz k c) e0 | .fn f l => K (.fn f l) e0 | _ => False
  | .binOp op t x y _ => vBinO P op t S x y K
  | .unOp op _ x => vUn op (S.ev x) K
  | .convert t t' x => vConvert P t t' S (S.ev x) K
  | .makeFunc fn first cap => vMakeF S fn first.toList cap.toList K
  | .makeSlice t x y => vMake P t S (S.ev x) (S.ev y) K
  | .slice t x lo hi none => vSlice P t S (S.ev x) lo hi K
  | .fieldAddr t x f => vFieldAddr P t f (S.ev x) K
  | .field t x f => vField P t f (S.ev x) K
  | .indexAddr t x i => vIndexAddr P t (S.ev x) (S.ev i) K
  | .index t x i => vIndex P t (S.ev x) (S.ev i) K
  | .extract x k => match S.ev x with | .tup l => k < l.length ∧ K (l.getD k .junk) e0 | _ => False
  | .call c => vCallO P S c.callee c.args.toList c.argTypes.toList K
  | _ => False
section
variable {P : Program} {S : St} {K : PV → Eff → Prop}
theorem vLoad_sound {t : TypeId} {x : Operand} (h : vLoad P t S (S.ev x) K) : ∃ r e, Sound P (.load t x) S r e ∧ K r e := by
  unfold vLoad at h
  split at h <;> try exact h.elim
  rename_i ag n ha hn
  split at h <;> try exact h.elim
  · rename_i i sz k c hx
    split at h <;> try exact h.elim
    rename_i o ho
    exact ⟨_, _, Sound.load hx ho h.1 h.2.1 ha hn h.2.2.1, h.2.2.2⟩
  · rename_i sz l k c hx
    exact ⟨_, _, Sound.loadF hx h.1 ha hn h.2.1, h.2.2⟩
theorem vStore_sound {t : TypeId} {x y : Operand} (h : vStore P t S (S.ev x) (S.ev y) K) : ∃ r e, Sound P (.store t x y) S r e ∧ K r e := by
  unfold vStore at h
  split at h <;> try exact h.elim
  rename_i n hn
  split at h <;> try exact h.elim
  rename_i i sz k c hx
  split at h <;> try exact h.elim
  rename_i o ho
  exact ⟨_, _, Sound.store hx ho h.1 h.2.1 (by rw [hn, h.2.2.1]) h.2.2.2.1 h.2.2.2.2.1, h.2.2.2.2.2⟩
theorem vFieldAddr_sound {t : TypeId} {f : Nat} {x : Operand} (h : vFieldAddr P t f (S.ev x) K) : ∃ r e, Sound P (.fieldAddr t x f) S r e ∧ K r e := by
  unfold vFieldAddr at h
  split at h <;> try exact h.elim
  rename_i off e hf
  split at h <;> try exact h.elim
  rename_i n hn
  obtain ⟨h0, h⟩ := h
  split at h <;> try exact h.elim
  · rename_i i sz k c hx; exact ⟨_, _, Sound.fieldAddr hx hf hn h0, h⟩
  · rename_i sz l k c hx; exact ⟨_, _, Sound.fieldAddrF hx hf hn h0, h⟩
theorem vField_sound {t : TypeId} {f : Nat} {x : Operand} (h : vField P t f (S.ev x) K) : ∃ r e, Sound P (.field t x f) S r e ∧ K r e := by
  unfold vField at h
  split at h <;> try exact h.elim
  rename_i off e hf
  split at h <;> try exact h.elim
  rename_i ag n ha hn
  split at h <;> try exact h.elim
  rename_i l hx
  exact ⟨_, _, Sound.field hx hf ha hn h.1, h.2⟩
theorem vIndexAddr_sound {t : TypeId} {x y : Operand} (h : vIndexAddr P t (S.ev x) (S.ev y) K) : ∃ r e, Sound P (.indexAddr t x y) S r e ∧ K r e := by
  unfold vIndexAddr at h
  split at h <;> try exact h.elim
  rename_i kk n hy
  split at h <;> try exact h.elim
  · rename_i i sz off len hx
    split at h <;> try exact h.elim
    rename_i e he
    exact ⟨_, _, Sound.indexAddr hx hy he h.1 h.2.1 h.2.2.1, h.2.2.2⟩
  · rename_i sz l hx
    split at h <;> try exact h.elim
    rename_i e he
    exact ⟨_, _, Sound.indexAddrS hx hy he h.1 h.2.1 h.2.2.1, h.2.2.2⟩
  · rename_i i sz k c hx
    split at h <;> try exact h.elim
    rename_i m e he
    split at h <;> try exact h.elim
    rename_i es hs
    exact ⟨_, _, Sound.indexAddrA hx hy he hs h.1 h.2.1, h.2.2⟩
  · rename_i sz l k c hx
    split at h <;> try exact h.elim
    rename_i m e he
    split at h <;> try exact h.elim
    rename_i es hs
    exact ⟨_, _, Sound.indexAddrAF hx hy he hs h.1 h.2.1, h.2.2⟩
theorem vIndex_sound {t : TypeId} {x y : Operand} (h : vIndex P t (S.ev x) (S.ev y) K) : ∃ r e, Sound P (.index t x y) S r e ∧ K r e := by
  unfold vIndex at h
  split at h <;> try exact h.elim
  rename_i kk n hy
  split at h <;> try exact h.elim
  · rename_i s hx
    exact ⟨_, _, Sound.indexStr hx hy h.1 h.2.1 h.2.2.1, h.2.2.2⟩
  · rename_i l hx
    split at h <;> try exact h.elim
    rename_i m e he
    split at h <;> try exact h.elim
    rename_i es ag hs ha
    exact ⟨_, _, Sound.indexArr hx hy he hs ha h.1 h.2.1 h.2.2.1, h.2.2.2⟩
theorem vBin_sound {op : BinOp} {t t' : TypeId} {x y : Operand} (h : vBin P op t (S.ev x) (S.ev y) K) : ∃ r e, Sound P (.binOp op t x y t') S r e ∧ K r e := by
  unfold vBin at h
  split at h <;> try exact h.elim
  rename_i u v hx hy
  split at h
  · obtain ⟨rfl, h1, h2⟩ := h; exact ⟨_, _, Sound.quo hx hy h1, h2⟩
  · obtain ⟨rfl, h1, h2⟩ := h; exact ⟨_, _, Sound.rem hx hy h1, h2⟩
  · exact ⟨_, _, Sound.shl hx hy h.1, h.2⟩
  · exact ⟨_, _, Sound.shr hx hy h.1, h.2⟩
  · exact ⟨_, _, Sound.concat hx hy h.1, h.2⟩
  · exact ⟨_, _, Sound.binBool hx hy h.1, h.2⟩
  · exact ⟨_, _, Sound.binBoolN hx hy h.1, h.2⟩
  · split at h <;> try exact h.elim
    rename_i w hw
    exact ⟨_, _, Sound.bin hx hy hw, h⟩
theorem vSlice_sound {t : TypeId} {x : Operand} {lo hi : Option Operand} (h : vSlice P t S (S.ev x) lo hi K) : ∃ r e, Sound P (.slice t x lo hi none) S r e ∧ K r e := by
  unfold vSlice at h
  split at h <;> try exact h.elim
  · rename_i s hx
    obtain ⟨ht, h⟩ := h
    split at h <;> try exact h.elim
    rename_i l hh hl hr
    exact ⟨_, _, Sound.sliceStr hx ht hl hr h.1 h.2.1 h.2.2.1, h.2.2.2⟩
  · rename_i sz ls hx
    split at h <;> try exact h.elim
    rename_i e he
    obtain ⟨hs, h⟩ := h
    split at h <;> try exact h.elim
    rename_i l hh hl hr
    exact ⟨_, _, Sound.sliceS hx he hs hl hr h.1 h.2.1 h.2.2.1, h.2.2.2⟩
  · rename_i i sz off len hx
    split at h <;> try exact h.elim
    rename_i e he
    obtain ⟨hs, h⟩ := h
    split at h <;> try exact h.elim
    rename_i l hh hl hr
    obtain ⟨h0, h1, h2, h3, h4⟩ := h
    by_cases hz : l = 0
    · subst hz
      exact ⟨_, _, Sound.sliceO0 hx he hs hl hr h1 h2, h3 rfl⟩
    · rcases Int.lt_or_eq_of_le h1 with hlt | heq
      · exact ⟨_, _, Sound.sliceO hx he hs hl hr h0 hlt h2, (h4 hz).1 hlt⟩
      · subst heq
        exact ⟨_, _, Sound.sliceOE hx he hs hl hr h0 h2, (h4 hz).2 rfl⟩
theorem vBase_sound {sz : Nat} {a : PV} {K : List PV → List Nat → Prop} (h : vBase S sz a K) : ∃ olds del, Base S a sz olds del ∧ K olds del := by
  unfold vBase at h
  split at h <;> try exact h.elim
  · exact ⟨_, _, .nil, h⟩
  · split at h <;> try exact h.elim
    rename_i o ho
    obtain ⟨rfl, h1, h2, h3⟩ := h
    refine ⟨_, _, .ob ho h1 h2, ?_⟩
    split at h3
    · rename_i he; rw [he, List.take_length]; exact h3
    · exact h3
theorem vSrc_sound {sz : Nat} {a : PV} {K : List PV → List Nat → Prop} (h : vSrc S sz a K) : ∃ els rd, Src S a sz els rd ∧ K els rd := by
  unfold vSrc at h
  split at h <;> try exact h.elim
  · exact ⟨_, _, .nil, h⟩
  · obtain ⟨rfl, h⟩ := h; exact ⟨_, _, .sl, h⟩
  · split at h <;> try exact h.elim
    rename_i o ho
    obtain ⟨rfl, h1, h2, h3⟩ := h
    refine ⟨_, _, .ob ho h1 h2, ?_⟩
    split at h3
    · rename_i he; rw [he.1, he.2, List.drop_zero, List.take_length]; exact h3
    · exact h3
theorem vAppend_sound {t : TypeId} {x y : Operand} (h : vAppend P t S (S.ev x) (S.ev y) K) : ∃ r e, Sound P (.call ⟨.builtin .append, #[x, y], #[t, t]⟩) S r e ∧ K r e := by
  unfold vAppend at h
  split at h <;> try exact h.elim
  rename_i e he
  split at h <;> try exact h.elim
  rename_i z by_ hz hby
  obtain ⟨h0, h⟩ := h
  obtain ⟨olds, del, hb, h⟩ := vBase_sound h
  obtain ⟨els, rd, hs, h1, h2, h3⟩ := vSrc_sound h
  exact ⟨_, _, Sound.append hb hs he (tzo_zero hz) rfl hby h0 (fun q hq => List.all_eq_true.1 h1 q hq) h2, h3⟩
theorem vConvert_sound {t t' : TypeId} {x : Operand} (h : vConvert P t t' S (S.ev x) K) : ∃ r e, Sound P (.convert t t' x) S r e ∧ K r e := by
  unfold vConvert at h
  split at h
  · rename_i k n hx
    obtain ⟨ht, h⟩ := h
    split at h <;> try exact h.elim
    rename_i k' hk
    exact ⟨_, _, Sound.convInt hx ht hk, h⟩
  · rename_i s hx
    obtain ⟨ht, h⟩ := h
    rcases h with h | h
    · exact ⟨_, _, Sound.convStr hx ht h.1, h.2⟩
    · split at h <;> try exact h.elim
      rename_i e he
      exact ⟨_, _, Sound.convBytes hx ht he h.1 h.2.1, h.2.2⟩
  · obtain ⟨ht, h⟩ := h
    split at h <;> try exact h.elim
    rename_i e he
    obtain ⟨h8, h⟩ := h
    obtain ⟨els, rd, hs, h1, h2⟩ := vSrc_sound h
    exact ⟨_, _, Sound.convText hs he h8 ht h1, h2⟩
theorem vMake_sound {t : TypeId} {x y : Operand} (h : vMake P t S (S.ev x) (S.ev y) K) : ∃ r e, Sound P (.makeSlice t x y) S r e ∧ K r e := by
  unfold vMake at h
  split at h <;> try exact h.elim
  rename_i k l k' c hx hy
  split at h <;> try exact h.elim
  rename_i e he
  split at h <;> try exact h.elim
  rename_i z by_ hz hby
  exact ⟨_, _, Sound.makeSlice hx hy he (tzo_zero hz) hby h.1 h.2.1 h.2.2.1 h.2.2.2.1, h.2.2.2.2⟩
theorem vMin_sound {x y : Operand} {ts : Array TypeId} (h : vMinMax false (S.ev x) (S.ev y) K) : ∃ r e, Sound P (.call ⟨.builtin .min, #[x, y], ts⟩) S r e ∧ K r e := by
  unfold vMinMax at h
  split at h <;> try exact h.elim
  rename_i k a k' b hx hy
  obtain ⟨rfl, h⟩ := h
  exact ⟨_, _, Sound.min2 hx hy, h⟩
theorem vMax_sound {x y : Operand} {ts : Array TypeId} (h : vMinMax true (S.ev x) (S.ev y) K) : ∃ r e, Sound P (.call ⟨.builtin .max, #[x, y], ts⟩) S r e ∧ K r e := by
  unfold vMinMax at h
  split at h <;> try exact h.elim
  rename_i k a k' b hx hy
  obtain ⟨rfl, h⟩ := h
  exact ⟨_, _, Sound.max2 hx hy, h⟩
theorem vLen_sound {t : TypeId} {x : Operand} (h : vLen P t (S.ev x) K) : ∃ r e, Sound P (.call ⟨.builtin .len, #[x], #[t]⟩) S r e ∧ K r e := by
  unfold vLen at h
  split at h <;> try exact h.elim
  · rename_i s hx; exact ⟨_, _, Sound.len (by rw [hx]; rfl) (.inl h.1) ⟨fun _ => ⟨s, hx⟩, fun _ => h.1⟩, h.2⟩
  · rename_i ad n c hx; exact ⟨_, _, Sound.len (n := n) (by rw [hx]; rfl) (.inr h.2.1) ⟨fun h' => (by rw [h.1] at h'; cases h'), fun ⟨s, hs⟩ => (by rw [hx] at hs; cases hs)⟩, h.2.2⟩
  · rename_i sz l hx; exact ⟨_, _, Sound.len (n := l.length) (by rw [hx]; rfl) (.inr h.2.1) ⟨fun h' => (by rw [h.1] at h'; cases h'), fun ⟨s, hs⟩ => (by rw [hx] at hs; cases hs)⟩, h.2.2⟩
  · rename_i i sz off n hx; exact ⟨_, _, Sound.len (n := n) (by rw [hx]; rfl) (.inr h.2.1) ⟨fun h' => (by rw [h.1] at h'; cases h'), fun ⟨s, hs⟩ => (by rw [hx] at hs; cases hs)⟩, h.2.2⟩
theorem vFn_sound {g : Operand} {xs : Array Operand} {ts : Array TypeId} (h : vFn P S (S.ev g) xs.toList K) : ∃ r e, Sound P (.call ⟨.value g, xs, ts⟩) S r e ∧ K r e := by
  unfold vFn at h
  split at h <;> try exact h.elim
  rename_i f cap hf
  obtain ⟨r, os, ⟨hen, hc⟩, hfl, hK⟩ := h
  simp only [Bool.or_eq_true, Bool.and_eq_true] at hfl
  exact ⟨_, _, Sound.callPure hf hen hc hfl (fun p hp i hi => List.mem_flatMap.2 ⟨p, hp, hi⟩), hK⟩
theorem vFnI_sound {g : Operand} {xs : Array Operand} {ts : Array TypeId} (h : vFnI P S (S.ev g) xs.toList K) : ∃ r e, SoundI P (.call ⟨.value g, xs, ts⟩) S r e ∧ K r e := by
  unfold vFnI at h
  split at h <;> try exact h.elim
  rename_i f cap hf
  rcases h with h | ⟨L, n, args, hp, r, hp', os, ⟨hen, hc⟩, hl, hfl, hK⟩
  · rw [← hf] at h
    obtain ⟨r, e, h1, h2⟩ := vFn_sound (ts := ts) h
    exact ⟨r, e, h1.toI, h2⟩
  · exact ⟨_, _, Sound.callProc hf hen hc hl hfl, hK⟩
theorem vBinO_sound {op : BinOp} {t t' : TypeId} {x y : Operand} (h : vBinO P op t S x y K) : ∃ r e, Sound P (.binOp op t x y t') S r e ∧ K r e := by
  unfold vBinO at h
  split at h
  · rename_i hy
    rw [isNilC_eq hy]
    split at h <;> try exact h.elim
    rename_i b e hx he; exact ⟨_, _, Sound.nilS hx he, h⟩
  · rename_i hy
    rw [isNilC_eq hy]
    split at h <;> try exact h.elim
    rename_i b e hx he; exact ⟨_, _, Sound.nilSN hx he, h⟩
  · exact vBin_sound h
theorem vUn_sound {op : UnOp} {t : TypeId} {x : Operand} (h : vUn op (S.ev x) K) : ∃ r e, Sound P (.unOp op t x) S r e ∧ K r e := by
  unfold vUn at h
  split at h <;> try exact h.elim
  · rename_i b hx; exact ⟨_, _, Sound.not hx, h⟩
  · rename_i k n hx; exact ⟨_, _, Sound.neg hx, h⟩
theorem vCallO_sound {c : Call} (h : vCallO P S c.callee c.args.toList c.argTypes.toList K) : ∃ r e, Sound P (.call c) S r e ∧ K r e := by
  obtain ⟨callee, ⟨xs⟩, ⟨ts⟩⟩ := c
  simp only at h
  unfold vCallO at h
  split at h <;> try exact h.elim
  · exact vLen_sound h
  · obtain ⟨rfl, h⟩ := h; exact vAppend_sound h
  · exact vMin_sound h
  · exact vMax_sound h
  · exact vFn_sound (xs := ⟨_⟩) h
theorem vMakeF_sound {fn : Fn} {first cap : Array Operand} (h : vMakeF S fn first.toList cap.toList K) : ∃ r e, Sound P (.makeFunc fn first cap) S r e ∧ K r e := by
  obtain ⟨first⟩ := first
  unfold vMakeF at h
  split at h <;> try exact h.elim
  rename_i f hf
  simp only at hf
  subst hf
  exact ⟨_, _, Sound.makeFunc, h⟩
theorem vop_sound {op : Op} (h : vop P op S K) : ∃ r e, Sound P op S r e ∧ K r e := by
  unfold vop at h
  split at h <;> try exact h.elim
  · exact ⟨_, _, Sound.move, h⟩
  · exact ⟨_, _, Sound.assign, h⟩
  · split at h <;> try exact h.elim
    rename_i t hc; exact ⟨_, _, Sound.pick hc, h⟩
  · exact ⟨_, _, Sound.box rfl h.1, h.2⟩
  · split at h <;> try exact h.elim
    rename_i z hz; exact ⟨_, _, Sound.alloc (tzo_zero hz), h⟩
  · split at h <;> try exact h.elim
    rename_i z hz
    obtain ⟨hk, h⟩ := h
    split at h <;> try exact h.elim
    rename_i L hL; exact ⟨_, _, Sound.build (tzo_zero hz) hk hL, h⟩
  · split at h <;> try exact h.elim
    rename_i e he
    split at h <;> try exact h.elim
    rename_i z hz
    exact ⟨_, _, Sound.buildSlice he (tzo_zero hz) h.1 h.2.1 h.2.2.1, h.2.2.2⟩
  · exact vLoad_sound h
  · exact vStore_sound h
  · split at h <;> try exact h.elim
    · rename_i i sz k c hx; exact ⟨_, _, Sound.nilCheckP hx, h⟩
    · rename_i f l hx; exact ⟨_, _, Sound.nilCheckF hx, h⟩
  · exact vBinO_sound h
  · exact vUn_sound h
  · exact vConvert_sound h
  · exact vMakeF_sound h
  · exact vMake_sound h
  · exact vSlice_sound h
  · exact vFieldAddr_sound h
  · exact vField_sound h
  · exact vIndexAddr_sound h
  · exact vIndex_sound h
  · split at h <;> try exact h.elim
    rename_i l hx; exact ⟨_, _, Sound.extract hx h.1, h.2⟩
  · exact vCallO_sound h
end
def vopI (P : Program) (op : Op) (S : St) (K : PV → Eff → Prop) : Prop :=
  match op with
  | .call c => match c.callee with
    | .value g => vFnI P S (S.ev g) c.args.toList K
    | _ => vop P op S K
  | _ => vop P op S K
theorem SEq.ev {S S' : St} (h : SEq S S') (x : Operand) : S.ev x = S'.ev x := by
  cases x <;> simp [St.ev, h.get]
theorem SEq.fin {S S' : St} (h : SEq S S') (d : Option Tmp) (r : PV) (e : Eff) : SEq (S.fin d r e) (S'.fin d r e) := by
  refine ⟨?_, ?_, ?_, h.gh⟩
  · funext s; rw [St.get_fin, St.get_fin, h.get]
  · rw [St.obj_fin, St.obj_fin, h.obj, h.nx]
  · show S.nx + _ = S'.nx + _; rw [h.nx]
theorem SoundI.seq {P : Program} {op : Op} {S S' : St} {r : PV} {e : Eff} (hs : SoundI P op S' r e) (h : SEq S S') : SoundI P op S r e := by
  intro o a w0 F0 D μ F w ho hH hx hD next Q hn
  refine hs o a w0 F0 D μ F w ho (by rw [← h.obj]; exact hH) (fun x hxm => by rw [← h.ev]; exact hx x hxm) (fun i hi => by rw [← h.nx]; exact hD i hi) next Q fun v w' D' μ' F' h1 h2 h3 h4 h5 h6 => hn v w' D' μ' F' h1 (by rw [h.nx, h.obj]; exact h2) h3 h4 h5 (by rw [h.nx]; exact h6)
theorem Sound.seq {P : Program} {op : Op} {S S' : St} {r : PV} {e : Eff} (hs : Sound P op S' r e) (h : SEq S S') : Sound P op S r e := by
  intro o a w0 F0 D μ F H w ho hH hx hr hD next Q hn
  refine hs o a w0 F0 D μ F H w ho hH (fun x hxm => by rw [← h.ev]; exact hx x hxm) (fun i hi => by rw [← h.obj]; exact hr i hi) (fun k hk => by rw [← h.nx]; exact hD k hk) next Q fun v w' D' μ' F' h1 h2 h3 h4 h5 h6 => hn v w' D' μ' F' h1 (by rw [h.nx]; exact h2) h3 h4 h5 (by rw [h.nx]; exact h6)
def St.known (S : St) (d : Nat) (p : PV) : St := ⟨(d, p) :: S.env, S.hp, S.nx, S.gh⟩
theorem SEq.known {S : St} {d : Nat} {p : PV} (h : S.get d = p) : SEq S (S.known d p) := by
  refine ⟨?_, rfl, rfl, rfl⟩
  funext s
  show S.get s = (lk ((d, p) :: S.env) s).getD .junk
  unfold lk
  split
  · rename_i he; subst he; exact h
  · rfl
theorem SEq.trans {a b c : St} (h : SEq a b) (k : SEq b c) : SEq a c := ⟨h.get.trans k.get, h.obj.trans k.obj, h.nx.trans k.nx, h.gh.trans k.gh⟩
def xG (b want : Bool) (run skip : Prop) : Prop := (b = want → run) ∧ (b = (!want) → skip)
@[congr] theorem xG.cong {b b' want : Bool} {run skip : Prop} (h : b = b') : xG b want run skip = xG b' want run skip := by rw [h]
theorem xG_tt {run skip : Prop} : xG true true run skip = run := by simp [xG]
theorem xG_ff {run skip : Prop} : xG false false run skip = run := by simp [xG]
theorem xG_tf {run skip : Prop} : xG true false run skip = skip := by simp [xG]
theorem xG_ft {run skip : Prop} : xG false true run skip = skip := by simp [xG]
theorem xG_intro {b want : Bool} {run skip : Prop} (h : b = want → run) (h2 : b = (!want) → skip) : xG b want run skip := ⟨h, h2⟩
def xGuard (ops : Array Oper) (S : St) (o : Oper) (run skip : St → Prop) : Prop :=
  match o.guard with
  | none => run S
  | some (j, want) => match (ops[j]?).bind (·.dst) with
    | some d => match S.get d with
      | .atom (.bool b) => xG b want (run (S.known d (.atom (.bool want)))) (skip (S.known d (.atom (.bool (!want)))))
      | .atom (.tuple _) => skip S
      | _ => False
    | none => False
theorem vGuard_mk {ops : Array Oper} {S : St} {o : Oper} {run skip : Prop} (h : (gWant ops S o true ∧ run) ∨ (gWant ops S o false ∧ skip)) : vGuard ops S o run skip := by
  unfold vGuard
  rcases h with ⟨(hg | ⟨j, want, d, hg, hd, hs⟩), h⟩ | ⟨⟨j, want, d, hg, hd, hs⟩, h⟩
  · rw [hg]; exact h
  · rw [hg]
    simp only [hd, hs]
    exact ⟨fun _ => h, fun e => (by cases want <;> cases e)⟩
  · rw [hg]
    rcases hs with hs | ⟨vs, hs⟩
    · simp only [hd, hs]
      exact ⟨fun e => (by cases want <;> cases e), fun _ => h⟩
    · simp only [hd, hs]; exact h
def xOps (P : Program) (ops : Array Oper) : List Oper → St → (St → Prop) → Prop
  | [], S, K => K S
  | o :: rest, S, K => xGuard ops S o (fun S => vopI P o.op S fun r e => xOps P ops rest (S.fin o.dst r e) K) (fun S => xOps P ops rest (S.fin o.dst (.atom (.tuple #[])) e0) K)
def xOpsT (P : Program) (ops : Array Oper) : List Oper → St → List Tr → (St → List Tr → Prop) → Prop
  | [], S, tr, K => K S tr
  | o :: rest, S, tr, K => xGuard ops S o (fun S => vop P o.op S fun r e => xOpsT P ops rest (S.fin o.dst r e) (tr ++ [e.tr S.nx]) K) (fun S => xOpsT P ops rest (S.fin o.dst (.atom (.tuple #[])) e0) (tr ++ [e0.tr S.nx]) K)
section
variable {P : Program} {n : Nat} {S : St} {Q : Exit → St → Prop}
theorem Tri.cut {α : Type} {x y : Code} (S0 : α → St) (h : Tri P n x S (thenQ (fun S' => ∃ z L, Leq L S' (S0 z)) Q)) (h2 : ∀ z, Tri P n y (S0 z) Q) : Tri P n (.seq x y) S Q :=
  Tri.seq (Tri.mono h fun e S' hq => by
    cases e with
    | normal => obtain ⟨z, L, hle⟩ := hq; exact Tri.weak hle (h2 z)
    | _ => exact hq)
end
mutual
theorem ren_pure (ρ : Nat → Nat) : ∀ p : PV, p.pure = true → p.ren ρ = p
  | .junk, _ => rfl
  | .atom _, _ => rfl
  | .agg l, h => by simp only [PV.pure] at h; simp only [PV.ren, renL_pure ρ l h]
  | .tup l, h => by simp only [PV.pure] at h; simp only [PV.ren, renL_pure ρ l h]
  | .sl _ l, h => by simp only [PV.pure] at h; simp only [PV.ren, renL_pure ρ l h]
  | .own _ _, h => by cases h
  | .ob _ _ _ _, h => by cases h
  | .ptr _ _ _ _, h => by cases h
  | .fptr _ l _ _, h => by simp only [PV.pure] at h; simp only [PV.ren, renL_pure ρ l h]
  | .fn _ l, h => by simp only [PV.pure] at h; simp only [PV.ren, renL_pure ρ l h]
theorem renL_pure (ρ : Nat → Nat) : ∀ l : List PV, pureL l = true → renL ρ l = l
  | [], _ => rfl
  | p :: l, h => by simp only [pureL, Bool.and_eq_true] at h; simp only [renL, ren_pure ρ p h.1, renL_pure ρ l h.2]
end
theorem ResOk.val {S : St} {ts : List Nat} {r : PV} (h : retV S ts = r) (hp : r.pure = true) : ResOk S ts r [] :=
  ⟨[], 0, rfl, List.nodup_nil, by rw [ren_pure _ r hp]; exact h, fun i o hi => by simp at hi⟩
theorem Pure.intro {P : Program} {n : Nat} {f : FuncId} {fn : Func} {c : Code} {args : List PV} {r : PV} {os : List AO} {ts : List Nat} (hf : P.funcs[f]? = some fn) (hname : (fn.name == "runtime.NumGoroutine") = false) (hb : fn.body = some c) (hr : fn.results = (ts.map ResultVar.tmp).toArray) (hn : fn.ntmps = n) (hla : args.length ≤ n) (hpure : args.all PV.pure = true)
    (h : Tri P n c ⟨argEnv 0 args, [], 0, []⟩ (retQ ts r os)) : Pure P f args r os := ⟨Go.Proofs.enters_of hf hname hb, PureCall.intro hf hb hr hn hla hpure h⟩
theorem Proc.intro {P : Program} {n : Nat} {f : FuncId} {fn : Func} {c : Code} {args : List PV} {hp : List AO} {r : PV} {hp' : List (Option AO)} {os : List AO} {ts : List Nat} (hf : P.funcs[f]? = some fn) (hname : (fn.name == "runtime.NumGoroutine") = false) (hb : fn.body = some c) (hr : fn.results = (ts.map ResultVar.tmp).toArray) (hn : fn.ntmps = n) (hla : args.length ≤ n)
    (hlen : hp'.length = hp.length) (h : Tri P n c ⟨argEnv 0 args, objEnv 0 (hp.map some), hp.length, marks 0 hp⟩ (retP ts r hp hp' os)) : Proc P f args hp r hp' os := ⟨Go.Proofs.enters_of hf hname hb, ProcCall.intro hf hb hr hn hla hlen h⟩
end Go.Proofs.YtfnkciboencifaaDoor
set_option linter.all false
namespace Go.Proofs.YtfnkciboencifaaDoor
open Go Go.RowKit
set_option linter.unusedVariables false
def M (hp : List (Nat × Option AO)) (nx : Nat) : St := ⟨[], hp, nx, []⟩
def bndV (d : Nat) : Option PV → Option Int
  | none => some d
  | some v => match v with | .atom (.int _ n) => some n | _ => none
def vSliceV (P : Program) (t : TypeId) (a : PV) (lo hi : Option PV) (K : PV → Eff → Prop) : Prop :=
  match a with
  | .atom (.string s) => tStr P t = true ∧ match bndV 0 lo, bndV s.size hi with
    | some l, some h => 0 ≤ l ∧ l ≤ h ∧ h ≤ s.size ∧ K (.atom (.string (s.extract l.toNat h.toNat))) e0
    | _, _ => False
  | .sl sz ls => match tElem P t with
    | some e => tSize P e = some sz ∧ match bndV 0 lo, bndV ls.length hi with
      | some l, some h => 0 ≤ l ∧ l ≤ h ∧ h ≤ ls.length ∧ K (.sl sz ((ls.drop l.toNat).take (h.toNat - l.toNat))) e0
      | _, _ => False
    | none => False
  | .ob i sz off len => match tElem P t with
    | some e => tSize P e = some sz ∧ match bndV 0 lo, bndV len hi with
      | some l, some h => 0 ≤ l ∧ l ≤ h ∧ h ≤ len ∧ (l = 0 → K (.ob i sz off h.toNat) e0) ∧ (l ≠ 0 → (l < h → K (.ob i sz (off + l.toNat) (h.toNat - l.toNat)) e0) ∧ (l = h → K (.sl sz []) e0))
      | _, _ => False
    | none => False
  | _ => False
def vBinOV (P : Program) (op : BinOp) (t : TypeId) (y : Operand) (a b : PV) (K : PV → Eff → Prop) : Prop :=
  match op, isNilC y with
  | .eql, true => match nilSl a, tElem P t with | some b, some _ => K (.atom (.bool b)) e0 | _, _ => False
  | .neq, true => match nilSl a, tElem P t with | some b, some _ => K (.atom (.bool (!b))) e0 | _, _ => False
  | op, _ => vBin P op t a b K
def vFnV (P : Program) (S : St) (g : PV) (vals : List PV) (K : PV → Eff → Prop) : Prop :=
  match g with
  | .fn f cap => vCall P f ((vals ++ cap).map (sealed S.obj (fun _ => false) 6)) fun r os =>
      (noObL (vals ++ cap) || (r.flatB && os.all fun o => o.els.all PV.flatB)) = true ∧ K (r.ren (· + S.nx)) ⟨os.map (AO.ren (· + S.nx)), [], [], (vals ++ cap).flatMap (reach S.obj 6)⟩
  | _ => False
def vFnIV (P : Program) (S : St) (g : PV) (vals : List PV) (K : PV → Eff → Prop) : Prop :=
  match g with
  | .fn f cap => vFnV P S (.fn f cap) vals K ∨ vProc P S f (vals ++ cap) K
  | _ => False
def vPick (c x y : PV) (K : PV → Eff → Prop) : Prop := match c with | .atom (.bool t) => K (bif t then x else y) e0 | _ => False
def vBox (nx : Nat) (x : PV) (K : PV → Eff → Prop) : Prop := x.cells.all PV.one = true ∧ K (.ptr nx x.cells.length 0 0) (mk1 ⟨x.cells.length, [x]⟩)
def vAlloc (P : Program) (t : TypeId) (nx : Nat) (K : PV → Eff → Prop) : Prop := match tzo P t with | some z => K (.ptr nx z.cells.length 0 0) (mk1 ⟨z.cells.length, [z]⟩) | none => False
def vBuild (P : Program) (t : TypeId) (ps : List (Nat × PV)) (K : PV → Eff → Prop) : Prop :=
  match tzo P t with
  | some z => tKnown P t = true ∧ match putAll (tPlace P t) z.cells ps with | some L => K (.agg L) e0 | none => False
  | none => False
def vBuildS (P : Program) (t : TypeId) (n : Nat) (nx : Nat) (ps : List (Nat × PV)) (K : PV → Eff → Prop) : Prop :=
  match tElem P t with
  | some e => match tzo P e with
    | some z => n * z.cells.length ≤ 16777216 ∧ n ≤ 16777216 ∧ (∀ p, p ∈ ps → p.1 < n ∧ p.2.cells.length = z.cells.length ∧ p.2.cells.all PV.one = true) ∧
        K (.ob nx z.cells.length 0 n) (mk1 ⟨z.cells.length, setParts (List.replicate n z) ps⟩)
    | none => False
  | none => False
def vNil (a : PV) (K : PV → Eff → Prop) : Prop := match a with | .ptr i sz k c => K (.ptr i sz k c) e0 | .fn f l => K (.fn f l) e0 | _ => False
def vExtract (a : PV) (k : Nat) (K : PV → Eff → Prop) : Prop := match a with | .tup l => k < l.length ∧ K (l.getD k .junk) e0 | _ => False
def vMakeFV (fn : Fn) (first : List Operand) (cap : List PV) (K : PV → Eff → Prop) : Prop :=
  match fn, first with
  | .func f, [] => K (.fn f cap) e0
  | _, _ => False
def vopV (P : Program) (op : Op) (ev : Operand → PV) (hp : List (Nat × Option AO)) (nx : Nat) (K : PV → Eff → Prop) : Prop :=
  match op with
  | .move x => K (ev x) e0
  | .assign x => K (ev x) e0
  | .pick c x y => vPick (ev c) (ev x) (ev y) K
  | .box _ x => vBox nx (ev x) K
  | .alloc t => vAlloc P t nx K
  | .build t ps => vBuild P t (ps.toList.map fun p => (p.1, ev p.2)) K
  | .buildSlice t n ps => vBuildS P t n nx (ps.toList.map fun p => (p.1, ev p.2)) K
  | .load t a => vLoad P t (M hp nx) (ev a) K
  | .store t a v => vStore P t (M hp nx) (ev a) (ev v) K
  | .nilCheck a => vNil (ev a) K
  | .binOp op t x y _ => vBinOV P op t y (ev x) (ev y) K
  | .unOp op _ x => vUn op (ev x) K
  | .convert t t' x => vConvert P t t' (M hp nx) (ev x) K
  | .makeFunc fn first cap => vMakeFV fn first.toList (cap.toList.map ev) K
  | .makeSlice t x y => vMake P t (M hp nx) (ev x) (ev y) K
  | .slice t x lo hi none => vSliceV P t (ev x) (lo.map ev) (hi.map ev) K
  | .fieldAddr t x f => vFieldAddr P t f (ev x) K
  | .field t x f => vField P t f (ev x) K
  | .indexAddr t x i => vIndexAddr P t (ev x) (ev i) K
  | .index t x i => vIndex P t (ev x) (ev i) K
  | .extract x k => vExtract (ev x) k K
  | .call c => match c.callee, c.args.toList, c.argTypes.toList with
    | .builtin .len, [x], [t] => vLen P t (ev x) K
    | .builtin .append, [x, y], [t, t'] => t = t' ∧ vAppend P t (M hp nx) (ev x) (ev y) K
    | .builtin .min, [x, y], _ => vMinMax false (ev x) (ev y) K
    | .builtin .max, [x, y], _ => vMinMax true (ev x) (ev y) K
    | .value g, xs, _ => vFnV P (M hp nx) (ev g) (xs.map ev) K
    | _, _, _ => False
  | _ => False
def vopVI (P : Program) (op : Op) (ev : Operand → PV) (hp : List (Nat × Option AO)) (nx : Nat) (K : PV → Eff → Prop) : Prop :=
  match op with
  | .call c => match c.callee with
    | .value g => vFnIV P (M hp nx) (ev g) (c.args.toList.map ev) K
    | _ => vopV P (.call c) ev hp nx K
  | op => vopV P op ev hp nx K
section
variable {P : Program} {S : St} {K : PV → Eff → Prop}
theorem bndV_bnd {d : Nat} {x : Option Operand} : bndV d (x.map S.ev) = bnd S d x := by cases x <;> rfl
theorem vopV_sound {op : Op} (h : vopV P op S.ev S.hp S.nx K) : ∃ r e, Sound P op S r e ∧ K r e := by
  refine vop_sound ?_
  cases op with
  | slice t x lo hi mx =>
    cases mx with
    | none => simp only [vopV, vSliceV, bndV_bnd] at h; exact h
    | some m => exact h
  | call c =>
    obtain ⟨callee, ⟨xs⟩, ⟨ts⟩⟩ := c
    simp only [vopV] at h
    simp only [vop, vCallO]
    split at h <;> try exact h.elim
    all_goals exact h
  | _ => exact h
theorem vProc_M {f : FuncId} {vals : List PV} (h : vProc P (M S.hp S.nx) f vals K) : vProc P S f vals K := by
  obtain ⟨L, n, args, hp, r, hp', os, h1, hl, h2, h3⟩ := h
  exact ⟨L, n, args, hp, r, hp', os, h1, ⟨hl.nodup, hl.len, hl.args, hl.objs⟩, h2, h3⟩
theorem vFnIV_to {g : PV} {xs : List Operand} (h : vFnIV P (M S.hp S.nx) g (xs.map S.ev) K) : vFnI P S g xs K := by
  cases g <;> first | exact h | exact h.imp id vProc_M
theorem vopVI_sound {op : Op} (h : vopVI P op S.ev S.hp S.nx K) : ∃ r e, SoundI P op S r e ∧ K r e := by
  have base : ∀ op, vopV P op S.ev S.hp S.nx K → ∃ r e, SoundI P op S r e ∧ K r e := fun op h => by
    obtain ⟨r, e, h1, h2⟩ := vopV_sound h
    exact ⟨r, e, h1.toI, h2⟩
  cases op with
  | call c =>
    obtain ⟨callee, xs, ts⟩ := c
    cases callee with
    | value g => exact vFnI_sound (vFnIV_to h)
    | _ => exact base _ h
  | _ => exact base _ h
def QuietE (e : Eff) : Prop := e.add = [] ∧ e.del = [] ∧ e.set = []
def quietOp : Op → Bool
  | .move _ | .assign _ | .pick _ _ _ | .load _ _ | .nilCheck _ | .binOp _ _ _ _ _ | .unOp _ _ _ | .makeFunc _ _ _ | .slice _ _ _ _ _ | .fieldAddr _ _ _ | .field _ _ _ | .indexAddr _ _ _ | .index _ _ _ | .extract _ _ | .build _ _ => true
  | .call c => match c.callee with | .builtin .len | .builtin .min | .builtin .max => true | _ => false
  | _ => false
theorem q0 {r : PV} (h : K r e0) : K r e0 ∧ QuietE e0 := ⟨h, rfl, rfl, rfl⟩
theorem vBin_q {op : BinOp} {t : TypeId} {a b : PV} (h : vBin P op t a b K) : vBin P op t a b (fun r e => K r e ∧ QuietE e) := by
  unfold vBin at h ⊢
  split at h <;> try exact h.elim
  rename_i u v
  split at h
  · exact ⟨h.1, h.2.1, q0 h.2.2⟩
  · exact ⟨h.1, h.2.1, q0 h.2.2⟩
  · exact ⟨h.1, q0 h.2⟩
  · exact ⟨h.1, q0 h.2⟩
  · exact ⟨h.1, q0 h.2⟩
  · exact ⟨h.1, q0 h.2⟩
  · exact ⟨h.1, q0 h.2⟩
  · split at h <;> try exact h.elim
    exact q0 h
theorem vopV_q {op : Op} {ev : Operand → PV} {hp : List (Nat × Option AO)} {nx : Nat} (hq : quietOp op = true) (h : vopV P op ev hp nx K) : vopV P op ev hp nx (fun r e => K r e ∧ QuietE e) := by
  cases op <;> try (cases hq; done)
  case move => exact q0 h
  case assign => exact q0 h
  case pick => unfold vopV vPick at h ⊢; simp only at h ⊢; split at h <;> first | exact h.elim | exact q0 h
  case load =>
    unfold vopV vLoad at h ⊢; simp only at h ⊢
    split at h <;> try exact h.elim
    split at h <;> try exact h.elim
    · split at h <;> try exact h.elim
      exact ⟨h.1, h.2.1, h.2.2.1, h.2.2.2, rfl, rfl, rfl⟩
    · exact ⟨h.1, h.2.1, q0 h.2.2⟩
  case nilCheck => unfold vopV vNil at h ⊢; simp only at h ⊢; split at h <;> first | exact h.elim | exact q0 h
  case binOp op t x y t' =>
    unfold vopV vBinOV at h ⊢; simp only at h ⊢
    split at h
    · split at h <;> first | exact h.elim | exact q0 h
    · split at h <;> first | exact h.elim | exact q0 h
    · exact vBin_q h
  case unOp => unfold vopV vUn at h ⊢; simp only at h ⊢; split at h <;> first | exact h.elim | exact q0 h
  case makeFunc => unfold vopV vMakeFV at h ⊢; simp only at h ⊢; split at h <;> first | exact h.elim | exact q0 h
  case slice t x lo hi mx =>
    cases mx with
    | some m => exact h
    | none =>
      unfold vopV vSliceV at h ⊢; simp only at h ⊢
      split at h <;> try exact h.elim
      · obtain ⟨h1, h⟩ := h
        refine ⟨h1, ?_⟩
        split at h <;> try exact h.elim
        exact ⟨h.1, h.2.1, h.2.2.1, q0 h.2.2.2⟩
      · split at h <;> try exact h.elim
        obtain ⟨h1, h⟩ := h
        refine ⟨h1, ?_⟩
        split at h <;> try exact h.elim
        exact ⟨h.1, h.2.1, h.2.2.1, q0 h.2.2.2⟩
      · split at h <;> try exact h.elim
        obtain ⟨h1, h⟩ := h
        refine ⟨h1, ?_⟩
        split at h <;> try exact h.elim
        exact ⟨h.1, h.2.1, h.2.2.1, fun e => q0 (h.2.2.2.1 e), fun e => ⟨fun g => q0 ((h.2.2.2.2 e).1 g), fun g => q0 ((h.2.2.2.2 e).2 g)⟩⟩
  case fieldAddr =>
    unfold vopV vFieldAddr at h ⊢; simp only at h ⊢
    split at h <;> try exact h.elim
    split at h <;> try exact h.elim
    obtain ⟨h1, h⟩ := h
    refine ⟨h1, ?_⟩
    split at h <;> first | exact h.elim | exact q0 h
  case field =>
    unfold vopV vField at h ⊢; simp only at h ⊢
    split at h <;> try exact h.elim
    split at h <;> try exact h.elim
    split at h <;> try exact h.elim
    exact ⟨h.1, q0 h.2⟩
  case indexAddr =>
    unfold vopV vIndexAddr at h ⊢; simp only at h ⊢
    split at h <;> try exact h.elim
    split at h <;> try exact h.elim
    · split at h <;> try exact h.elim
      exact ⟨h.1, h.2.1, h.2.2.1, q0 h.2.2.2⟩
    · split at h <;> try exact h.elim
      exact ⟨h.1, h.2.1, h.2.2.1, q0 h.2.2.2⟩
    · split at h <;> try exact h.elim
      split at h <;> try exact h.elim
      exact ⟨h.1, h.2.1, q0 h.2.2⟩
    · split at h <;> try exact h.elim
      split at h <;> try exact h.elim
      exact ⟨h.1, h.2.1, q0 h.2.2⟩
  case index =>
    unfold vopV vIndex at h ⊢; simp only at h ⊢
    split at h <;> try exact h.elim
    split at h <;> try exact h.elim
    · exact ⟨h.1, h.2.1, h.2.2.1, q0 h.2.2.2⟩
    · split at h <;> try exact h.elim
      split at h <;> try exact h.elim
      exact ⟨h.1, h.2.1, h.2.2.1, q0 h.2.2.2⟩
  case extract => unfold vopV vExtract at h ⊢; simp only at h ⊢; split at h <;> first | exact h.elim | exact ⟨h.1, q0 h.2⟩
  case build =>
    unfold vopV vBuild at h ⊢; simp only at h ⊢
    split at h <;> try exact h.elim
    obtain ⟨h1, h⟩ := h
    refine ⟨h1, ?_⟩
    split at h <;> first | exact h.elim | exact q0 h
  case call c =>
    obtain ⟨callee, ⟨xs⟩, ⟨ts⟩⟩ := c
    cases callee <;> try (cases hq; done)
    rename_i b
    cases b <;> try (cases hq; done)
    all_goals (simp only [vopV] at h ⊢; split at h <;> try exact h.elim)
    all_goals (rename_i he; first | (cases he; done) | skip)
    all_goals (first | (unfold vLen at h ⊢; split at h <;> first | exact h.elim | exact ⟨h.1, q0 h.2⟩ | exact ⟨h.1, h.2.1, q0 h.2.2⟩) | (unfold vMinMax at h ⊢; split at h <;> first | exact h.elim | exact ⟨h.1, q0 h.2⟩))
end
end Go.Proofs.YtfnkciboencifaaDoor
