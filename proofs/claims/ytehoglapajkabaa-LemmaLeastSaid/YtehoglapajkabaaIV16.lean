/-
  The clean machine: regions reckoned value by value.
-/
import Derived.Test.YtehoglapajkabaaIV14
set_option linter.all false
namespace Go.Proofs.Ytehoglapajkabaa
open Go Go.RowKit
def M (hp:List (Nat×Option AO)) (nx:Nat):St:=⟨[],hp,nx,[]⟩
def bndV (d:Nat):Option PV→Option Int
  | none=>some d
  | some v=>match v with | .atom (.int _ n)=>some n|_=>none
def vSliceV (P:Program) (t:TypeId) (a:PV) (lo hi:Option PV) (K:PV→Eff→Prop):Prop:=
  match a with
  | .atom (.string s)=>tStr P t=true∧match bndV 0 lo,bndV s.size hi with
    | some l,some h=>0≤l∧l≤h∧h≤s.size∧K (.atom (.string (s.extract l.toNat h.toNat))) e0
    | _,_=>False
  | .sl sz ls=>match zaN P t with
    | some e=>zaP P e=some sz∧match bndV 0 lo,bndV ls.length hi with
      | some l,some h=>0≤l∧l≤h∧h≤ls.length∧K (.sl sz ((ls.drop l.toNat).take (h.toNat - l.toNat))) e0
      | _,_=>False
    | none=>False
  | .ob i sz off len=>match zaN P t with
    | some e=>zaP P e=some sz∧match bndV 0 lo,bndV len hi with
      | some l,some h=>0≤l∧l≤h∧h≤len∧(l=0→K (.ob i sz off h.toNat) e0)∧(l≠0→(l<h→K (.ob i sz (off+l.toNat) (h.toNat - l.toNat)) e0)∧(l=h→K (.sl sz []) e0))
      | _,_=>False
    | none=>False
  | .atom (.slice none 0 0)=>match zaN P t with
    | some e=>match zaP P e,bndV 0 lo,bndV 0 hi with
      | some _,some l,some h=>l=0∧h=0∧K (.atom (.slice none 0 0)) e0
      | _,_,_=>False
    | none=>False
  | _=>False
def vBinOV (P:Program) (op:BinOp) (t:TypeId) (y:Operand) (a b:PV) (K:PV→Eff→Prop):Prop:=
  match op,zjx y with
  | .eql,true=>match zh7 a,zaN P t with|some b,some _=>K (.atom (.bool b)) e0|_,_=>False
  | .neq,true=>match zh7 a,zaN P t with|some b,some _=>K (.atom (.bool (!b))) e0|_,_=>False
  | op,_=>vBin P op t a b K
def vFnV (P:Program) (S:St) (g:PV) (vals:List PV) (K:PV→Eff→Prop):Prop:=
  match g with
  | .fn f cap=>vCall P f ((vals++cap).map (sealed S.obj (fun _=>false) 6)) fun r os=>
      (zf6 (vals++cap) || (r.flatB && os.all fun o=>o.els.all PV.flatB))=true∧K (r.ren (·+S.nx)) ⟨os.map (AO.ren (·+S.nx)),[],[],(vals++cap).flatMap (reach S.obj 6)⟩
  | _=>False
def vFnDV (P:Program) (S:St) (g:PV) (vals:List PV) (K:PV→Eff→Prop):Prop:=
  match g with
  | .fn f cap=>vFnV P S (.fn f cap) vals K∨vProcD P S f (vals++cap) K
  | _=>False
def vFnIV (P:Program) (S:St) (g:PV) (vals:List PV) (K:PV→Eff→Prop):Prop:=
  match g with
  | .fn f cap=>vFnV P S (.fn f cap) vals K∨vProc P S f (vals++cap) K
  | _=>False
def vPick (c x y:PV) (K:PV→Eff→Prop):Prop:=match c with | .atom (.bool t)=>K (bif t then x else y) e0|_=>False
def vBox (nx:Nat) (x:PV) (K:PV→Eff→Prop):Prop:=x.cells.all PV.one=true∧K (.ptr nx x.cells.length 0 0) (mk1 ⟨x.cells.length,[x]⟩)
def vAlloc (P:Program) (t:TypeId) (nx:Nat) (K:PV→Eff→Prop):Prop:=match tzo P t with|some z=>K (.ptr nx z.cells.length 0 0) (mk1 ⟨z.cells.length,[z]⟩)|none=>False
def vBuild (P:Program) (t:TypeId) (ps:List (Nat×PV)) (K:PV→Eff→Prop):Prop:=
  match tzo P t with
  | some z=>zct P t=true∧match zeZ (za7 P t) z.cells ps with|some L=>K (.agg L) e0|none=>False
  | none=>False
def vBuildS (P:Program) (t:TypeId) (n:Nat) (nx:Nat) (ps:List (Nat×PV)) (K:PV→Eff→Prop):Prop:=
  match zaN P t with
  | some e=>match tzo P e with
    | some z=>n * z.cells.length≤16777216∧n≤16777216∧(∀p,p∈ps→p.1<n∧p.2.cells.length=z.cells.length∧p.2.cells.all PV.one=true)∧
        K (.ob nx z.cells.length 0 n) (mk1 ⟨z.cells.length,zce (List.replicate n z) ps⟩)
    | none=>False
  | none=>False
def vNil (a:PV) (K:PV→Eff→Prop):Prop:=match a with | .ptr i sz k c=>K (.ptr i sz k c) e0 | .fptr sz l k c=>K (.fptr sz l k c) e0 | .fn f l=>K (.fn f l) e0|_=>False
def vExtract (a:PV) (k:Nat) (K:PV→Eff→Prop):Prop:=match a with | .tup l=>k<l.length∧K (l.getD k .junk) e0|_=>False
def vMakeFV (fn:Fn) (first:List Operand) (cap:List PV) (K:PV→Eff→Prop):Prop:=
  match fn,first with
  | .func f,[]=>K (.fn f cap) e0
  | _,_=>False
def vopV (P:Program) (op:Op) (ev:Operand→PV) (hp:List (Nat×Option AO)) (nx:Nat) (K:PV→Eff→Prop):Prop:=
  match op with
  | .move x=>K (ev x) e0
  | .assign x=>K (ev x) e0
  | .pick c x y=>vPick (ev c) (ev x) (ev y) K
  | .box _ x=>vBox nx (ev x) K
  | .alloc t=>vAlloc P t nx K
  | .build t ps=>vBuild P t (ps.toList.map fun p=>(p.1,ev p.2)) K
  | .buildSlice t n ps=>vBuildS P t n nx (ps.toList.map fun p=>(p.1,ev p.2)) K
  | .load t a=>vLoad P t (M hp nx) (ev a) K
  | .store t a v=>vStore P t (M hp nx) (ev a) (ev v) K
  | .nilCheck a=>vNil (ev a) K
  | .binOp op t x y _=>vBinOV P op t y (ev x) (ev y) K
  | .unOp op _ x=>vUn op (ev x) K
  | .convert t t' x=>vConvert P t t' (M hp nx) (ev x) K
  | .makeFunc fn first cap=>vMakeFV fn first.toList (cap.toList.map ev) K
  | .makeSlice t x y=>vMake P t (M hp nx) (ev x) (ev y) K
  | .slice t x lo hi none=>vSliceV P t (ev x) (lo.map ev) (hi.map ev) K
  | .fieldAddr t x f=>vFieldAddr P t f (ev x) K
  | .field t x f=>vField P t f (ev x) K
  | .indexAddr t x i=>vIndexAddr P t (ev x) (ev i) K
  | .index t x i=>vIndex P t (ev x) (ev i) K
  | .extract x k=>vExtract (ev x) k K
  | .call c=>match c.callee,c.args.toList,c.argTypes.toList with
    | .builtin .len,[x],[t]=>vLen P t (M hp nx) (ev x) K
    | .builtin .append,[x,y],[t,t']=>t=t'∧vAppend P t (M hp nx) (ev x) (ev y) K
    | .builtin .min,[x,y],_=>vMinMax false (ev x) (ev y) K
    | .builtin .max,[x,y],_=>vMinMax true (ev x) (ev y) K
    | .builtin .clear,[x],[t]=>vClear P t (M hp nx) (ev x) K
    | .value g,xs,_=>vFnDV P (M hp nx) (ev g) (xs.map ev) K
    | _,_,_=>False
  | .lookup t x y c=>vLookup P t (M hp nx) (ev x) (ev y) c K
  | .mapUpdate t x y u=>vUpdate P t (M hp nx) (ev x) (ev y) (ev u) K
  | .makeMap _ r=>vMakeMap r nx K
  | .range t x=>vRange P t (ev x) nx K
  | .entry x=>vEntry (M hp nx) (ev x) K
  | _=>False
def vopVI (P:Program) (op:Op) (ev:Operand→PV) (hp:List (Nat×Option AO)) (nx:Nat) (K:PV→Eff→Prop):Prop:=
  match op with
  | .call c=>match c.callee with
    | .value g=>vFnIV P (M hp nx) (ev g) (c.args.toList.map ev) K
    | _=>vopV P (.call c) ev hp nx K
  | .next x false=>vNext (M hp nx) (ev x) K
  | op=>vopV P op ev hp nx K
section
variable {P:Program} {S:St} {K:PV→Eff→Prop}
theorem bndV_bnd{d:Nat}{x:Option Operand}:bndV d (x.map S.ev)=bnd S d x:=by cases x<;>rfl
theorem vProcD_M{f:FuncId}{vals:List PV}(h:vProcD P (M S.hp S.nx) f vals K):vProcD P S f vals K:=by
  obtain⟨L,args,hp,r,hp',os,set',h1,hl,h0,h2,h3⟩:=h
  exact⟨L,args,hp,r,hp',os,set',h1,⟨hl.nodup,hl.len,hl.args,hl.objs⟩,h0,h2,h3⟩
theorem vFnDV_to{g:PV}{xs:List Operand}(h:vFnDV P (M S.hp S.nx) g (xs.map S.ev) K):vFnD P S g xs K:=by
  cases g<;>first|exact h|exact h.imp id vProcD_M
theorem zcG{op:Op}(h:vopV P op S.ev S.hp S.nx K):∃r e,Sound P op S r e∧K r e:=by
  refine zom ?_
  cases op with
  | slice t x lo hi mx=>
    cases mx with
    | none=>simp only[vopV,vSliceV,bndV_bnd] at h;exact h
    | some m=>exact h
  | call c=>
    obtain⟨callee,⟨xs⟩,⟨ts⟩⟩:=c
    simp only[vopV] at h
    simp only[vop,vCallO]
    split at h<;>try exact h.elim
    all_goals first|exact h|exact vFnDV_to h
  | _=>exact h
theorem vProc_M{f:FuncId}{vals:List PV}(h:vProc P (M S.hp S.nx) f vals K):vProc P S f vals K:=by
  obtain⟨L,n,args,hp,r,hp',os,h1,hl,h2,h3⟩:=h
  exact⟨L,n,args,hp,r,hp',os,h1,⟨hl.nodup,hl.len,hl.args,hl.objs⟩,h2,h3⟩
theorem vFnIV_to{g:PV}{xs:List Operand}(h:vFnIV P (M S.hp S.nx) g (xs.map S.ev) K):vFnI P S g xs K:=by
  cases g<;>first|exact h|exact h.imp id vProc_M
theorem zgk{op:Op}(h:vopVI P op S.ev S.hp S.nx K):∃R:PV→Eff→Prop,SoundR P op S R∧∀r e,R r e→K r e:=by
  have base:∀op,vopV P op S.ev S.hp S.nx K→∃R:PV→Eff→Prop,SoundR P op S R∧∀r e,R r e→K r e:=fun op h=>by
    obtain⟨r,e,h1,h2⟩:=zcG h
    exact one_R ⟨r,e,h1.toI,h2⟩
  cases op with
  | call c=>
    obtain⟨callee,xs,ts⟩:=c
    cases callee with
    | value g=>exact one_R (zmO (vFnIV_to h))
    | _=>exact base _ h
  | next x s=>
    cases s with
    | false=>exact zke h
    | true=>exact base _ h
  | _=>exact base _ h
def zj7 (e:Eff):Prop:=e.add=[]∧e.del=[]∧e.set=[]
def zea:Op→Bool
  | .move _ | .assign _ | .pick _ _ _ | .load _ _ | .nilCheck _ | .binOp _ _ _ _ _ | .unOp _ _ _ | .makeFunc _ _ _ | .slice _ _ _ _ _ | .fieldAddr _ _ _ | .field _ _ _ | .indexAddr _ _ _ | .index _ _ _ | .extract _ _ | .build _ _ | .lookup _ _ _ _ | .entry _=>true
  | .call c=>match c.callee with | .builtin .len | .builtin .min | .builtin .max=>true|_=>false
  | _=>false
theorem q0{r:PV}(h:K r e0):K r e0∧zj7 e0:=⟨h,rfl,rfl,rfl⟩
theorem vBin_q{op:BinOp}{t:TypeId}{a b:PV}(h:vBin P op t a b K):vBin P op t a b (fun r e=>K r e∧zj7 e):=by
  unfold vBin at h ⊢
  split at h
  · rename_i u v
    split at h
    · exact⟨h.1,h.2.1,q0 h.2.2⟩
    · exact⟨h.1,h.2.1,q0 h.2.2⟩
    · exact⟨h.1,q0 h.2⟩
    · exact⟨h.1,q0 h.2⟩
    · exact⟨h.1,q0 h.2⟩
    · exact⟨h.1,q0 h.2⟩
    · exact⟨h.1,q0 h.2⟩
    · exact⟨h.1,q0 h.2⟩
    · exact⟨h.1,q0 h.2⟩
    · split at h<;>try exact h.elim
      exact q0 h
  · split at h
    · split at h<;>try exact h.elim
      split at h<;>try exact h.elim
      refine⟨h.1,h.2.1,h.2.2.1,h.2.2.2.1,?_⟩
      have h:=h.2.2.2.2
      split at h
      · exact q0 h
      · exact q0 h
      · exact h.elim
    · split at h<;>try exact h.elim
      split at h<;>try exact h.elim
      split at h
      · exact q0 h
      · exact q0 h
      · exact h.elim
  · refine⟨h.1,?_⟩
    have h:=h.2
    split at h
    · exact q0 h
    · exact q0 h
    · exact h.elim
  · refine⟨h.1,?_⟩
    have h:=h.2
    split at h
    · exact q0 h
    · exact q0 h
    · exact h.elim
  · exact h.elim
theorem zlF{op:Op}{ev:Operand→PV}{hp:List (Nat×Option AO)}{nx:Nat}(hq:zea op=true) (h:vopV P op ev hp nx K):vopV P op ev hp nx (fun r e=>K r e∧zj7 e):=by
  cases op<;>try (cases hq;done)
  case move=>exact q0 h
  case assign=>exact q0 h
  case pick=>unfold vopV vPick at h ⊢;simp only at h ⊢;split at h<;>first|exact h.elim|exact q0 h
  case load=>
    unfold vopV vLoad at h ⊢;simp only at h ⊢
    split at h<;>try exact h.elim
    split at h<;>try exact h.elim
    · split at h<;>try exact h.elim
      exact⟨h.1,h.2.1,h.2.2.1,h.2.2.2,rfl,rfl,rfl⟩
    · exact⟨h.1,h.2.1,q0 h.2.2⟩
  case nilCheck=>unfold vopV vNil at h ⊢;simp only at h ⊢;split at h<;>first|exact h.elim|exact q0 h
  case binOp op t x y t'=>
    unfold vopV vBinOV at h ⊢;simp only at h ⊢
    split at h
    · split at h<;>first|exact h.elim|exact q0 h
    · split at h<;>first|exact h.elim|exact q0 h
    · exact vBin_q h
  case unOp=>unfold vopV vUn at h ⊢;simp only at h ⊢;split at h<;>first|exact h.elim|exact q0 h
  case makeFunc=>unfold vopV vMakeFV at h ⊢;simp only at h ⊢;split at h<;>first|exact h.elim|exact q0 h
  case slice t x lo hi mx=>
    cases mx with
    | some m=>exact h
    | none=>
      unfold vopV vSliceV at h ⊢;simp only at h ⊢
      split at h<;>try exact h.elim
      · obtain⟨h1,h⟩:=h
        refine⟨h1,?_⟩
        split at h<;>try exact h.elim
        exact⟨h.1,h.2.1,h.2.2.1,q0 h.2.2.2⟩
      · split at h<;>try exact h.elim
        obtain⟨h1,h⟩:=h
        refine⟨h1,?_⟩
        split at h<;>try exact h.elim
        exact⟨h.1,h.2.1,h.2.2.1,q0 h.2.2.2⟩
      · split at h<;>try exact h.elim
        obtain⟨h1,h⟩:=h
        refine⟨h1,?_⟩
        split at h<;>try exact h.elim
        exact⟨h.1,h.2.1,h.2.2.1,fun e=>q0 (h.2.2.2.1 e),fun e=>⟨fun g=>q0 ((h.2.2.2.2 e).1 g),fun g=>q0 ((h.2.2.2.2 e).2 g)⟩⟩
      · split at h<;>try exact h.elim
        split at h<;>try exact h.elim
        exact⟨h.1,h.2.1,q0 h.2.2⟩
  case fieldAddr=>
    unfold vopV vFieldAddr at h ⊢;simp only at h ⊢
    split at h<;>try exact h.elim
    split at h<;>try exact h.elim
    obtain⟨h1,h⟩:=h
    refine⟨h1,?_⟩
    split at h<;>first|exact h.elim|exact q0 h
  case field=>
    unfold vopV vField at h ⊢;simp only at h ⊢
    split at h<;>try exact h.elim
    split at h<;>try exact h.elim
    split at h<;>try exact h.elim
    exact⟨h.1,q0 h.2⟩
  case indexAddr=>
    unfold vopV vIndexAddr at h ⊢;simp only at h ⊢
    split at h<;>try exact h.elim
    split at h<;>try exact h.elim
    · split at h<;>try exact h.elim
      exact⟨h.1,h.2.1,h.2.2.1,q0 h.2.2.2⟩
    · split at h<;>try exact h.elim
      exact⟨h.1,h.2.1,h.2.2.1,q0 h.2.2.2⟩
    · split at h<;>try exact h.elim
      split at h<;>try exact h.elim
      exact⟨h.1,h.2.1,q0 h.2.2⟩
    · split at h<;>try exact h.elim
      split at h<;>try exact h.elim
      exact⟨h.1,h.2.1,q0 h.2.2⟩
  case index=>
    unfold vopV vIndex at h ⊢;simp only at h ⊢
    split at h<;>try exact h.elim
    split at h<;>try exact h.elim
    · exact⟨h.1,h.2.1,h.2.2.1,q0 h.2.2.2⟩
    · split at h<;>try exact h.elim
      split at h<;>try exact h.elim
      exact⟨h.1,h.2.1,h.2.2.1,q0 h.2.2.2⟩
  case extract=>unfold vopV vExtract at h ⊢;simp only at h ⊢;split at h<;>first|exact h.elim|exact⟨h.1,q0 h.2⟩
  case build=>
    unfold vopV vBuild at h ⊢;simp only at h ⊢
    split at h<;>try exact h.elim
    obtain⟨h1,h⟩:=h
    refine⟨h1,?_⟩
    split at h<;>first|exact h.elim|exact q0 h
  case entry x=>
    unfold vopV vEntry at h ⊢;simp only at h ⊢
    split at h<;>try exact h.elim
    split at h<;>try exact h.elim
    split at h<;>try exact h.elim
    exact⟨h,rfl,rfl,rfl⟩
  case lookup t x y c=>
    unfold vopV vLookup at h ⊢;simp only at h ⊢
    split at h<;>try exact h.elim
    split at h<;>try exact h.elim
    split at h<;>try exact h.elim
    · split at h<;>try exact h.elim
      obtain⟨res,h1,h2⟩:=h
      exact⟨res,h1,h2,rfl,rfl,rfl⟩
    · obtain⟨res,h1,h2⟩:=h
      exact⟨res,h1,q0 h2⟩
    · exact⟨h.1,h.2.1,q0 h.2.2⟩
  case call c=>
    obtain⟨callee,⟨xs⟩,⟨ts⟩⟩:=c
    cases callee<;>try (cases hq;done)
    rename_i b
    cases b<;>try (cases hq;done)
    all_goals (simp only[vopV] at h ⊢;split at h<;>try exact h.elim)
    all_goals (rename_i he;first|(cases he;done)|skip)
    all_goals (first|(unfold vLen at h ⊢;split at h<;>first|exact h.elim|exact⟨h.1,q0 h.2⟩|exact⟨h.1,h.2.1,q0 h.2.2⟩|(split at h<;>first|exact h.elim|exact q0 h|exact⟨h,rfl,rfl,rfl⟩))|(unfold vMinMax at h ⊢;split at h<;>first|exact h.elim|exact⟨h.1,q0 h.2⟩))
end
def pvU:PV:=.atom (.tuple #[])
def St.put (S:St) (dst:Option Tmp) (r:PV):St:=⟨match dst with|some d=>(d,r) :: S.env|none=>S.env,S.hp,S.nx,S.gh⟩
theorem zfw{S:St}{dst:Option Tmp}{r:PV}{e:Eff}(h:zj7 e):S.fin dst r e=S.put dst r:=by
  obtain⟨add,del,set,rd⟩:=e
  obtain⟨h1,h2,h3⟩:=h
  simp only at h1 h2 h3
  subst h1;subst h2;subst h3
  rfl
/- What an operation asks, sealed: the kernel compares these by their parts and does not look behind them. -/
structure XvLoad (P:Program) (t:TypeId) (S:St) (a:PV) (K:PV→Eff→Prop):Prop where
  out:vLoad P t S a K
theorem zrF{P:Program}{t:TypeId}{S:St}{a:PV}{K:PV→Eff→Prop}:XvLoad P t S a K=vLoad P t S a K:=propext ⟨XvLoad.out,XvLoad.mk⟩
structure XvStore (P:Program) (t:TypeId) (S:St) (a v:PV) (K:PV→Eff→Prop):Prop where
  out:vStore P t S a v K
theorem zn7{P:Program}{t:TypeId}{S:St}{a v:PV}{K:PV→Eff→Prop}:XvStore P t S a v K=vStore P t S a v K:=propext ⟨XvStore.out,XvStore.mk⟩
structure XvFieldAddr (P:Program) (t:TypeId) (f:Nat) (a:PV) (K:PV→Eff→Prop):Prop where
  out:vFieldAddr P t f a K
theorem zhe{P:Program}{t:TypeId}{f:Nat}{a:PV}{K:PV→Eff→Prop}:XvFieldAddr P t f a K=vFieldAddr P t f a K:=propext ⟨XvFieldAddr.out,XvFieldAddr.mk⟩
structure XvField (P:Program) (t:TypeId) (f:Nat) (a:PV) (K:PV→Eff→Prop):Prop where
  out:vField P t f a K
theorem zoa{P:Program}{t:TypeId}{f:Nat}{a:PV}{K:PV→Eff→Prop}:XvField P t f a K=vField P t f a K:=propext ⟨XvField.out,XvField.mk⟩
structure XvIndexAddr (P:Program) (t:TypeId) (a i:PV) (K:PV→Eff→Prop):Prop where
  out:vIndexAddr P t a i K
theorem zhd{P:Program}{t:TypeId}{a i:PV}{K:PV→Eff→Prop}:XvIndexAddr P t a i K=vIndexAddr P t a i K:=propext ⟨XvIndexAddr.out,XvIndexAddr.mk⟩
structure XvIndex (P:Program) (t:TypeId) (a i:PV) (K:PV→Eff→Prop):Prop where
  out:vIndex P t a i K
theorem zn9{P:Program}{t:TypeId}{a i:PV}{K:PV→Eff→Prop}:XvIndex P t a i K=vIndex P t a i K:=propext ⟨XvIndex.out,XvIndex.mk⟩
structure XvBinOV (P:Program) (op:BinOp) (t:TypeId) (y:Operand) (a b:PV) (K:PV→Eff→Prop):Prop where
  out:vBinOV P op t y a b K
theorem zoe{P:Program}{op:BinOp}{t:TypeId}{y:Operand}{a b:PV}{K:PV→Eff→Prop}:XvBinOV P op t y a b K=vBinOV P op t y a b K:=propext ⟨XvBinOV.out,XvBinOV.mk⟩
structure XvUn (op:UnOp) (a:PV) (K:PV→Eff→Prop):Prop where
  out:vUn op a K
theorem XvUn_eq{op:UnOp}{a:PV}{K:PV→Eff→Prop}:XvUn op a K=vUn op a K:=propext ⟨XvUn.out,XvUn.mk⟩
structure XvConvert (P:Program) (t t2:TypeId) (S:St) (a:PV) (K:PV→Eff→Prop):Prop where
  out:vConvert P t t2 S a K
theorem zj4{P:Program}{t t2:TypeId}{S:St}{a:PV}{K:PV→Eff→Prop}:XvConvert P t t2 S a K=vConvert P t t2 S a K:=propext ⟨XvConvert.out,XvConvert.mk⟩
structure XvMake (P:Program) (t:TypeId) (S:St) (a b:PV) (K:PV→Eff→Prop):Prop where
  out:vMake P t S a b K
theorem zrE{P:Program}{t:TypeId}{S:St}{a b:PV}{K:PV→Eff→Prop}:XvMake P t S a b K=vMake P t S a b K:=propext ⟨XvMake.out,XvMake.mk⟩
structure XvSliceV (P:Program) (t:TypeId) (a:PV) (lo hi:Option PV) (K:PV→Eff→Prop):Prop where
  out:vSliceV P t a lo hi K
theorem zlv{P:Program}{t:TypeId}{a:PV}{lo hi:Option PV}{K:PV→Eff→Prop}:XvSliceV P t a lo hi K=vSliceV P t a lo hi K:=propext ⟨XvSliceV.out,XvSliceV.mk⟩
structure XvPick (c x y:PV) (K:PV→Eff→Prop):Prop where
  out:vPick c x y K
theorem zrC{c x y:PV}{K:PV→Eff→Prop}:XvPick c x y K=vPick c x y K:=propext ⟨XvPick.out,XvPick.mk⟩
structure XvBox (nx:Nat) (x:PV) (K:PV→Eff→Prop):Prop where
  out:vBox nx x K
theorem XvBox_eq{nx:Nat}{x:PV}{K:PV→Eff→Prop}:XvBox nx x K=vBox nx x K:=propext ⟨XvBox.out,XvBox.mk⟩
structure XvAlloc (P:Program) (t:TypeId) (nx:Nat) (K:PV→Eff→Prop):Prop where
  out:vAlloc P t nx K
theorem zof{P:Program}{t:TypeId}{nx:Nat}{K:PV→Eff→Prop}:XvAlloc P t nx K=vAlloc P t nx K:=propext ⟨XvAlloc.out,XvAlloc.mk⟩
structure XvBuild (P:Program) (t:TypeId) (ps:List (Nat×PV)) (K:PV→Eff→Prop):Prop where
  out:vBuild P t ps K
theorem zod{P:Program}{t:TypeId}{ps:List (Nat×PV)}{K:PV→Eff→Prop}:XvBuild P t ps K=vBuild P t ps K:=propext ⟨XvBuild.out,XvBuild.mk⟩
structure XvBuildS (P:Program) (t:TypeId) (n nx:Nat) (ps:List (Nat×PV)) (K:PV→Eff→Prop):Prop where
  out:vBuildS P t n nx ps K
theorem zlz{P:Program}{t:TypeId}{n nx:Nat}{ps:List (Nat×PV)}{K:PV→Eff→Prop}:XvBuildS P t n nx ps K=vBuildS P t n nx ps K:=propext ⟨XvBuildS.out,XvBuildS.mk⟩
structure XvNil (a:PV) (K:PV→Eff→Prop):Prop where
  out:vNil a K
theorem XvNil_eq{a:PV}{K:PV→Eff→Prop}:XvNil a K=vNil a K:=propext ⟨XvNil.out,XvNil.mk⟩
structure XvExtract (a:PV) (k:Nat) (K:PV→Eff→Prop):Prop where
  out:vExtract a k K
theorem zj3{a:PV}{k:Nat}{K:PV→Eff→Prop}:XvExtract a k K=vExtract a k K:=propext ⟨XvExtract.out,XvExtract.mk⟩
structure XvMakeFV (fn:Fn) (first:List Operand) (cap:List PV) (K:PV→Eff→Prop):Prop where
  out:vMakeFV fn first cap K
theorem zlx{fn:Fn}{first:List Operand}{cap:List PV}{K:PV→Eff→Prop}:XvMakeFV fn first cap K=vMakeFV fn first cap K:=propext ⟨XvMakeFV.out,XvMakeFV.mk⟩
structure XvLen (P:Program) (t:TypeId) (S:St) (a:PV) (K:PV→Eff→Prop):Prop where
  out:vLen P t S a K
theorem XvLen_eq{P:Program}{t:TypeId}{S:St}{a:PV}{K:PV→Eff→Prop}:XvLen P t S a K=vLen P t S a K:=propext ⟨XvLen.out,XvLen.mk⟩
structure XvClear (P:Program) (t:TypeId) (S:St) (a:PV) (K:PV→Eff→Prop):Prop where
  out:vClear P t S a K
theorem zoc{P:Program}{t:TypeId}{S:St}{a:PV}{K:PV→Eff→Prop}:XvClear P t S a K=vClear P t S a K:=propext ⟨XvClear.out,XvClear.mk⟩
structure XvRange (P:Program) (t:TypeId) (a:PV) (nx:Nat) (K:PV→Eff→Prop):Prop where
  out:vRange P t a nx K
theorem zn8{P:Program}{t:TypeId}{a:PV}{nx:Nat}{K:PV→Eff→Prop}:XvRange P t a nx K=vRange P t a nx K:=propext ⟨XvRange.out,XvRange.mk⟩
structure XvEntry (S:St) (a:PV) (K:PV→Eff→Prop):Prop where
  out:vEntry S a K
theorem zob{S:St}{a:PV}{K:PV→Eff→Prop}:XvEntry S a K=vEntry S a K:=propext ⟨XvEntry.out,XvEntry.mk⟩
structure XvNext (S:St) (a:PV) (K:PV→Eff→Prop):Prop where
  out:vNext S a K
theorem zrD{S:St}{a:PV}{K:PV→Eff→Prop}:XvNext S a K=vNext S a K:=propext ⟨XvNext.out,XvNext.mk⟩
structure XvLookup (P:Program) (t:TypeId) (S:St) (a b:PV) (c:Bool) (K:PV→Eff→Prop):Prop where
  out:vLookup P t S a b c K
theorem zly{P:Program}{t:TypeId}{S:St}{a b:PV}{c:Bool}{K:PV→Eff→Prop}:XvLookup P t S a b c K=vLookup P t S a b c K:=propext ⟨XvLookup.out,XvLookup.mk⟩
structure XvUpdate (P:Program) (t:TypeId) (S:St) (a b v:PV) (K:PV→Eff→Prop):Prop where
  out:vUpdate P t S a b v K
theorem zlu{P:Program}{t:TypeId}{S:St}{a b v:PV}{K:PV→Eff→Prop}:XvUpdate P t S a b v K=vUpdate P t S a b v K:=propext ⟨XvUpdate.out,XvUpdate.mk⟩
structure XvMakeMap (r:Option Operand) (nx:Nat) (K:PV→Eff→Prop):Prop where
  out:vMakeMap r nx K
theorem zj2{r:Option Operand}{nx:Nat}{K:PV→Eff→Prop}:XvMakeMap r nx K=vMakeMap r nx K:=propext ⟨XvMakeMap.out,XvMakeMap.mk⟩
structure XvAppend (P:Program) (t:TypeId) (S:St) (a b:PV) (K:PV→Eff→Prop):Prop where
  out:vAppend P t S a b K
theorem zlA{P:Program}{t:TypeId}{S:St}{a b:PV}{K:PV→Eff→Prop}:XvAppend P t S a b K=vAppend P t S a b K:=propext ⟨XvAppend.out,XvAppend.mk⟩
structure XvMinMax (mx:Bool) (a b:PV) (K:PV→Eff→Prop):Prop where
  out:vMinMax mx a b K
theorem zlw{mx:Bool}{a b:PV}{K:PV→Eff→Prop}:XvMinMax mx a b K=vMinMax mx a b K:=propext ⟨XvMinMax.out,XvMinMax.mk⟩
structure XvFnV (P:Program) (S:St) (g:PV) (vals:List PV) (K:PV→Eff→Prop):Prop where
  out:vFnV P S g vals K
theorem XvFnV_eq{P:Program}{S:St}{g:PV}{vals:List PV}{K:PV→Eff→Prop}:XvFnV P S g vals K=vFnV P S g vals K:=propext ⟨XvFnV.out,XvFnV.mk⟩
structure XvFnDV (P:Program) (S:St) (g:PV) (vals:List PV) (K:PV→Eff→Prop):Prop where
  out:vFnDV P S g vals K
theorem zrH{P:Program}{S:St}{g:PV}{vals:List PV}{K:PV→Eff→Prop}:XvFnDV P S g vals K=vFnDV P S g vals K:=propext ⟨XvFnDV.out,XvFnDV.mk⟩
structure XvFnIV (P:Program) (S:St) (g:PV) (vals:List PV) (K:PV→Eff→Prop):Prop where
  out:vFnIV P S g vals K
theorem zrG{P:Program}{S:St}{g:PV}{vals:List PV}{K:PV→Eff→Prop}:XvFnIV P S g vals K=vFnIV P S g vals K:=propext ⟨XvFnIV.out,XvFnIV.mk⟩
def wopV (P:Program) (op:Op) (ev:Operand→PV) (hp:List (Nat×Option AO)) (nx:Nat) (K:PV→Eff→Prop):Prop:=
  match op with
  | .move x=>K (ev x) e0
  | .assign x=>K (ev x) e0
  | .pick c x y=>XvPick (ev c) (ev x) (ev y) K
  | .box _ x=>XvBox nx (ev x) K
  | .alloc t=>XvAlloc P t nx K
  | .build t ps=>XvBuild P t (ps.toList.map fun p=>(p.1,ev p.2)) K
  | .buildSlice t n ps=>XvBuildS P t n nx (ps.toList.map fun p=>(p.1,ev p.2)) K
  | .load t a=>XvLoad P t (M hp nx) (ev a) K
  | .store t a v=>XvStore P t (M hp nx) (ev a) (ev v) K
  | .nilCheck a=>XvNil (ev a) K
  | .binOp op t x y _=>XvBinOV P op t y (ev x) (ev y) K
  | .unOp op _ x=>XvUn op (ev x) K
  | .convert t t' x=>XvConvert P t t' (M hp nx) (ev x) K
  | .makeFunc fn first cap=>XvMakeFV fn first.toList (cap.toList.map ev) K
  | .makeSlice t x y=>XvMake P t (M hp nx) (ev x) (ev y) K
  | .slice t x lo hi none=>XvSliceV P t (ev x) (lo.map ev) (hi.map ev) K
  | .fieldAddr t x f=>XvFieldAddr P t f (ev x) K
  | .field t x f=>XvField P t f (ev x) K
  | .indexAddr t x i=>XvIndexAddr P t (ev x) (ev i) K
  | .index t x i=>XvIndex P t (ev x) (ev i) K
  | .extract x k=>XvExtract (ev x) k K
  | .call c=>match c.callee,c.args.toList,c.argTypes.toList with
    | .builtin .len,[x],[t]=>XvLen P t (M hp nx) (ev x) K
    | .builtin .append,[x,y],[t,t']=>t=t'∧XvAppend P t (M hp nx) (ev x) (ev y) K
    | .builtin .min,[x,y],_=>XvMinMax false (ev x) (ev y) K
    | .builtin .max,[x,y],_=>XvMinMax true (ev x) (ev y) K
    | .builtin .clear,[x],[t]=>XvClear P t (M hp nx) (ev x) K
    | .value g,xs,_=>XvFnDV P (M hp nx) (ev g) (xs.map ev) K
    | _,_,_=>False
  | .lookup t x y c=>XvLookup P t (M hp nx) (ev x) (ev y) c K
  | .mapUpdate t x y u=>XvUpdate P t (M hp nx) (ev x) (ev y) (ev u) K
  | .makeMap _ r=>XvMakeMap r nx K
  | .range t x=>XvRange P t (ev x) nx K
  | .entry x=>XvEntry (M hp nx) (ev x) K
  | _=>False
def wopVI (P:Program) (op:Op) (ev:Operand→PV) (hp:List (Nat×Option AO)) (nx:Nat) (K:PV→Eff→Prop):Prop:=
  match op with
  | .call c=>match c.callee with
    | .value g=>XvFnIV P (M hp nx) (ev g) (c.args.toList.map ev) K
    | _=>wopV P (.call c) ev hp nx K
  | .next x false=>XvNext (M hp nx) (ev x) K
  | op=>wopV P op ev hp nx K
theorem zdE{P:Program}{op:Op}{ev:Operand→PV}{hp:List (Nat×Option AO)}{nx:Nat}{K:PV→Eff→Prop}(h:wopV P op ev hp nx K):vopV P op ev hp nx K:=by
  cases op with
  | slice t x lo hi mx=>
    cases mx with
    | none=>exact h.out
    | some m=>exact h
  | call c=>
    obtain⟨callee,⟨xs⟩,⟨ts⟩⟩:=c
    simp only[wopV] at h
    simp only[vopV]
    split at h<;>first|exact h.elim|exact h.out|exact⟨h.1,h.2.out⟩
  | _=>first|exact h|exact h.out|exact h.elim
theorem zlE{P:Program}{op:Op}{ev:Operand→PV}{hp:List (Nat×Option AO)}{nx:Nat}{K:PV→Eff→Prop}(h:wopVI P op ev hp nx K):vopVI P op ev hp nx K:=by
  cases op with
  | call c=>
    obtain⟨callee,xs,ts⟩:=c
    cases callee with
    | value g=>exact h.out
    | builtin b=>exact zdE (show wopV P (.call ⟨.builtin b,xs,ts⟩) ev hp nx K from h)
    | invoke r m=>exact zdE (show wopV P (.call ⟨.invoke r m,xs,ts⟩) ev hp nx K from h)
  | next x s=>
    cases s with
    | false=>exact h.out
    | true=>exact h.elim
  | _=>(first|exact @zdE P (.move _) ev hp nx K h|exact @zdE P (.assign _) ev hp nx K h|exact h.out|exact h.elim|(rename_i lo hi mx;cases mx;exact h.out;exact h.elim))
def gq (v:PV) (want:Bool) (run:(PV→Prop)→Prop) (k:PV→PV→Prop):Prop:=
  match v with
  | .atom (.bool b)=>xG b want (run (k (.atom (.bool want)))) (k (.atom (.bool (!want))) pvU)
  | .atom (.tuple vs)=>k (.atom (.tuple vs)) pvU
  | _=>False
def ge (v:PV) (want:Bool) (run:(PV→Eff→Prop)→Prop) (k:PV→PV→Eff→Prop):Prop:=
  match v with
  | .atom (.bool b)=>xG b want (run (k (.atom (.bool want)))) (k (.atom (.bool (!want))) pvU e0)
  | .atom (.tuple vs)=>k (.atom (.tuple vs)) pvU e0
  | _=>False
structure Xgq (v:PV) (want:Bool) (run:(PV→Prop)→Prop) (k:PV→PV→Prop):Prop where
  out:gq v want run k
structure Xge (v:PV) (want:Bool) (run:(PV→Eff→Prop)→Prop) (k:PV→PV→Eff→Prop):Prop where
  out:ge v want run k
theorem zj5{v:PV}{want:Bool}{run:(PV→Prop)→Prop}{k:PV→PV→Prop}:Xgq v want run k=gq v want run k:=propext ⟨Xgq.out,Xgq.mk⟩
theorem zj6{v:PV}{want:Bool}{run:(PV→Eff→Prop)→Prop}{k:PV→PV→Eff→Prop}:Xge v want run k=ge v want run k:=propext ⟨Xge.out,Xge.mk⟩
theorem gq_cases{ops:Array Oper}{S0 S:St}{o:Oper}{j:Nat}{want:Bool}{d:Tmp}{run:(PV→Prop)→Prop}{k:PV→PV→Prop}(hS:SEq S0 S) (hg:o.guard=some (j,want)) (hd:(ops[j]?).bind (·.dst)=some d) (h:gq (S.get d) want run k):
    ∃g,S.get d=g∧((zfu ops S0 o true∧run (k g))∨(zfu ops S0 o false∧k g pvU)):=by
  unfold gq at h
  split at h
  · rename_i b hs
    by_cases hb:b=want
    · subst hb;exact⟨_,hs,.inl ⟨.inr ⟨j,b,d,hg,hd,by rw[hS.get];exact hs⟩,h.1 rfl⟩⟩
    · have hb':b = !want:=by cases b<;>cases want<;>simp_all
      subst hb'
      exact⟨_,hs,.inr ⟨⟨j,want,d,hg,hd,.inl (by rw[hS.get];exact hs)⟩,h.2 rfl⟩⟩
  · rename_i vs hs
    exact⟨_,hs,.inr ⟨⟨j,want,d,hg,hd,.inr ⟨vs,by rw[hS.get];exact hs⟩⟩,h⟩⟩
  · exact h.elim
theorem zig{ops:Array Oper}{S0 S:St}{o:Oper}{j:Nat}{want:Bool}{d:Tmp}{run:(PV→Eff→Prop)→Prop}{k:PV→PV→Eff→Prop}(hS:SEq S0 S) (hg:o.guard=some (j,want)) (hd:(ops[j]?).bind (·.dst)=some d) (h:ge (S.get d) want run k):
    ∃g,S.get d=g∧((zfu ops S0 o true∧run (k g))∨(zfu ops S0 o false∧k g pvU e0)):=by
  unfold ge at h
  split at h
  · rename_i b hs
    by_cases hb:b=want
    · subst hb;exact⟨_,hs,.inl ⟨.inr ⟨j,b,d,hg,hd,by rw[hS.get];exact hs⟩,h.1 rfl⟩⟩
    · have hb':b = !want:=by cases b<;>cases want<;>simp_all
      subst hb'
      exact⟨_,hs,.inr ⟨⟨j,want,d,hg,hd,.inl (by rw[hS.get];exact hs)⟩,h.2 rfl⟩⟩
  · rename_i vs hs
    exact⟨_,hs,.inr ⟨⟨j,want,d,hg,hd,.inr ⟨vs,by rw[hS.get];exact hs⟩⟩,h⟩⟩
  · exact h.elim
def yOps (P:Program) (ops:Array Oper):List Oper→St→(St→Prop)→Prop
  | [],S,K=>K S
  | o :: rest,S,K=>
    match o.guard with
    | none=>bif zea o.op then wopV P o.op S.ev S.hp S.nx (fun r _=>yOps P ops rest (S.put o.dst r) K)
        else wopVI P o.op S.ev S.hp S.nx (fun r e=>yOps P ops rest (S.fin o.dst r e) K)
    | some (j,want)=>match (ops[j]?).bind (·.dst) with
      | some d=>bif zea o.op then Xgq (S.get d) want (fun k=>wopV P o.op S.ev S.hp S.nx (fun r _=>k r)) (fun g r=>yOps P ops rest ((S.known d g).put o.dst r) K)
        else Xge (S.get d) want (fun k=>wopVI P o.op S.ev S.hp S.nx k) (fun g r e=>yOps P ops rest ((S.known d g).fin o.dst r e) K)
      | none=>False
theorem zck {P:Program}{ops:Array Oper}{K:St→Prop}:∀(l:List Oper) (S0 S:St),SEq S0 S→yOps P ops l S K→vOps P ops l S0 (fun S1=>∃S',SEq S1 S'∧K S')
  | [],S0,S,hS,h=>⟨S,hS,h⟩
  | o :: rest,S0,S,hS,h=>by
    refine zgm ?_
    unfold yOps at h
    split at h
    · rename_i hg
      left
      refine⟨.inl hg,?_⟩
      cases hq:zea o.op with
      | true=>
        simp only[hq,cond_true,cond_false] at h
        obtain⟨r,e,h1,h2,h3⟩:=zcG (zlF hq (zdE h))
        exact⟨_,(h1.seq hS).toI.toR,fun _ _ ⟨e1,e2⟩=>by rw[e1,e2];exact zck rest _ _ (hS.fin _ _ _) (by rw[zfw h3];exact h2)⟩
      | false=>
        simp only[hq,cond_true,cond_false] at h
        obtain⟨R,h1,h2⟩:=zgk (zlE h)
        exact⟨R,h1.seq hS,fun r e hR=>zck rest _ _ (hS.fin _ _ _) (h2 r e hR)⟩
    · rename_i j want hg
      split at h
      · rename_i d hd
        cases hq:zea o.op with
        | true=>
          simp only[hq,cond_true,cond_false] at h
          obtain⟨g,hgd,⟨hw,h⟩|⟨hw,h⟩⟩:=gq_cases hS hg hd h.out
          · obtain⟨r,e,h1,h2,h3⟩:=zcG (zlF hq (zdE h))
            exact .inl ⟨hw,_,(h1.seq hS).toI.toR,fun _ _ ⟨e1,e2⟩=>by rw[e1,e2];exact zck rest _ _ ((hS.trans (SEq.known hgd)).fin _ _ _) (by rw[zfw h3];exact h2)⟩
          · exact .inr ⟨hw,zck rest _ _ ((hS.trans (SEq.known hgd)).fin _ _ e0) h⟩
        | false=>
          simp only[hq,cond_true,cond_false] at h
          obtain⟨g,hgd,⟨hw,h⟩|⟨hw,h⟩⟩:=zig hS hg hd h.out
          · obtain⟨R,h1,h2⟩:=zgk (zlE h)
            exact .inl ⟨hw,R,h1.seq hS,fun r e hR=>zck rest _ _ ((hS.trans (SEq.known hgd)).fin _ _ _) (h2 r e hR)⟩
          · exact .inr ⟨hw,zck rest _ _ ((hS.trans (SEq.known hgd)).fin _ _ e0) h⟩
      · exact h.elim
def zg3 (P:Program) (ops:Array Oper):List Oper→St→List Tr→(St→List Tr→Prop)→Prop
  | [],S,tr,K=>K S tr
  | o :: rest,S,tr,K=>
    match o.guard with
    | none=>bif zea o.op then wopV P o.op S.ev S.hp S.nx (fun r e=>zg3 P ops rest (S.put o.dst r) (tr++[⟨S.nx,0,e.rd,[],[]⟩]) K)
        else wopV P o.op S.ev S.hp S.nx (fun r e=>zg3 P ops rest (S.fin o.dst r e) (tr++[e.tr S.nx]) K)
    | some (j,want)=>match (ops[j]?).bind (·.dst) with
      | some d=>bif zea o.op then Xge (S.get d) want (fun k=>wopV P o.op S.ev S.hp S.nx k) (fun g r e=>zg3 P ops rest ((S.known d g).put o.dst r) (tr++[⟨S.nx,0,e.rd,[],[]⟩]) K)
        else Xge (S.get d) want (fun k=>wopV P o.op S.ev S.hp S.nx k) (fun g r e=>zg3 P ops rest ((S.known d g).fin o.dst r e) (tr++[e.tr S.nx]) K)
      | none=>False
theorem zlI{e:Eff}{n:Nat}(h:zj7 e):e.tr n=⟨n,0,e.rd,[],[]⟩:=by
  obtain⟨add,del,set,rd⟩:=e
  obtain⟨h1,h2,h3⟩:=h
  simp only at h1 h2 h3
  subst h1;subst h2;subst h3
  rfl
theorem zcf {P:Program}{ops:Array Oper}{K:St→List Tr→Prop}:∀(l:List Oper) (S0 S:St) (tr:List Tr),SEq S0 S→zg3 P ops l S tr K→zhS P ops l S0 tr (fun S1 tr=>∃S',SEq S1 S'∧K S' tr)
  | [],S0,S,tr,hS,h=>⟨S,hS,h⟩
  | o :: rest,S0,S,tr,hS,h=>by
    refine zgm ?_
    unfold zg3 at h
    split at h
    · rename_i hg
      left
      refine⟨.inl hg,?_⟩
      cases hq:zea o.op with
      | true=>
        simp only[hq,cond_true,cond_false] at h
        obtain⟨r,e,h1,h2,h3⟩:=zcG (zlF hq (zdE h))
        exact⟨r,e,h1.seq hS,zcf rest _ _ _ (hS.fin _ _ _) (by rw[zfw h3,zlI h3,hS.nx];exact h2)⟩
      | false=>
        simp only[hq,cond_true,cond_false] at h
        obtain⟨r,e,h1,h3⟩:=zcG (zdE h)
        exact⟨r,e,h1.seq hS,zcf rest _ _ _ (hS.fin _ _ _) (by rw[hS.nx];exact h3)⟩
    · rename_i j want hg
      split at h
      · rename_i d hd
        cases hq:zea o.op with
        | true=>
          simp only[hq,cond_true,cond_false] at h
          obtain⟨g,hgd,⟨hw,h⟩|⟨hw,h⟩⟩:=zig hS hg hd h.out
          · obtain⟨r,e,h1,h2,h3⟩:=zcG (zlF hq (zdE h))
            exact .inl ⟨hw,r,e,h1.seq hS,zcf rest _ _ _ ((hS.trans (SEq.known hgd)).fin _ _ _) (by rw[zfw h3,zlI h3,hS.nx];exact h2)⟩
          · exact .inr ⟨hw,zcf rest _ _ _ ((hS.trans (SEq.known hgd)).fin _ _ e0) (by rw[hS.nx];exact h)⟩
        | false=>
          simp only[hq,cond_true,cond_false] at h
          obtain⟨g,hgd,⟨hw,h⟩|⟨hw,h⟩⟩:=zig hS hg hd h.out
          · obtain⟨r,e,h1,h3⟩:=zcG (zdE h)
            exact .inl ⟨hw,r,e,h1.seq hS,zcf rest _ _ _ ((hS.trans (SEq.known hgd)).fin _ _ _) (by rw[hS.nx];exact h3)⟩
          · exact .inr ⟨hw,zcf rest _ _ _ ((hS.trans (SEq.known hgd)).fin _ _ e0) (by rw[hS.nx];exact h)⟩
      · exact h.elim
theorem zfC{P:Program}{ops:Array Oper}{K K':St→List Tr→Prop}(hK:∀S tr,K S tr→K' S tr):∀(l:List Oper) (S:St) (tr:List Tr),zhS P ops l S tr K→zhS P ops l S tr K'
  | [],S,tr,h=>hK S tr h
  | o :: rest,S,tr,h=>by
    refine zgm ?_
    rcases zem h with ⟨hg,r,e,h1,h3⟩|⟨hg,h3⟩
    · exact .inl ⟨hg,r,e,h1,zfC hK rest _ _ h3⟩
    · exact .inr ⟨hg,zfC hK rest _ _ h3⟩
def St.pick (S:St) (l:List Nat):St:=⟨l.map fun s=>(s,S.get s),S.hp,S.nx,S.gh⟩
theorem pick_get (S:St) (l:List Nat) (s:Nat):(S.pick l).get s=S.get s∨(S.pick l).get s=.junk:=by
  show(lk (l.map fun s=>(s,S.get s)) s).getD .junk=_∨(lk (l.map fun s=>(s,S.get s)) s).getD .junk=.junk
  induction l with
  | nil=>exact .inr rfl
  | cons a l ih=>
    simp only[List.map_cons,lk]
    by_cases h:a=s
    · subst h;left;simp
    · rw[if_neg h];exact ih
theorem Sim.pick{w0:Home}{F0 D:Nat→Prop}{μ:Nat→Option Nat}{F:Nat→Prop}{G:List Value}{S:St}{n:Nat}{a:Act}{w:World}(h:Sim w0 F0 D μ F G S n a w) (l:List Nat):Sim w0 F0 D μ F G (S.pick l) n a w:=
  ⟨h.defers,h.size,fun s=>by rcases pick_get S l s with e|e<;>rw[e];exact h.env s;exact .junk _,h.heap,h.ids,h.ghl,h.gh⟩
section
variable {P:Program} {n:Nat} {S:St} {Q:Exit→St→Prop}
theorem Tri.regY{id:Nat}{l:List Oper}(live:List Nat) (T:St→(St→Prop)→Prop) (hd:zf7 n l=true) (hT:∀K,yOps P l.toArray l S (fun S1=>K (S1.pick live))=T S K) (h:∀K:St→Prop,(∀S',Q .normal S'→K S')→T S K):
    Tri P n (.region id l.toArray false) S Q:=fun w0 F0 D μ F G a w hS=>
  wp_region_list (zdM l S D μ F a w (zfQ hd) (zck _ _ _ (SEq.refl S) (by rw[hT];exact h _ (fun _ h=>h))) hS fun S1 D' μ' F' a' w' ⟨S2,he,hK⟩ hS'=>⟨S2.pick live,D',μ',F',hK,(hS'.seq he).pick live⟩)
theorem Tri.seqY{id:Nat}{l:List Oper}{y:Code}(live:List Nat) (T:St→(St→Prop)→Prop) (hd:zf7 n l=true) (hT:∀K,yOps P l.toArray l S (fun S1=>K (S1.pick live))=T S K) (h:∀K:St→Prop,(∀S',Tri P n y S' Q→K S')→T S K):
    Tri P n (.seq (.region id l.toArray false) y) S Q:=Tri.seq (Tri.regY live T hd hT h)
theorem Tri.regYD{id:Nat}{l:List Oper}(n0:Nat) (live:List Nat) (T:List (List Nat)→St→(St→Prop)→Prop) (hm:P.follows .mixedOrders=true) (hB:zjC l.toArray (zbz l) n0=true) (hd:zf7 n l=true)
    (hT:∀K,zg3 P l.toArray (l.take n0) S [] (fun S1 tr=>trOk S.nx (zbz l) tr=true∧yOps P l.toArray (l.drop n0) S1 (fun S1=>K (S1.pick live)))=T (zbz l) S K) (h:∀K:St→Prop,(∀S',Q .normal S'→K S')→T (zbz l) S K):
    Tri P n (.region id l.toArray true) S Q:=fun w0 F0 D μ F G a w hS=>
  znZ (K:=fun S1=>∃S2,SEq S1 S2∧Q .normal (S2.pick live)) n0 (zbz l) hm hB (zfQ hd) (by
    have:=zcf _ _ _ _ (SEq.refl S) (by rw[hT];exact h _ (fun _ h=>h))
    exact zfC (fun S1 tr ⟨S2,he,hk⟩=>⟨hk.1,zck _ _ _ he hk.2⟩) _ _ _ this) hS fun S1 D' μ' F' a' w' ⟨S2,he,hK⟩ hS'=>⟨S2.pick live,D',μ',F',hK,(hS'.seq he).pick live⟩
theorem Tri.seqYD{id:Nat}{l:List Oper}{y:Code}(n0:Nat) (live:List Nat) (T:List (List Nat)→St→(St→Prop)→Prop) (hm:P.follows .mixedOrders=true) (hB:zjC l.toArray (zbz l) n0=true) (hd:zf7 n l=true)
    (hT:∀K,zg3 P l.toArray (l.take n0) S [] (fun S1 tr=>trOk S.nx (zbz l) tr=true∧yOps P l.toArray (l.drop n0) S1 (fun S1=>K (S1.pick live)))=T (zbz l) S K) (h:∀K:St→Prop,(∀S',Tri P n y S' Q→K S')→T (zbz l) S K):
    Tri P n (.seq (.region id l.toArray true) y) S Q:=Tri.seq (Tri.regYD n0 live T hm hB hd hT h)
end
/- The reckoning does not look at what stands behind an operation before it has come there. -/
@[congr] theorem gq.cong {v v':PV} {want:Bool} {run:(PV→Prop)→Prop} {k:PV→PV→Prop} {tq:Unit→Prop} (hq:∀u:Unit,(True,u).1=tq u) (h:v=v'):gq v want run k=gq v' want run k:=by rw[h]
@[congr] theorem ge.cong {v v':PV} {want:Bool} {run:(PV→Eff→Prop)→Prop} {k:PV→PV→Eff→Prop} {tq:Unit→Prop} (hq:∀u:Unit,(True,u).1=tq u) (h:v=v'):ge v want run k=ge v' want run k:=by rw[h]
@[congr] theorem vSliceV.cong {P:Program} {t:TypeId} {a a':PV} {lo lo' hi hi':Option PV} {K:PV→Eff→Prop} {tq:Unit→Prop} (hq:∀u:Unit,(True,u).1=tq u) (h:a=a') (h1:lo=lo') (h2:hi=hi'):vSliceV P t a lo hi K=vSliceV P t a' lo' hi' K:=by subst h h1 h2;rfl
@[congr] theorem vBinOV.cong {P:Program} {op:BinOp} {t:TypeId} {y:Operand} {a a' b b':PV} {K:PV→Eff→Prop} {tq:Unit→Prop} (hq:∀u:Unit,(True,u).1=tq u) (h:a=a') (h2:b=b'):vBinOV P op t y a b K=vBinOV P op t y a' b' K:=by subst h h2;rfl
@[congr] theorem vFnV.cong {P:Program} {S S':St} {g g':PV} {xs xs':List PV} {K:PV→Eff→Prop} {tq:Unit→Prop} (hq:∀u:Unit,(True,u).1=tq u) (h:S=S') (h1:g=g') (h2:xs=xs'):vFnV P S g xs K=vFnV P S' g' xs' K:=by subst h h1 h2;rfl
@[congr] theorem vFnDV.cong {P:Program} {S S':St} {g g':PV} {xs xs':List PV} {K:PV→Eff→Prop} {tq:Unit→Prop} (hq:∀u:Unit,(True,u).1=tq u) (h:S=S') (h1:g=g') (h2:xs=xs'):vFnDV P S g xs K=vFnDV P S' g' xs' K:=by subst h h1 h2;rfl
@[congr] theorem vFnIV.cong {P:Program} {S S':St} {g g':PV} {xs xs':List PV} {K:PV→Eff→Prop} {tq:Unit→Prop} (hq:∀u:Unit,(True,u).1=tq u) (h:S=S') (h1:g=g') (h2:xs=xs'):vFnIV P S g xs K=vFnIV P S' g' xs' K:=by subst h h1 h2;rfl
@[congr] theorem vPick.cong {c c' x y:PV} {K:PV→Eff→Prop} {tq:Unit→Prop} (hq:∀u:Unit,(True,u).1=tq u) (h:c=c'):vPick c x y K=vPick c' x y K:=by rw[h]
@[congr] theorem vBox.cong {nx nx':Nat} {x x':PV} {K:PV→Eff→Prop} {tq:Unit→Prop} (hq:∀u:Unit,(True,u).1=tq u) (h:nx=nx') (h1:x=x'):vBox nx x K=vBox nx' x' K:=by rw[h,h1]
@[congr] theorem vAlloc.cong {P:Program} {t:TypeId} {nx nx':Nat} {K:PV→Eff→Prop} {tq:Unit→Prop} (hq:∀u:Unit,(True,u).1=tq u) (h:nx=nx'):vAlloc P t nx K=vAlloc P t nx' K:=by rw[h]
@[congr] theorem vBuild.cong {P:Program} {t:TypeId} {ps ps':List (Nat×PV)} {K:PV→Eff→Prop} {tq:Unit→Prop} (hq:∀u:Unit,(True,u).1=tq u) (h:ps=ps'):vBuild P t ps K=vBuild P t ps' K:=by rw[h]
@[congr] theorem vBuildS.cong {P:Program} {t:TypeId} {n nx nx':Nat} {ps ps':List (Nat×PV)} {K:PV→Eff→Prop} {tq:Unit→Prop} (hq:∀u:Unit,(True,u).1=tq u) (h:nx=nx') (h1:ps=ps'):vBuildS P t n nx ps K=vBuildS P t n nx' ps' K:=by rw[h,h1]
@[congr] theorem vRange.cong {P:Program} {t:TypeId} {a a':PV} {nx nx':Nat} {K:PV→Eff→Prop} {tq:Unit→Prop} (hq:∀u:Unit,(True,u).1=tq u) (h:a=a') (h1:nx=nx'):vRange P t a nx K=vRange P t a' nx' K:=by rw[h,h1]
@[congr] theorem vEntry.cong {S S':St} {a a':PV} {K:PV→Eff→Prop} {tq:Unit→Prop} (hq:∀u:Unit,(True,u).1=tq u) (h0:S=S') (h:a=a'):vEntry S a K=vEntry S' a' K:=by rw[h0,h]
@[congr] theorem vNext.cong {S S':St} {a a':PV} {K:PV→Eff→Prop} {tq:Unit→Prop} (hq:∀u:Unit,(True,u).1=tq u) (h0:S=S') (h:a=a'):vNext S a K=vNext S' a' K:=by rw[h0,h]
@[congr] theorem vLookup.cong {P:Program} {t:TypeId} {S S':St} {a a' b b':PV} {c:Bool} {K:PV→Eff→Prop} {tq:Unit→Prop} (hq:∀u:Unit,(True,u).1=tq u) (h0:S=S') (h:a=a') (h1:b=b'):vLookup P t S a b c K=vLookup P t S' a' b' c K:=by rw[h0,h,h1]
@[congr] theorem vClear.cong {P:Program} {t:TypeId} {S S':St} {a a':PV} {K:PV→Eff→Prop} {tq:Unit→Prop} (hq:∀u:Unit,(True,u).1=tq u) (h1:S=S') (h:a=a'):vClear P t S a K=vClear P t S' a' K:=by rw[h1,h]
@[congr] theorem vUpdate.cong {P:Program} {t:TypeId} {S S':St} {a a' b b' v v':PV} {K:PV→Eff→Prop} {tq:Unit→Prop} (hq:∀u:Unit,(True,u).1=tq u) (h0:S=S') (h:a=a') (h1:b=b') (h2:v=v'):vUpdate P t S a b v K=vUpdate P t S' a' b' v' K:=by rw[h0,h,h1,h2]
@[congr] theorem vMakeMap.cong {r:Option Operand} {nx nx':Nat} {K:PV→Eff→Prop} {tq:Unit→Prop} (hq:∀u:Unit,(True,u).1=tq u) (h:nx=nx'):vMakeMap r nx K=vMakeMap r nx' K:=by rw[h]
@[congr] theorem vNil.cong {a a':PV} {K:PV→Eff→Prop} {tq:Unit→Prop} (hq:∀u:Unit,(True,u).1=tq u) (h:a=a'):vNil a K=vNil a' K:=by rw[h]
@[congr] theorem vExtract.cong {a a':PV} {k:Nat} {K:PV→Eff→Prop} {tq:Unit→Prop} (hq:∀u:Unit,(True,u).1=tq u) (h:a=a'):vExtract a k K=vExtract a' k K:=by rw[h]
@[congr] theorem vMakeFV.cong {fn:Fn} {first:List Operand} {cap cap':List PV} {K:PV→Eff→Prop} {tq:Unit→Prop} (hq:∀u:Unit,(True,u).1=tq u) (h:cap=cap'):vMakeFV fn first cap K=vMakeFV fn first cap' K:=by rw[h]
end Go.Proofs.Ytehoglapajkabaa
