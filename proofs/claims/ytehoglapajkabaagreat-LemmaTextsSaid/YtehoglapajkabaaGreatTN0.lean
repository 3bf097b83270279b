/-
  The clean machine runs by itself: regions,code,functions.
-/
import Derived.Test.YtehoglapajkabaaGreatTV17
import Derived.Scope
import Derived.Test.YtehoglapajkabaaGreatTM0
import Derived.Test.YtehoglapajkabaaGreatProg
import Derived.Test.YtehoglapajkabaaGreatTA12
set_option linter.all false
namespace Go.Proofs.YtehoglapajkabaaGreat
open Go Go.RowKit
def pvT:PV:=.atom (.tuple #[])
noncomputable def zf6 (ops:Array Oper) (es:ES) (o:Oper):Option Bool:=
  match o.guard with
  | none=>some true
  | some (j,want)=>match (ops[j]?).bind (·.dst) with
    | some d=>match es.get d with
      | .atom (.bool b)=>some (b == want)
      | .atom (.tuple _)=>some false
      | _=>none
    | none=>none
section
variable (P:Program) (call:zbt) (ops:Array Oper)
noncomputable def gOps:List Oper→ES→Option ES
  | [],es=>some es
  | o :: rest,es=>match zf6 ops es o with
    | some true=>match gopI P call o.op es.ev es.obj es.nx with
      | some (r,e)=>bif ze1 es.nx o.dst e then gOps rest (es.fin o.dst r e) else none
      | none=>none
    | some false=>bif ze1 es.nx o.dst e0 then gOps rest (es.fin o.dst pvT e0) else none
    | none=>none
noncomputable def zsC:List Oper→ES→List Tr→Option (ES×List Tr)
  | [],es,tr=>some (es,tr)
  | o :: rest,es,tr=>match zf6 ops es o with
    | some true=>match gop P call o.op es.ev es.obj es.nx with
      | some (r,e)=>bif ze1 es.nx o.dst e then zsC rest (es.fin o.dst r e) (tr++[e.tr es.nx]) else none
      | none=>none
    | some false=>bif ze1 es.nx o.dst e0 then zsC rest (es.fin o.dst pvT e0) (tr++[e0.tr es.nx]) else none
    | none=>none
end
section
variable {P:Program} {call:zbt} {ops:Array Oper}
theorem zdX{es:ES}{S:St}(hS:Rn S es) {o:Oper}{b:Bool}(h:zf6 ops es o=some b):zeZ ops S o b:=by
  unfold zf6 at h
  split at h
  · rename_i hg;cases h;exact .inl hg
  · rename_i j want hg
    split at h<;>try (cases h;done)
    rename_i d hd
    split at h<;>try (cases h;done)
    · rename_i b' hs
      cases h
      by_cases hb:b'=want
      · subst hb
        rw[beq_self_eq_true]
        exact .inr ⟨j,b',d,hg,hd,by rw[hS.get];exact hs⟩
      · have e:(b' == want)=false:=by cases b'<;>cases want<;>simp_all
        rw[e]
        exact⟨j,want,d,hg,hd,.inl (by rw[hS.get,hs];cases b'<;>cases want<;>simp_all)⟩
    · rename_i vs hs
      cases h
      exact⟨j,want,d,hg,hd,.inr ⟨vs,by rw[hS.get];exact hs⟩⟩
theorem ziZ (hc:zbo P call):∀(l:List Oper) (es es':ES) (S:St) (K:St→Prop),gOps P call ops l es=some es'→Rn S es→(∀S',Rn S' es'→S'.gh=S.gh→K S')→vOps P ops l S K
  | [],es,es',S,K,h,hS,hK=>by cases h;exact hK S hS rfl
  | o :: rest,es,es',S,K,h,hS,hK=>by
    rw[gOps] at h
    refine zd8 ?_
    split at h<;>try (cases h;done)
    · rename_i hg
      split at h<;>try (cases h;done)
      rename_i r e hop
      cases hf:ze1 es.nx o.dst e with
      | false=>rw[hf] at h;cases h
      | true=>
        rw[hf,cond_true] at h
        rw[←hS.ev,←hS.obj,←hS.nx] at hop
        obtain⟨R,h1,h2⟩:=zeS (gopI_ok (K:=fun r' e'=>r'=r∧e'=e) hc hop ⟨rfl,rfl⟩)
        refine .inl ⟨zdX hS hg,R,h1,fun r' e' hR=>?_⟩
        obtain⟨rfl,rfl⟩:=h2 r' e' hR
        exact ziZ hc rest _ es' _ K h (hS.fin hf) (fun S' h3 h4=>hK S' h3 h4)
    · rename_i hg
      cases hf:ze1 es.nx o.dst e0 with
      | false=>rw[hf] at h;cases h
      | true=>
        rw[hf,cond_true] at h
        exact .inr ⟨zdX hS hg,ziZ hc rest _ es' _ K h (hS.fin hf) (fun S' h3 h4=>hK S' h3 h4)⟩
theorem zi0 (hc:zbo P call):∀(l:List Oper) (es es':ES) (tr tr':List Tr) (S:St) (K:St→List Tr→Prop),zsC P call ops l es tr=some (es',tr')→Rn S es→(∀S',Rn S' es'→S'.gh=S.gh→K S' tr')→zgv P ops l S tr K
  | [],es,es',tr,tr',S,K,h,hS,hK=>by cases h;exact hK S hS rfl
  | o :: rest,es,es',tr,tr',S,K,h,hS,hK=>by
    rw[zsC] at h
    refine zd8 ?_
    split at h<;>try (cases h;done)
    · rename_i hg
      split at h<;>try (cases h;done)
      rename_i r e hop
      cases hf:ze1 es.nx o.dst e with
      | false=>rw[hf] at h;cases h
      | true=>
        rw[hf,cond_true] at h
        rw[←hS.ev,←hS.obj,←hS.nx] at hop
        obtain⟨r',e',h1,h2⟩:=zch (zsv (K:=fun r' e'=>r'=r∧e'=e) hc hop ⟨rfl,rfl⟩)
        obtain⟨rfl,rfl⟩:=h2
        exact .inl ⟨zdX hS hg,_,_,h1,by rw[hS.nx];exact zi0 hc rest _ es' _ tr' _ K h (hS.fin hf) (fun S' h3 h4=>hK S' h3 h4)⟩
    · rename_i hg
      cases hf:ze1 es.nx o.dst e0 with
      | false=>rw[hf] at h;cases h
      | true=>
        rw[hf,cond_true] at h
        exact .inr ⟨zdX hS hg,by rw[hS.nx];exact zi0 hc rest _ es' _ tr' _ K h (hS.fin hf) (fun S' h3 h4=>hK S' h3 h4)⟩
end
def n0St:List Oper→Nat
  | []=>0
  | o :: l=>match o.op with | .store _ _ _=>0|_=>n0St l+1
def n0Of (l:List Oper):Nat:=bif zgj l.toArray (za9 l) (n0St l) then n0St l else l.length
section
variable (P:Program) (n:Nat) (call:zbt)
noncomputable def zfN (ops:Array Oper) (draw:Bool) (es:ES):Option ES:=
  bif zev n ops.toList then
    bif draw then
      bif zgj ops.toList.toArray (za9 ops.toList) (n0Of ops.toList) then
        match zsC P call ops.toList.toArray (ops.toList.take (n0Of ops.toList)) es [] with
        | some (es1,tr)=>bif trOk es.nx (za9 ops.toList) tr then gOps P call ops.toList.toArray (ops.toList.drop (n0Of ops.toList)) es1 else none
        | none=>none
      else none
    else gOps P call ops.toList.toArray ops.toList es
  else none
end
/- The same, made ready once: the kernel keeps what it has made ready. -/
structure OpS where
  run:ES→Option (PV×Eff)
noncomputable def sMove (x:Operand) (es:ES):Option (PV×Eff):=some (es.ev x,e0)
noncomputable def sLoad (P:Program) (t:TypeId) (a:Operand) (es:ES):Option (PV×Eff):=gLoad P t es.obj (es.ev a)
noncomputable def sStore (P:Program) (t:TypeId) (a v:Operand) (es:ES):Option (PV×Eff):=znn P t es.obj (es.ev a) (es.ev v)
noncomputable def sBin (P:Program) (op:BinOp) (t:TypeId) (x y:Operand) (es:ES):Option (PV×Eff):=gBinO P op t y (es.ev x) (es.ev y)
noncomputable def zoG (P:Program) (t:TypeId) (x i:Operand) (es:ES):Option (PV×Eff):=zeG P t (es.ev x) (es.ev i)
noncomputable def sIndex (P:Program) (t:TypeId) (x i:Operand) (es:ES):Option (PV×Eff):=znp P t (es.ev x) (es.ev i)
noncomputable def sLen (P:Program) (t:TypeId) (x:Operand) (es:ES):Option (PV×Eff):=gLen P t (es.ev x)
noncomputable def sAppend (P:Program) (t t':TypeId) (x y:Operand) (es:ES):Option (PV×Eff):=if t=t' then zi5 P t es.obj es.nx (es.ev x) (es.ev y) else none
noncomputable def sAny (P:Program) (call:zbt) (op:Op) (es:ES):Option (PV×Eff):=gopI P call op es.ev es.obj es.nx
noncomputable def gopS (P:Program) (call:zbt) (op:Op):OpS:=
  match op with
  | .move x=>⟨sMove x⟩
  | .assign x=>⟨sMove x⟩
  | .load t a=>⟨sLoad P t a⟩
  | .store t a v=>⟨sStore P t a v⟩
  | .binOp op t x y _=>⟨sBin P op t x y⟩
  | .indexAddr t x i=>⟨zoG P t x i⟩
  | .index t x i=>⟨sIndex P t x i⟩
  | .call ⟨.builtin .len,⟨[x]⟩,⟨[t]⟩⟩=>⟨sLen P t x⟩
  | .call ⟨.builtin .append,⟨[x,y]⟩,⟨[t,t']⟩⟩=>⟨sAppend P t t' x y⟩
  | op=>⟨sAny P call op⟩
theorem gopS_eq (P:Program) (call:zbt) (op:Op) (es:ES):(gopS P call op).run es=gopI P call op es.ev es.obj es.nx:=by
  unfold gopS
  split<;>rfl
structure StS where
  run:ES→Option ES
noncomputable def sFree (f:ES→Option (PV×Eff)) (dst:Option Tmp) (es:ES):Option ES:=
  match f es with
  | some (r,e)=>bif ze1 es.nx dst e then some (es.fin dst r e) else none
  | none=>none
noncomputable def sGuarded (f:ES→Option (PV×Eff)) (ops:Array Oper) (o:Oper) (es:ES):Option ES:=
  match zf6 ops es o with
  | some true=>sFree f o.dst es
  | some false=>bif ze1 es.nx o.dst e0 then some (es.fin o.dst pvT e0) else none
  | none=>none
noncomputable def zoB (P:Program) (call:zbt) (ops:Array Oper) (o:Oper):StS:=
  match gopS P call o.op with
  | ⟨f⟩=>match o.guard with
    | none=>⟨sFree f o.dst⟩
    | some _=>⟨sGuarded f ops o⟩
theorem stepS_eq (P:Program) (call:zbt) (ops:Array Oper) (o:Oper) (es:ES):(zoB P call ops o).run es=match zf6 ops es o with
    | some true=>sFree (fun es=>gopI P call o.op es.ev es.obj es.nx) o.dst es
    | some false=>bif ze1 es.nx o.dst e0 then some (es.fin o.dst pvT e0) else none
    | none=>none:=by
  have hf:(gopS P call o.op).run=fun es=>gopI P call o.op es.ev es.obj es.nx:=by funext es;exact gopS_eq P call o.op es
  unfold zoB
  cases hg:gopS P call o.op with
  | mk f=>
    rw[hg] at hf
    have hf':f=fun es=>gopI P call o.op es.ev es.obj es.nx:=hf
    subst hf'
    simp only
    cases hgd:o.guard with
    | none=>simp only[zf6,hgd]
    | some x=>rfl
inductive Ch where
  | nil
  | cons (f:ES→Option ES) (t:Ch)
noncomputable def zmn (P:Program) (call:zbt) (ops:Array Oper) (l:List Oper):Ch:=
  List.rec (motive:=fun _=>Ch) .nil (fun o _ ih=>match zoB P call ops o with|⟨f⟩=>.cons f ih) l
noncomputable def zrT (c:Ch):ES→Option ES:=
  Ch.rec (motive:=fun _=>ES→Option ES) (fun es=>some es) (fun f _ ih es=>match f es with|some es'=>ih es'|none=>none) c
theorem zjd (P:Program) (call:zbt) (ops:Array Oper):∀(l:List Oper) (es:ES),zrT (zmn P call ops l) es=gOps P call ops l es
  | [],es=>rfl
  | o :: rest,es=>by
    have e1:zrT (zmn P call ops (o :: rest)) es=match (zoB P call ops o).run es with|some es'=>zrT (zmn P call ops rest) es'|none=>none:=by
      show zrT (match zoB P call ops o with|⟨f⟩=>.cons f (zmn P call ops rest)) es=_
      cases zoB P call ops o;rfl
    rw[e1,gOps,stepS_eq]
    cases zf6 ops es o with
    | none=>rfl
    | some b=>
      cases b with
      | false=>
        simp only
        cases ze1 es.nx o.dst e0 with
        | false=>rfl
        | true=>exact zjd P call ops rest _
      | true=>
        simp only[sFree]
        cases gopI P call o.op es.ev es.obj es.nx with
        | none=>rfl
        | some x=>
          obtain⟨r,e⟩:=x
          simp only
          cases ze1 es.nx o.dst e with
          | false=>rfl
          | true=>exact zjd P call ops rest _
structure RgS where
  run:ES→Option ES
noncomputable def regS (P:Program) (n:Nat) (call:zbt) (ops:Array Oper) (draw:Bool):RgS:=
  bif zev n ops.toList then (bif draw then ⟨zfN P n call ops true⟩ else ⟨zrT (zmn P call ops.toList.toArray ops.toList)⟩) else ⟨fun _=>none⟩
theorem regS_eq (P:Program) (n:Nat) (call:zbt) (ops:Array Oper) (draw:Bool) (es:ES):(regS P n call ops draw).run es=zfN P n call ops draw es:=by
  unfold regS
  cases hd:zev n ops.toList with
  | false=>simp only[cond_false];unfold zfN;rw[hd];rfl
  | true=>
    cases draw with
    | true=>rfl
    | false=>simp only[cond_true,cond_false];rw[zjd];unfold zfN;rw[hd];rfl
noncomputable def zlO (r:RgS) (es:ES):Option (Exit×ES):=match r with|⟨f⟩=>match f es with|some es'=>some (.normal,es')|none=>none
noncomputable def sSeq (a b:ES→Option (Exit×ES)) (es:ES):Option (Exit×ES):=match a es with
    | some (e,es')=>match e with | .normal=>b es'|e=>some (e,es')
    | none=>none
noncomputable def sCond (c:Operand) (x y:ES→Option (Exit×ES)) (es:ES):Option (Exit×ES):=match es.ev c with
    | .atom v=>match v with | .bool t=>bif t then x es else y es|_=>none
    | _=>none
noncomputable def zrO (id:Nat) (c:ES→Option (Exit×ES)) (es:ES):Option (Exit×ES):=match c es with
    | some (e,es')=>match e with | .exit j=>bif Nat.beq j id then some (.normal,es') else some (.exit j,es')|e=>some (e,es')
    | none=>none
noncomputable def zrM (c:ES→Option (Exit×ES)) (es:ES):Option (Exit×ES):=match c es with
    | some (e,es')=>match e with | .goto _=>none|e=>some (e,es')
    | none=>none
noncomputable def gLoop (f:ES→Option (Exit×ES)) (k:Nat):ES→Option (Exit×ES):=
  Nat.rec (motive:=fun _=>ES→Option (Exit×ES)) (fun _=>none) (fun _ ih es=>match f es with
    | some (e,es')=>match e with | .normal=>ih es'|e=>some (e,es')
    | none=>none) k
section
variable (P:Program) (n:Nat) (call:zbt)
noncomputable def zfP (c:Code):ES→Option (Exit×ES):=
  Code.rec (motive:=fun _=>ES→Option (Exit×ES))
    (fun es=>some (.normal,es))
    (fun _ ops draw=>zlO (regS P n call ops draw))
    (fun _ _ a b=>sSeq a b)
    (fun c _ _ x y=>sCond c x y)
    (fun id _ c=>zrO id c)
    (fun _ c=>gLoop c 5000)
    (fun _ _ _ _ _ _ _=>none)
    (fun id es=>some (.exit id,es))
    (fun _ c=>zrM c)
    (fun _ es=>some (.normal,es))
    (fun _ _=>none)
    (fun es=>some (.ret,es))
    (fun _ _=>none) c
end
section
variable {P:Program} {n:Nat} {call:zbt}
theorem Tri.rounds{c:Code}{Q:Exit→St→Prop}(T:Nat→St→Prop) (h0:∀S,¬T 0 S) (h:∀k S,T (k+1) S→Tri P n c S (zpP (T k) Q)):∀k S,T k S→Tri P n (.loop c) S Q:=fun k S hT w0 F0 D μ F G a w hS=>by
  refine wp_loop_rounds k ?_
  induction k generalizing S D μ F a w with
  | zero=>exact absurd hT (h0 S)
  | succ k ih=>
    rw[rounds_succ]
    refine wp_mono (h k S hT w0 F0 D μ F G a w hS) fun e a' w' ⟨S',D',μ',F',h1,h2⟩=>?_
    cases e with
    | normal=>exact ih S' h1 D' μ' F' a' w' h2
    | exit id=>exact⟨S',D',μ',F',h1,h2⟩
    | goto l=>exact⟨S',D',μ',F',h1,h2⟩
    | ret=>exact⟨S',D',μ',F',h1,h2⟩
    | panic ch=>exact⟨S',D',μ',F',h1,h2⟩
    | outgrown=>exact⟨S',D',μ',F',h1,h2⟩
def cameTo (e:Exit) (es:ES) (g:List PV):Exit→St→Prop:=fun e' S'=>e'=e∧Rn S' es∧S'.gh=g
theorem zo3 (hc:zbo P call) (hm:P.follows .mixedOrders=true) {id:Nat}{ops:Array Oper}{draw:Bool}{es es':ES}{S:St}(h:zfN P n call ops draw es=some es') (hS:Rn S es):Tri P n (.region id ops draw) S (cameTo .normal es' S.gh):=by
  unfold zfN at h
  have ho:ops=ops.toList.toArray:=by simp
  cases hd:zev n ops.toList with
  | false=>rw[hd] at h;cases h
  | true=>
    rw[hd,cond_true] at h
    cases draw with
    | false=>
      rw[cond_false] at h
      rw[ho]
      exact Tri.region hd (ziZ hc _ _ _ _ _ h hS fun S' h1 h2=>⟨S',SEq.refl _,rfl,h1,h2⟩)
    | true=>
      rw[cond_true] at h
      cases hg:zgj ops.toList.toArray (za9 ops.toList) (n0Of ops.toList) with
      | false=>rw[hg] at h;cases h
      | true=>
        rw[hg,cond_true] at h
        split at h<;>try (cases h;done)
        rename_i es1 tr h1
        cases ht:trOk es.nx (za9 ops.toList) tr with
        | false=>rw[ht] at h;cases h
        | true=>
          rw[ht,cond_true] at h
          rw[ho]
          refine Tri.draw (n0Of ops.toList) (za9 ops.toList) hm hg hd ?_
          exact zi0 hc _ _ _ _ _ _ _ h1 hS fun S1 g1 g2=>⟨by rw[hS.nx];exact ht,ziZ hc _ _ _ _ _ h g1 fun S' h3 h4=>⟨S',SEq.refl _,rfl,h3,h4.trans g2⟩⟩
def noG (Q:Exit→St→Prop):Exit→St→Prop
  | .goto _,_=>False
  | e,S=>Q e S
theorem Tri.scope{P:Program}{n:Nat}{c:Code}{S:St}{Q:Exit→St→Prop}(h:Tri P n c S (noG Q)):Tri P n (.scope c) S Q:=fun w0 F0 D μ F G a w hS=>
  wp_scope_straight (wp_mono (h w0 F0 D μ F G a w hS) fun e a' w' ⟨S',D',μ',F',h1,h2⟩=>by
    cases e with
    | goto l=>exact h1.elim
    | _=>exact⟨S',D',μ',F',h1,h2⟩)
theorem Tri.label{P:Program}{n l:Nat}{S:St}{Q:Exit→St→Prop}(h:Q .normal S):Tri P n (.label l) S Q:=fun _ _ D μ F _ _ _ hS=>wp_label ⟨S,D,μ,F,h,hS⟩
theorem gCode_ok (hc:zbo P call) (hm:P.follows .mixedOrders=true):∀(c:Code) (es es':ES) (e:Exit) (S:St),zfP P n call c es=some (e,es')→Rn S es→Tri P n c S (cameTo e es' S.gh):=by
  intro c
  induction c with
  | skip=>intro es es' e S h hS;cases h;exact Tri.skip ⟨rfl,hS,rfl⟩
  | label l=>intro es es' e S h hS;cases h;exact Tri.label ⟨rfl,hS,rfl⟩
  | scope c ih=>
    intro es es' e S h hS
    have h:zrM (zfP P n call c) es=some (e,es'):=h
    unfold zrM at h
    split at h
    · rename_i e1 es1 h1
      refine Tri.scope ?_
      have:=ih _ _ _ _ h1 hS
      split at h
      · cases h
      · rename_i hne
        cases h
        refine this.mono fun e' S' hc=>?_
        obtain⟨rfl,h2,h3⟩:=hc
        cases e' with
        | goto l=>exact absurd rfl (hne l)
        | _=>exact⟨rfl,h2,h3⟩
    · cases h
  | region id ops draw=>
    intro es es' e S h hS
    have h:zlO (regS P n call ops draw) es=some (e,es'):=h
    unfold zlO at h
    have he:=regS_eq P n call ops draw es
    cases hr:regS P n call ops draw with
    | mk f=>
      rw[hr] at h he
      simp only at h
      split at h<;>cases h
      rename_i h1
      exact zo3 hc hm (he.symm.trans h1) hS
  | seq a b iha ihb=>
    intro es es' e S h hS
    have h:sSeq (zfP P n call a) (zfP P n call b) es=some (e,es'):=h
    unfold sSeq at h
    refine Tri.seq ?_
    split at h<;>try (cases h;done)
    rename_i e1 es1 h1
    refine Tri.mono (iha es es1 e1 S h1 hS) fun e' S' ⟨q1,q2,q3⟩=>?_
    subst q1
    cases e' with
    | normal=>
      show Tri _ _ _ _ _
      rw[←q3]
      exact ihb es1 es' e S' h q2
    | _=>cases h;exact⟨rfl,q2,q3⟩
  | cond c x y ihx ihy=>
    intro es es' e S h hS
    have h:sCond c (zfP P n call x) (zfP P n call y) es=some (e,es'):=h
    unfold sCond at h
    split at h<;>try (cases h;done)
    rename_i v hv
    split at h<;>try (cases h;done)
    rename_i t
    refine Tri.cond (by rw[hS.ev];exact hv) (fun h1=>?_) (fun h1=>?_)
    · subst h1;exact ihx es es' e S h hS
    · subst h1;exact ihy es es' e S h hS
  | block id c ih=>
    intro es es' e S h hS
    have h:zrO id (zfP P n call c) es=some (e,es'):=h
    unfold zrO at h
    refine Tri.block ?_
    split at h<;>try (cases h;done)
    rename_i e1 es1 h1
    refine Tri.mono (ih es es1 e1 S h1 hS) fun e' S' ⟨q1,q2,q3⟩=>?_
    subst q1
    cases e' with
    | exit j=>
      simp only at h
      cases hj:Nat.beq j id with
      | true=>
        rw[hj,cond_true] at h;cases h
        show(if j=id then _ else _)
        rw[if_pos (Nat.eq_of_beq_eq_true hj)]
        exact⟨rfl,q2,q3⟩
      | false=>
        rw[hj,cond_false] at h;cases h
        show(if j=id then _ else _)
        rw[if_neg (Nat.ne_of_beq_eq_false hj)]
        exact⟨rfl,q2,q3⟩
    | _=>cases h;exact⟨rfl,q2,q3⟩
  | loop c ih=>
    intro es es' e S h hS
    have h:gLoop (zfP P n call c) 5000 es=some (e,es'):=h
    refine Tri.rounds (fun k S1=>∃es1,gLoop (zfP P n call c) k es1=some (e,es')∧Rn S1 es1∧S1.gh=S.gh) (fun S1 ⟨es1,h1,_⟩=>by cases h1) (fun k S1 ⟨es1,h1,h2,h3⟩=>?_) 5000 S ⟨es,h,hS,rfl⟩
    have h1:(match zfP P n call c es1 with
      | some (e,es')=>match e with | .normal=>gLoop (zfP P n call c) k es'|e=>some (e,es')
      | none=>none)=some (e,es'):=h1
    split at h1<;>try (cases h1;done)
    rename_i e1 es2 g1
    refine Tri.mono (ih es1 es2 e1 S1 g1 h2) fun e' S' ⟨q1,q2,q3⟩=>?_
    subst q1
    cases e' with
    | normal=>exact⟨es2,h1,q2,q3.trans h3⟩
    | _=>cases h1;exact⟨rfl,q2,q3.trans h3⟩
  | exit id=>intro es es' e S h hS;cases h;exact Tri.exit ⟨rfl,hS,rfl⟩
  | ret=>intro es es' e S h hS;cases h;exact Tri.ret ⟨rfl,hS,rfl⟩
  | _=>intro es es' e S h hS;cases h
end
noncomputable def argT:Nat→List PV→Trie PV→Trie PV
  | _,[],t=>t
  | k,p :: l,t=>argT (k+1) l (Trie.set 12 t k (some p))
noncomputable def objT:Nat→List AO→Trie AO→Trie AO
  | _,[],t=>t
  | k,p :: l,t=>objT (k+1) l (Trie.set 16 t k (some p))
theorem znB:∀(l:List PV) (k:Nat) (t:Trie PV) (s:Nat),k+l.length≤4000→(argT k l t).get s=if k≤s∧s<k+l.length then l[s - k]? else t.get s
  | [],k,t,s,_=>by rw[argT,if_neg (by simp only[List.length_nil];omega)]
  | p :: l,k,t,s,hb=>by
    rw[argT,znB l (k+1) _ s (by simp at hb ⊢;omega),Trie.get_set 12 _ _ _ _ (by simp at hb ⊢;omega)]
    by_cases h1:k+1≤s∧s<k+1+l.length
    · rw[if_pos h1,if_pos (by simp;omega),show s - k=(s - (k+1))+1 by omega];simp
    · rw[if_neg h1]
      by_cases h2:s=k
      · subst h2;rw[if_pos rfl,if_pos (by simp)];simp
      · rw[if_neg h2,if_neg (by simp;omega)]
theorem zm7:∀(l:List AO) (k:Nat) (t:Trie AO) (s:Nat),k+l.length≤65000→(objT k l t).get s=if k≤s∧s<k+l.length then l[s - k]? else t.get s
  | [],k,t,s,_=>by rw[objT,if_neg (by simp only[List.length_nil];omega)]
  | p :: l,k,t,s,hb=>by
    rw[objT,zm7 l (k+1) _ s (by simp at hb ⊢;omega),Trie.get_set 16 _ _ _ _ (by simp at hb ⊢;omega)]
    by_cases h1:k+1≤s∧s<k+1+l.length
    · rw[if_pos h1,if_pos (by simp;omega),show s - k=(s - (k+1))+1 by omega];simp
    · rw[if_neg h1]
      by_cases h2:s=k
      · subst h2;rw[if_pos rfl,if_pos (by simp)];simp
      · rw[if_neg h2,if_neg (by simp;omega)]
noncomputable def resE (P:Program) (es:ES):List ResultVar→Option (List PV)
  | []=>some []
  | .tmp t :: l=>(resE P es l).map (es.get t :: ·)
  | .cell a t :: l=>match es.get a,tAgg P t,zaD P t with
    | .ptr i sz k c,some ag,some m=>match es.obj i with
      | some o=>if o.sz=sz∧k<o.els.length∧(bif ag then decide (c+m≤(o.els.getD k .junk).cells.length) else decide (c<(o.els.getD k .junk).cells.length))=true then (resE P es l).map ((o.els.getD k .junk).part ag c m :: ·) else none
      | none=>none
    | _,_,_=>none
theorem ziI{P:Program}{S:St}{es:ES}(hS:Rn S es):∀l:List ResultVar,zeJ P S l=resE P es l
  | []=>rfl
  | .tmp t :: l=>by simp only[zeJ,resE,ziI hS l,hS.get]
  | .cell a t :: l=>by simp only[zeJ,resE,ziI hS l,hS.get,hS.obj];rfl
def retP1:List PV→PV
  | [v]=>v
  | vs=>.tup vs
noncomputable def gFin (n0:Nat) (vs:List PV) (es:ES):Option zfW:=
  let v:=retP1 vs
  let H:=es.obj
  let olds:=List.range n0
  let seen:=reach H 12 v++olds.flatMap fun i=>match H i with|some o=>o.els.flatMap (reach H 12)|none=>[]
  let news:=(zfk seen).filter fun i=>Nat.ble n0 i
  let L:=olds++news
  if v.inL L=true∧news.all (zlV H L)=true∧(olds.all fun i=>match H i with|some o=>inLs L o.els|none=>true)=true then
    some (v.ren (posL L),olds.map (fun i=>(H i).map (AO.ren (posL L))),news.map (gObj H L))
  else none
noncomputable def gFunc (P:Program) (call:zbt) (fn:Func) (args:List PV) (hp:List AO):Option zfW:=
  match fn.body with
  | some c=>
    if args.length≤fn.ntmps∧args.length≤4000∧hp.length≤65000 then
      match zfP P fn.ntmps call c ⟨argT 0 args .leaf,objT 0 hp .leaf,hp.length⟩ with
      | some (.normal,es)=>(match resE P es fn.results.toList with|some vs=>gFin hp.length vs es|none=>none)
      | some (.ret,es)=>(match resE P es fn.results.toList with|some vs=>gFin hp.length vs es|none=>none)
      | _=>none
    else none
  | _=>none
abbrev Memo:=List (FuncId×List PV×List AO)
def zgo:Memo→FuncId→List PV→List AO→Option (List PV×List AO)
  | [],_,_,_=>none
  | (g,a,h) :: m,f,args,hp=>bif Nat.beq g f && (zfE a args && zgh h hp) then some (a,h) else zgo m f args hp
theorem zgP:∀ {m:Memo}{f:FuncId}{args a:List PV}{hp h:List AO},zgo m f args hp=some (a,h)→a=args∧h=hp
  | [],_,_,_,_,_,e=>by cases e
  | (g,a',h') :: m,f,args,a,hp,h,e=>by
    unfold zgo at e
    cases hb:Nat.beq g f && (zfE a' args && zgh h' hp) with
    | true=>
      rw[hb,cond_true] at e;cases e
      simp only[Bool.and_eq_true] at hb
      exact⟨zcY hb.2.1,zfa hb.2.2⟩
    | false=>rw[hb,cond_false] at e;exact zgP e
noncomputable def gRunB (P:Program) (tbl:zbt) (call:zbt):zbt:=fun f args hp=>match tbl f args hp with
    | some x=>some x
    | none=>match P.funcs[f]? with
      | some fn => bif fn.name == "runtime.NumGoroutine" then none else gFunc P call fn args hp
      | none=>none
noncomputable def gRun (P:Program) (tbl:zbt) (memo:Memo):Nat→zbt
  | 0=>tbl
  | k+1=>fun f args hp=>match zgo memo f args hp with
    | some (a,h)=>gRunB P tbl (gRun P tbl memo k) f a h
    | none=>gRunB P tbl (gRun P tbl memo k) f args hp
section
variable {P:Program} {call:zbt}
theorem zsF{n0:Nat}{vs:List PV}{es:ES}{S:St}{r:PV}{hp':List (Option AO)}{os:List AO}(h:gFin n0 vs es=some (r,hp',os)) (hS:Rn S es):
    ∃ L:List Nat,L.Nodup∧L.length=hp'.length+os.length∧hp'.length=n0∧(∀i,i<n0→L[i]? = some i)∧retV (zjX S vs) (List.range vs.length)=r.ren (rmap L S.nx)∧
      ∀i o,((hp'++os.map some)[i]?).join=some o→i<L.length∧∃o',S.obj (rmap L S.nx i)=some o'∧o'.sz=o.sz∧o'.els=o.els.map (PV.ren (rmap L S.nx)):=by
  unfold gFin at h
  simp only at h
  generalize hnews:(zfk (reach es.obj 12 (retP1 vs)++(List.range n0).flatMap fun i=>match es.obj i with|some o=>o.els.flatMap (reach es.obj 12)|none=>[])).filter (fun i=>Nat.ble n0 i)=news at h
  split at h<;>cases h
  rename_i hcond
  obtain⟨h1,h2,h3⟩:=hcond
  have hnd:(List.range n0++news).Nodup:=by
    rw[List.nodup_append]
    refine⟨List.nodup_range,hnews▸(zcI _).filter _,fun a ha b hb hab=>?_⟩
    rw[←hnews] at hb
    have:=(List.mem_filter.1 hb).2
    simp only[Nat.ble_eq] at this
    have:=List.mem_range.1 ha
    omega
  refine⟨List.range n0++news,hnd,by simp,by simp,fun i hi=>?_,?_,fun i o hio=>?_⟩
  · rw[List.getElem?_append_left (by simpa using hi)];simp[hi]
  · have:retV (zjX S vs) (List.range vs.length)=retP1 vs:=by
      rw[zdC]
      cases vs with
      | nil=>rfl
      | cons t l=>cases l<;>rfl
    rw[this]
    exact(zm0 _ _ (fun i hi=>zmW hi) _ h1).symm
  · by_cases hi:i<n0
    · rw[List.getElem?_append_left (by simpa using hi)] at hio
      simp only[List.getElem?_map,List.getElem?_range hi,Option.map_some,Option.join_some] at hio
      have hr:rmap (List.range n0++news) S.nx i=i:=by
        unfold rmap;rw[List.getElem?_append_left (by simpa using hi)];simp[hi]
      refine⟨by simp;omega,?_⟩
      rw[hr,hS.obj]
      have:=List.all_eq_true.1 h3 i (List.mem_range.2 hi)
      cases ho:es.obj i with
      | none=>rw[ho] at hio;cases hio
      | some o2=>
        rw[ho] at hio this
        simp only[Option.map_some,Option.some.injEq] at hio
        subst hio
        exact⟨o2,rfl,rfl,(zgp this).symm⟩
    · rw[List.getElem?_append_right (by simp;omega)] at hio
      simp only[List.length_map,List.length_range,List.map_map,List.getElem?_map] at hio
      cases hj:news[i - n0]? with
      | none=>rw[hj] at hio;cases hio
      | some j=>
        rw[hj] at hio
        simp only[Option.map_some,Function.comp,Option.join_some,Option.some.injEq] at hio
        subst hio
        have hlt:i - n0<news.length:=(List.getElem?_eq_some_iff.1 hj).1
        have hr:rmap (List.range n0++news) S.nx i=j:=by
          unfold rmap;rw[List.getElem?_append_right (by simp;omega)];simp[hj]
        refine⟨by simp;omega,?_⟩
        rw[hr,hS.obj]
        exact ziM (List.all_eq_true.1 h2 j (List.mem_of_getElem? hj))
theorem zgN:∀ {l:List (Option AO)}{k:Nat}{p:Nat×Option AO},p∈za6 k l→∃i,p.1=k+i∧l[i]? = some p.2
  | [],k,p,h=>by cases h
  | o :: l,k,p,h=>by
    rcases List.mem_cons.1 h with rfl|h
    · exact⟨0,rfl,rfl⟩
    · obtain⟨i,h1,h2⟩:=zgN h
      exact⟨i+1,by rw[h1];omega,by simpa using h2⟩
theorem gFunc_ok (hc : zbo P call) (hm : P.follows .mixedOrders = true) {f : FuncId} {fn : Func} (hf : P.funcs[f]? = some fn) (hname : (fn.name == "runtime.NumGoroutine") = false) {args : List PV} {hp : List AO} {r : PV} {hp' : List (Option AO)} {os : List AO}
    (h:gFunc P call fn args hp=some (r,hp',os)):(hp=[]→args.all PV.pure=true→Pure P f args r os)∧(hp≠[]→Proc P f args hp r hp' os):=by
  unfold gFunc at h
  split at h<;>try (cases h;done)
  rename_i c hb
  have hres:fn.results=fn.results.toList.toArray:=by simp
  split at h<;>try (cases h;done)
  rename_i hlen
  obtain⟨hl1,hl2,hl3⟩:=hlen
  have h0:Rn ⟨zbD 0 args,za6 0 (hp.map some),hp.length,zbz 0 hp⟩ ⟨argT 0 args .leaf,objT 0 hp .leaf,hp.length⟩:=by
    refine⟨?_,?_,rfl⟩
    · funext s
      show(lk (zbD 0 args) s).getD .junk=((argT 0 args .leaf).get s).getD .junk
      rw[zc8,znB _ _ _ _ (by omega)]
      simp only[Nat.zero_le,if_true,Nat.sub_zero,Nat.zero_add,true_and,Trie.get_leaf]
      split
      · rfl
      · rw[List.getElem?_eq_none (by omega)]
    · funext i
      show(lk (za6 0 (hp.map some)) i).join=(objT 0 hp .leaf).get i
      rw[zb8,zm7 _ _ _ _ (by omega)]
      simp only[Nat.zero_le,if_true,Nat.sub_zero,Nat.zero_add,true_and,Trie.get_leaf,List.getElem?_map]
      split
      · cases hp[i]? <;> rfl
      · rw[List.getElem?_eq_none (by omega)];rfl
  have key:∃e es,(e=.normal∨e=.ret)∧zfP P fn.ntmps call c ⟨argT 0 args .leaf,objT 0 hp .leaf,hp.length⟩=some (e,es)∧∃vs,resE P es fn.results.toList=some vs∧gFin hp.length vs es=some (r,hp',os):=by
    split at h<;>try (cases h;done)
    · rename_i es hcode;split at h<;>try (cases h;done)
      rename_i vs hvs;exact⟨_,es,.inl rfl,hcode,vs,hvs,h⟩
    · rename_i es hcode;split at h<;>try (cases h;done)
      rename_i vs hvs;exact⟨_,es,.inr rfl,hcode,vs,hvs,h⟩
  obtain⟨e,es,he,hcode,vs,hvs,hfin⟩:=key
  have ht:=gCode_ok (n:=fn.ntmps) hc hm c _ es e _ hcode h0
  constructor
  · intro hhp hpure
    subst hhp
    refine Pure.introR hf hname hb hres rfl hl1 hpure (Tri.mono ht fun e' S' ⟨q1,q2,q3⟩=>?_)
    obtain⟨L,a1,a2,a3,a4,a5,a6⟩:=zsF hfin q2
    have hp0:hp'=[]:=List.eq_nil_of_length_eq_zero (by simpa using a3)
    subst hp0
    have fin:ResR P S' fn.results.toList r os:=⟨vs,by rw[ziI q2];exact hvs,L,0,by simpa using a2,a1,by rw[zbE];exact a5,fun i o hi=>by
      obtain⟨_,o',b1,b2,b3⟩:=a6 i o (by simp[hi])
      exact⟨o',b1,b2,by rw[zbE,List.map_id];exact b3⟩⟩
    subst q1
    rcases he with rfl|rfl<;>exact fin
  · intro hhp
    have hlen':hp'.length=hp.length:=by
      unfold gFin at hfin
      simp only at hfin
      split at hfin<;>cases hfin
      simp
    refine Proc.introR hf hname hb hres rfl hl1 hlen' (Tri.mono ht fun e' S' ⟨q1,q2,q3⟩=>?_)
    obtain⟨L,a1,a2,a3,a4,a5,a6⟩:=zsF hfin q2
    have fin:ResPR P S' fn.results.toList r hp hp' os:=by
      refine⟨vs,by rw[ziI q2];exact hvs,L,0,by rw[zbE];exact a5,⟨fun p hp=>(by cases hp),fun p hp o ho=>?_,a2.symm,a1,by show _=S'.gh.length;rw[q3],fun i hi h2=>?_⟩⟩
      · have hk:=zgN hp
        obtain⟨i,h1,h2⟩:=hk
        have hp1:p.1=i:=h1.trans (Nat.zero_add i)
        rw[ho] at h2
        obtain⟨b0,o',b1,b2,b3⟩:=a6 i o (by rw[h2];rfl)
        rw[hp1]
        exact⟨b0,o',b1,b2,by rw[zbE,List.map_id];exact b3⟩
      · rw[zbE]
        show S'.gh[i]=(zbz 0 hp)[i].ren _
        have hgi:S'.gh[i]=(zbz 0 hp)[i]'hi:=gl q3 h2
        rw[hgi]
        have hi2:i<hp.length:=by rw[←zby hp 0];exact hi
        have e1:(zbz 0 hp)[i]'hi=.mark i:=by
          have:=zc7 hp 0 i
          rw[List.getElem?_eq_getElem hi,List.getElem?_eq_getElem hi2] at this
          simpa using this
        rw[e1]
        show PV.mark i=PV.mark (rmap L S'.nx i)
        have:rmap L S'.nx i=i:=by unfold rmap;rw[a4 i hi2];rfl
        rw[this]
    subst q1
    rcases he with rfl|rfl<;>exact fin
theorem zno{tbl call:zbt}(ht:zbo P tbl) (hc:zbo P call) (hm:P.follows .mixedOrders=true):zbo P (gRunB P tbl call):=fun f args hp r hp' os h=>by
  unfold gRunB at h
  split at h
  · rename_i x hx;cases h;exact ht _ _ _ _ _ _ hx
  · split at h<;>try (cases h;done)
    rename_i fn hf
    cases hn : fn.name == "runtime.NumGoroutine" with
    | true=>rw[hn] at h;cases h
    | false=>
      rw[hn,cond_false] at h
      exact gFunc_ok hc hm hf hn h
theorem ziY{tbl:zbt}{memo:Memo}(ht:zbo P tbl) (hm:P.follows .mixedOrders=true):∀k,zbo P (gRun P tbl memo k)
  | 0=>ht
  | k + 1=>fun f args hp r hp' os h=>by
    rw[gRun] at h
    simp only at h
    split at h
    · rename_i a h' hmf
      obtain⟨rfl,rfl⟩:=zgP hmf
      exact zno ht (ziY ht hm k) hm _ _ _ _ _ _ h
    · exact zno ht (ziY ht hm k) hm _ _ _ _ _ _ h
theorem zmo:zbo P (fun _ _ _=>none):=fun _ _ _ _ _ _ h=>by cases h
end
def zhO:List (Option AO)→List (Option AO)→Bool
  | [],[]=>true
  | some p :: l,some q :: r=>Nat.beq p.sz q.sz && (zfE p.els q.els && zhO l r)
  | none :: l,none :: r=>zhO l r
  | _,_=>false
theorem zgB:∀ {l r:List (Option AO)},zhO l r=true→l=r
  | [],[],_=>rfl
  | some ⟨a,b⟩ :: l,some ⟨c,d⟩ :: r,h=>by
    simp only[zhO,Bool.and_eq_true] at h
    rw[Nat.eq_of_beq_eq_true h.1,zcY h.2.1,zgB h.2.2]
  | none :: l,none :: r,h=>by
    simp only[zhO] at h
    rw[zgB h]
  | [],_ :: _,h=>by cases h
  | some _ :: _,[],h=>by cases h
  | none :: _,[],h=>by cases h
  | some _ :: _,none :: _,h=>by cases h
  | none :: _,some _ :: _,h=>by cases h
def zeT (x:Option zfW) (y:zfW):Bool:=
  match x with
  | some (r,hp',os)=>r.same y.1 && (zhO hp' y.2.1 && zgh os y.2.2)
  | none=>false
theorem zmP{x:Option zfW}{y:zfW}(h:zeT x y=true):x=some y:=by
  unfold zeT at h
  split at h
  · obtain⟨r,hp',os⟩:=y
    simp only[Bool.and_eq_true] at h
    rw[zrL h.1,zgB h.2.1,zfa h.2.2]
  · cases h
def zdy (f:FuncId) (a:List PV) (h:List AO) (x:zfW) (tbl:zbt):zbt:=fun g args hp=>
  bif Nat.beq g f && (zfE args a && zgh hp h) then some x else tbl g args hp
theorem zpk{P:Program}{tbl:zbt}{f:FuncId}{a:List PV}{h:List AO}{x:zfW}(ht:zbo P tbl) (hx:(h=[]→a.all PV.pure=true→Pure P f a x.1 x.2.2)∧(h≠[]→Proc P f a h x.1 x.2.1 x.2.2)):zbo P (zdy f a h x tbl):=fun g args hp r hp' os e=>by
  unfold zdy at e
  cases hb:Nat.beq g f && (zfE args a && zgh hp h) with
  | true=>
    rw[hb,cond_true] at e;cases e
    simp only[Bool.and_eq_true] at hb
    obtain rfl:g=f:=Nat.eq_of_beq_eq_true hb.1
    rw[zcY hb.2.1,zfa hb.2.2]
    exact hx
  | false=>rw[hb,cond_false] at e;exact ht _ _ _ _ _ _ e
theorem zbH{P:Program}{tbl:zbt}{memo:Memo}{k:Nat}{f:FuncId}{a:List PV}{h:List AO}{x:zfW}(ht:zbo P tbl) (hm:P.follows .mixedOrders=true) (he:zeT (gRun P tbl memo k f a h) x=true):zbo P (zdy f a h x tbl):=by
  obtain⟨r,hp',os⟩:=x
  exact zpk ht (ziY ht hm k _ _ _ _ _ _ (zmP he))
theorem run_pure{P:Program}{tbl:zbt}{memo:Memo}{k:Nat}{f:FuncId}{a:List PV}{x:zfW}(ht:zbo P tbl) (hm:P.follows .mixedOrders=true) (he:zeT (gRun P tbl memo k f a []) x=true) (ha:a.all PV.pure=true):Pure P f a x.1 x.2.2:=by
  obtain⟨r,hp',os⟩:=x
  exact(ziY ht hm k _ _ _ _ _ _ (zmP he)).1 rfl ha
set_option maxRecDepth 100000
def tS (l:List UInt8):PV:=.atom (.string ⟨l.toArray⟩)
def arcV (s t:Int) (i o:PV):PV:=.agg [encI s,encI t,i,o]
def cpL:Nat→Nat→Int→Int→List PV
  | 0,_,_,_=>[]
  | n+1,k,s,t=>arcV s t (tS [UInt8.ofNat k]) (tS [UInt8.ofNat k]) :: cpL n (k+1) s t
def cpA (s t:Int):List PV:=cpL 26 97 s t
def bldO (n:Int) (k m:Nat):AO:=⟨4,[.agg [encI n,encI 0,.ob 1 1 0 1,.ob k 4 0 m]]⟩
def hpC (n:Int) (A:List PV):List AO:=[bldO n 2 A.length,⟨1,[encI 1]⟩,⟨4,A⟩]
def resC (n:Int) (A B:List PV):zfW:=(.tup [],[some (bldO n 3 (A++B).length),some ⟨1,[encI 1]⟩,none],[⟨4,A++B⟩])
def argC (s t:Int):List PV:=[.ptr 0 4 0 0,encI s,encI t]
theorem zel:Tryz.prog.follows .mixedOrders=true:=by kernel_rfl
def tn0:zbt:=fun _ _ _=>none
theorem tn0_ok:zbo Tryz.prog tn0:=zmo
def aL0:List PV:=[arcV 0 2 (tS []) (tS [49]),arcV 2 3 (tS [111]) (tS []),arcV 3 4 (tS [100]) (tS []),arcV 4 5 (tS [101]) (tS []),arcV 5 6 (tS [115]) (tS []),arcV 6 1 (tS []) (tS [111,100,101,47,110,111,117,110]),arcV 0 7 (tS []) (tS [50])]
theorem cutN1:zeT (gRun Tryz.prog tn0 [] 60 53 (argC 7 8) (hpC 9 aL0)) (resC 9 aL0 (cpA 7 8))=true:=by kernel_rfl
def tn1:zbt:=zdy 53 (argC 7 8) (hpC 9 aL0) (resC 9 aL0 (cpA 7 8)) tn0
theorem tn1_ok:zbo Tryz.prog tn1:=zbH tn0_ok zel cutN1
def aL1:List PV:=aL0++cpA 7 8
theorem cutN2:zeT (gRun Tryz.prog tn1 [] 60 53 (argC 8 9) (hpC 10 aL1)) (resC 10 aL1 (cpA 8 9))=true:=by kernel_rfl
def tn2:zbt:=zdy 53 (argC 8 9) (hpC 10 aL1) (resC 10 aL1 (cpA 8 9)) tn1
theorem tn2_ok:zbo Tryz.prog tn2:=zbH tn1_ok zel cutN2
def aL2:List PV:=aL1++cpA 8 9
theorem cutN3:zeT (gRun Tryz.prog tn2 [] 60 53 (argC 9 10) (hpC 11 aL2)) (resC 11 aL2 (cpA 9 10))=true:=by kernel_rfl
def tn3:zbt:=zdy 53 (argC 9 10) (hpC 11 aL2) (resC 11 aL2 (cpA 9 10)) tn2
theorem tn3_ok:zbo Tryz.prog tn3:=zbH tn2_ok zel cutN3
def aL3:List PV:=aL2++cpA 9 10
theorem cutN4:zeT (gRun Tryz.prog tn3 [] 60 53 (argC 10 10) (hpC 11 aL3)) (resC 11 aL3 (cpA 10 10))=true:=by kernel_rfl
def tn4:zbt:=zdy 53 (argC 10 10) (hpC 11 aL3) (resC 11 aL3 (cpA 10 10)) tn3
theorem tn4_ok:zbo Tryz.prog tn4:=zbH tn3_ok zel cutN4
def aL4:List PV:=aL3++cpA 10 10
def aL5:List PV:=aL4++[arcV 10 11 (tS [115]) (tS []),arcV 11 1 (tS []) (tS [47,110,111,117,110]),arcV 0 12 (tS []) (tS [50])]
theorem cutN5:zeT (gRun Tryz.prog tn4 [] 60 53 (argC 12 13) (hpC 14 aL5)) (resC 14 aL5 (cpA 12 13))=true:=by kernel_rfl
def tn5:zbt:=zdy 53 (argC 12 13) (hpC 14 aL5) (resC 14 aL5 (cpA 12 13)) tn4
theorem tn5_ok:zbo Tryz.prog tn5:=zbH tn4_ok zel cutN5
def aL6:List PV:=aL5++cpA 12 13
theorem cutN6:zeT (gRun Tryz.prog tn5 [] 60 53 (argC 13 14) (hpC 15 aL6)) (resC 15 aL6 (cpA 13 14))=true:=by kernel_rfl
def tn6:zbt:=zdy 53 (argC 13 14) (hpC 15 aL6) (resC 15 aL6 (cpA 13 14)) tn5
theorem tn6_ok:zbo Tryz.prog tn6:=zbH tn5_ok zel cutN6
def aL7:List PV:=aL6++cpA 13 14
theorem cutN7:zeT (gRun Tryz.prog tn6 [] 60 53 (argC 14 15) (hpC 16 aL7)) (resC 16 aL7 (cpA 14 15))=true:=by kernel_rfl
def tn7:zbt:=zdy 53 (argC 14 15) (hpC 16 aL7) (resC 16 aL7 (cpA 14 15)) tn6
theorem tn7_ok:zbo Tryz.prog tn7:=zbH tn6_ok zel cutN7
def aL8:List PV:=aL7++cpA 14 15
theorem cutN8:zeT (gRun Tryz.prog tn7 [] 60 53 (argC 15 15) (hpC 16 aL8)) (resC 16 aL8 (cpA 15 15))=true:=by kernel_rfl
def tn8:zbt:=zdy 53 (argC 15 15) (hpC 16 aL8) (resC 16 aL8 (cpA 15 15)) tn7
theorem tn8_ok:zbo Tryz.prog tn8:=zbH tn7_ok zel cutN8
def aL9:List PV:=aL8++cpA 15 15
def aL10:List PV:=aL9++[arcV 15 16 (tS [115]) (tS []),arcV 16 1 (tS []) (tS [47,118,101,114,98]),arcV 0 17 (tS []) (tS [51])]
theorem cutN9:zeT (gRun Tryz.prog tn8 [] 60 53 (argC 17 18) (hpC 19 aL10)) (resC 19 aL10 (cpA 17 18))=true:=by kernel_rfl
def tn9:zbt:=zdy 53 (argC 17 18) (hpC 19 aL10) (resC 19 aL10 (cpA 17 18)) tn8
theorem tn9_ok:zbo Tryz.prog tn9:=zbH tn8_ok zel cutN9
def aL11:List PV:=aL10++cpA 17 18
theorem cutN10:zeT (gRun Tryz.prog tn9 [] 60 53 (argC 18 18) (hpC 19 aL11)) (resC 19 aL11 (cpA 18 18))=true:=by kernel_rfl
def tn10:zbt:=zdy 53 (argC 18 18) (hpC 19 aL11) (resC 19 aL11 (cpA 18 18)) tn9
theorem tn10_ok:zbo Tryz.prog tn10:=zbH tn9_ok zel cutN10
def aL12:List PV:=aL11++cpA 18 18
def aL13:List PV:=aL12++[arcV 18 1 (tS []) (tS [47])]
def bsL (l:List UInt8):ByteArray:=⟨l.toArray⟩
def xL:LexD:=⟨[⟨bsL [111,100,101,115],bsL [111,100,101],bsL [110,111,117,110]⟩],[⟨bsL [115],bsL [],bsL [110,111,117,110],3⟩,⟨bsL [115],bsL [],bsL [118,101,114,98],3⟩],[⟨bsL [110,111,117,110],bsL [],bsL [118,101,114,98]⟩]⟩
def resM:zfW:=(.tup [.agg [encI 19,encI 0,.ob 0 1 0 1,.ob 1 4 0 aL13.length],encI 0],[],[⟨1,[encI 1]⟩,⟨4,aL13⟩])
theorem zlP:zeT (gRun Tryz.prog tn10 [] 60 21 [encX xL] []) resM=true:=by kernel_rfl
structure ArcD where
  fr:Int
  to:Int
  inp:ByteArray
  out:ByteArray
deriving DecidableEq
structure MachD where
  states:Int
  start:Int
  fin:List Int
  arcs:List ArcD
def encC (a:ArcD):PV:=.agg [encI a.fr,encI a.to,encS a.inp,encS a.out]
def zaP (l:List ArcD):PV:=.sl 4 (l.map encC)
def encM (m:MachD):PV:=.agg [encI m.states,encI m.start,ints m.fin,zaP m.arcs]
theorem zbj (l:List ArcD):zax (l.map encC)=true:=zbl encC (fun _=>rfl) l
theorem zcv (l:List ArcD):(zaP l).pure=true:=zbj l
theorem zaZ (m:MachD):(encM m).pure=true:=by simp[encM,zaP,PV.pure,zax,zbj,zah,encI]
theorem zca (ρ:Nat→Nat) (m:MachD):(encM m).ren ρ=encM m:=zbe ρ _ (zaZ m)
theorem zdD (ρ:Nat→Nat) (l:List ArcD):renL ρ (l.map encC)=l.map encC:=zbf ρ _ (zbj l)
theorem zbC (H:Nat→Option AO) (keep:Nat→Bool) (n:Nat) (l:List ArcD):(l.map encC).map (sealed H keep n)=l.map encC:=zaq H keep n (zbj l)
theorem zco (ρ:Nat→Nat) (l:List ArcD):(l.map encC).map (PV.ren ρ)=l.map encC:=zaN ρ (zbj l)
def noC:ArcD:=⟨0,0,.empty,.empty⟩
def fC (l:List ArcD) (k:Nat):ArcD:=l.getD k noC
theorem zes{l:List ArcD}{k:Nat}(h:k<l.length):(l.map encC).getD k .junk=encC (fC l k):=by simp[fC,List.getD_eq_getElem?_getD,h]
theorem zib{l:List ArcD}{k:Nat}(h:k<l.length):fC l k=l[k]:=by simp[fC,List.getD_eq_getElem?_getD,h]
theorem zdb{l:List ArcD}{k:Nat}(h:k<l.length):fC l k∈l:=by rw[zib h];exact List.getElem_mem h
structure HeldC (a:ArcD):Prop where
  fr:I64 a.fr
  to:I64 a.to
  inp:a.inp.size≤4294967296
  out:a.out.size≤4294967296
structure HeldM (m:MachD):Prop where
  states:I64 m.states
  start:I64 m.start
  fin:Fits m.fin
  narcs:m.arcs.length≤1000000
  arcs:∀a,a∈m.arcs→HeldC a
def zdI (m:MachD):Bool:=decide (4096<m.states) || decide (16384<m.arcs.length)
def isM (m:MachD) (k:Int):Bool:=decide (0≤k) && decide (k<m.states)
def ze0 (arcs:List ArcD) (n t:Nat):List (List Int):=(List.range n).map fun(k:Nat)=>((List.range t).filter fun i=>decide ((fC arcs i).fr=k)).map fun(i:Nat)=>(i:Int)
def zbv (m:MachD):List (List Int):=ze0 m.arcs m.states.toNat m.arcs.length
def za5 (l:List (List Int)):PV:=.sl 1 (l.map ints)
theorem zbi (arcs:List ArcD) (n t:Nat):(ze0 arcs n t).length=n:=by simp[ze0]
theorem zbP{arcs:List ArcD}{n t k:Nat}(h:k<n):(ze0 arcs n t).getD k []=((List.range t).filter fun i=>decide ((fC arcs i).fr=k)).map fun(i:Nat)=>(i:Int):=by
  simp[ze0,List.getD_eq_getElem?_getD,h]
theorem zfr{arcs:List ArcD}{n t k:Nat}(h:k<n):((ze0 arcs n t).getD k []).length≤t:=by
  rw[zbP h,List.length_map]
  exact Nat.le_trans (List.length_filter_le _ _) (by simp)
theorem zo6{arcs:List ArcD}{n t k:Nat}(h:k<n):(ze0 arcs n (t+1)).getD k []=if (fC arcs t).fr=k then (ze0 arcs n t).getD k []++[(t:Int)] else (ze0 arcs n t).getD k []:=by
  rw[zbP h,zbP h,List.range_succ,List.filter_append,List.map_append]
  by_cases e:(fC arcs t).fr=k
  · simp[e]
  · simp[e]
def zgG (l:List (List Int)):List (List PV):=l.map fun x=>x.map encI
theorem zct (l:List (List Int)):(zgG l).length=l.length:=by simp[zgG]
theorem zb3{l:List (List Int)}{k:Nat}(h:k<l.length):(zgG l).getD k []=(l.getD k []).map encI:=by simp[zgG,List.getD_eq_getElem?_getD,h]
theorem rowsP_sl (l:List (List Int)):PV.sl 1 ((zgG l).map fun x=>.sl 1 x)=za5 l:=by simp[zgG,za5,ints]
theorem zbs (l:List (List Int)):(za5 l).pure=true:=by
  simp only[za5,PV.pure,zbm,List.all_map]
  exact List.all_eq_true.2 fun x _=>zah x
theorem zeF{l:List (List Int)}{k:Nat}(h:k<l.length):(l.map ints).getD k .junk=ints (l.getD k []):=by simp[List.getD_eq_getElem?_getD,h]
end Go.Proofs.YtehoglapajkabaaGreat
