/-
  Walks: the reference model of lexicons: what is valid;rules,analyses.
-/
import Derived.Test.YtehoglapajkabaaRM0
import Derived.Test.YtehoglapajkabaaRV14
set_option linter.all false
namespace Go.Proofs.Ytehoglapajkabaa
open Go Go.RowKit
set_option maxRecDepth 20000
set_option maxHeartbeats 1000000
theorem up47{n:Nat}(h:n≤140737488355328):n≤9223372036854775807:=by omega
theorem zbD{α β:Type}(f:α→β) (o:List α) (x:β):(o.map f++[x]).take (o.length+1)=o.map f++[x]:=List.take_of_length_le (by simp)
theorem znh (x:LexD) (w:ByteArray):(zjr x w).length≤x.forms.length:=by
  have h:=zcG (zbS x w) []
  have h2:(zbS x w).length≤x.forms.length:=List.length_filter_le _ _
  unfold zjr;simp at h;omega
theorem zmU (x:LexD) (w:ByteArray):(ziV x w).length≤x.rules.length:=by
  have h:=zcG (zco x w) []
  have h2:(zco x w).length≤x.rules.length:=List.length_filterMap_le _ _
  unfold ziV;simp at h;omega
theorem zme (x:LexD) (w:ByteArray) (hx:HeldX x):(allX x w).length≤1000000:=by
  have h1:=znh x w
  have h2:=zmU x w
  have h3:=hx.nforms
  have h4:=hx.nrules
  unfold allX;split
  · omega
  · split
    · omega
    · simp
theorem allX_pos (x:LexD) (w:ByteArray):0<(allX x w).length:=by
  unfold allX;split
  · rename_i h;exact List.length_pos_iff.2 h
  · split
    · rename_i h;exact List.length_pos_iff.2 h
    · simp
theorem allF_no{l:List FormD}{p:FormD→Bool}{j:Nat}(hj:j<l.length) (h:p (fF l j)=false):l.all p=false:=by
  rw[Bool.eq_false_iff]
  intro ha
  have:=List.all_eq_true.1 ha _ (zem hj)
  rw[h] at this;cases this
theorem allF_yes{l:List FormD}{p:FormD→Bool}(h:∀j,j<l.length→p (fF l j)=true):l.all p=true:=List.all_eq_true.2 fun y hy=>by
  obtain⟨j,hj,rfl⟩:=List.getElem_of_mem hy
  rw[←zfg hj];exact h j hj
def zeC (P:Program) (S:St):List ResultVar→Option (List PV)
  | []=>some []
  | .tmp t :: l=>(zeC P S l).map (S.get t :: ·)
  | .cell a t :: l=>match S.get a,tAgg P t,zaO P t with
    | .ptr i sz k c,some ag,some m=>match S.obj i with
      | some o=>if o.sz=sz∧k<o.els.length∧(bif ag then decide (c+m≤(o.els.getD k .junk).cells.length) else decide (c<(o.els.getD k .junk).cells.length))=true then (zeC P S l).map ((o.els.getD k .junk).part ag c m :: ·) else none
      | none=>none
    | _,_,_=>none
def ziX (S:St) (vs:List PV):St:=⟨zbG 0 vs,S.hp,S.nx,S.gh⟩
def ResR (P:Program) (S:St) (rv:List ResultVar) (r:PV) (os:List AO):Prop:=∃vs,zeC P S rv=some vs∧ResOk (ziX S vs) (List.range vs.length) r os
def ResPR (P:Program) (S:St) (rv:List ResultVar) (r:PV) (hp:List AO) (hp':List (Option AO)) (os:List AO):Prop:=∃vs,zeC P S rv=some vs∧ResP (ziX S vs) (List.range vs.length) r hp hp' os
def retQR (P:Program) (rv:List ResultVar) (r:PV) (os:List AO):Exit→St→Prop
  | .normal,S=>ResR P S rv r os
  | .ret,S=>ResR P S rv r os
  | _,_=>False
def retPR (P:Program) (rv:List ResultVar) (r:PV) (hp:List AO) (hp':List (Option AO)) (os:List AO):Exit→St→Prop
  | .normal,S=>ResPR P S rv r hp hp' os
  | .ret,S=>ResPR P S rv r hp hp' os
  | _,_=>False
theorem zjJ (S:St) (vs:List PV):(List.range vs.length).map (ziX S vs).get=vs:=by
  apply List.ext_getElem
  · simp
  · intro i h1 h2
    simp only[List.getElem_map,List.getElem_range]
    show(lk (zbG 0 vs) i).getD .junk=_
    rw[zc8];simp[h2]
theorem zdA (S:St) (vs:List PV):retV (ziX S vs) (List.range vs.length)=match vs with | [v]=>v|vs=>.tup vs:=by
  have:=zjJ S vs
  match vs,this with
  | [],_=>rfl
  | [v],_=>rfl
  | a :: b :: l,h=>
    have e:List.range (a :: b :: l).length=0 :: 1 :: (List.range l.length).map (·+2):=by
      have h1:=List.range_succ_eq_map (n:=(b :: l).length)
      simp only[List.length_cons] at h1 ⊢
      rw[h1,List.range_succ_eq_map];simp
    rw[e] at h ⊢
    show PV.tup _=_
    rw[h]
section
variable {P:Program} {n:Nat} {S:St} {Q:Exit→St→Prop}
theorem tup_rep{D:Nat→Prop}{μ:Nat→Option Nat}{F:Nat→Prop}{w:World}{xs:List Value}{vs:List PV}(hl:xs.length=vs.length) (h:∀i (h:i<vs.length),Rep D μ F w vs[i] (xs.getD i undef)):
    Rep D μ F w (match vs with | [v]=>v|vs=>.tup vs) (if h:xs.toArray.size=1 then xs.toArray[0] else .tuple xs.toArray):=by
  match vs,xs with
  | [v],[x]=>simpa using h 0 (by simp)
  | [],[]=>simp;exact .tup _ _ rfl (fun i hi=>by simp at hi)
  | a :: b :: r,x :: y :: z=>
    rw[dif_neg (by simp)]
    refine .tup _ _ (by simpa using hl) fun i hi=>?_
    have:=h i hi
    simpa[Array.getD_eq_getD_getElem?,List.getD_eq_getElem?_getD] using this
  | [],x :: z=>simp at hl
  | [v],[]=>simp at hl
  | [v],x :: y :: z=>simp at hl
  | a :: b :: r,[]=>simp at hl
  | a :: b :: r,[x]=>simp at hl
theorem ziR {w0 : Home}{F0 D:Nat→Prop}{μ:Nat→Option Nat}{F:Nat→Prop}{w:World}{fn:Func}{rv:List ResultVar}(hr:fn.results=rv.toArray) {tmps:Array Value}(hH:HeapSim w0 F0 D μ F S.obj w) (he:∀s,Rep D μ F w (S.get s) (tmps.getD s undef)) {vs:List PV}(hvs:zeC P S rv=some vs):
    ∃v,(results fn tmps).run P w=.ok v w∧Rep D μ F w (retV (ziX S vs) (List.range vs.length)) v:=by
  let f:ResultVar→Sem Value:=fun
    | .tmp t=>pure (tmps.getD t undef)
    | .cell a t=>do loadVar t (←asAddr (tmps.getD a undef))
  have key : ∀ (l:List ResultVar) (vs:List PV),zeC P S l=some vs→∃xs:List Value,(l.mapM f).run P w=.ok xs w∧xs.length=vs.length∧∀i (h:i<vs.length),Rep D μ F w vs[i] (xs.getD i undef):=by
    intro l
    induction l with
    | nil=>intro vs h;cases h;exact⟨[],by simp,rfl,fun i h=>by simp at h⟩
    | cons x l ih=>
      intro vs h
      cases x with
      | tmp t=>
        simp only[zeC] at h
        cases hl:zeC P S l with
        | none=>rw[hl] at h;cases h
        | some vs'=>
          rw[hl] at h;cases h
          obtain⟨xs,h1,h2,h3⟩:=ih vs' hl
          refine⟨tmps.getD t undef :: xs,?_,by simp[h2],fun i hi=>?_⟩
          · rw[List.mapM_cons,Sem.run_bind,show(f (.tmp t)).run P w=.ok (tmps.getD t undef) w from rfl]
            simp only[Result.andThen_ok,Sem.run_bind,h1,Sem.run_pure]
          · cases i with
            | zero=>simpa using he t
            | succ i=>simpa using h3 i (by simpa using hi)
      | cell a t=>
        simp only[zeC] at h
        split at h<;>try (cases h;done)
        rename_i i sz k c ag m hp ha hm
        split at h<;>try (cases h;done)
        rename_i o ho
        split at h<;>try (cases h;done)
        rename_i hc
        cases hl:zeC P S l with
        | none=>rw[hl] at h;cases h
        | some vs'=>
          rw[hl] at h;cases h
          obtain⟨xs,h1,h2,h3⟩:=ih vs' hl
          have hrep:=he a
          rw[hp] at hrep
          generalize hu:tmps.getD a undef=u at hrep
          cases hrep with
          | ptr _ _ _ _ b hD hb hkd=>
            have hok:=hH.cellsOk ho hb hkd
            have hk:=hc.2.1
            have hin:=hc.2.2
            rw[zeU _ _ hk] at hin ⊢
            have hin':bif ag then c+m≤o.els[k].cells.length else c<o.els[k].cells.length:=by
              cases ag
              · simp only[cond_false] at hin ⊢;exact of_decide_eq_true hin
              · simp only[cond_true] at hin ⊢;exact of_decide_eq_true hin
            obtain⟨v,g1,g2⟩:=zcP (D:=D) (μ:=μ) (F:=F) (w:=w) (ad:=⟨b,k * sz+c,none⟩) ha hm hin' rfl (fun j hj hcj=>by
              obtain⟨v,g1,_,g3⟩:=hok.cell hk hj
              refine⟨v,?_,g3⟩
              rw[←hc.1]
              rw[show k * o.sz+c+(j - c)=k * o.sz+j by omega];exact g1)
            refine⟨v :: xs,?_,by simp[h2],fun i hi=>?_⟩
            · rw[List.mapM_cons,Sem.run_bind,show(f (.cell a t)).run P w=.ok v w by
                show(do loadVar t (←asAddr (tmps.getD a undef)):Sem Value).run P w=_
                rw[hu];simpa[asAddr] using g1]
              simp only[Result.andThen_ok,Sem.run_bind,h1,Sem.run_pure]
            · cases i with
              | zero=>simpa using g2
              | succ i=>simpa using h3 i (by simpa using hi)
  obtain⟨xs,h1,h2,h3⟩:=key rv vs hvs
  refine⟨if h:xs.toArray.size=1 then xs.toArray[0] else .tuple xs.toArray,?_,?_⟩
  · have e:results fn tmps=(do let vs ←fn.results.mapM f;pure (if h:vs.size=1 then vs[0] else .tuple vs)):=rfl
    rw[e,hr,Array.mapM_eq_mapM_toList,Sem.run_bind,Sem.run_map,show(rv.toArray.toList.mapM f).run P w=.ok xs w by simpa using h1]
    rfl
  · rw[zdA];exact tup_rep h2 h3
theorem PureCall.introR{f:FuncId}{fn:Func}{c:Code}{args:List PV}{r:PV}{os:List AO}{rv:List ResultVar}(hf:P.funcs[f]? = some fn) (hb:fn.body=some c) (hr:fn.results=rv.toArray) (hn:fn.ntmps=n) (hla:args.length≤n) (hpure:args.all PV.pure=true)
    (h:Tri P n c ⟨zbG 0 args,[],0,[]⟩ (retQR P rv r os)):PureCall P f args r os:=by
  intro D μ F w vs hvs hargs hFs
  refine calls_of_wp hf hb ?_
  have hS:Sim ⟨w,fun _=>False⟩ F (fun _=>False) μ F [] ⟨zbG 0 args,[],0,[]⟩ n { tmps:=vs++Array.replicate (fn.ntmps - vs.size) undef,defers:=[] } w:=by
    refine⟨rfl,by simp[hvs,hn];omega,fun s=>?_,⟨fun i o hi=>(by cases hi),fun i j o o' b hi=>(by cases hi),fun i o b hi=>(by cases hi),Ext.refl _ _,fun b hb=>.inl hb,hFs⟩,fun i hi=>hi.elim,rfl,fun i hi=>by simp at hi⟩
    show Rep _ μ F w ((lk (zbG 0 args) s).getD .junk) _
    rw[zc8]
    simp only[Nat.zero_le,if_true,Nat.sub_zero]
    by_cases hs:s<args.length
    · rw[List.getElem?_eq_getElem hs]
      simp only[Option.getD_some]
      have e:(vs++Array.replicate (fn.ntmps - vs.size) undef).getD s undef=vs.getD s undef:=by
        simp only[Array.getD_eq_getD_getElem?]
        rw[Array.getElem?_append_left (by omega)]
      rw[e]
      exact(hargs s hs).pureAny (zbi hpure s hs)
    · rw[List.getElem?_eq_none (by omega)]
      exact .junk _
  refine wp_mono (h _ F _ μ F [] _ w hS) fun e a' w' ⟨S',D',μ',F',h1,h2⟩=>?_
  have fin:ResR P S' rv r os→a'.defers=[]∧∃v,(results fn a'.tmps).run P w'=.ok v w'∧∃v',Ending.returned v=.returned v'∧Bel w w'∧ResIs F w w' r os v':=fun⟨vs,hvs,hres⟩=>by
    obtain⟨v,hv,hrep⟩:=ziR (P:=P) (S:=S') hr h2.heap h2.env hvs
    exact⟨h2.defers,v,hv,v,rfl,h2.heap.ext.below (fun _ h=>h),hres.is h2.heap h2.ids hrep⟩
  cases e with
  | normal=>exact fin h1
  | ret=>exact fin h1
  | exit id=>exact h1.elim
  | goto l=>exact h1.elim
  | panic ch=>exact h1.elim
  | outgrown=>exact h1.elim
theorem ProcCall.introR{f:FuncId}{fn:Func}{c:Code}{args:List PV}{hp:List AO}{r:PV}{hp':List (Option AO)}{os:List AO}{rv:List ResultVar}(hf:P.funcs[f]? = some fn) (hb:fn.body=some c) (hr:fn.results=rv.toArray) (hn:fn.ntmps=n) (hla:args.length≤n)
    (hlen:hp'.length=hp.length) (h:Tri P n c ⟨zbG 0 args,za6 0 (hp.map some),hp.length,zbC 0 hp⟩ (retPR P rv r hp hp' os)):ProcCall P f args hp r hp' os:=by
  refine⟨hlen,fun μ F w vs hH hvs hargs=>calls_of_wp hf hb ?_⟩
  have hobj:(St.mk (zbG 0 args) (za6 0 (hp.map some)) hp.length (zbC 0 hp)).obj=fun i=>hp[i]? := by
    funext i
    show(lk (za6 0 (hp.map some)) i).join=_
    rw[zb8]
    simp only[Nat.zero_le,if_true,Nat.sub_zero,List.getElem?_map]
    cases hp[i]? <;> rfl
  have hS : Sim ⟨w,fun b=>∃i,i<hp.length∧μ i=some b⟩ F (· < hp.length) μ F ((List.range hp.length).map fun i=>zcV (μ i)) ⟨zbG 0 args,za6 0 (hp.map some),hp.length,zbC 0 hp⟩ n { tmps:=vs++Array.replicate (fn.ntmps - vs.size) undef,defers:=[] } w:=by
    refine⟨rfl,by simp[hvs,hn];omega,fun s=>?_,by rw[hobj];exact hH,fun i hi=>hi,by simp[zbB],fun i hi=>?_⟩
    · show Rep _ μ F w ((lk (zbG 0 args) s).getD .junk) _
      rw[zc8]
      simp only[Nat.zero_le,if_true,Nat.sub_zero]
      by_cases hs:s<args.length
      · rw[List.getElem?_eq_getElem hs]
        simp only[Option.getD_some]
        have e:(vs++Array.replicate (fn.ntmps - vs.size) undef).getD s undef=vs.getD s undef:=by
          simp only[Array.getD_eq_getD_getElem?]
          rw[Array.getElem?_append_left (by omega)]
        rw[e]
        exact hargs s hs
      · rw[List.getElem?_eq_none (by omega)]
        exact .junk _
    · simp only at hi
      have hi':i<hp.length:=by rwa [zbB] at hi
      have e1:(zbC 0 hp)[i]'hi=.mark i:=by
        have:=zc7 hp 0 i
        rw[List.getElem?_eq_getElem hi,List.getElem?_eq_getElem hi'] at this
        simpa using this
      have e2:((List.range hp.length).map fun i=>zcV (μ i)).getD i undef=zcV (μ i):=by simp[List.getD_eq_getElem?_getD,hi']
      rw[e1,e2]
      exact .mark i _ hi' rfl
  refine wp_mono (h _ F _ μ F _ _ w hS) fun e a' w' ⟨S',D',μ',F',h1,h2⟩=>?_
  have fin:ResPR P S' rv r hp hp' os→a'.defers=[]∧∃v,(results fn a'.tmps).run P w'=.ok v w'∧∃v',Ending.returned v=.returned v'∧∃(μ2:Nat→Option Nat) (F2:Nat→Prop),Rep (· < hp.length+os.length) μ2 F2 w' r v'∧
      HeapSim ⟨w,fun b=>∃i,i<hp.length∧μ i=some b⟩ F (· < hp.length+os.length) μ2 F2 (fun i=>((hp'++os.map some)[i]?).join) w'∧(∀i,i<hp.length→μ2 i=μ i):=fun⟨vs,hvs,L,k,hr1,hl0⟩=>by
    have hl:LeqS k L S' ⟨[],za6 0 (hp'++os.map some),hp'.length+os.length,zbC 0 hp⟩:=⟨fun p hp=>(by cases hp),hl0.hp,hl0.nx,hl0.nodup,hl0.ghl,hl0.gh⟩
    have hr1:sealed S'.obj (fun i=>L.contains i) k (retV (ziX S' vs) (List.range vs.length))=r.ren (rmap L S'.nx):=hr1
    obtain⟨v,hv,hrep⟩:=ziR (P:=P) (S:=S') hr h2.heap h2.env hvs
    have h3:=h2.leq ⟨k,hl⟩
    have hD:∀i,D' (rmap L S'.nx i)→i<hp.length+os.length∧μ' (rmap L S'.nx i)=μ' (rmap L S'.nx i):=fun i hi=>⟨by
      have:=h3.ids i hi
      have e:(St.mk [] (za6 0 (hp'++os.map some)) (hp'.length+os.length) (zbC 0 hp)).nx=hp'.length+os.length:=rfl
      rw[e] at this;omega,rfl⟩
    refine⟨h2.defers,v,hv,v,rfl,fun i=>μ' (rmap L S'.nx i),frz S' L μ' F',?_,?_,fun i hi=>?_⟩
    · have:=Rep.sealed h2.heap (fun i=>L.contains i) (frz S' L μ' F') (fun b h=>.inl h) (fun i o b h1 h2 h3=>.inr ⟨i,o,h1,h2,h3⟩) k _ _ hrep
      rw[hr1] at this
      exact this.ren_inv hD _ rfl
    · have:=h3.heap.widen (D':=(· < hp.length+os.length)) (fun i hi=>(hD i hi).1)
      have e:(St.mk [] (za6 0 (hp'++os.map some)) (hp'.length+os.length) (zbC 0 hp)).obj=fun i=>((hp'++os.map some)[i]?).join:=by
        funext i
        show(lk (za6 0 (hp'++os.map some)) i).join=_
        rw[zb8];simp
      rw[e] at this
      exact this
    · have hi2:i<(zbC 0 hp).length:=by rw[zbB];exact hi
      have:=h3.gh i hi2
      have e1:(zbC 0 hp)[i]'hi2=.mark i:=by
        have:=zc7 hp 0 i
        rw[List.getElem?_eq_getElem hi2,List.getElem?_eq_getElem hi] at this
        simpa using this
      have e2:((List.range hp.length).map fun i=>zcV (μ i)).getD i undef=zcV (μ i):=by simp[List.getD_eq_getElem?_getD,hi]
      simp only[e1,e2] at this
      generalize hpv:zcV (μ i)=pv at this
      cases this with
      | mark _ _ g1 g2=>
        show μ' (rmap L S'.nx i)=μ i
        exact(zhm (hpv.trans g2)).symm
  cases e with
  | normal=>exact fin h1
  | ret=>exact fin h1
  | exit id=>exact h1.elim
  | goto l=>exact h1.elim
  | panic ch=>exact h1.elim
  | outgrown=>exact h1.elim
theorem Pure.introR {f : FuncId} {fn : Func} {c : Code} {args : List PV} {r : PV} {os : List AO} {rv : List ResultVar} (hf : P.funcs[f]? = some fn) (hname : (fn.name == "runtime.NumGoroutine") = false) (hb : fn.body = some c) (hr : fn.results = rv.toArray) (hn : fn.ntmps = n) (hla : args.length ≤ n) (hpure : args.all PV.pure = true)
    (h:Tri P n c ⟨zbG 0 args,[],0,[]⟩ (retQR P rv r os)):Pure P f args r os:=⟨Go.Proofs.enters_of hf hname hb,PureCall.introR hf hb hr hn hla hpure h⟩
theorem Proc.introR {f : FuncId} {fn : Func} {c : Code} {args : List PV} {hp : List AO} {r : PV} {hp' : List (Option AO)} {os : List AO} {rv : List ResultVar} (hf : P.funcs[f]? = some fn) (hname : (fn.name == "runtime.NumGoroutine") = false) (hb : fn.body = some c) (hr : fn.results = rv.toArray) (hn : fn.ntmps = n) (hla : args.length ≤ n)
    (hlen:hp'.length=hp.length) (h:Tri P n c ⟨zbG 0 args,za6 0 (hp.map some),hp.length,zbC 0 hp⟩ (retPR P rv r hp hp' os)):Proc P f args hp r hp' os:=⟨Go.Proofs.enters_of hf hname hb,ProcCall.introR hf hb hr hn hla hlen h⟩
end
theorem ResR.cell1{P:Program}{S:St}{rv:ResultVar}{r:PV}(x:PV) (h:zeC P S [rv]=some [x]) (hs:sealed S.obj (fun _=>false) 5 x=r) (hp:r.pure=true):ResR P S [rv] r []:=
  ⟨[x],h,ResOk.frz 5 (by rw[zdA];exact hs) hp⟩
theorem ResR.cells{P:Program}{S:St}{rv:List ResultVar}{r:PV}(x y:PV) (l:List PV) (h:zeC P S rv=some (x :: y :: l)) (hs:sealed S.obj (fun _=>false) 6 (.tup (x :: y :: l))=r) (hp:r.pure=true):ResR P S rv r []:=
  ⟨x :: y :: l,h,ResOk.frz 6 (by rw[zdA];exact hs) hp⟩
def choT (x:LexD) (ws:List ByteArray) (k:Nat):FormD×Bool:=match zfE x ws k with
  | some f=>(f,true)
  | none=>(noF,false)
theorem zfC{l:List PrefD}{i:Nat}(h:i<l.length):l.drop i=fA l i :: l.drop (i+1):=by rw[List.drop_eq_getElem_cons h,zl3 h]
def zm0 (x:LexD) (ws:List ByteArray) (n:Nat):List Int:=((List.range n).filter fun k => !(choT x ws k).2).map fun(k:Nat)=>(k:Int)
theorem zew (x:LexD) (ws:List ByteArray) (n:Nat):zm0 x ws (n+1)=if (choT x ws n).2=true then zm0 x ws n else zm0 x ws n++[(n:Int)]:=by
  unfold zm0
  rw[List.range_succ,List.filter_append,List.map_append]
  cases h:(choT x ws n).2<;>simp[h]
def zpJ (x:LexD) (ws:List ByteArray):List Int:=if errX x ws≠0 then [] else zm0 x ws ws.length
def zj3 (x:LexD) (ws:List ByteArray) (n:Nat):List FormD:=(List.range n).map fun k=>(choT x ws k).1
theorem zmq (x:LexD) (ws:List ByteArray) (n:Nat):zj3 x ws (n+1)=zj3 x ws n++[(choT x ws n).1]:=by
  unfold zj3;rw[List.range_succ,List.map_append];rfl
def sureX (x:LexD) (ws:List ByteArray):Bool:=(List.range ws.length).all fun k=>(choT x ws k).2
def zfT (x:LexD) (ws:List ByteArray):List FormD×Int:=if errX x ws≠0 then ([],errX x ws) else if sureX x ws then (zj3 x ws ws.length,0) else ([],14)
theorem znU{x:LexD}{ws:List ByteArray}(h:errX x ws≠0):zfT x ws=([],errX x ws):=if_pos h
theorem zmp{x:LexD}{ws:List ByteArray}(h:¬errX x ws≠0) {i:Nat}(hi:i<ws.length) (h2:(choT x ws i).2=false):zfT x ws=([],14):=by
  unfold zfT;rw[if_neg h,if_neg]
  intro ha
  have:=List.all_eq_true.1 ha i (List.mem_range.2 hi)
  rw[h2] at this;cases this
theorem zmo{x:LexD}{ws:List ByteArray}(h:¬errX x ws≠0) (h2:∀j,j<ws.length→(choT x ws j).2=true):zfT x ws=(zj3 x ws ws.length,0):=by
  unfold zfT;rw[if_neg h,if_pos]
  exact List.all_eq_true.2 fun j hj=>h2 j (List.mem_range.1 hj)
theorem zbj{p:Prop}(h:p:=by(refine⟨4,?_,?_,rfl,by simp,rfl,fun _ h _=>absurd h (Nat.not_lt_zero _)⟩<;>(simp only[List.forall_mem_cons];repeat' (first|refine And.intro ?_ ?_|(intro p hp;exact absurd hp List.not_mem_nil)|rfl|exact sp (zaW _)|exact sp (zaQ _)|exact(zax _ _ _ (zam _)).trans (zcr _ _).symm|exact(zax _ _ _ (zal _)).trans (zcq _ _).symm|exact sp (by assumption)|(intro o ho;cases ho;refine⟨by decide,?_⟩;first|(refine LeqS.row rfl ?_ ?_;(next=>(first|rfl|(simp only[List.map_append,List.map_cons,List.map_nil,List.append_nil,List.nil_append,List.append_assoc,List.cons_append,encI,encS,ints,strs];done)|(simp[encI,encS,ints,strs,encF,encR,encA];done)));(next=>(first|rfl|exact zaw _|exact zav _|exact zaB _|exact zaA _|exact zaC _|exact za0 _|exact za1 _|exact zau _|(simp[zau,zaw,zav,zaB,zaA,zay,PV.pure,zam,zal,zaW,zaC,za0,za1,zaQ,zau,encF,encS];done)));done)|refine⟨_,rfl,rfl,?_⟩)|(simp[St.born,St.known,retV,St.get,St.obj,lk,sealed,PV.ren,renL,rmap,AO.ren,ints,strs,encI,encS,zat,zas,zar,zaq,zaM,zaL,zaK,zaJ,zba,za9,za8,za7,zcA,zab,zac,zad,zaa,zae,zaf,zaD,za2,zaE,zbd,zaF,zbe,zaS,encF,encR,encA,zbD]<;>omega))));first|done|fail):p:=h
theorem lstM8{p:Prop}(h:p:=by(first|rfl|(simp[St.born,St.known,retV,St.get,St.obj,lk,sealed,PV.ren,renL,rmap,AO.ren,ints,strs,encI,encS,zat,zas,zar,zaq,zaM,zaL,zaK,zaJ,zba,za9,za8,za7,zcA,zab,zac,zad,zaa,zae,zaf,zaD,za2,zaE,zbd,zaF,zbe,zaS,encF,encR,encA,zbD,zaS,List.take_length];done));first|done|fail):p:=h
theorem zbY{p:Prop}(h:p:=by(first|rfl|(simp[zam,zal,PV.pure,zay,zaw,zav,zaB,zaA,zaW,zaC,za0,za1,zaQ,zau,encF,encS];done));first|done|fail):p:=h
theorem zcf{p:Prop}(h:p:=by(first|rfl|(simp[St.born,St.known,retV,St.get,St.obj,lk,sealed,PV.ren,renL,rmap,AO.ren,ints,strs,encI,encS,zat,zas,zar,zaq,zaM,zaL,zaK,zaJ,zba,za9,za8,za7,zcA,zab,zac,zad,zaa,zae,zaf,zaD,za2,zaE,zbd,zaF,zbe,zaS,encF,encR,encA,zbD];done));first|done|fail):p:=h
def zbv (x:LexD) (ws:List ByteArray) (k:Int):FormD×Int:=
  if errX x ws≠0 then (noF,errX x ws) else if k<0∨(ws.length:Int)≤k then (noF,5) else if (choT x ws k.toNat).2 then ((choT x ws k.toNat).1,0) else (noF,14)
theorem zk0{x:LexD}{ws:List ByteArray}{k:Int}(h:errX x ws≠0):zbv x ws k=(noF,errX x ws):=if_pos h
theorem zkZ{x:LexD}{ws:List ByteArray}{k:Int}(h:¬errX x ws≠0) (h2:k<0∨(ws.length:Int)≤k):zbv x ws k=(noF,5):=by
  unfold zbv;rw[if_neg h,if_pos h2]
theorem zjD{x:LexD}{ws:List ByteArray}{k:Int}(h:¬errX x ws≠0) (h2:¬ (k<0∨(ws.length:Int)≤k)) (h3:(choT x ws k.toNat).2=false):zbv x ws k=(noF,14):=by
  unfold zbv;rw[if_neg h,if_neg h2,h3];rfl
theorem zjC{x:LexD}{ws:List ByteArray}{k:Int}(h:¬errX x ws≠0) (h2:¬ (k<0∨(ws.length:Int)≤k)) (h3:(choT x ws k.toNat).2=true):zbv x ws k=((choT x ws k.toNat).1,0):=by
  unfold zbv;rw[if_neg h,if_neg h2,h3];rfl
def zik:List ByteArray:=[⟨#[110,111,117,110]⟩,⟨#[118,101,114,98]⟩,⟨#[110,97,109,101]⟩]
def zjV:List ByteArray:=[⟨#[97,110,110,97]⟩,⟨#[114,111,109,101]⟩,⟨#[107,105,110,103]⟩,⟨#[116,104,101]⟩,⟨#[111,102]⟩,⟨#[111,100,101]⟩,⟨#[108,121,114,101]⟩,⟨#[120]⟩,⟨#[111,100,101,115]⟩,⟨#[107,105,110,103,115]⟩,⟨#[97,110,110,97,115]⟩,⟨#[108,121,114,101,115]⟩,⟨#[115]⟩,⟨#[104,105,115]⟩]
def zaN (n:Int):ByteArray:=ls zik (zdm n 3).toNat
def zf6 (n:Int):ByteArray:=ls zjV (zdm n 14).toNat
theorem zcB (n:Int) (hn:I64 n):Pure Try.prog 20 [encI n] (encS (zaN n)) []:=by
  have h0:=zdM (n:=n) (most:=3) (by decide)
  have h3:=zdN (n:=n) (most:=3) (by decide)
  have hg:([.atom (.string ⟨#[110,111,117,110]⟩),.atom (.string ⟨#[118,101,114,98]⟩),.atom (.string ⟨#[110,97,109,101]⟩)]:List PV).getD (zdm n 3).toNat .junk=.atom (.string (zaN n)):=zbh (l:=zik) (k:=(zdm n 3).toNat) (by show _<3;omega)
  refine Pure.intro (ts:=[2]) Try.func20 (by kernel_rfl) rfl rfl rfl (Nat.le_of_ble_eq_true rfl) ?_ ?_
  · simp[zam,zal,encI,encS,PV.pure,zay]
  refine sY [0] (fun P S K=>K ⟨[(0,S.get 0)],S.hp,S.nx,S.gh⟩) ?_
  all_goals
  refine sZ [2] (fun P S K=>XvBuildS P 35 3 S.nx [(0,(.atom (.string { data := #[110,111,117,110] }))),(1,(.atom (.string { data := #[118,101,114,98] }))),(2,(.atom (.string { data := #[110,97,109,101] })))] (fun r0 ef0=>XvFnIV P (M (Eff.hp ef0 S.nx S.hp) (S.nx+ef0.add.length)) (.fn 10 []) [(S.get 0),(.atom (.int .i64 3))] (fun r2 ef2=>XvIndexAddr P 35 r0 r2 (fun r3 _=>XvLoad P 9 (M (Eff.hp ef2 (S.nx+ef0.add.length) (Eff.hp ef0 S.nx S.hp)) ((S.nx+ef0.add.length)+ef2.add.length)) r3 (fun r4 _=>K ⟨[(2,r4)],(Eff.hp ef2 (S.nx+ef0.add.length) (Eff.hp ef0 S.nx S.hp)),((S.nx+ef0.add.length)+ef2.add.length),S.gh⟩))))) fun K hK=>?_
  repeat' (first|(refine hK _ ?_;clear hK K)|refine And.intro ?_ ?_|exact cl|refine .inl ⟨_,_,zdZ n 3 hn (by decide),?_⟩|(refine st ?_;try simp only[hg])|refine sx ?_ (by simp only[hg];exact rfl)|fail)
  all_goals
  refine Tri.ret ?_
  show ResOk _ _ _ _
  exact ResOk.val zcf zbY
theorem zfq (n:Int) (hn:I64 n):Pure Try.prog 13 [encI n] (encS (zf6 n)) []:=by
  have h0:=zdM (n:=n) (most:=14) (by decide)
  have h3:=zdN (n:=n) (most:=14) (by decide)
  have hg:([.atom (.string ⟨#[97,110,110,97]⟩),.atom (.string ⟨#[114,111,109,101]⟩),.atom (.string ⟨#[107,105,110,103]⟩),.atom (.string ⟨#[116,104,101]⟩),.atom (.string ⟨#[111,102]⟩),.atom (.string ⟨#[111,100,101]⟩),.atom (.string ⟨#[108,121,114,101]⟩),.atom (.string ⟨#[120]⟩),.atom (.string ⟨#[111,100,101,115]⟩),.atom (.string ⟨#[107,105,110,103,115]⟩),.atom (.string ⟨#[97,110,110,97,115]⟩),.atom (.string ⟨#[108,121,114,101,115]⟩),.atom (.string ⟨#[115]⟩),.atom (.string ⟨#[104,105,115]⟩)]:List PV).getD (zdm n 14).toNat .junk=.atom (.string (zf6 n)):=zbh (l:=zjV) (k:=(zdm n 14).toNat) (by show _<14;omega)
  refine Pure.intro (ts:=[2]) Try.func13 (by kernel_rfl) rfl rfl rfl (Nat.le_of_ble_eq_true rfl) ?_ ?_
  · simp[zam,zal,encI,encS,PV.pure,zay]
  refine sY [0] (fun P S K=>K ⟨[(0,S.get 0)],S.hp,S.nx,S.gh⟩) ?_
  all_goals
  refine sY [0,3] (fun P S K=>XvBuildS P 35 14 S.nx [(0,(.atom (.string { data := #[97,110,110,97] }))),(1,(.atom (.string { data := #[114,111,109,101] }))),(2,(.atom (.string { data := #[107,105,110,103] }))),(3,(.atom (.string { data := #[116,104,101] }))),(4,(.atom (.string { data := #[111,102] }))),(5,(.atom (.string { data := #[111,100,101] }))),(6,(.atom (.string { data := #[108,121,114,101] }))),(7,(.atom (.string { data := #[120] }))),(8,(.atom (.string { data := #[111,100,101,115] }))),(9,(.atom (.string { data := #[107,105,110,103,115] }))),(10,(.atom (.string { data := #[97,110,110,97,115] }))),(11,(.atom (.string { data := #[108,121,114,101,115] }))),(12,(.atom (.string { data := #[115] }))),(13,(.atom (.string { data := #[104,105,115] })))] (fun r0 ef0=>K ⟨[(0,S.get 0),(3,r0)],(Eff.hp ef0 S.nx S.hp),(S.nx+ef0.add.length),S.gh⟩)) ?_
  all_goals
  refine sZ [2] (fun P S K=>XvLen P 35 (M S.hp S.nx) (S.get 3) (fun r3 _=>XvFnIV P (M S.hp S.nx) (.fn 10 []) [(S.get 0),r3] (fun r4 ef4=>XvIndexAddr P 35 (S.get 3) r4 (fun r5 _=>XvLoad P 9 (M (Eff.hp ef4 S.nx S.hp) (S.nx+ef4.add.length)) r5 (fun r6 _=>K ⟨[(2,r6)],(Eff.hp ef4 S.nx S.hp),(S.nx+ef4.add.length),S.gh⟩))))) fun K hK=>?_
  repeat' (first|(refine hK _ ?_;clear hK K)|refine And.intro ?_ ?_|exact cl|refine .inl ⟨_,_,zdZ n 14 hn (by decide),?_⟩|(refine st ?_;try simp only[hg])|refine sx ?_ (by simp only[hg];exact rfl)|fail)
  all_goals
  refine Tri.ret ?_
  show ResOk _ _ _ _
  exact ResOk.val zcf zbY
def zfI (l:List Int):List ByteArray:=(l.take 7).map zf6
theorem take_liM{l:List Int}{k:Nat}(h:k<l.length):l.take (k+1)=l.take k++[li l k]:=by rw[List.take_succ_eq_append_getElem h];simp[li,List.getD_eq_getElem?_getD,h]
theorem zgl (l:List Int) (hl:Fits l):Pure Try.prog 8 [ints l] (strs (zfI l)) []:=by
  have hll:=hl.2
  refine Pure.intro (ts:=[2]) Try.func8 (by kernel_rfl) rfl rfl rfl (Nat.le_of_ble_eq_true rfl) ?_ ?_
  · simp[zam,zal,encI,encS,PV.pure,zay]
  refine sY [0] (fun P S K=>K ⟨[(0,S.get 0)],S.hp,S.nx,S.gh⟩) ?_
  all_goals
  refine sY [0,3] (fun P S K=>K ⟨[(0,S.get 0),(3,(.atom (.slice none 0 0)))],S.hp,S.nx,S.gh⟩) ?_
  refine Tri.born 3 1 rfl ?_
  all_goals
  refine Tri.seq ?_
  refine sY [0,3,4] (fun P S K=>K ⟨[(0,S.get 0),(3,S.get 3),(4,(.atom (.int .i64 0)))],S.hp,S.nx,S.gh⟩) ?_
  all_goals
  refine Tri.block ?_
  refine Tri.loop (α:=(o:List ByteArray) ×' (i:Nat) ×' (i≤l.length∧i≤7∧o.length=i∧o=(l.take i).map zf6)) (fun z=>(fun(o:List ByteArray) (i:Nat)=>(⟨[(0,ints l),(3,.ob 0 1 0 o.length),(4,encI i)],[(0,some ⟨1,o.map encS⟩)],1,[]⟩:St)) z.1 z.2.1) (fun z=>(fun(o:List ByteArray) (i:Nat)=>7 - i) z.1 z.2.1) ⟨[],0,⟨Nat.zero_le _,by omega,rfl,rfl⟩⟩ [0] ?_ ?_
  ·exact zbj
  rintro⟨o,i,⟨hi,hi7,hol,ho⟩⟩
  refine Tri.seq ?_
  refine sZ [0,3,4,12] (fun P S K=>XvLen P 22 (M S.hp S.nx) (S.get 0) (fun r2 _=>XvBinOV P .lss 3 (.tmp 7) (S.get 4) r2 (fun r3 _=>Xgq r3 true (fun k=>k (S.get 4)) (fun g5 r5=>Xgq g5 true (fun k=>XvBinOV P .lss 3 (.const (.int .i64 7)) r5 (.atom (.int .i64 7)) (fun r6 _=>k r6)) (fun g6 r6=>XvPick g6 r6 (.atom (.bool false)) (fun r7 _=>K ⟨[(0,S.get 0),(3,S.get 3),(4,S.get 4),(12,r7)],S.hp,S.nx,S.gh⟩)))))) fun K hK=>?_
  repeat' (first|(refine hK _ ?_;clear hK K)|((first|refine zak (fun hg=>?_) (fun hg=>?_)|refine fun(hg:(_:Prop))=>?_)<;>((try simp only[BQ] at hg);try (exfalso;omega)))|refine And.intro ?_ ?_|exact cl|refine zai ?_ _|refine zaj ?_ _|refine st ?_|fail)
  all_goals
  refine Tri.cond rfl (fun h12=>?_) (fun h12=>?_)
  ·try (cases h12;done)
   all_goals (try simp only[CQ] at h12)
   all_goals
   refine Tri.skip ?_
   refine Tri.seq ?_
   refine Tri.block ?_
   have hil:i<l.length:=by omega
   refine rZ [0,3,4] (fun P S K=>XvIndexAddr P 22 (S.get 0) (S.get 4) (fun r3 _=>XvLoad P 3 (M S.hp S.nx) r3 (fun r4 _=>XvFnIV P (M S.hp S.nx) (.fn 13 []) [r4] (fun r5 ef5=>XvBuildS P 35 1 (S.nx+ef5.add.length) [(0,r5)] (fun r6 ef6=>(35=35∧XvAppend P 35 (M (Eff.hp ef6 (S.nx+ef5.add.length) (Eff.hp ef5 S.nx S.hp)) ((S.nx+ef5.add.length)+ef6.add.length)) (S.get 3) r6 (fun r7 ef7=>K ⟨[(0,S.get 0),(3,r7),(4,S.get 4)],(Eff.hp ef7 ((S.nx+ef5.add.length)+ef6.add.length) (Eff.hp ef6 (S.nx+ef5.add.length) (Eff.hp ef5 S.nx S.hp))),(((S.nx+ef5.add.length)+ef6.add.length)+ef7.add.length),S.gh⟩))))))) fun K hK=>?_
   repeat' (first|(refine hK _ ?_;clear hK K)|((first|refine zak (fun hg=>?_) (fun hg=>?_)|refine fun(hg:(_:Prop))=>?_)<;>((try simp only[BQ] at hg);try (exfalso;omega)))|refine And.intro ?_ ?_|exact cl|refine zai ?_ _|refine zaj ?_ _|refine .inl ⟨_,_,zfq (li l i) (hl.1 _ (zgA hil)),?_⟩|(refine st ?_;try simp only[zaP hil])|refine sx ?_ (by simp only[zaP hil];exact rfl)|fail)
   all_goals
   refine rY [0,3,4] (fun P S K=>XvBinOV P .add 3 (.const (.int .i64 1)) (S.get 4) (.atom (.int .i64 1)) (fun r1 _=>K ⟨[(0,S.get 0),(3,S.get 3),(4,r1)],S.hp,S.nx,S.gh⟩)) ?_
   all_goals try simp (disch:=omega) only[zag,zah]
   all_goals
   refine⟨⟨o++[zf6 (li l i)],i+1,by omega,by omega,by simp[hol],by rw[take_liM hil,List.map_append,←ho];rfl⟩,[2],by dsimp only;omega,?_⟩
   exact zbj
  try (cases h12;done)
  all_goals (try simp only[CQ] at h12)
  all_goals
  refine Tri.exit ?_
  refine sY [2] (fun P S K=>K ⟨[(2,(S.get 3))],S.hp,S.nx,S.gh⟩) ?_
  all_goals
  refine Tri.ret ?_
  show ResOk _ _ _ _
  rw[show zfI l=o by unfold zfI;rw[ho];(by_cases h7:i=7;rw[h7];rw[List.take_of_length_le (show l.length≤7 by omega),List.take_of_length_le (by omega)])]
  exact ResOk.frz 5 lstM8 zbY
theorem zb9 (s:ByteArray) (least most:Int) (hs:s.size≤9223372036854775807):Pure Try.prog 45 [encS s,encI least,encI most] (.atom (.bool (letS s least most))) []:=by
  refine Pure.intro (ts:=[6]) Try.func45 (by kernel_rfl) rfl rfl rfl (Nat.le_of_ble_eq_true rfl) ?_ ?_
  · simp[zam,zal,encI,encS,PV.pure,zay]
  refine sY [0,1,2] (fun P S K=>K ⟨[(0,S.get 0),(1,S.get 1),(2,S.get 2)],S.hp,S.nx,S.gh⟩) ?_
  all_goals
  refine Tri.seq ?_
  refine sZ [0,17] (fun P S K=>XvLen P 9 (M S.hp S.nx) (S.get 0) (fun r1 _=>XvBinOV P .lss 3 (.tmp 10) r1 (S.get 1) (fun r3 _=>Xgq r3 false (fun k=>k (S.get 0)) (fun g5 r5=>Xgq g5 false (fun k=>XvLen P 9 (M S.hp S.nx) r5 (fun r6 _=>k r6)) (fun g6 r6=>Xgq g6 false (fun k=>k (S.get 2)) (fun g7 r7=>Xgq g7 false (fun k=>XvBinOV P .gtr 3 (.tmp 15) r6 r7 (fun r8 _=>k r8)) (fun g8 r8=>XvPick g8 (.atom (.bool true)) r8 (fun r9 _=>K ⟨[(0,S.get 0),(17,r9)],S.hp,S.nx,S.gh⟩)))))))) fun K hK=>?_
  repeat' (first|(refine hK _ ?_;clear hK K)|((first|refine zak (fun hg=>?_) (fun hg=>?_)|refine fun(hg:(_:Prop))=>?_)<;>((try simp only[BQ] at hg);try (exfalso;omega)))|refine And.intro ?_ ?_|exact cl|refine zai ?_ _|refine zaj ?_ _|refine st ?_|fail)
  all_goals
  refine Tri.cond rfl (fun h17=>?_) (fun h17=>?_)
  ·try (cases h17;done)
   all_goals (try simp only[CQ] at h17)
   all_goals
   refine sY [6] (fun P S K=>K ⟨[(6,(.atom (.bool false)))],S.hp,S.nx,S.gh⟩) ?_
   all_goals
   refine Tri.ret ?_
   show ResOk _ _ _ _
   rw[show letS s least most=false from Bool.eq_false_iff.2 (fun h=>by have:=(letS_iff.1 h).2;omega)]
   exact ResOk.val zcf zbY
  try (cases h17;done)
  all_goals (try simp only[CQ] at h17)
  all_goals
  refine Tri.skip ?_
  refine Tri.seq ?_
  refine sY [0,19,20] (fun P S K=>XvLen P 9 (M S.hp S.nx) (S.get 0) (fun r1 _=>K ⟨[(0,S.get 0),(19,r1),(20,(.atom (.int .i64 0)))],S.hp,S.nx,S.gh⟩)) ?_
  all_goals
  refine Tri.block ?_
  refine Tri.loop (α:=(i:Nat) ×' (i≤s.size∧∀j,j<i→97≤(zb0 s j).toNat∧(zb0 s j).toNat≤122)) (fun z=>(fun(i:Nat)=>(⟨[(0,encS s),(19,encI s.size),(20,encI i)],[],0,[]⟩:St)) z.1) (fun z=>(fun(i:Nat)=>s.size - i) z.1) ⟨0,⟨by omega,by omega⟩⟩ [] ?_ ?_
  ·exact zbj
  rintro⟨i,⟨hi,hlo⟩⟩
  refine sY [0,19,20,21] (fun P S K=>XvBinOV P .lss 3 (.tmp 19) (S.get 20) (S.get 19) (fun r0 _=>K ⟨[(0,S.get 0),(19,S.get 19),(20,S.get 20),(21,r0)],S.hp,S.nx,S.gh⟩)) ?_
  all_goals
  refine Tri.seq ?_
  refine Tri.cond rfl (fun h21=>?_) (fun h21=>?_)
  ·try (cases h21;done)
   all_goals (try simp only[CQ] at h21)
   all_goals
   refine Tri.skip ?_
   refine Tri.seq ?_
   refine Tri.block ?_
   refine sY [0,7,19,20] (fun P S K=>K ⟨[(0,S.get 0),(7,(S.get 20)),(19,S.get 19),(20,S.get 20)],S.hp,S.nx,S.gh⟩) ?_
   all_goals
   refine sZ [0,19,20,32] (fun P S K=>XvIndex P 9 (S.get 0) (S.get 7) (fun r2 _=>XvBinOV P .lss 5 (.const (.int .u8 97)) r2 (.atom (.int .u8 97)) (fun r3 _=>Xgq r3 false (fun k=>k (S.get 0)) (fun g5 r5=>Xgq g5 false (fun k=>k (S.get 7)) (fun g6 r6=>Xgq g6 false (fun k=>XvIndex P 9 r5 r6 (fun r7 _=>k r7)) (fun g7 r7=>Xgq g7 false (fun k=>XvBinOV P .gtr 5 (.const (.int .u8 122)) r7 (.atom (.int .u8 122)) (fun r8 _=>k r8)) (fun g8 r8=>XvPick g8 (.atom (.bool true)) r8 (fun r9 _=>K ⟨[(0,S.get 0),(19,S.get 19),(20,S.get 20),(32,r9)],S.hp,S.nx,S.gh⟩)))))))) fun K hK=>?_
   repeat' (first|(refine hK _ ?_;clear hK K)|((first|refine zak (fun hg=>?_) (fun hg=>?_)|refine fun(hg:(_:Prop))=>?_)<;>((try simp only[BQ] at hg);try (exfalso;omega)))|refine And.intro ?_ ?_|exact cl|refine zai ?_ _|refine zaj ?_ _|refine st ?_|fail)
   all_goals
   refine Tri.cond rfl (fun h32=>?_) (fun h32=>?_)
   ·try (cases h32;done)
    all_goals (try simp only[CQ] at h32)
    all_goals
    refine sY [6] (fun P S K=>K ⟨[(6,(.atom (.bool false)))],S.hp,S.nx,S.gh⟩) ?_
    all_goals
    refine Tri.ret ?_
    show ResOk _ _ _ _
    rw[show letS s least most=false from Bool.eq_false_iff.2 (fun h=>by have:=(letS_iff.1 h).1 i (by omega);omega)]
    exact ResOk.val zcf zbY
   try (cases h32;done)
   all_goals (try simp only[CQ] at h32)
   all_goals
   refine Tri.skip ?_
   refine rY [0,19,20] (fun P S K=>XvBinOV P .add 3 (.const (.int .i64 1)) (S.get 20) (.atom (.int .i64 1)) (fun r0 _=>K ⟨[(0,S.get 0),(19,S.get 19),(20,r0)],S.hp,S.nx,S.gh⟩)) ?_
   all_goals try simp (disch:=omega) only[zag,zah]
   all_goals
   refine⟨⟨i+1,by omega,fun j hj=>?_⟩,[],by dsimp only;omega,?_⟩
   · rcases Nat.lt_succ_iff_lt_or_eq.1 hj with hj|rfl
     · exact hlo j hj
     · omega
   · exact zbj
  try (cases h21;done)
  all_goals (try simp only[CQ] at h21)
  all_goals
  refine Tri.exit ?_
  refine sY [6] (fun P S K=>K ⟨[(6,(.atom (.bool true)))],S.hp,S.nx,S.gh⟩) ?_
  all_goals
  refine Tri.ret ?_
  show ResOk _ _ _ _
  rw[show letS s least most=true from letS_iff.2 ⟨fun j hj=>hlo j (by omega),by omega,by omega⟩]
  exact ResOk.val zcf zbY
theorem zbc (s:ByteArray) (hs:s.size≤9223372036854775807):Pure Try.prog 46 [encS s] (.atom (.bool (letS s 1 8))) []:=by
  refine Pure.intro (ts:=[2]) Try.func46 (by kernel_rfl) rfl rfl rfl (Nat.le_of_ble_eq_true rfl) ?_ ?_
  · simp[zam,zal,encI,encS,PV.pure,zay]
  refine sY [0] (fun P S K=>K ⟨[(0,S.get 0)],S.hp,S.nx,S.gh⟩) ?_
  all_goals
  refine sZ [2] (fun P S K=>XvFnIV P (M S.hp S.nx) (.fn 45 []) [(S.get 0),(.atom (.int .i64 1)),(.atom (.int .i64 8))] (fun r1 ef1=>K ⟨[(2,r1)],(Eff.hp ef1 S.nx S.hp),(S.nx+ef1.add.length),S.gh⟩)) fun K hK=>?_
  repeat' (first|(refine hK _ ?_;clear hK K)|refine And.intro ?_ ?_|exact cl|refine .inl ⟨_,_,zb9 s 1 8 hs,?_⟩|refine st ?_|fail)
  all_goals
  refine Tri.ret ?_
  show ResOk _ _ _ _
  exact ResOk.val zcf zbY
theorem vX_badF{x:LexD}{i:Nat}(h:¬ (64<x.forms.length∨32<x.rules.length∨32<x.prefs.length)) (hi:i<x.forms.length) (hf:zgJ (fF x.forms i)=false):zb1 x=1:=by
  unfold zb1 zih;rw[if_neg h,if_neg];rw[allF_no hi hf];simp
theorem vX_badR{x:LexD}{i:Nat}(h:¬ (64<x.forms.length∨32<x.rules.length∨32<x.prefs.length)) (hi:i<x.rules.length) (hf:zgI (fR x.rules i)=false):zb1 x=1:=by
  unfold zb1 zih;rw[if_neg h,if_neg]
  intro ha
  rw[Bool.and_eq_true,Bool.and_eq_true] at ha
  have:=List.all_eq_true.1 ha.1.2 _ (zff hi)
  rw[hf] at this;cases this
theorem vX_badA{x:LexD}{i:Nat}(h:¬ (64<x.forms.length∨32<x.rules.length∨32<x.prefs.length)) (hi:i<x.prefs.length) (hf:zgK (fA x.prefs i)=false):zb1 x=1:=by
  unfold zb1 zih;rw[if_neg h,if_neg]
  intro ha
  rw[Bool.and_eq_true,Bool.and_eq_true] at ha
  have:=List.all_eq_true.1 ha.2 _ (zd1 hi)
  rw[hf] at this;cases this
theorem vX_ok{x:LexD}(h:¬ (64<x.forms.length∨32<x.rules.length∨32<x.prefs.length)) (h1:∀j,j<x.forms.length→zgJ (fF x.forms j)=true) (h2:∀j,j<x.rules.length→zgI (fR x.rules j)=true) (h3:∀j,j<x.prefs.length→zgK (fA x.prefs j)=true):zb1 x=0:=by
  unfold zb1 zih;rw[if_neg h,if_pos]
  rw[Bool.and_eq_true,Bool.and_eq_true]
  refine⟨⟨allF_yes h1,List.all_eq_true.2 fun y hy=>?_⟩,List.all_eq_true.2 fun y hy=>?_⟩
  · obtain⟨j,hj,rfl⟩:=List.getElem_of_mem hy;rw[←zqx hj];exact h2 j hj
  · obtain⟨j,hj,rfl⟩:=List.getElem_of_mem hy;rw[←zl3 hj];exact h3 j hj
theorem size0 (s:ByteArray):s.size=0↔s=⟨#[]⟩:=by
  cases s with|mk a=>simp[ByteArray.size]
theorem let0 (s:ByteArray):letS s 0 8=(decide (s=⟨#[]⟩) || letS s 1 8):=by
  by_cases h:s=⟨#[]⟩
  · subst h;rfl
  · rw[decide_eq_false h,Bool.false_or]
    have:s.size≠0:=fun e=>h ((size0 s).1 e)
    unfold letS
    rw[decide_eq_true (show(0:Int)≤s.size by omega),decide_eq_true (show(1:Int)≤s.size by omega)]
theorem zl2 (p:PrefD):zgK p=((decide (p.after=⟨#[]⟩) || letS p.after 1 8) && (decide (p.before=⟨#[]⟩) || letS p.before 1 8) && !decide (p.after++p.before=⟨#[]⟩) && letS p.cls 1 8):=by
  have e:decide (0<p.after.size+p.before.size) = !decide (p.after++p.before=⟨#[]⟩):=by
    rw[←decide_not]
    congr 1
    rw[←size0,ByteArray.size_append]
    exact propext ⟨fun h=>by omega,fun h=>by omega⟩
  unfold zgK
  rw[e,let0,let0,Bool.and_assoc,Bool.and_assoc,Bool.and_assoc,Bool.and_assoc,Bool.and_comm (letS p.cls 1 8)]
theorem zeQ (x:LexD) (hx:HeldX x):Pure Try.prog 27 [encX x] (encI (zb1 x)) []:=by
  have hnf:=hx.nforms
  have hnr:=hx.nrules
  have hnp:=hx.nprefs
  refine Pure.intro (ts:=[2]) Try.func27 (by kernel_rfl) rfl rfl rfl (Nat.le_of_ble_eq_true rfl) ?_ ?_
  · simp[zaW,PV.pure,zay]
  refine sZ [1] (fun P S K=>XvBox S.nx (S.get 0) (fun r0 ef0=>K ⟨[(1,r0)],(Eff.hp ef0 S.nx S.hp),(S.nx+ef0.add.length),S.gh⟩)) fun K hK=>?_
  repeat' (first|(refine hK _ ?_;clear hK K)|refine And.intro ?_ ?_|exact cl|(refine st ?_;try simp only[encX,zab,zac,zad,encF,encR,encA])|refine sx ?_ (by simp only[encX,zab,zac,zad,encF,encR,encA];exact rfl)|fail)
  all_goals
  refine Tri.seq ?_
  refine sZ [1,24] (fun P S K=>XvFieldAddr P 27 0 (S.get 1) (fun r0 _=>XvLoad P 23 (M S.hp S.nx) r0 (fun r1 _=>XvLen P 23 (M S.hp S.nx) r1 (fun r2 _=>XvBinOV P .gtr 3 (.const (.int .i64 64)) r2 (.atom (.int .i64 64)) (fun r3 _=>Xgq r3 false (fun k=>XvFieldAddr P 27 1 (S.get 1) (fun r5 _=>k r5)) (fun g5 r5=>Xgq g5 false (fun k=>XvLoad P 24 (M S.hp S.nx) r5 (fun r6 _=>k r6)) (fun g6 r6=>Xgq g6 false (fun k=>XvLen P 24 (M S.hp S.nx) r6 (fun r7 _=>k r7)) (fun g7 r7=>Xgq g7 false (fun k=>XvBinOV P .gtr 3 (.const (.int .i64 32)) r7 (.atom (.int .i64 32)) (fun r8 _=>k r8)) (fun g8 r8=>XvPick g8 (.atom (.bool true)) r8 (fun r9 _=>Xgq r9 false (fun k=>XvFieldAddr P 27 2 (S.get 1) (fun r11 _=>k r11)) (fun g11 r11=>Xgq g11 false (fun k=>XvLoad P 25 (M S.hp S.nx) r11 (fun r12 _=>k r12)) (fun g12 r12=>Xgq g12 false (fun k=>XvLen P 25 (M S.hp S.nx) r12 (fun r13 _=>k r13)) (fun g13 r13=>Xgq g13 false (fun k=>XvBinOV P .gtr 3 (.const (.int .i64 32)) r13 (.atom (.int .i64 32)) (fun r14 _=>k r14)) (fun g14 r14=>XvPick g14 (.atom (.bool true)) r14 (fun r15 _=>K ⟨[(1,S.get 1),(24,r15)],S.hp,S.nx,S.gh⟩))))))))))))))) fun K hK=>?_
  repeat' (first|(refine hK _ ?_;clear hK K)|((first|refine zak (fun hg=>?_) (fun hg=>?_)|refine fun(hg:(_:Prop))=>?_)<;>((try simp only[BQ] at hg);try (exfalso;omega)))|refine And.intro ?_ ?_|exact cl|refine zai ?_ _|refine zaj ?_ _|(refine st ?_;try simp only[encX,zab,zac,zad,encF,encR,encA])|refine sx ?_ (by simp only[encX,zab,zac,zad,encF,encR,encA];exact rfl)|fail)
  all_goals
  refine Tri.cond rfl (fun h24=>?_) (fun h24=>?_)
  ·try (cases h24;done)
   all_goals (try simp only[CQ] at h24)
   all_goals
   refine sY [2] (fun P S K=>K ⟨[(2,(.atom (.int .i64 4)))],S.hp,S.nx,S.gh⟩) ?_
   all_goals
   refine Tri.ret ?_
   show ResOk _ _ _ _
   rw[show zb1 x=4 from if_pos (by omega)]
   exact ResOk.val zcf zbY
  try (cases h24;done)
  all_goals (try simp only[CQ] at h24)
  all_goals
  refine Tri.skip ?_
  refine Tri.seq ?_
  refine sZ [1,26,27,28] (fun P S K=>XvFieldAddr P 27 0 (S.get 1) (fun r0 _=>XvLoad P 23 (M S.hp S.nx) r0 (fun r1 _=>XvLen P 23 (M S.hp S.nx) r1 (fun r2 _=>K ⟨[(1,S.get 1),(26,r1),(27,r2),(28,(.atom (.int .i64 0)))],S.hp,S.nx,S.gh⟩)))) fun K hK=>?_
  repeat' (first|(refine hK _ ?_;clear hK K)|refine And.intro ?_ ?_|exact cl|(refine st ?_;try simp only[encX,zab,zac,zad,encF,encR,encA])|refine sx ?_ (by simp only[encX,zab,zac,zad,encF,encR,encA];exact rfl)|fail)
  all_goals
  refine Tri.block ?_
  refine Tri.loop (α:=(i:Nat) ×' (i≤x.forms.length∧∀j,j<i→zgJ (fF x.forms j)=true)) (fun z=>(fun(i:Nat)=>(⟨[(1,.ptr 0 3 0 0),(26,zab x.forms),(27,encI x.forms.length),(28,encI i)],[(0,some ⟨3,[encX x]⟩)],1,[]⟩:St)) z.1) (fun z=>(fun(i:Nat)=>x.forms.length - i) z.1) ⟨0,⟨Nat.zero_le _,fun j hj=>absurd hj (Nat.not_lt_zero _)⟩⟩ [0] ?_ ?_
  ·exact zbj
  rintro⟨i,⟨hi,hf⟩⟩
  refine sY [1,26,27,28,29] (fun P S K=>XvBinOV P .lss 3 (.tmp 27) (S.get 28) (S.get 27) (fun r0 _=>K ⟨[(1,S.get 1),(26,S.get 26),(27,S.get 27),(28,S.get 28),(29,r0)],S.hp,S.nx,S.gh⟩)) ?_
  all_goals
  refine Tri.seq ?_
  refine Tri.cond rfl (fun h29=>?_) (fun h29=>?_)
  ·try (cases h29;done)
   all_goals (try simp only[CQ] at h29)
   all_goals
   refine Tri.skip ?_
   refine Tri.seq ?_
   refine Tri.block ?_
   have hil:i<x.forms.length:=by omega
   refine sZ [1,4,26,27,28] (fun P S K=>XvIndexAddr P 23 (S.get 26) (S.get 28) (fun r0 _=>XvLoad P 40 (M S.hp S.nx) r0 (fun r1 _=>XvAlloc P 40 S.nx (fun r2 ef2=>XvStore P 40 (M (Eff.hp ef2 S.nx S.hp) (S.nx+ef2.add.length)) r2 r1 (fun r3 ef3=>K ⟨[(1,S.get 1),(4,r2),(26,S.get 26),(27,S.get 27),(28,S.get 28)],(Eff.hp ef3 (S.nx+ef2.add.length) (Eff.hp ef2 S.nx S.hp)),((S.nx+ef2.add.length)+ef3.add.length),S.gh⟩))))) fun K hK=>?_
   repeat' (first|(refine hK _ ?_;clear hK K)|refine And.intro ?_ ?_|exact cl|(refine st ?_;try simp only[encX,zab,zac,zad,encF,encR,encA,zaG hil])|refine sx ?_ (by simp only[encX,zab,zac,zad,encF,encR,encA,zaG hil];exact rfl)|fail)
   all_goals
   refine sZ [1,26,27,28,47] (fun P S K=>XvFieldAddr P 40 0 (S.get 4) (fun r0 _=>XvLoad P 9 (M S.hp S.nx) r0 (fun r1 _=>XvFnIV P (M S.hp S.nx) (.fn 45 []) [r1,(.atom (.int .i64 1)),(.atom (.int .i64 24))] (fun r2 ef2=>XvUn .not r2 (fun r3 _=>Xgq r3 false (fun k=>XvFieldAddr P 40 1 (S.get 4) (fun r5 _=>k r5)) (fun g5 r5=>Xgq g5 false (fun k=>XvLoad P 9 (M (Eff.hp ef2 S.nx S.hp) (S.nx+ef2.add.length)) r5 (fun r6 _=>k r6)) (fun g6 r6=>Xge g6 false (fun k=>XvFnIV P (M (Eff.hp ef2 S.nx S.hp) (S.nx+ef2.add.length)) (.fn 45 []) [r6,(.atom (.int .i64 1)),(.atom (.int .i64 24))] k) (fun g7 r7 ef7=>Xgq g7 false (fun k=>XvUn .not r7 (fun r8 _=>k r8)) (fun g8 r8=>XvPick g8 (.atom (.bool true)) r8 (fun r9 _=>Xgq r9 false (fun k=>XvFieldAddr P 40 2 (S.get 4) (fun r11 _=>k r11)) (fun g11 r11=>Xgq g11 false (fun k=>XvLoad P 9 (M (Eff.hp ef7 (S.nx+ef2.add.length) (Eff.hp ef2 S.nx S.hp)) ((S.nx+ef2.add.length)+ef7.add.length)) r11 (fun r12 _=>k r12)) (fun g12 r12=>Xge g12 false (fun k=>XvFnIV P (M (Eff.hp ef7 (S.nx+ef2.add.length) (Eff.hp ef2 S.nx S.hp)) ((S.nx+ef2.add.length)+ef7.add.length)) (.fn 46 []) [r12] k) (fun g13 r13 ef13=>Xgq g13 false (fun k=>XvUn .not r13 (fun r14 _=>k r14)) (fun g14 r14=>XvPick g14 (.atom (.bool true)) r14 (fun r15 _=>K ⟨[(1,S.get 1),(26,S.get 26),(27,S.get 27),(28,S.get 28),(47,r15)],(Eff.hp ef13 ((S.nx+ef2.add.length)+ef7.add.length) (Eff.hp ef7 (S.nx+ef2.add.length) (Eff.hp ef2 S.nx S.hp))),(((S.nx+ef2.add.length)+ef7.add.length)+ef13.add.length),S.gh⟩))))))))))))))) fun K hK=>?_
   repeat' (first|(refine hK _ ?_;clear hK K)|((first|refine zak (fun hg=>?_) (fun hg=>?_)|refine fun(hg:(_:Prop))=>?_)<;>((try simp only[BQ] at hg);try (exfalso;omega)))|refine And.intro ?_ ?_|exact cl|refine zai ?_ _|refine zaj ?_ _|refine .inl ⟨_,_,zb9 _ 1 24 (up47 (hx.forms _ (zem hil)).word),?_⟩|refine .inl ⟨_,_,zb9 _ 1 24 (up47 (hx.forms _ (zem hil)).lem),?_⟩|refine .inl ⟨_,_,zbc _ (up47 (hx.forms _ (zem hil)).cls),?_⟩|refine .inl ⟨_,_,zb9 _ 0 8 (up47 (hx.rules _ (zff hjl)).suf),?_⟩|refine .inl ⟨_,_,zb9 _ 0 8 (up47 (hx.rules _ (zff hjl)).put),?_⟩|refine .inl ⟨_,_,zbc _ (up47 (hx.rules _ (zff hjl)).cls),?_⟩|refine .inl ⟨_,_,zbc _ (up47 (hx.prefs _ (zd1 hkl)).after),?_⟩|refine .inl ⟨_,_,zbc _ (up47 (hx.prefs _ (zd1 hkl)).before),?_⟩|refine .inl ⟨_,_,zbc _ (up47 (hx.prefs _ (zd1 hkl)).cls),?_⟩|(refine st ?_;try simp only[encX,zab,zac,zad,encF,encR,encA])|refine sx ?_ (by simp only[encX,zab,zac,zad,encF,encR,encA];exact rfl)|fail)
   all_goals try simp (disch:=omega) only[zag,zah]
   all_goals
   refine Tri.cond rfl (fun h47=>?_) (fun h47=>?_)
   ·try (cases h47;done)
    all_goals (try simp only[CQ] at h47)
    all_goals
    refine sY [2] (fun P S K=>K ⟨[(2,(.atom (.int .i64 1)))],S.hp,S.nx,S.gh⟩) ?_
    all_goals
    refine Tri.ret ?_
    show ResOk _ _ _ _
    rw[vX_badF (by omega) hil (by unfold zgJ;simp_all)]
    exact ResOk.val zcf zbY
   try (cases h47;done)
   all_goals (try simp only[CQ] at h47)
   all_goals
   refine Tri.skip ?_
   refine rY [1,26,27,28] (fun P S K=>XvBinOV P .add 3 (.const (.int .i64 1)) (S.get 28) (.atom (.int .i64 1)) (fun r0 _=>K ⟨[(1,S.get 1),(26,S.get 26),(27,S.get 27),(28,r0)],S.hp,S.nx,S.gh⟩)) ?_
   all_goals try simp (disch:=omega) only[zag,zah]
   all_goals
   refine⟨⟨i+1,by omega,fun j hj=>?_⟩,[0],by dsimp only;omega,?_⟩
   · rcases Nat.lt_succ_iff_lt_or_eq.1 hj with hj|rfl
     · exact hf j hj
     · unfold zgJ;simp_all
   · exact zbj
  try (cases h29;done)
  all_goals (try simp only[CQ] at h29)
  all_goals
  refine Tri.exit ?_
  refine Tri.seq ?_
  refine sZ [1,50,51,52] (fun P S K=>XvFieldAddr P 27 1 (S.get 1) (fun r0 _=>XvLoad P 24 (M S.hp S.nx) r0 (fun r1 _=>XvLen P 24 (M S.hp S.nx) r1 (fun r2 _=>K ⟨[(1,S.get 1),(50,r1),(51,r2),(52,(.atom (.int .i64 0)))],S.hp,S.nx,S.gh⟩)))) fun K hK=>?_
  repeat' (first|(refine hK _ ?_;clear hK K)|refine And.intro ?_ ?_|exact cl|(refine st ?_;try simp only[encX,zab,zac,zad,encF,encR,encA])|refine sx ?_ (by simp only[encX,zab,zac,zad,encF,encR,encA];exact rfl)|fail)
  all_goals
  refine Tri.block ?_
  refine Tri.loop (α:=(j:Nat) ×' (j≤x.rules.length∧∀i,i<j→zgI (fR x.rules i)=true)) (fun z=>(fun(j:Nat)=>(⟨[(1,.ptr 0 3 0 0),(50,zac x.rules),(51,encI x.rules.length),(52,encI j)],[(0,some ⟨3,[encX x]⟩)],1,[]⟩:St)) z.1) (fun z=>(fun(j:Nat)=>x.rules.length - j) z.1) ⟨0,⟨Nat.zero_le _,fun j hj=>absurd hj (Nat.not_lt_zero _)⟩⟩ [0] ?_ ?_
  ·exact zbj
  rintro⟨j,⟨hj,hr⟩⟩
  refine sY [1,50,51,52,53] (fun P S K=>XvBinOV P .lss 3 (.tmp 51) (S.get 52) (S.get 51) (fun r0 _=>K ⟨[(1,S.get 1),(50,S.get 50),(51,S.get 51),(52,S.get 52),(53,r0)],S.hp,S.nx,S.gh⟩)) ?_
  all_goals
  refine Tri.seq ?_
  refine Tri.cond rfl (fun h53=>?_) (fun h53=>?_)
  ·try (cases h53;done)
   all_goals (try simp only[CQ] at h53)
   all_goals
   refine Tri.skip ?_
   refine Tri.seq ?_
   refine Tri.block ?_
   have hjl:j<x.rules.length:=by omega
   refine sZ [1,6,50,51,52] (fun P S K=>XvIndexAddr P 24 (S.get 50) (S.get 52) (fun r0 _=>XvLoad P 66 (M S.hp S.nx) r0 (fun r1 _=>XvAlloc P 66 S.nx (fun r2 ef2=>XvStore P 66 (M (Eff.hp ef2 S.nx S.hp) (S.nx+ef2.add.length)) r2 r1 (fun r3 ef3=>K ⟨[(1,S.get 1),(6,r2),(50,S.get 50),(51,S.get 51),(52,S.get 52)],(Eff.hp ef3 (S.nx+ef2.add.length) (Eff.hp ef2 S.nx S.hp)),((S.nx+ef2.add.length)+ef3.add.length),S.gh⟩))))) fun K hK=>?_
   repeat' (first|(refine hK _ ?_;clear hK K)|refine And.intro ?_ ?_|exact cl|(refine st ?_;try simp only[encX,zab,zac,zad,encF,encR,encA,zbI hjl])|refine sx ?_ (by simp only[encX,zab,zac,zad,encF,encR,encA,zbI hjl];exact rfl)|fail)
   all_goals
   refine sZ [1,50,51,52,81] (fun P S K=>XvFieldAddr P 66 0 (S.get 6) (fun r0 _=>XvLoad P 9 (M S.hp S.nx) r0 (fun r1 _=>XvFnIV P (M S.hp S.nx) (.fn 45 []) [r1,(.atom (.int .i64 0)),(.atom (.int .i64 8))] (fun r2 ef2=>XvUn .not r2 (fun r3 _=>Xgq r3 false (fun k=>XvFieldAddr P 66 1 (S.get 6) (fun r5 _=>k r5)) (fun g5 r5=>Xgq g5 false (fun k=>XvLoad P 9 (M (Eff.hp ef2 S.nx S.hp) (S.nx+ef2.add.length)) r5 (fun r6 _=>k r6)) (fun g6 r6=>Xge g6 false (fun k=>XvFnIV P (M (Eff.hp ef2 S.nx S.hp) (S.nx+ef2.add.length)) (.fn 45 []) [r6,(.atom (.int .i64 0)),(.atom (.int .i64 8))] k) (fun g7 r7 ef7=>Xgq g7 false (fun k=>XvUn .not r7 (fun r8 _=>k r8)) (fun g8 r8=>XvPick g8 (.atom (.bool true)) r8 (fun r9 _=>Xgq r9 false (fun k=>XvFieldAddr P 66 2 (S.get 6) (fun r11 _=>k r11)) (fun g11 r11=>Xgq g11 false (fun k=>XvLoad P 9 (M (Eff.hp ef7 (S.nx+ef2.add.length) (Eff.hp ef2 S.nx S.hp)) ((S.nx+ef2.add.length)+ef7.add.length)) r11 (fun r12 _=>k r12)) (fun g12 r12=>Xge g12 false (fun k=>XvFnIV P (M (Eff.hp ef7 (S.nx+ef2.add.length) (Eff.hp ef2 S.nx S.hp)) ((S.nx+ef2.add.length)+ef7.add.length)) (.fn 46 []) [r12] k) (fun g13 r13 ef13=>Xgq g13 false (fun k=>XvUn .not r13 (fun r14 _=>k r14)) (fun g14 r14=>XvPick g14 (.atom (.bool true)) r14 (fun r15 _=>Xgq r15 false (fun k=>XvFieldAddr P 66 3 (S.get 6) (fun r17 _=>k r17)) (fun g17 r17=>Xgq g17 false (fun k=>XvLoad P 3 (M (Eff.hp ef13 ((S.nx+ef2.add.length)+ef7.add.length) (Eff.hp ef7 (S.nx+ef2.add.length) (Eff.hp ef2 S.nx S.hp))) (((S.nx+ef2.add.length)+ef7.add.length)+ef13.add.length)) r17 (fun r18 _=>k r18)) (fun g18 r18=>Xgq g18 false (fun k=>XvBinOV P .lss 3 (.const (.int .i64 0)) r18 (.atom (.int .i64 0)) (fun r19 _=>k r19)) (fun g19 r19=>XvPick g19 (.atom (.bool true)) r19 (fun r20 _=>Xgq r20 false (fun k=>XvFieldAddr P 66 3 (S.get 6) (fun r22 _=>k r22)) (fun g22 r22=>Xgq g22 false (fun k=>XvLoad P 3 (M (Eff.hp ef13 ((S.nx+ef2.add.length)+ef7.add.length) (Eff.hp ef7 (S.nx+ef2.add.length) (Eff.hp ef2 S.nx S.hp))) (((S.nx+ef2.add.length)+ef7.add.length)+ef13.add.length)) r22 (fun r23 _=>k r23)) (fun g23 r23=>Xgq g23 false (fun k=>XvBinOV P .gtr 3 (.const (.int .i64 8)) r23 (.atom (.int .i64 8)) (fun r24 _=>k r24)) (fun g24 r24=>XvPick g24 (.atom (.bool true)) r24 (fun r25 _=>K ⟨[(1,S.get 1),(50,S.get 50),(51,S.get 51),(52,S.get 52),(81,r25)],(Eff.hp ef13 ((S.nx+ef2.add.length)+ef7.add.length) (Eff.hp ef7 (S.nx+ef2.add.length) (Eff.hp ef2 S.nx S.hp))),(((S.nx+ef2.add.length)+ef7.add.length)+ef13.add.length),S.gh⟩))))))))))))))))))))))) fun K hK=>?_
   repeat' (first|(refine hK _ ?_;clear hK K)|((first|refine zak (fun hg=>?_) (fun hg=>?_)|refine fun(hg:(_:Prop))=>?_)<;>((try simp only[BQ] at hg);try (exfalso;omega)))|refine And.intro ?_ ?_|exact cl|refine zai ?_ _|refine zaj ?_ _|refine .inl ⟨_,_,zb9 _ 1 24 (up47 (hx.forms _ (zem hil)).word),?_⟩|refine .inl ⟨_,_,zb9 _ 1 24 (up47 (hx.forms _ (zem hil)).lem),?_⟩|refine .inl ⟨_,_,zbc _ (up47 (hx.forms _ (zem hil)).cls),?_⟩|refine .inl ⟨_,_,zb9 _ 0 8 (up47 (hx.rules _ (zff hjl)).suf),?_⟩|refine .inl ⟨_,_,zb9 _ 0 8 (up47 (hx.rules _ (zff hjl)).put),?_⟩|refine .inl ⟨_,_,zbc _ (up47 (hx.rules _ (zff hjl)).cls),?_⟩|refine .inl ⟨_,_,zbc _ (up47 (hx.prefs _ (zd1 hkl)).after),?_⟩|refine .inl ⟨_,_,zbc _ (up47 (hx.prefs _ (zd1 hkl)).before),?_⟩|refine .inl ⟨_,_,zbc _ (up47 (hx.prefs _ (zd1 hkl)).cls),?_⟩|(refine st ?_;try simp only[encX,zab,zac,zad,encF,encR,encA])|refine sx ?_ (by simp only[encX,zab,zac,zad,encF,encR,encA];exact rfl)|fail)
   all_goals try simp (disch:=omega) only[zag,zah]
   all_goals
   refine Tri.cond rfl (fun h81=>?_) (fun h81=>?_)
   ·try (cases h81;done)
    all_goals (try simp only[CQ] at h81)
    all_goals
    refine sY [2] (fun P S K=>K ⟨[(2,(.atom (.int .i64 1)))],S.hp,S.nx,S.gh⟩) ?_
    all_goals
    refine Tri.ret ?_
    show ResOk _ _ _ _
    rw[vX_badR (by omega) hjl (by unfold zgI;simp_all<;>omega)]
    exact ResOk.val zcf zbY
   try (cases h81;done)
   all_goals (try simp only[CQ] at h81)
   all_goals
   refine Tri.skip ?_
   refine rY [1,50,51,52] (fun P S K=>XvBinOV P .add 3 (.const (.int .i64 1)) (S.get 52) (.atom (.int .i64 1)) (fun r0 _=>K ⟨[(1,S.get 1),(50,S.get 50),(51,S.get 51),(52,r0)],S.hp,S.nx,S.gh⟩)) ?_
   all_goals try simp (disch:=omega) only[zag,zah]
   all_goals
   refine⟨⟨j+1,by omega,fun i hi=>?_⟩,[0],by dsimp only;omega,?_⟩
   · rcases Nat.lt_succ_iff_lt_or_eq.1 hi with hi|rfl
     · exact hr i hi
     · unfold zgI;simp_all<;>omega
   · exact zbj
  try (cases h53;done)
  all_goals (try simp only[CQ] at h53)
  all_goals
  refine Tri.exit ?_
  refine Tri.seq ?_
  refine sZ [84,85,86] (fun P S K=>XvFieldAddr P 27 2 (S.get 1) (fun r0 _=>XvLoad P 25 (M S.hp S.nx) r0 (fun r1 _=>XvLen P 25 (M S.hp S.nx) r1 (fun r2 _=>K ⟨[(84,r1),(85,r2),(86,(.atom (.int .i64 0)))],S.hp,S.nx,S.gh⟩)))) fun K hK=>?_
  repeat' (first|(refine hK _ ?_;clear hK K)|refine And.intro ?_ ?_|exact cl|(refine st ?_;try simp only[encX,zab,zac,zad,encF,encR,encA])|refine sx ?_ (by simp only[encX,zab,zac,zad,encF,encR,encA];exact rfl)|fail)
  all_goals
  refine Tri.block ?_
  refine Tri.loop (α:=(k:Nat) ×' (k≤x.prefs.length∧∀i,i<k→zgK (fA x.prefs i)=true)) (fun z=>(fun(k:Nat)=>(⟨[(84,zad x.prefs),(85,encI x.prefs.length),(86,encI k)],[],0,[]⟩:St)) z.1) (fun z=>(fun(k:Nat)=>x.prefs.length - k) z.1) ⟨0,⟨Nat.zero_le _,fun j hj=>absurd hj (Nat.not_lt_zero _)⟩⟩ [] ?_ ?_
  ·exact zbj
  rintro⟨k,⟨hk,ha⟩⟩
  refine sY [84,85,86,87] (fun P S K=>XvBinOV P .lss 3 (.tmp 85) (S.get 86) (S.get 85) (fun r0 _=>K ⟨[(84,S.get 84),(85,S.get 85),(86,S.get 86),(87,r0)],S.hp,S.nx,S.gh⟩)) ?_
  all_goals
  refine Tri.seq ?_
  refine Tri.cond rfl (fun h87=>?_) (fun h87=>?_)
  ·try (cases h87;done)
   all_goals (try simp only[CQ] at h87)
   all_goals
   refine Tri.skip ?_
   refine Tri.seq ?_
   refine Tri.block ?_
   have hkl:k<x.prefs.length:=by omega
   have hp1:=(hx.prefs _ (zd1 hkl)).after
   have hp2:=(hx.prefs _ (zd1 hkl)).before
   refine sZ [8,84,85,86] (fun P S K=>XvIndexAddr P 25 (S.get 84) (S.get 86) (fun r0 _=>XvLoad P 67 (M S.hp S.nx) r0 (fun r1 _=>XvAlloc P 67 S.nx (fun r2 ef2=>XvStore P 67 (M (Eff.hp ef2 S.nx S.hp) (S.nx+ef2.add.length)) r2 r1 (fun r3 ef3=>K ⟨[(8,r2),(84,S.get 84),(85,S.get 85),(86,S.get 86)],(Eff.hp ef3 (S.nx+ef2.add.length) (Eff.hp ef2 S.nx S.hp)),((S.nx+ef2.add.length)+ef3.add.length),S.gh⟩))))) fun K hK=>?_
   repeat' (first|(refine hK _ ?_;clear hK K)|refine And.intro ?_ ?_|exact cl|(refine st ?_;try simp only[encX,zab,zac,zad,encF,encR,encA,zcM hkl])|refine sx ?_ (by simp only[encX,zab,zac,zad,encF,encR,encA,zcM hkl];exact rfl)|fail)
   all_goals
   refine sZ [84,85,86,123] (fun P S K=>XvFieldAddr P 67 0 (S.get 8) (fun r0 _=>XvLoad P 9 (M S.hp S.nx) r0 (fun r1 _=>XvBinOV P .neq 9 (.const (.string { data := #[] })) r1 (.atom (.string { data := #[] })) (fun r2 _=>Xgq r2 true (fun k=>XvFieldAddr P 67 0 (S.get 8) (fun r4 _=>k r4)) (fun g4 r4=>Xgq g4 true (fun k=>XvLoad P 9 (M S.hp S.nx) r4 (fun r5 _=>k r5)) (fun g5 r5=>Xge g5 true (fun k=>XvFnIV P (M S.hp S.nx) (.fn 46 []) [r5] k) (fun g6 r6 ef6=>Xgq g6 true (fun k=>XvUn .not r6 (fun r7 _=>k r7)) (fun g7 r7=>XvPick g7 r7 (.atom (.bool false)) (fun r8 _=>Xgq r8 false (fun k=>XvFieldAddr P 67 1 (S.get 8) (fun r10 _=>k r10)) (fun g10 r10=>Xgq g10 false (fun k=>XvLoad P 9 (M (Eff.hp ef6 S.nx S.hp) (S.nx+ef6.add.length)) r10 (fun r11 _=>k r11)) (fun g11 r11=>Xgq g11 false (fun k=>XvBinOV P .neq 9 (.const (.string { data := #[] })) r11 (.atom (.string { data := #[] })) (fun r12 _=>k r12)) (fun g12 r12=>Xgq g12 false (fun k=>k r12) (fun g13 r13=>Xgq r13 true (fun k=>XvFieldAddr P 67 1 (S.get 8) (fun r14 _=>k r14)) (fun g14 r14=>Xgq g14 true (fun k=>XvLoad P 9 (M (Eff.hp ef6 S.nx S.hp) (S.nx+ef6.add.length)) r14 (fun r15 _=>k r15)) (fun g15 r15=>Xge g15 true (fun k=>XvFnIV P (M (Eff.hp ef6 S.nx S.hp) (S.nx+ef6.add.length)) (.fn 46 []) [r15] k) (fun g16 r16 ef16=>Xgq g16 true (fun k=>XvUn .not r16 (fun r17 _=>k r17)) (fun g17 r17=>Xgq g13 false (fun k=>XvPick g17 r17 (.atom (.bool false)) (fun r18 _=>k r18)) (fun g18 r18=>XvPick g18 (.atom (.bool true)) r18 (fun r19 _=>Xgq r19 false (fun k=>XvFieldAddr P 67 0 (S.get 8) (fun r21 _=>k r21)) (fun g21 r21=>Xgq g21 false (fun k=>XvLoad P 9 (M (Eff.hp ef16 (S.nx+ef6.add.length) (Eff.hp ef6 S.nx S.hp)) ((S.nx+ef6.add.length)+ef16.add.length)) r21 (fun r22 _=>k r22)) (fun g22 r22=>Xgq g22 false (fun k=>XvFieldAddr P 67 1 (S.get 8) (fun r23 _=>k r23)) (fun g23 r23=>Xgq g23 false (fun k=>XvLoad P 9 (M (Eff.hp ef16 (S.nx+ef6.add.length) (Eff.hp ef6 S.nx S.hp)) ((S.nx+ef6.add.length)+ef16.add.length)) r23 (fun r24 _=>k r24)) (fun g24 r24=>Xgq g24 false (fun k=>XvBinOV P .add 9 (.tmp 114) r22 r24 (fun r25 _=>k r25)) (fun g25 r25=>Xgq g25 false (fun k=>XvBinOV P .eql 9 (.const (.string { data := #[] })) r25 (.atom (.string { data := #[] })) (fun r26 _=>k r26)) (fun g26 r26=>XvPick g26 (.atom (.bool true)) r26 (fun r27 _=>Xgq r27 false (fun k=>XvFieldAddr P 67 2 (S.get 8) (fun r29 _=>k r29)) (fun g29 r29=>Xgq g29 false (fun k=>XvLoad P 9 (M (Eff.hp ef16 (S.nx+ef6.add.length) (Eff.hp ef6 S.nx S.hp)) ((S.nx+ef6.add.length)+ef16.add.length)) r29 (fun r30 _=>k r30)) (fun g30 r30=>Xge g30 false (fun k=>XvFnIV P (M (Eff.hp ef16 (S.nx+ef6.add.length) (Eff.hp ef6 S.nx S.hp)) ((S.nx+ef6.add.length)+ef16.add.length)) (.fn 46 []) [r30] k) (fun g31 r31 ef31=>Xgq g31 false (fun k=>XvUn .not r31 (fun r32 _=>k r32)) (fun g32 r32=>XvPick g32 (.atom (.bool true)) r32 (fun r33 _=>K ⟨[(84,S.get 84),(85,S.get 85),(86,S.get 86),(123,r33)],(Eff.hp ef31 ((S.nx+ef6.add.length)+ef16.add.length) (Eff.hp ef16 (S.nx+ef6.add.length) (Eff.hp ef6 S.nx S.hp))),(((S.nx+ef6.add.length)+ef16.add.length)+ef31.add.length),S.gh⟩))))))))))))))))))))))))))))))) fun K hK=>?_
   repeat' (first|(refine hK _ ?_;clear hK K)|((first|refine zak (fun hg=>?_) (fun hg=>?_)|refine fun(hg:(_:Prop))=>?_)<;>((try simp only[BQ] at hg);try (exfalso;omega)))|refine And.intro ?_ ?_|exact cl|refine zai ?_ _|refine zaj ?_ _|refine .inl ⟨_,_,zbc _ (up47 (hx.forms _ (zem hil)).cls),?_⟩|refine .inl ⟨_,_,zbc _ (up47 (hx.rules _ (zff hjl)).cls),?_⟩|refine .inl ⟨_,_,zbc _ (up47 (hx.prefs _ (zd1 hkl)).after),?_⟩|refine .inl ⟨_,_,zbc _ (up47 (hx.prefs _ (zd1 hkl)).before),?_⟩|refine .inl ⟨_,_,zbc _ (up47 (hx.prefs _ (zd1 hkl)).cls),?_⟩|(refine st ?_;try simp only[encX,zab,zac,zad,encF,encR,encA])|refine sx ?_ (by simp only[encX,zab,zac,zad,encF,encR,encA];exact rfl)|fail)
   all_goals try simp (disch:=omega) only[zag,zah]
   all_goals
   refine Tri.cond rfl (fun h123=>?_) (fun h123=>?_)
   ·try (cases h123;done)
    all_goals (try simp only[CQ] at h123)
    all_goals
    refine sY [2] (fun P S K=>K ⟨[(2,(.atom (.int .i64 1)))],S.hp,S.nx,S.gh⟩) ?_
    all_goals
    refine Tri.ret ?_
    show ResOk _ _ _ _
    rw[vX_badA (by omega) hkl (by rw[zl2];simp_all)]
    exact ResOk.val zcf zbY
   try (cases h123;done)
   all_goals (try simp only[CQ] at h123)
   all_goals
   refine Tri.skip ?_
   refine rY [84,85,86] (fun P S K=>XvBinOV P .add 3 (.const (.int .i64 1)) (S.get 86) (.atom (.int .i64 1)) (fun r0 _=>K ⟨[(84,S.get 84),(85,S.get 85),(86,r0)],S.hp,S.nx,S.gh⟩)) ?_
   all_goals try simp (disch:=omega) only[zag,zah]
   all_goals
   refine⟨⟨k+1,by omega,fun i hi=>?_⟩,[],by dsimp only;omega,?_⟩
   · rcases Nat.lt_succ_iff_lt_or_eq.1 hi with hi|rfl
     · exact ha i hi
     · rw[zl2];simp_all
   · exact zbj
  try (cases h87;done)
  all_goals (try simp only[CQ] at h87)
  all_goals
  refine Tri.exit ?_
  refine sY [2] (fun P S K=>K ⟨[(2,(.atom (.int .i64 0)))],S.hp,S.nx,S.gh⟩) ?_
  all_goals
  refine Tri.ret ?_
  show ResOk _ _ _ _
  rw[vX_ok (by omega) (fun j hj=>hf j (by omega)) (fun i hi=>hr i (by omega)) (fun i hi=>ha i (by omega))]
  exact ResOk.val zcf zbY
end Go.Proofs.Ytehoglapajkabaa
