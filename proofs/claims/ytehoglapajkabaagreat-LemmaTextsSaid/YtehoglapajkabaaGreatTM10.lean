/-
  Walks: the reference model of lexicons: what is valid;rules,analyses.
-/
import Derived.Test.YtehoglapajkabaaGreatTM0
import Derived.Test.YtehoglapajkabaaGreatTV14
set_option linter.all false
namespace Go.Proofs.YtehoglapajkabaaGreat
open Go Go.RowKit
set_option maxRecDepth 20000
set_option maxHeartbeats 1000000
theorem up47{n:Nat}(h:n≤140737488355328):n≤9223372036854775807:=by omega
theorem zbF{α β:Type}(f:α→β) (o:List α) (x:β):(o.map f++[x]).take (o.length+1)=o.map f++[x]:=List.take_of_length_le (by simp)
theorem zo7 (x:LexD) (w:ByteArray):(zkw x w).length≤x.forms.length:=by
  have h:=zcG (zbQ x w) []
  have h2:(zbQ x w).length≤x.forms.length:=List.length_filter_le _ _
  unfold zkw;simp at h;omega
theorem zoH (x:LexD) (w:ByteArray):(zjV x w).length≤x.rules.length:=by
  have h:=zcG (zcs x w) []
  have h2:(zcs x w).length≤x.rules.length:=List.length_filterMap_le _ _
  unfold zjV;simp at h;omega
theorem allX_len (x:LexD) (w:ByteArray) (hx:HeldX x):(allX x w).length≤1000000:=by
  have h1:=zo7 x w
  have h2:=zoH x w
  have h3:=hx.nforms
  have h4:=hx.nrules
  unfold allX;split
  · omega
  · split
    · omega
    · simp
theorem znD (x:LexD) (w:ByteArray):0<(allX x w).length:=by
  unfold allX;split
  · rename_i h;exact List.length_pos_iff.2 h
  · split
    · rename_i h;exact List.length_pos_iff.2 h
    · simp
theorem allF_no{l:List FormD}{p:FormD→Bool}{j:Nat}(hj:j<l.length) (h:p (fF l j)=false):l.all p=false:=by
  rw[Bool.eq_false_iff]
  intro ha
  have:=List.all_eq_true.1 ha _ (zeM hj)
  rw[h] at this;cases this
theorem allF_yes{l:List FormD}{p:FormD→Bool}(h:∀j,j<l.length→p (fF l j)=true):l.all p=true:=List.all_eq_true.2 fun y hy=>by
  obtain⟨j,hj,rfl⟩:=List.getElem_of_mem hy
  rw[←zfu hj];exact h j hj
def zeJ (P:Program) (S:St):List ResultVar→Option (List PV)
  | []=>some []
  | .tmp t :: l=>(zeJ P S l).map (S.get t :: ·)
  | .cell a t :: l=>match S.get a,tAgg P t,zaD P t with
    | .ptr i sz k c,some ag,some m=>match S.obj i with
      | some o=>if o.sz=sz∧k<o.els.length∧(bif ag then decide (c+m≤(o.els.getD k .junk).cells.length) else decide (c<(o.els.getD k .junk).cells.length))=true then (zeJ P S l).map ((o.els.getD k .junk).part ag c m :: ·) else none
      | none=>none
    | _,_,_=>none
def zjX (S:St) (vs:List PV):St:=⟨zbD 0 vs,S.hp,S.nx,S.gh⟩
def ResR (P:Program) (S:St) (rv:List ResultVar) (r:PV) (os:List AO):Prop:=∃vs,zeJ P S rv=some vs∧ResOk (zjX S vs) (List.range vs.length) r os
def ResPR (P:Program) (S:St) (rv:List ResultVar) (r:PV) (hp:List AO) (hp':List (Option AO)) (os:List AO):Prop:=∃vs,zeJ P S rv=some vs∧ResP (zjX S vs) (List.range vs.length) r hp hp' os
def retQR (P:Program) (rv:List ResultVar) (r:PV) (os:List AO):Exit→St→Prop
  | .normal,S=>ResR P S rv r os
  | .ret,S=>ResR P S rv r os
  | _,_=>False
def retPR (P:Program) (rv:List ResultVar) (r:PV) (hp:List AO) (hp':List (Option AO)) (os:List AO):Exit→St→Prop
  | .normal,S=>ResPR P S rv r hp hp' os
  | .ret,S=>ResPR P S rv r hp hp' os
  | _,_=>False
theorem zkQ (S:St) (vs:List PV):(List.range vs.length).map (zjX S vs).get=vs:=by
  apply List.ext_getElem
  · simp
  · intro i h1 h2
    simp only[List.getElem_map,List.getElem_range]
    show(lk (zbD 0 vs) i).getD .junk=_
    rw[zc8];simp[h2]
theorem zdC (S:St) (vs:List PV):retV (zjX S vs) (List.range vs.length)=match vs with | [v]=>v|vs=>.tup vs:=by
  have:=zkQ S vs
  match vs,this with
  | [],_=>rfl
  | [v],_=>rfl
  | a :: b :: l,h=>
    have e:List.range (a :: b :: l).length=0 :: 1 :: (List.range l.length).map (·+2):=by
      have h1:=List.range_succ_eq_map (n:=(b :: l).length)
      simp only[List.length_cons] at h1 ⊢
      rw[h1,List.range_succ_eq_map];simp
    rw[e] at h ⊢
    show PV.tup _=_
    rw[h]
section
variable {P:Program} {n:Nat} {S:St} {Q:Exit→St→Prop}
theorem tup_rep{D:Nat→Prop}{μ:Nat→Option Nat}{F:Nat→Prop}{w:World}{xs:List Value}{vs:List PV}(hl:xs.length=vs.length) (h:∀i (h:i<vs.length),Rep D μ F w vs[i] (xs.getD i undef)):
    Rep D μ F w (match vs with | [v]=>v|vs=>.tup vs) (if h:xs.toArray.size=1 then xs.toArray[0] else .tuple xs.toArray):=by
  match vs,xs with
  | [v],[x]=>simpa using h 0 (by simp)
  | [],[]=>simp;exact .tup _ _ rfl (fun i hi=>by simp at hi)
  | a :: b :: r,x :: y :: z=>
    rw[dif_neg (by simp)]
    refine .tup _ _ (by simpa using hl) fun i hi=>?_
    have:=h i hi
    simpa[Array.getD_eq_getD_getElem?,List.getD_eq_getElem?_getD] using this
  | [],x :: z=>simp at hl
  | [v],[]=>simp at hl
  | [v],x :: y :: z=>simp at hl
  | a :: b :: r,[]=>simp at hl
  | a :: b :: r,[x]=>simp at hl
theorem zjQ {w0 : Home}{F0 D:Nat→Prop}{μ:Nat→Option Nat}{F:Nat→Prop}{w:World}{fn:Func}{rv:List ResultVar}(hr:fn.results=rv.toArray) {tmps:Array Value}(hH:HeapSim w0 F0 D μ F S.obj w) (he:∀s,Rep D μ F w (S.get s) (tmps.getD s undef)) {vs:List PV}(hvs:zeJ P S rv=some vs):
    ∃v,(results fn tmps).run P w=.ok v w∧Rep D μ F w (retV (zjX S vs) (List.range vs.length)) v:=by
  let f:ResultVar→Sem Value:=fun
    | .tmp t=>pure (tmps.getD t undef)
    | .cell a t=>do loadVar t (←asAddr (tmps.getD a undef))
  have key : ∀ (l:List ResultVar) (vs:List PV),zeJ P S l=some vs→∃xs:List Value,(l.mapM f).run P w=.ok xs w∧xs.length=vs.length∧∀i (h:i<vs.length),Rep D μ F w vs[i] (xs.getD i undef):=by
    intro l
    induction l with
    | nil=>intro vs h;cases h;exact⟨[],by simp,rfl,fun i h=>by simp at h⟩
    | cons x l ih=>
      intro vs h
      cases x with
      | tmp t=>
        simp only[zeJ] at h
        cases hl:zeJ P S l with
        | none=>rw[hl] at h;cases h
        | some vs'=>
          rw[hl] at h;cases h
          obtain⟨xs,h1,h2,h3⟩:=ih vs' hl
          refine⟨tmps.getD t undef :: xs,?_,by simp[h2],fun i hi=>?_⟩
          · rw[List.mapM_cons,Sem.run_bind,show(f (.tmp t)).run P w=.ok (tmps.getD t undef) w from rfl]
            simp only[Result.andThen_ok,Sem.run_bind,h1,Sem.run_pure]
          · cases i with
            | zero=>simpa using he t
            | succ i=>simpa using h3 i (by simpa using hi)
      | cell a t=>
        simp only[zeJ] at h
        split at h<;>try (cases h;done)
        rename_i i sz k c ag m hp ha hm
        split at h<;>try (cases h;done)
        rename_i o ho
        split at h<;>try (cases h;done)
        rename_i hc
        cases hl:zeJ P S l with
        | none=>rw[hl] at h;cases h
        | some vs'=>
          rw[hl] at h;cases h
          obtain⟨xs,h1,h2,h3⟩:=ih vs' hl
          have hrep:=he a
          rw[hp] at hrep
          generalize hu:tmps.getD a undef=u at hrep
          cases hrep with
          | ptr _ _ _ _ b hD hb hkd=>
            have hok:=hH.cellsOk ho hb hkd
            have hk:=hc.2.1
            have hin:=hc.2.2
            rw[ze3 _ _ hk] at hin ⊢
            have hin':bif ag then c+m≤o.els[k].cells.length else c<o.els[k].cells.length:=by
              cases ag
              · simp only[cond_false] at hin ⊢;exact of_decide_eq_true hin
              · simp only[cond_true] at hin ⊢;exact of_decide_eq_true hin
            obtain⟨v,g1,g2⟩:=zcO (D:=D) (μ:=μ) (F:=F) (w:=w) (ad:=⟨b,k * sz+c,none⟩) ha hm hin' rfl (fun j hj hcj=>by
              obtain⟨v,g1,_,g3⟩:=hok.cell hk hj
              refine⟨v,?_,g3⟩
              rw[←hc.1]
              rw[show k * o.sz+c+(j - c)=k * o.sz+j by omega];exact g1)
            refine⟨v :: xs,?_,by simp[h2],fun i hi=>?_⟩
            · rw[List.mapM_cons,Sem.run_bind,show(f (.cell a t)).run P w=.ok v w by
                show(do loadVar t (←asAddr (tmps.getD a undef)):Sem Value).run P w=_
                rw[hu];simpa[asAddr] using g1]
              simp only[Result.andThen_ok,Sem.run_bind,h1,Sem.run_pure]
            · cases i with
              | zero=>simpa using g2
              | succ i=>simpa using h3 i (by simpa using hi)
  obtain⟨xs,h1,h2,h3⟩:=key rv vs hvs
  refine⟨if h:xs.toArray.size=1 then xs.toArray[0] else .tuple xs.toArray,?_,?_⟩
  · have e:results fn tmps=(do let vs ←fn.results.mapM f;pure (if h:vs.size=1 then vs[0] else .tuple vs)):=rfl
    rw[e,hr,Array.mapM_eq_mapM_toList,Sem.run_bind,Sem.run_map,show(rv.toArray.toList.mapM f).run P w=.ok xs w by simpa using h1]
    rfl
  · rw[zdC];exact tup_rep h2 h3
theorem PureCall.introR{f:FuncId}{fn:Func}{c:Code}{args:List PV}{r:PV}{os:List AO}{rv:List ResultVar}(hf:P.funcs[f]? = some fn) (hb:fn.body=some c) (hr:fn.results=rv.toArray) (hn:fn.ntmps=n) (hla:args.length≤n) (hpure:args.all PV.pure=true)
    (h:Tri P n c ⟨zbD 0 args,[],0,[]⟩ (retQR P rv r os)):PureCall P f args r os:=by
  intro D μ F w vs hvs hargs hFs
  refine calls_of_wp hf hb ?_
  have hS:Sim ⟨w,fun _=>False⟩ F (fun _=>False) μ F [] ⟨zbD 0 args,[],0,[]⟩ n { tmps:=vs++Array.replicate (fn.ntmps - vs.size) undef,defers:=[] } w:=by
    refine⟨rfl,by simp[hvs,hn];omega,fun s=>?_,⟨fun i o hi=>(by cases hi),fun i j o o' b hi=>(by cases hi),fun i o b hi=>(by cases hi),Ext.refl _ _,fun b hb=>.inl hb,hFs⟩,fun i hi=>hi.elim,rfl,fun i hi=>by simp at hi⟩
    show Rep _ μ F w ((lk (zbD 0 args) s).getD .junk) _
    rw[zc8]
    simp only[Nat.zero_le,if_true,Nat.sub_zero]
    by_cases hs:s<args.length
    · rw[List.getElem?_eq_getElem hs]
      simp only[Option.getD_some]
      have e:(vs++Array.replicate (fn.ntmps - vs.size) undef).getD s undef=vs.getD s undef:=by
        simp only[Array.getD_eq_getD_getElem?]
        rw[Array.getElem?_append_left (by omega)]
      rw[e]
      exact(hargs s hs).pureAny (zbb hpure s hs)
    · rw[List.getElem?_eq_none (by omega)]
      exact .junk _
  refine wp_mono (h _ F _ μ F [] _ w hS) fun e a' w' ⟨S',D',μ',F',h1,h2⟩=>?_
  have fin:ResR P S' rv r os→a'.defers=[]∧∃v,(results fn a'.tmps).run P w'=.ok v w'∧∃v',Ending.returned v=.returned v'∧Bel w w'∧ResIs F w w' r os v':=fun⟨vs,hvs,hres⟩=>by
    obtain⟨v,hv,hrep⟩:=zjQ (P:=P) (S:=S') hr h2.heap h2.env hvs
    exact⟨h2.defers,v,hv,v,rfl,h2.heap.ext.below (fun _ h=>h),hres.is h2.heap h2.ids hrep⟩
  cases e with
  | normal=>exact fin h1
  | ret=>exact fin h1
  | exit id=>exact h1.elim
  | goto l=>exact h1.elim
  | panic ch=>exact h1.elim
  | outgrown=>exact h1.elim
theorem ProcCall.introR{f:FuncId}{fn:Func}{c:Code}{args:List PV}{hp:List AO}{r:PV}{hp':List (Option AO)}{os:List AO}{rv:List ResultVar}(hf:P.funcs[f]? = some fn) (hb:fn.body=some c) (hr:fn.results=rv.toArray) (hn:fn.ntmps=n) (hla:args.length≤n)
    (hlen:hp'.length=hp.length) (h:Tri P n c ⟨zbD 0 args,za6 0 (hp.map some),hp.length,zbz 0 hp⟩ (retPR P rv r hp hp' os)):ProcCall P f args hp r hp' os:=by
  refine⟨hlen,fun μ F w vs hH hvs hargs=>calls_of_wp hf hb ?_⟩
  have hobj:(St.mk (zbD 0 args) (za6 0 (hp.map some)) hp.length (zbz 0 hp)).obj=fun i=>hp[i]? := by
    funext i
    show(lk (za6 0 (hp.map some)) i).join=_
    rw[zb8]
    simp only[Nat.zero_le,if_true,Nat.sub_zero,List.getElem?_map]
    cases hp[i]? <;> rfl
  have hS : Sim ⟨w,fun b=>∃i,i<hp.length∧μ i=some b⟩ F (· < hp.length) μ F ((List.range hp.length).map fun i=>zcW (μ i)) ⟨zbD 0 args,za6 0 (hp.map some),hp.length,zbz 0 hp⟩ n { tmps:=vs++Array.replicate (fn.ntmps - vs.size) undef,defers:=[] } w:=by
    refine⟨rfl,by simp[hvs,hn];omega,fun s=>?_,by rw[hobj];exact hH,fun i hi=>hi,by simp[zby],fun i hi=>?_⟩
    · show Rep _ μ F w ((lk (zbD 0 args) s).getD .junk) _
      rw[zc8]
      simp only[Nat.zero_le,if_true,Nat.sub_zero]
      by_cases hs:s<args.length
      · rw[List.getElem?_eq_getElem hs]
        simp only[Option.getD_some]
        have e:(vs++Array.replicate (fn.ntmps - vs.size) undef).getD s undef=vs.getD s undef:=by
          simp only[Array.getD_eq_getD_getElem?]
          rw[Array.getElem?_append_left (by omega)]
        rw[e]
        exact hargs s hs
      · rw[List.getElem?_eq_none (by omega)]
        exact .junk _
    · simp only at hi
      have hi':i<hp.length:=by rwa [zby] at hi
      have e1:(zbz 0 hp)[i]'hi=.mark i:=by
        have:=zc7 hp 0 i
        rw[List.getElem?_eq_getElem hi,List.getElem?_eq_getElem hi'] at this
        simpa using this
      have e2:((List.range hp.length).map fun i=>zcW (μ i)).getD i undef=zcW (μ i):=by simp[List.getD_eq_getElem?_getD,hi']
      rw[e1,e2]
      exact .mark i _ hi' rfl
  refine wp_mono (h _ F _ μ F _ _ w hS) fun e a' w' ⟨S',D',μ',F',h1,h2⟩=>?_
  have fin:ResPR P S' rv r hp hp' os→a'.defers=[]∧∃v,(results fn a'.tmps).run P w'=.ok v w'∧∃v',Ending.returned v=.returned v'∧∃(μ2:Nat→Option Nat) (F2:Nat→Prop),Rep (· < hp.length+os.length) μ2 F2 w' r v'∧
      HeapSim ⟨w,fun b=>∃i,i<hp.length∧μ i=some b⟩ F (· < hp.length+os.length) μ2 F2 (fun i=>((hp'++os.map some)[i]?).join) w'∧(∀i,i<hp.length→μ2 i=μ i):=fun⟨vs,hvs,L,k,hr1,hl0⟩=>by
    have hl:LeqS k L S' ⟨[],za6 0 (hp'++os.map some),hp'.length+os.length,zbz 0 hp⟩:=⟨fun p hp=>(by cases hp),hl0.hp,hl0.nx,hl0.nodup,hl0.ghl,hl0.gh⟩
    have hr1:sealed S'.obj (fun i=>L.contains i) k (retV (zjX S' vs) (List.range vs.length))=r.ren (rmap L S'.nx):=hr1
    obtain⟨v,hv,hrep⟩:=zjQ (P:=P) (S:=S') hr h2.heap h2.env hvs
    have h3:=h2.leq ⟨k,hl⟩
    have hD:∀i,D' (rmap L S'.nx i)→i<hp.length+os.length∧μ' (rmap L S'.nx i)=μ' (rmap L S'.nx i):=fun i hi=>⟨by
      have:=h3.ids i hi
      have e:(St.mk [] (za6 0 (hp'++os.map some)) (hp'.length+os.length) (zbz 0 hp)).nx=hp'.length+os.length:=rfl
      rw[e] at this;omega,rfl⟩
    refine⟨h2.defers,v,hv,v,rfl,fun i=>μ' (rmap L S'.nx i),frz S' L μ' F',?_,?_,fun i hi=>?_⟩
    · have:=Rep.sealed h2.heap (fun i=>L.contains i) (frz S' L μ' F') (fun b h=>.inl h) (fun i o b h1 h2 h3=>.inr ⟨i,o,h1,h2,h3⟩) k _ _ hrep
      rw[hr1] at this
      exact this.ren_inv hD _ rfl
    · have:=h3.heap.widen (D':=(· < hp.length+os.length)) (fun i hi=>(hD i hi).1)
      have e:(St.mk [] (za6 0 (hp'++os.map some)) (hp'.length+os.length) (zbz 0 hp)).obj=fun i=>((hp'++os.map some)[i]?).join:=by
        funext i
        show(lk (za6 0 (hp'++os.map some)) i).join=_
        rw[zb8];simp
      rw[e] at this
      exact this
    · have hi2:i<(zbz 0 hp).length:=by rw[zby];exact hi
      have:=h3.gh i hi2
      have e1:(zbz 0 hp)[i]'hi2=.mark i:=by
        have:=zc7 hp 0 i
        rw[List.getElem?_eq_getElem hi2,List.getElem?_eq_getElem hi] at this
        simpa using this
      have e2:((List.range hp.length).map fun i=>zcW (μ i)).getD i undef=zcW (μ i):=by simp[List.getD_eq_getElem?_getD,hi]
      simp only[e1,e2] at this
      generalize hpv:zcW (μ i)=pv at this
      cases this with
      | mark _ _ g1 g2=>
        show μ' (rmap L S'.nx i)=μ i
        exact(zhY (hpv.trans g2)).symm
  cases e with
  | normal=>exact fin h1
  | ret=>exact fin h1
  | exit id=>exact h1.elim
  | goto l=>exact h1.elim
  | panic ch=>exact h1.elim
  | outgrown=>exact h1.elim
theorem Pure.introR {f : FuncId} {fn : Func} {c : Code} {args : List PV} {r : PV} {os : List AO} {rv : List ResultVar} (hf : P.funcs[f]? = some fn) (hname : (fn.name == "runtime.NumGoroutine") = false) (hb : fn.body = some c) (hr : fn.results = rv.toArray) (hn : fn.ntmps = n) (hla : args.length ≤ n) (hpure : args.all PV.pure = true)
    (h:Tri P n c ⟨zbD 0 args,[],0,[]⟩ (retQR P rv r os)):Pure P f args r os:=⟨Go.Proofs.enters_of hf hname hb,PureCall.introR hf hb hr hn hla hpure h⟩
theorem Proc.introR {f : FuncId} {fn : Func} {c : Code} {args : List PV} {hp : List AO} {r : PV} {hp' : List (Option AO)} {os : List AO} {rv : List ResultVar} (hf : P.funcs[f]? = some fn) (hname : (fn.name == "runtime.NumGoroutine") = false) (hb : fn.body = some c) (hr : fn.results = rv.toArray) (hn : fn.ntmps = n) (hla : args.length ≤ n)
    (hlen:hp'.length=hp.length) (h:Tri P n c ⟨zbD 0 args,za6 0 (hp.map some),hp.length,zbz 0 hp⟩ (retPR P rv r hp hp' os)):Proc P f args hp r hp' os:=⟨Go.Proofs.enters_of hf hname hb,ProcCall.introR hf hb hr hn hla hlen h⟩
end
theorem ResR.cell1{P:Program}{S:St}{rv:ResultVar}{r:PV}(x:PV) (h:zeJ P S [rv]=some [x]) (hs:sealed S.obj (fun _=>false) 5 x=r) (hp:r.pure=true):ResR P S [rv] r []:=
  ⟨[x],h,ResOk.frz 5 (by rw[zdC];exact hs) hp⟩
theorem ResR.cells{P:Program}{S:St}{rv:List ResultVar}{r:PV}(x y:PV) (l:List PV) (h:zeJ P S rv=some (x :: y :: l)) (hs:sealed S.obj (fun _=>false) 6 (.tup (x :: y :: l))=r) (hp:r.pure=true):ResR P S rv r []:=
  ⟨x :: y :: l,h,ResOk.frz 6 (by rw[zdC];exact hs) hp⟩
def choT (x:LexD) (ws:List ByteArray) (k:Nat):FormD×Bool:=match zfV x ws k with
  | some f=>(f,true)
  | none=>(noF,false)
theorem zfT{l:List PrefD}{i:Nat}(h:i<l.length):l.drop i=fA l i :: l.drop (i+1):=by rw[List.drop_eq_getElem_cons h,znu h]
def zgi (x:LexD) (ws:List ByteArray) (n:Nat):List Int:=((List.range n).filter fun k => !(choT x ws k).2).map fun(k:Nat)=>(k:Int)
theorem zcn (x:LexD) (ws:List ByteArray) (n:Nat):zgi x ws (n+1)=if (choT x ws n).2=true then zgi x ws n else zgi x ws n++[(n:Int)]:=by
  unfold zgi
  rw[List.range_succ,List.filter_append,List.map_append]
  cases h:(choT x ws n).2<;>simp[h]
theorem zr2 (x:LexD) (ws:List ByteArray) (n:Nat):(zgi x ws n).length≤n:=by
  unfold zgi;rw[List.length_map]
  exact Nat.le_trans (List.length_filter_le _ _) (by simp)
def zcS (x:LexD) (ws:List ByteArray):List Int:=if errX x ws≠0 then [] else zgi x ws ws.length
def zlf (x:LexD) (ws:List ByteArray) (n:Nat):List FormD:=(List.range n).map fun k=>(choT x ws k).1
theorem znR (x:LexD) (ws:List ByteArray) (n:Nat):zlf x ws (n+1)=zlf x ws n++[(choT x ws n).1]:=by
  unfold zlf;rw[List.range_succ,List.map_append];rfl
def sureX (x:LexD) (ws:List ByteArray):Bool:=(List.range ws.length).all fun k=>(choT x ws k).2
def zgg (x:LexD) (ws:List ByteArray):List FormD×Int:=if errX x ws≠0 then ([],errX x ws) else if sureX x ws then (zlf x ws ws.length,0) else ([],14)
theorem zpS{x:LexD}{ws:List ByteArray}(h:errX x ws≠0):zgg x ws=([],errX x ws):=if_pos h
theorem znQ{x:LexD}{ws:List ByteArray}(h:¬errX x ws≠0) {i:Nat}(hi:i<ws.length) (h2:(choT x ws i).2=false):zgg x ws=([],14):=by
  unfold zgg;rw[if_neg h,if_neg]
  intro ha
  have:=List.all_eq_true.1 ha i (List.mem_range.2 hi)
  rw[h2] at this;cases this
theorem znP{x:LexD}{ws:List ByteArray}(h:¬errX x ws≠0) (h2:∀j,j<ws.length→(choT x ws j).2=true):zgg x ws=(zlf x ws ws.length,0):=by
  unfold zgg;rw[if_neg h,if_pos]
  exact List.all_eq_true.2 fun j hj=>h2 j (List.mem_range.1 hj)
theorem zb7{p:Prop}(h:p:=by(first|rfl|(simp[zah,zag,PV.pure,zax,zao,zar,zav,zau,zaQ,zaK,za1,za2,zaL,zas,encF,encS];done));first|done|fail):p:=h
theorem zce{p:Prop}(h:p:=by(first|rfl|(simp[St.born,St.known,retV,St.get,St.obj,lk,sealed,PV.ren,renL,rmap,AO.ren,ints,strs,encI,encS,zan,zam,zal,zak,zaB,zaA,zaz,zay,zaY,zaX,zaW,zaV,zcQ,zaa,zac,zad,zab,zai,zaj,zaE,za4,zaH,zbc,zaI,zbd,zap,encF,encR,encA,zbF];done));first|done|fail):p:=h
def zbI (x:LexD) (ws:List ByteArray) (k:Int):FormD×Int:=
  if errX x ws≠0 then (noF,errX x ws) else if k<0∨(ws.length:Int)≤k then (noF,5) else if (choT x ws k.toNat).2 then ((choT x ws k.toNat).1,0) else (noF,14)
theorem zmm{x:LexD}{ws:List ByteArray}{k:Int}(h:errX x ws≠0):zbI x ws k=(noF,errX x ws):=if_pos h
theorem zml{x:LexD}{ws:List ByteArray}{k:Int}(h:¬errX x ws≠0) (h2:k<0∨(ws.length:Int)≤k):zbI x ws k=(noF,5):=by
  unfold zbI;rw[if_neg h,if_pos h2]
theorem zkJ{x:LexD}{ws:List ByteArray}{k:Int}(h:¬errX x ws≠0) (h2:¬ (k<0∨(ws.length:Int)≤k)) (h3:(choT x ws k.toNat).2=false):zbI x ws k=(noF,14):=by
  unfold zbI;rw[if_neg h,if_neg h2,h3];rfl
theorem zkI{x:LexD}{ws:List ByteArray}{k:Int}(h:¬errX x ws≠0) (h2:¬ (k<0∨(ws.length:Int)≤k)) (h3:(choT x ws k.toNat).2=true):zbI x ws k=((choT x ws k.toNat).1,0):=by
  unfold zbI;rw[if_neg h,if_neg h2,h3];rfl
def zjc:List ByteArray:=[⟨#[110,111,117,110]⟩,⟨#[118,101,114,98]⟩,⟨#[110,97,109,101]⟩]
def zk3:List ByteArray:=[⟨#[97,110,110,97]⟩,⟨#[114,111,109,101]⟩,⟨#[107,105,110,103]⟩,⟨#[116,104,101]⟩,⟨#[111,102]⟩,⟨#[111,100,101]⟩,⟨#[108,121,114,101]⟩,⟨#[120]⟩,⟨#[111,100,101,115]⟩,⟨#[107,105,110,103,115]⟩,⟨#[97,110,110,97,115]⟩,⟨#[108,121,114,101,115]⟩,⟨#[115]⟩,⟨#[104,105,115]⟩]
def zaF (n:Int):ByteArray:=ls zjc (zdp n 3).toNat
def zk4 (n:Int):ByteArray:=ls zk3 (zdp n 14).toNat
theorem zdS (n:Int) (hn:I64 n):Pure Tryz.prog 40 [encI n] (encS (zaF n)) []:=by
  have h0:=zex (n:=n) (most:=3) (by decide)
  have h3:=zey (n:=n) (most:=3) (by decide)
  have hg:([.atom (.string ⟨#[110,111,117,110]⟩),.atom (.string ⟨#[118,101,114,98]⟩),.atom (.string ⟨#[110,97,109,101]⟩)]:List PV).getD (zdp n 3).toNat .junk=.atom (.string (zaF n)):=zbn (l:=zjc) (k:=(zdp n 3).toNat) (by show _<3;omega)
  refine Pure.intro (ts:=[2]) Tryz.func40 (by kernel_rfl) rfl rfl rfl (Nat.le_of_ble_eq_true rfl) ?_ ?_
  · simp[zah,zag,encI,encS,PV.pure,zax]
  refine sY [0] (fun P S K=>K ⟨[(0,S.get 0)],S.hp,S.nx,S.gh⟩) ?_
  all_goals
  refine sZ [2] (fun P S K=>XvBuildS P 37 3 S.nx [(0,(.atom (.string { data := #[110,111,117,110] }))),(1,(.atom (.string { data := #[118,101,114,98] }))),(2,(.atom (.string { data := #[110,97,109,101] })))] (fun r0 ef0=>XvFnIV P (M (Eff.hp ef0 S.nx S.hp) (S.nx+ef0.add.length)) (.fn 31 []) [(S.get 0),(.atom (.int .i64 3))] (fun r2 ef2=>XvIndexAddr P 37 r0 r2 (fun r3 _=>XvLoad P 9 (M (Eff.hp ef2 (S.nx+ef0.add.length) (Eff.hp ef0 S.nx S.hp)) ((S.nx+ef0.add.length)+ef2.add.length)) r3 (fun r4 _=>K ⟨[(2,r4)],(Eff.hp ef2 (S.nx+ef0.add.length) (Eff.hp ef0 S.nx S.hp)),((S.nx+ef0.add.length)+ef2.add.length),S.gh⟩))))) fun K hK=>?_
  repeat' (first|(refine hK _ ?_;clear hK K)|refine And.intro ?_ ?_|exact cl|refine .inl ⟨_,_,ze5 n 3 hn (by decide),?_⟩|(refine st ?_;try simp only[hg])|fail)
  all_goals
  refine Tri.ret ?_
  show ResOk _ _ _ _
  exact ResOk.val zce zb7
theorem zoK (n:Int) (hn:I64 n):Pure Tryz.prog 39 [encI n] (encS (zk4 n)) []:=by
  have h0:=zex (n:=n) (most:=14) (by decide)
  have h3:=zey (n:=n) (most:=14) (by decide)
  have hg:([.atom (.string ⟨#[97,110,110,97]⟩),.atom (.string ⟨#[114,111,109,101]⟩),.atom (.string ⟨#[107,105,110,103]⟩),.atom (.string ⟨#[116,104,101]⟩),.atom (.string ⟨#[111,102]⟩),.atom (.string ⟨#[111,100,101]⟩),.atom (.string ⟨#[108,121,114,101]⟩),.atom (.string ⟨#[120]⟩),.atom (.string ⟨#[111,100,101,115]⟩),.atom (.string ⟨#[107,105,110,103,115]⟩),.atom (.string ⟨#[97,110,110,97,115]⟩),.atom (.string ⟨#[108,121,114,101,115]⟩),.atom (.string ⟨#[115]⟩),.atom (.string ⟨#[104,105,115]⟩)]:List PV).getD (zdp n 14).toNat .junk=.atom (.string (zk4 n)):=zbn (l:=zk3) (k:=(zdp n 14).toNat) (by show _<14;omega)
  refine Pure.intro (ts:=[2]) Tryz.func39 (by kernel_rfl) rfl rfl rfl (Nat.le_of_ble_eq_true rfl) ?_ ?_
  · simp[zah,zag,encI,encS,PV.pure,zax]
  refine sY [0] (fun P S K=>K ⟨[(0,S.get 0)],S.hp,S.nx,S.gh⟩) ?_
  all_goals
  refine sY [0,3] (fun P S K=>XvBuildS P 37 14 S.nx [(0,(.atom (.string { data := #[97,110,110,97] }))),(1,(.atom (.string { data := #[114,111,109,101] }))),(2,(.atom (.string { data := #[107,105,110,103] }))),(3,(.atom (.string { data := #[116,104,101] }))),(4,(.atom (.string { data := #[111,102] }))),(5,(.atom (.string { data := #[111,100,101] }))),(6,(.atom (.string { data := #[108,121,114,101] }))),(7,(.atom (.string { data := #[120] }))),(8,(.atom (.string { data := #[111,100,101,115] }))),(9,(.atom (.string { data := #[107,105,110,103,115] }))),(10,(.atom (.string { data := #[97,110,110,97,115] }))),(11,(.atom (.string { data := #[108,121,114,101,115] }))),(12,(.atom (.string { data := #[115] }))),(13,(.atom (.string { data := #[104,105,115] })))] (fun r0 ef0=>K ⟨[(0,S.get 0),(3,r0)],(Eff.hp ef0 S.nx S.hp),(S.nx+ef0.add.length),S.gh⟩)) ?_
  all_goals
  refine sZ [2] (fun P S K=>XvLen P 37 (M S.hp S.nx) (S.get 3) (fun r3 _=>XvFnIV P (M S.hp S.nx) (.fn 31 []) [(S.get 0),r3] (fun r4 ef4=>XvIndexAddr P 37 (S.get 3) r4 (fun r5 _=>XvLoad P 9 (M (Eff.hp ef4 S.nx S.hp) (S.nx+ef4.add.length)) r5 (fun r6 _=>K ⟨[(2,r6)],(Eff.hp ef4 S.nx S.hp),(S.nx+ef4.add.length),S.gh⟩))))) fun K hK=>?_
  repeat' (first|(refine hK _ ?_;clear hK K)|refine And.intro ?_ ?_|exact cl|refine .inl ⟨_,_,ze5 n 14 hn (by decide),?_⟩|(refine st ?_;try simp only[hg])|refine sx ?_ (by simp only[hg];exact rfl)|fail)
  all_goals
  refine Tri.ret ?_
  show ResOk _ _ _ _
  exact ResOk.val zce zb7
theorem zbh{p:Prop}(h:p:=by(refine⟨4,?_,?_,rfl,by simp,rfl,fun _ h _=>absurd h (Nat.not_lt_zero _)⟩<;>(simp only[List.forall_mem_cons];repeat' (first|refine And.intro ?_ ?_|(intro p hp;exact absurd hp List.not_mem_nil)|rfl|exact sp (zaQ _)|exact sp (zaL _)|exact(zat _ _ _ (zah _)).trans (zbW _ _).symm|exact(zat _ _ _ (zag _)).trans (zbV _ _).symm|exact sp (by assumption)|(intro o ho;cases ho;refine⟨by decide,?_⟩;first|(refine LeqS.row rfl ?_ ?_;(next=>(first|rfl|(simp only[List.map_append,List.map_cons,List.map_nil,List.append_nil,List.nil_append,List.append_assoc,List.cons_append,encI,encS,ints,strs];done)|(simp[encI,encS,ints,strs,encF,encR,encA];done)));(next=>(first|rfl|exact zao _|exact zar _|exact zav _|exact zau _|exact zaK _|exact za1 _|exact za2 _|exact zas _|(simp[zas,zao,zar,zav,zau,zax,PV.pure,zah,zag,zaQ,zaK,za1,za2,zaL,zas,encF,encS];done)));done)|refine⟨_,rfl,rfl,?_⟩)|(simp[St.born,St.known,retV,St.get,St.obj,lk,sealed,PV.ren,renL,rmap,AO.ren,ints,strs,encI,encS,zan,zam,zal,zak,zaB,zaA,zaz,zay,zaY,zaX,zaW,zaV,zcQ,zaa,zac,zad,zab,zai,zaj,zaE,za4,zaH,zbc,zaI,zbd,zap,encF,encR,encA,zbF]<;>omega))));first|done|fail):p:=h
theorem zb9 (s:ByteArray) (least most:Int) (hs:s.size≤9223372036854775807):Pure Tryz.prog 42 [encS s,encI least,encI most] (.atom (.bool (letS s least most))) []:=by
  refine Pure.intro (ts:=[6]) Tryz.func42 (by kernel_rfl) rfl rfl rfl (Nat.le_of_ble_eq_true rfl) ?_ ?_
  · simp[zah,zag,encI,encS,PV.pure,zax]
  refine sY [0,1,2] (fun P S K=>K ⟨[(0,S.get 0),(1,S.get 1),(2,S.get 2)],S.hp,S.nx,S.gh⟩) ?_
  all_goals
  refine Tri.seq ?_
  refine sZ [0,17] (fun P S K=>XvLen P 9 (M S.hp S.nx) (S.get 0) (fun r1 _=>XvBinOV P .lss 3 (.tmp 10) r1 (S.get 1) (fun r3 _=>Xgq r3 false (fun k=>k (S.get 0)) (fun g5 r5=>Xgq g5 false (fun k=>XvLen P 9 (M S.hp S.nx) r5 (fun r6 _=>k r6)) (fun g6 r6=>Xgq g6 false (fun k=>k (S.get 2)) (fun g7 r7=>Xgq g7 false (fun k=>XvBinOV P .gtr 3 (.tmp 15) r6 r7 (fun r8 _=>k r8)) (fun g8 r8=>XvPick g8 (.atom (.bool true)) r8 (fun r9 _=>K ⟨[(0,S.get 0),(17,r9)],S.hp,S.nx,S.gh⟩)))))))) fun K hK=>?_
  repeat' (first|(refine hK _ ?_;clear hK K)|((first|refine zaw (fun hg=>?_) (fun hg=>?_)|refine fun(hg:(_:Prop))=>?_)<;>((try simp only[BQ] at hg);try (exfalso;omega)))|refine And.intro ?_ ?_|exact cl|refine st ?_|fail)
  all_goals
  refine Tri.cond rfl (fun h17=>?_) (fun h17=>?_)
  ·try (cases h17;done)
   all_goals (try simp only[CQ] at h17)
   all_goals
   refine sY [6] (fun P S K=>K ⟨[(6,(.atom (.bool false)))],S.hp,S.nx,S.gh⟩) ?_
   all_goals
   refine Tri.ret ?_
   show ResOk _ _ _ _
   rw[show letS s least most=false from Bool.eq_false_iff.2 (fun h=>by have:=(letS_iff.1 h).2;omega)]
   exact ResOk.val zce zb7
  try (cases h17;done)
  all_goals (try simp only[CQ] at h17)
  all_goals
  refine Tri.skip ?_
  refine Tri.seq ?_
  refine sY [0,19,20] (fun P S K=>XvLen P 9 (M S.hp S.nx) (S.get 0) (fun r1 _=>K ⟨[(0,S.get 0),(19,r1),(20,(.atom (.int .i64 0)))],S.hp,S.nx,S.gh⟩)) ?_
  all_goals
  refine Tri.block ?_
  refine Tri.loop (α:=(i:Nat) ×' (i≤s.size∧∀j,j<i→97≤(zaJ s j).toNat∧(zaJ s j).toNat≤122)) (fun z=>(fun(i:Nat)=>(⟨[(0,encS s),(19,encI s.size),(20,encI i)],[],0,[]⟩:St)) z.1) (fun z=>(fun(i:Nat)=>s.size - i) z.1) ⟨0,⟨by omega,by omega⟩⟩ [] ?_ ?_
  ·exact zbh
  rintro⟨i,⟨hi,hlo⟩⟩
  refine sY [0,19,20,21] (fun P S K=>XvBinOV P .lss 3 (.tmp 19) (S.get 20) (S.get 19) (fun r0 _=>K ⟨[(0,S.get 0),(19,S.get 19),(20,S.get 20),(21,r0)],S.hp,S.nx,S.gh⟩)) ?_
  all_goals
  refine Tri.seq ?_
  refine Tri.cond rfl (fun h21=>?_) (fun h21=>?_)
  ·try (cases h21;done)
   all_goals (try simp only[CQ] at h21)
   all_goals
   refine Tri.skip ?_
   refine Tri.seq ?_
   refine Tri.block ?_
   refine sY [0,7,19,20] (fun P S K=>K ⟨[(0,S.get 0),(7,(S.get 20)),(19,S.get 19),(20,S.get 20)],S.hp,S.nx,S.gh⟩) ?_
   all_goals
   refine sZ [0,19,20,32] (fun P S K=>XvIndex P 9 (S.get 0) (S.get 7) (fun r2 _=>XvBinOV P .lss 5 (.const (.int .u8 97)) r2 (.atom (.int .u8 97)) (fun r3 _=>Xgq r3 false (fun k=>k (S.get 0)) (fun g5 r5=>Xgq g5 false (fun k=>k (S.get 7)) (fun g6 r6=>Xgq g6 false (fun k=>XvIndex P 9 r5 r6 (fun r7 _=>k r7)) (fun g7 r7=>Xgq g7 false (fun k=>XvBinOV P .gtr 5 (.const (.int .u8 122)) r7 (.atom (.int .u8 122)) (fun r8 _=>k r8)) (fun g8 r8=>XvPick g8 (.atom (.bool true)) r8 (fun r9 _=>K ⟨[(0,S.get 0),(19,S.get 19),(20,S.get 20),(32,r9)],S.hp,S.nx,S.gh⟩)))))))) fun K hK=>?_
   repeat' (first|(refine hK _ ?_;clear hK K)|((first|refine zaw (fun hg=>?_) (fun hg=>?_)|refine fun(hg:(_:Prop))=>?_)<;>((try simp only[BQ] at hg);try (exfalso;omega)))|refine And.intro ?_ ?_|exact cl|refine st ?_|fail)
   all_goals
   refine Tri.cond rfl (fun h32=>?_) (fun h32=>?_)
   ·try (cases h32;done)
    all_goals (try simp only[CQ] at h32)
    all_goals
    refine sY [6] (fun P S K=>K ⟨[(6,(.atom (.bool false)))],S.hp,S.nx,S.gh⟩) ?_
    all_goals
    refine Tri.ret ?_
    show ResOk _ _ _ _
    rw[show letS s least most=false from Bool.eq_false_iff.2 (fun h=>by have:=(letS_iff.1 h).1 i (by omega);omega)]
    exact ResOk.val zce zb7
   try (cases h32;done)
   all_goals (try simp only[CQ] at h32)
   all_goals
   refine Tri.skip ?_
   refine rY [0,19,20] (fun P S K=>XvBinOV P .add 3 (.const (.int .i64 1)) (S.get 20) (.atom (.int .i64 1)) (fun r0 _=>K ⟨[(0,S.get 0),(19,S.get 19),(20,r0)],S.hp,S.nx,S.gh⟩)) ?_
   all_goals try simp (disch:=omega) only[zae,zaf]
   all_goals
   refine⟨⟨i+1,by omega,fun j hj=>?_⟩,[],by dsimp only;omega,?_⟩
   · rcases Nat.lt_succ_iff_lt_or_eq.1 hj with hj|rfl
     · exact hlo j hj
     · omega
   · exact zbh
  try (cases h21;done)
  all_goals (try simp only[CQ] at h21)
  all_goals
  refine Tri.exit ?_
  refine sY [6] (fun P S K=>K ⟨[(6,(.atom (.bool true)))],S.hp,S.nx,S.gh⟩) ?_
  all_goals
  refine Tri.ret ?_
  show ResOk _ _ _ _
  rw[show letS s least most=true from letS_iff.2 ⟨fun j hj=>hlo j (by omega),by omega,by omega⟩]
  exact ResOk.val zce zb7
theorem zcf (s:ByteArray) (hs:s.size≤9223372036854775807):Pure Tryz.prog 43 [encS s] (.atom (.bool (letS s 1 8))) []:=by
  refine Pure.intro (ts:=[2]) Tryz.func43 (by kernel_rfl) rfl rfl rfl (Nat.le_of_ble_eq_true rfl) ?_ ?_
  · simp[zah,zag,encI,encS,PV.pure,zax]
  refine sY [0] (fun P S K=>K ⟨[(0,S.get 0)],S.hp,S.nx,S.gh⟩) ?_
  all_goals
  refine sZ [2] (fun P S K=>XvFnIV P (M S.hp S.nx) (.fn 42 []) [(S.get 0),(.atom (.int .i64 1)),(.atom (.int .i64 8))] (fun r1 ef1=>K ⟨[(2,r1)],(Eff.hp ef1 S.nx S.hp),(S.nx+ef1.add.length),S.gh⟩)) fun K hK=>?_
  repeat' (first|(refine hK _ ?_;clear hK K)|refine .inl ⟨_,_,zb9 s 1 8 hs,?_⟩|refine st ?_|fail)
  all_goals
  refine Tri.ret ?_
  show ResOk _ _ _ _
  exact ResOk.val zce zb7
theorem vX_badF{x:LexD}{i:Nat}(h:¬ (64<x.forms.length∨32<x.rules.length∨32<x.prefs.length)) (hi:i<x.forms.length) (hf:zg2 (fF x.forms i)=false):zb0 x=1:=by
  unfold zb0 zi6;rw[if_neg h,if_neg];rw[allF_no hi hf];simp
theorem vX_badR{x:LexD}{i:Nat}(h:¬ (64<x.forms.length∨32<x.rules.length∨32<x.prefs.length)) (hi:i<x.rules.length) (hf:zg1 (fR x.rules i)=false):zb0 x=1:=by
  unfold zb0 zi6;rw[if_neg h,if_neg]
  intro ha
  rw[Bool.and_eq_true,Bool.and_eq_true] at ha
  have:=List.all_eq_true.1 ha.1.2 _ (zf8 hi)
  rw[hf] at this;cases this
theorem vX_badA{x:LexD}{i:Nat}(h:¬ (64<x.forms.length∨32<x.rules.length∨32<x.prefs.length)) (hi:i<x.prefs.length) (hf:zg3 (fA x.prefs i)=false):zb0 x=1:=by
  unfold zb0 zi6;rw[if_neg h,if_neg]
  intro ha
  rw[Bool.and_eq_true,Bool.and_eq_true] at ha
  have:=List.all_eq_true.1 ha.2 _ (zic hi)
  rw[hf] at this;cases this
theorem vX_ok{x:LexD}(h:¬ (64<x.forms.length∨32<x.rules.length∨32<x.prefs.length)) (h1:∀j,j<x.forms.length→zg2 (fF x.forms j)=true) (h2:∀j,j<x.rules.length→zg1 (fR x.rules j)=true) (h3:∀j,j<x.prefs.length→zg3 (fA x.prefs j)=true):zb0 x=0:=by
  unfold zb0 zi6;rw[if_neg h,if_pos]
  rw[Bool.and_eq_true,Bool.and_eq_true]
  refine⟨⟨allF_yes h1,List.all_eq_true.2 fun y hy=>?_⟩,List.all_eq_true.2 fun y hy=>?_⟩
  · obtain⟨j,hj,rfl⟩:=List.getElem_of_mem hy;rw[←zsT hj];exact h2 j hj
  · obtain⟨j,hj,rfl⟩:=List.getElem_of_mem hy;rw[←znu hj];exact h3 j hj
theorem size0 (s:ByteArray):s.size=0↔s=⟨#[]⟩:=by
  cases s with|mk a=>simp[ByteArray.size]
theorem let0 (s:ByteArray):letS s 0 8=(decide (s=⟨#[]⟩) || letS s 1 8):=by
  by_cases h:s=⟨#[]⟩
  · subst h;rfl
  · rw[decide_eq_false h,Bool.false_or]
    have:s.size≠0:=fun e=>h ((size0 s).1 e)
    unfold letS
    rw[decide_eq_true (show(0:Int)≤s.size by omega),decide_eq_true (show(1:Int)≤s.size by omega)]
theorem znt (p:PrefD):zg3 p=((decide (p.after=⟨#[]⟩) || letS p.after 1 8) && (decide (p.before=⟨#[]⟩) || letS p.before 1 8) && !decide (p.after++p.before=⟨#[]⟩) && letS p.cls 1 8):=by
  have e:decide (0<p.after.size+p.before.size) = !decide (p.after++p.before=⟨#[]⟩):=by
    rw[←decide_not]
    congr 1
    rw[←size0,ByteArray.size_append]
    exact propext ⟨fun h=>by omega,fun h=>by omega⟩
  unfold zg3
  rw[e,let0,let0,Bool.and_assoc,Bool.and_assoc,Bool.and_assoc,Bool.and_assoc,Bool.and_comm (letS p.cls 1 8)]
theorem zeY (x:LexD) (hx:HeldX x):Pure Tryz.prog 13 [encX x] (encI (zb0 x)) []:=by
  have hnf:=hx.nforms
  have hnr:=hx.nrules
  have hnp:=hx.nprefs
  refine Pure.intro (ts:=[2]) Tryz.func13 (by kernel_rfl) rfl rfl rfl (Nat.le_of_ble_eq_true rfl) ?_ ?_
  · simp[zaQ,PV.pure,zax]
  refine sZ [1] (fun P S K=>XvBox S.nx (S.get 0) (fun r0 ef0=>K ⟨[(1,r0)],(Eff.hp ef0 S.nx S.hp),(S.nx+ef0.add.length),S.gh⟩)) fun K hK=>?_
  repeat' (first|(refine hK _ ?_;clear hK K)|refine And.intro ?_ ?_|exact cl|(refine st ?_;try simp only[encX,zaa,zac,zad,encF,encR,encA])|refine sx ?_ (by simp only[encX,zaa,zac,zad,encF,encR,encA];exact rfl)|fail)
  all_goals
  refine Tri.seq ?_
  refine sZ [1,24] (fun P S K=>XvFieldAddr P 27 0 (S.get 1) (fun r0 _=>XvLoad P 23 (M S.hp S.nx) r0 (fun r1 _=>XvLen P 23 (M S.hp S.nx) r1 (fun r2 _=>XvBinOV P .gtr 3 (.const (.int .i64 64)) r2 (.atom (.int .i64 64)) (fun r3 _=>Xgq r3 false (fun k=>XvFieldAddr P 27 1 (S.get 1) (fun r5 _=>k r5)) (fun g5 r5=>Xgq g5 false (fun k=>XvLoad P 24 (M S.hp S.nx) r5 (fun r6 _=>k r6)) (fun g6 r6=>Xgq g6 false (fun k=>XvLen P 24 (M S.hp S.nx) r6 (fun r7 _=>k r7)) (fun g7 r7=>Xgq g7 false (fun k=>XvBinOV P .gtr 3 (.const (.int .i64 32)) r7 (.atom (.int .i64 32)) (fun r8 _=>k r8)) (fun g8 r8=>XvPick g8 (.atom (.bool true)) r8 (fun r9 _=>Xgq r9 false (fun k=>XvFieldAddr P 27 2 (S.get 1) (fun r11 _=>k r11)) (fun g11 r11=>Xgq g11 false (fun k=>XvLoad P 25 (M S.hp S.nx) r11 (fun r12 _=>k r12)) (fun g12 r12=>Xgq g12 false (fun k=>XvLen P 25 (M S.hp S.nx) r12 (fun r13 _=>k r13)) (fun g13 r13=>Xgq g13 false (fun k=>XvBinOV P .gtr 3 (.const (.int .i64 32)) r13 (.atom (.int .i64 32)) (fun r14 _=>k r14)) (fun g14 r14=>XvPick g14 (.atom (.bool true)) r14 (fun r15 _=>K ⟨[(1,S.get 1),(24,r15)],S.hp,S.nx,S.gh⟩))))))))))))))) fun K hK=>?_
  repeat' (first|(refine hK _ ?_;clear hK K)|((first|refine zaw (fun hg=>?_) (fun hg=>?_)|refine fun(hg:(_:Prop))=>?_)<;>((try simp only[BQ] at hg);try (exfalso;omega)))|refine And.intro ?_ ?_|exact cl|(refine st ?_;try simp only[encX,zaa,zac,zad,encF,encR,encA])|fail)
  all_goals
  refine Tri.cond rfl (fun h24=>?_) (fun h24=>?_)
  ·try (cases h24;done)
   all_goals (try simp only[CQ] at h24)
   all_goals
   refine sY [2] (fun P S K=>K ⟨[(2,(.atom (.int .i64 4)))],S.hp,S.nx,S.gh⟩) ?_
   all_goals
   refine Tri.ret ?_
   show ResOk _ _ _ _
   rw[show zb0 x=4 from if_pos (by omega)]
   exact ResOk.val zce zb7
  try (cases h24;done)
  all_goals (try simp only[CQ] at h24)
  all_goals
  refine Tri.skip ?_
  refine Tri.seq ?_
  refine sZ [1,26,27,28] (fun P S K=>XvFieldAddr P 27 0 (S.get 1) (fun r0 _=>XvLoad P 23 (M S.hp S.nx) r0 (fun r1 _=>XvLen P 23 (M S.hp S.nx) r1 (fun r2 _=>K ⟨[(1,S.get 1),(26,r1),(27,r2),(28,(.atom (.int .i64 0)))],S.hp,S.nx,S.gh⟩)))) fun K hK=>?_
  repeat' (first|(refine hK _ ?_;clear hK K)|refine And.intro ?_ ?_|exact cl|(refine st ?_;try simp only[encX,zaa,zac,zad,encF,encR,encA])|refine sx ?_ (by simp only[encX,zaa,zac,zad,encF,encR,encA];exact rfl)|fail)
  all_goals
  refine Tri.block ?_
  refine Tri.loop (α:=(i:Nat) ×' (i≤x.forms.length∧∀j,j<i→zg2 (fF x.forms j)=true)) (fun z=>(fun(i:Nat)=>(⟨[(1,.ptr 0 3 0 0),(26,zaa x.forms),(27,encI x.forms.length),(28,encI i)],[(0,some ⟨3,[encX x]⟩)],1,[]⟩:St)) z.1) (fun z=>(fun(i:Nat)=>x.forms.length - i) z.1) ⟨0,⟨Nat.zero_le _,fun j hj=>absurd hj (Nat.not_lt_zero _)⟩⟩ [0] ?_ ?_
  ·exact zbh
  rintro⟨i,⟨hi,hf⟩⟩
  refine sY [1,26,27,28,29] (fun P S K=>XvBinOV P .lss 3 (.tmp 27) (S.get 28) (S.get 27) (fun r0 _=>K ⟨[(1,S.get 1),(26,S.get 26),(27,S.get 27),(28,S.get 28),(29,r0)],S.hp,S.nx,S.gh⟩)) ?_
  all_goals
  refine Tri.seq ?_
  refine Tri.cond rfl (fun h29=>?_) (fun h29=>?_)
  ·try (cases h29;done)
   all_goals (try simp only[CQ] at h29)
   all_goals
   refine Tri.skip ?_
   refine Tri.seq ?_
   refine Tri.block ?_
   have hil:i<x.forms.length:=by omega
   refine sZ [1,4,26,27,28] (fun P S K=>XvIndexAddr P 23 (S.get 26) (S.get 28) (fun r0 _=>XvLoad P 73 (M S.hp S.nx) r0 (fun r1 _=>XvAlloc P 73 S.nx (fun r2 ef2=>XvStore P 73 (M (Eff.hp ef2 S.nx S.hp) (S.nx+ef2.add.length)) r2 r1 (fun r3 ef3=>K ⟨[(1,S.get 1),(4,r2),(26,S.get 26),(27,S.get 27),(28,S.get 28)],(Eff.hp ef3 (S.nx+ef2.add.length) (Eff.hp ef2 S.nx S.hp)),((S.nx+ef2.add.length)+ef3.add.length),S.gh⟩))))) fun K hK=>?_
   repeat' (first|(refine hK _ ?_;clear hK K)|refine And.intro ?_ ?_|exact cl|(refine st ?_;try simp only[encX,zaa,zac,zad,encF,encR,encA,zbg hil])|fail)
   all_goals
   refine sZ [1,26,27,28,47] (fun P S K=>XvFieldAddr P 73 0 (S.get 4) (fun r0 _=>XvLoad P 9 (M S.hp S.nx) r0 (fun r1 _=>XvFnIV P (M S.hp S.nx) (.fn 42 []) [r1,(.atom (.int .i64 1)),(.atom (.int .i64 24))] (fun r2 ef2=>XvUn .not r2 (fun r3 _=>Xgq r3 false (fun k=>XvFieldAddr P 73 1 (S.get 4) (fun r5 _=>k r5)) (fun g5 r5=>Xgq g5 false (fun k=>XvLoad P 9 (M (Eff.hp ef2 S.nx S.hp) (S.nx+ef2.add.length)) r5 (fun r6 _=>k r6)) (fun g6 r6=>Xge g6 false (fun k=>XvFnIV P (M (Eff.hp ef2 S.nx S.hp) (S.nx+ef2.add.length)) (.fn 42 []) [r6,(.atom (.int .i64 1)),(.atom (.int .i64 24))] k) (fun g7 r7 ef7=>Xgq g7 false (fun k=>XvUn .not r7 (fun r8 _=>k r8)) (fun g8 r8=>XvPick g8 (.atom (.bool true)) r8 (fun r9 _=>Xgq r9 false (fun k=>XvFieldAddr P 73 2 (S.get 4) (fun r11 _=>k r11)) (fun g11 r11=>Xgq g11 false (fun k=>XvLoad P 9 (M (Eff.hp ef7 (S.nx+ef2.add.length) (Eff.hp ef2 S.nx S.hp)) ((S.nx+ef2.add.length)+ef7.add.length)) r11 (fun r12 _=>k r12)) (fun g12 r12=>Xge g12 false (fun k=>XvFnIV P (M (Eff.hp ef7 (S.nx+ef2.add.length) (Eff.hp ef2 S.nx S.hp)) ((S.nx+ef2.add.length)+ef7.add.length)) (.fn 43 []) [r12] k) (fun g13 r13 ef13=>Xgq g13 false (fun k=>XvUn .not r13 (fun r14 _=>k r14)) (fun g14 r14=>XvPick g14 (.atom (.bool true)) r14 (fun r15 _=>K ⟨[(1,S.get 1),(26,S.get 26),(27,S.get 27),(28,S.get 28),(47,r15)],(Eff.hp ef13 ((S.nx+ef2.add.length)+ef7.add.length) (Eff.hp ef7 (S.nx+ef2.add.length) (Eff.hp ef2 S.nx S.hp))),(((S.nx+ef2.add.length)+ef7.add.length)+ef13.add.length),S.gh⟩))))))))))))))) fun K hK=>?_
   repeat' (first|(refine hK _ ?_;clear hK K)|((first|refine zaw (fun hg=>?_) (fun hg=>?_)|refine fun(hg:(_:Prop))=>?_)<;>((try simp only[BQ] at hg);try (exfalso;omega)))|refine And.intro ?_ ?_|exact cl|refine .inl ⟨_,_,zb9 _ 1 24 (up47 (hx.forms _ (zeM hil)).word),?_⟩|refine .inl ⟨_,_,zb9 _ 1 24 (up47 (hx.forms _ (zeM hil)).lem),?_⟩|refine .inl ⟨_,_,zcf _ (up47 (hx.forms _ (zeM hil)).cls),?_⟩|refine .inl ⟨_,_,zb9 _ 0 8 (up47 (hx.rules _ (zf8 hjl)).suf),?_⟩|refine .inl ⟨_,_,zb9 _ 0 8 (up47 (hx.rules _ (zf8 hjl)).put),?_⟩|refine .inl ⟨_,_,zcf _ (up47 (hx.rules _ (zf8 hjl)).cls),?_⟩|(refine st ?_;try simp only[encX,zaa,zac,zad,encF,encR,encA])|fail)
   all_goals try simp (disch:=omega) only[zae,zaf]
   all_goals
   refine Tri.cond rfl (fun h47=>?_) (fun h47=>?_)
   ·try (cases h47;done)
    all_goals (try simp only[CQ] at h47)
    all_goals
    refine sY [2] (fun P S K=>K ⟨[(2,(.atom (.int .i64 1)))],S.hp,S.nx,S.gh⟩) ?_
    all_goals
    refine Tri.ret ?_
    show ResOk _ _ _ _
    rw[vX_badF (by omega) hil (by unfold zg2;simp_all)]
    exact ResOk.val zce zb7
   try (cases h47;done)
   all_goals (try simp only[CQ] at h47)
   all_goals
   refine Tri.skip ?_
   refine rY [1,26,27,28] (fun P S K=>XvBinOV P .add 3 (.const (.int .i64 1)) (S.get 28) (.atom (.int .i64 1)) (fun r0 _=>K ⟨[(1,S.get 1),(26,S.get 26),(27,S.get 27),(28,r0)],S.hp,S.nx,S.gh⟩)) ?_
   all_goals try simp (disch:=omega) only[zae,zaf]
   all_goals
   refine⟨⟨i+1,by omega,fun j hj=>?_⟩,[0],by dsimp only;omega,?_⟩
   · rcases Nat.lt_succ_iff_lt_or_eq.1 hj with hj|rfl
     · exact hf j hj
     · unfold zg2;simp_all
   · exact zbh
  try (cases h29;done)
  all_goals (try simp only[CQ] at h29)
  all_goals
  refine Tri.exit ?_
  refine Tri.seq ?_
  refine sZ [1,50,51,52] (fun P S K=>XvFieldAddr P 27 1 (S.get 1) (fun r0 _=>XvLoad P 24 (M S.hp S.nx) r0 (fun r1 _=>XvLen P 24 (M S.hp S.nx) r1 (fun r2 _=>K ⟨[(1,S.get 1),(50,r1),(51,r2),(52,(.atom (.int .i64 0)))],S.hp,S.nx,S.gh⟩)))) fun K hK=>?_
  repeat' (first|(refine hK _ ?_;clear hK K)|refine And.intro ?_ ?_|exact cl|(refine st ?_;try simp only[encX,zaa,zac,zad,encF,encR,encA])|refine sx ?_ (by simp only[encX,zaa,zac,zad,encF,encR,encA];exact rfl)|fail)
  all_goals
  refine Tri.block ?_
  refine Tri.loop (α:=(j:Nat) ×' (j≤x.rules.length∧∀i,i<j→zg1 (fR x.rules i)=true)) (fun z=>(fun(j:Nat)=>(⟨[(1,.ptr 0 3 0 0),(50,zac x.rules),(51,encI x.rules.length),(52,encI j)],[(0,some ⟨3,[encX x]⟩)],1,[]⟩:St)) z.1) (fun z=>(fun(j:Nat)=>x.rules.length - j) z.1) ⟨0,⟨Nat.zero_le _,fun j hj=>absurd hj (Nat.not_lt_zero _)⟩⟩ [0] ?_ ?_
  ·exact zbh
  rintro⟨j,⟨hj,hr⟩⟩
  refine sY [1,50,51,52,53] (fun P S K=>XvBinOV P .lss 3 (.tmp 51) (S.get 52) (S.get 51) (fun r0 _=>K ⟨[(1,S.get 1),(50,S.get 50),(51,S.get 51),(52,S.get 52),(53,r0)],S.hp,S.nx,S.gh⟩)) ?_
  all_goals
  refine Tri.seq ?_
  refine Tri.cond rfl (fun h53=>?_) (fun h53=>?_)
  ·try (cases h53;done)
   all_goals (try simp only[CQ] at h53)
   all_goals
   refine Tri.skip ?_
   refine Tri.seq ?_
   refine Tri.block ?_
   have hjl:j<x.rules.length:=by omega
   refine sZ [1,6,50,51,52] (fun P S K=>XvIndexAddr P 24 (S.get 50) (S.get 52) (fun r0 _=>XvLoad P 90 (M S.hp S.nx) r0 (fun r1 _=>XvAlloc P 90 S.nx (fun r2 ef2=>XvStore P 90 (M (Eff.hp ef2 S.nx S.hp) (S.nx+ef2.add.length)) r2 r1 (fun r3 ef3=>K ⟨[(1,S.get 1),(6,r2),(50,S.get 50),(51,S.get 51),(52,S.get 52)],(Eff.hp ef3 (S.nx+ef2.add.length) (Eff.hp ef2 S.nx S.hp)),((S.nx+ef2.add.length)+ef3.add.length),S.gh⟩))))) fun K hK=>?_
   repeat' (first|(refine hK _ ?_;clear hK K)|refine And.intro ?_ ?_|exact cl|(refine st ?_;try simp only[encX,zaa,zac,zad,encF,encR,encA,zdM hjl])|fail)
   all_goals
   refine sZ [1,50,51,52,81] (fun P S K=>XvFieldAddr P 90 0 (S.get 6) (fun r0 _=>XvLoad P 9 (M S.hp S.nx) r0 (fun r1 _=>XvFnIV P (M S.hp S.nx) (.fn 42 []) [r1,(.atom (.int .i64 0)),(.atom (.int .i64 8))] (fun r2 ef2=>XvUn .not r2 (fun r3 _=>Xgq r3 false (fun k=>XvFieldAddr P 90 1 (S.get 6) (fun r5 _=>k r5)) (fun g5 r5=>Xgq g5 false (fun k=>XvLoad P 9 (M (Eff.hp ef2 S.nx S.hp) (S.nx+ef2.add.length)) r5 (fun r6 _=>k r6)) (fun g6 r6=>Xge g6 false (fun k=>XvFnIV P (M (Eff.hp ef2 S.nx S.hp) (S.nx+ef2.add.length)) (.fn 42 []) [r6,(.atom (.int .i64 0)),(.atom (.int .i64 8))] k) (fun g7 r7 ef7=>Xgq g7 false (fun k=>XvUn .not r7 (fun r8 _=>k r8)) (fun g8 r8=>XvPick g8 (.atom (.bool true)) r8 (fun r9 _=>Xgq r9 false (fun k=>XvFieldAddr P 90 2 (S.get 6) (fun r11 _=>k r11)) (fun g11 r11=>Xgq g11 false (fun k=>XvLoad P 9 (M (Eff.hp ef7 (S.nx+ef2.add.length) (Eff.hp ef2 S.nx S.hp)) ((S.nx+ef2.add.length)+ef7.add.length)) r11 (fun r12 _=>k r12)) (fun g12 r12=>Xge g12 false (fun k=>XvFnIV P (M (Eff.hp ef7 (S.nx+ef2.add.length) (Eff.hp ef2 S.nx S.hp)) ((S.nx+ef2.add.length)+ef7.add.length)) (.fn 43 []) [r12] k) (fun g13 r13 ef13=>Xgq g13 false (fun k=>XvUn .not r13 (fun r14 _=>k r14)) (fun g14 r14=>XvPick g14 (.atom (.bool true)) r14 (fun r15 _=>Xgq r15 false (fun k=>XvFieldAddr P 90 3 (S.get 6) (fun r17 _=>k r17)) (fun g17 r17=>Xgq g17 false (fun k=>XvLoad P 3 (M (Eff.hp ef13 ((S.nx+ef2.add.length)+ef7.add.length) (Eff.hp ef7 (S.nx+ef2.add.length) (Eff.hp ef2 S.nx S.hp))) (((S.nx+ef2.add.length)+ef7.add.length)+ef13.add.length)) r17 (fun r18 _=>k r18)) (fun g18 r18=>Xgq g18 false (fun k=>XvBinOV P .lss 3 (.const (.int .i64 0)) r18 (.atom (.int .i64 0)) (fun r19 _=>k r19)) (fun g19 r19=>XvPick g19 (.atom (.bool true)) r19 (fun r20 _=>Xgq r20 false (fun k=>XvFieldAddr P 90 3 (S.get 6) (fun r22 _=>k r22)) (fun g22 r22=>Xgq g22 false (fun k=>XvLoad P 3 (M (Eff.hp ef13 ((S.nx+ef2.add.length)+ef7.add.length) (Eff.hp ef7 (S.nx+ef2.add.length) (Eff.hp ef2 S.nx S.hp))) (((S.nx+ef2.add.length)+ef7.add.length)+ef13.add.length)) r22 (fun r23 _=>k r23)) (fun g23 r23=>Xgq g23 false (fun k=>XvBinOV P .gtr 3 (.const (.int .i64 8)) r23 (.atom (.int .i64 8)) (fun r24 _=>k r24)) (fun g24 r24=>XvPick g24 (.atom (.bool true)) r24 (fun r25 _=>K ⟨[(1,S.get 1),(50,S.get 50),(51,S.get 51),(52,S.get 52),(81,r25)],(Eff.hp ef13 ((S.nx+ef2.add.length)+ef7.add.length) (Eff.hp ef7 (S.nx+ef2.add.length) (Eff.hp ef2 S.nx S.hp))),(((S.nx+ef2.add.length)+ef7.add.length)+ef13.add.length),S.gh⟩))))))))))))))))))))))) fun K hK=>?_
   repeat' (first|(refine hK _ ?_;clear hK K)|((first|refine zaw (fun hg=>?_) (fun hg=>?_)|refine fun(hg:(_:Prop))=>?_)<;>((try simp only[BQ] at hg);try (exfalso;omega)))|refine And.intro ?_ ?_|exact cl|refine .inl ⟨_,_,zb9 _ 1 24 (up47 (hx.forms _ (zeM hil)).word),?_⟩|refine .inl ⟨_,_,zb9 _ 1 24 (up47 (hx.forms _ (zeM hil)).lem),?_⟩|refine .inl ⟨_,_,zcf _ (up47 (hx.forms _ (zeM hil)).cls),?_⟩|refine .inl ⟨_,_,zb9 _ 0 8 (up47 (hx.rules _ (zf8 hjl)).suf),?_⟩|refine .inl ⟨_,_,zb9 _ 0 8 (up47 (hx.rules _ (zf8 hjl)).put),?_⟩|refine .inl ⟨_,_,zcf _ (up47 (hx.rules _ (zf8 hjl)).cls),?_⟩|(refine st ?_;try simp only[encX,zaa,zac,zad,encF,encR,encA])|fail)
   all_goals try simp (disch:=omega) only[zae,zaf]
   all_goals
   refine Tri.cond rfl (fun h81=>?_) (fun h81=>?_)
   ·try (cases h81;done)
    all_goals (try simp only[CQ] at h81)
    all_goals
    refine sY [2] (fun P S K=>K ⟨[(2,(.atom (.int .i64 1)))],S.hp,S.nx,S.gh⟩) ?_
    all_goals
    refine Tri.ret ?_
    show ResOk _ _ _ _
    rw[vX_badR (by omega) hjl (by unfold zg1;simp_all<;>omega)]
    exact ResOk.val zce zb7
   try (cases h81;done)
   all_goals (try simp only[CQ] at h81)
   all_goals
   refine Tri.skip ?_
   refine rY [1,50,51,52] (fun P S K=>XvBinOV P .add 3 (.const (.int .i64 1)) (S.get 52) (.atom (.int .i64 1)) (fun r0 _=>K ⟨[(1,S.get 1),(50,S.get 50),(51,S.get 51),(52,r0)],S.hp,S.nx,S.gh⟩)) ?_
   all_goals try simp (disch:=omega) only[zae,zaf]
   all_goals
   refine⟨⟨j+1,by omega,fun i hi=>?_⟩,[0],by dsimp only;omega,?_⟩
   · rcases Nat.lt_succ_iff_lt_or_eq.1 hi with hi|rfl
     · exact hr i hi
     · unfold zg1;simp_all<;>omega
   · exact zbh
  try (cases h53;done)
  all_goals (try simp only[CQ] at h53)
  all_goals
  refine Tri.exit ?_
  refine Tri.seq ?_
  refine sZ [84,85,86] (fun P S K=>XvFieldAddr P 27 2 (S.get 1) (fun r0 _=>XvLoad P 25 (M S.hp S.nx) r0 (fun r1 _=>XvLen P 25 (M S.hp S.nx) r1 (fun r2 _=>K ⟨[(84,r1),(85,r2),(86,(.atom (.int .i64 0)))],S.hp,S.nx,S.gh⟩)))) fun K hK=>?_
  repeat' (first|(refine hK _ ?_;clear hK K)|refine And.intro ?_ ?_|exact cl|(refine st ?_;try simp only[encX,zaa,zac,zad,encF,encR,encA])|refine sx ?_ (by simp only[encX,zaa,zac,zad,encF,encR,encA];exact rfl)|fail)
  all_goals
  refine Tri.block ?_
  refine Tri.loop (α:=(k:Nat) ×' (k≤x.prefs.length∧∀i,i<k→zg3 (fA x.prefs i)=true)) (fun z=>(fun(k:Nat)=>(⟨[(84,zad x.prefs),(85,encI x.prefs.length),(86,encI k)],[],0,[]⟩:St)) z.1) (fun z=>(fun(k:Nat)=>x.prefs.length - k) z.1) ⟨0,⟨Nat.zero_le _,fun j hj=>absurd hj (Nat.not_lt_zero _)⟩⟩ [] ?_ ?_
  ·exact zbh
  rintro⟨k,⟨hk,ha⟩⟩
  refine sY [84,85,86,87] (fun P S K=>XvBinOV P .lss 3 (.tmp 85) (S.get 86) (S.get 85) (fun r0 _=>K ⟨[(84,S.get 84),(85,S.get 85),(86,S.get 86),(87,r0)],S.hp,S.nx,S.gh⟩)) ?_
  all_goals
  refine Tri.seq ?_
  refine Tri.cond rfl (fun h87=>?_) (fun h87=>?_)
  ·try (cases h87;done)
   all_goals (try simp only[CQ] at h87)
   all_goals
   refine Tri.skip ?_
   refine Tri.seq ?_
   refine Tri.block ?_
   have hkl:k<x.prefs.length:=by omega
   have hp1:=(hx.prefs _ (zic hkl)).after
   have hp2:=(hx.prefs _ (zic hkl)).before
   refine sZ [8,84,85,86] (fun P S K=>XvIndexAddr P 25 (S.get 84) (S.get 86) (fun r0 _=>XvLoad P 91 (M S.hp S.nx) r0 (fun r1 _=>XvAlloc P 91 S.nx (fun r2 ef2=>XvStore P 91 (M (Eff.hp ef2 S.nx S.hp) (S.nx+ef2.add.length)) r2 r1 (fun r3 ef3=>K ⟨[(8,r2),(84,S.get 84),(85,S.get 85),(86,S.get 86)],(Eff.hp ef3 (S.nx+ef2.add.length) (Eff.hp ef2 S.nx S.hp)),((S.nx+ef2.add.length)+ef3.add.length),S.gh⟩))))) fun K hK=>?_
   repeat' (first|(refine hK _ ?_;clear hK K)|refine And.intro ?_ ?_|exact cl|(refine st ?_;try simp only[encX,zaa,zac,zad,encF,encR,encA,zfq hkl])|fail)
   all_goals
   refine sZ [84,85,86,123] (fun P S K=>XvFieldAddr P 91 0 (S.get 8) (fun r0 _=>XvLoad P 9 (M S.hp S.nx) r0 (fun r1 _=>XvBinOV P .neq 9 (.const (.string { data := #[] })) r1 (.atom (.string { data := #[] })) (fun r2 _=>Xgq r2 true (fun k=>XvFieldAddr P 91 0 (S.get 8) (fun r4 _=>k r4)) (fun g4 r4=>Xgq g4 true (fun k=>XvLoad P 9 (M S.hp S.nx) r4 (fun r5 _=>k r5)) (fun g5 r5=>Xge g5 true (fun k=>XvFnIV P (M S.hp S.nx) (.fn 43 []) [r5] k) (fun g6 r6 ef6=>Xgq g6 true (fun k=>XvUn .not r6 (fun r7 _=>k r7)) (fun g7 r7=>XvPick g7 r7 (.atom (.bool false)) (fun r8 _=>Xgq r8 false (fun k=>XvFieldAddr P 91 1 (S.get 8) (fun r10 _=>k r10)) (fun g10 r10=>Xgq g10 false (fun k=>XvLoad P 9 (M (Eff.hp ef6 S.nx S.hp) (S.nx+ef6.add.length)) r10 (fun r11 _=>k r11)) (fun g11 r11=>Xgq g11 false (fun k=>XvBinOV P .neq 9 (.const (.string { data := #[] })) r11 (.atom (.string { data := #[] })) (fun r12 _=>k r12)) (fun g12 r12=>Xgq g12 false (fun k=>k r12) (fun g13 r13=>Xgq r13 true (fun k=>XvFieldAddr P 91 1 (S.get 8) (fun r14 _=>k r14)) (fun g14 r14=>Xgq g14 true (fun k=>XvLoad P 9 (M (Eff.hp ef6 S.nx S.hp) (S.nx+ef6.add.length)) r14 (fun r15 _=>k r15)) (fun g15 r15=>Xge g15 true (fun k=>XvFnIV P (M (Eff.hp ef6 S.nx S.hp) (S.nx+ef6.add.length)) (.fn 43 []) [r15] k) (fun g16 r16 ef16=>Xgq g16 true (fun k=>XvUn .not r16 (fun r17 _=>k r17)) (fun g17 r17=>Xgq g13 false (fun k=>XvPick g17 r17 (.atom (.bool false)) (fun r18 _=>k r18)) (fun g18 r18=>XvPick g18 (.atom (.bool true)) r18 (fun r19 _=>Xgq r19 false (fun k=>XvFieldAddr P 91 0 (S.get 8) (fun r21 _=>k r21)) (fun g21 r21=>Xgq g21 false (fun k=>XvLoad P 9 (M (Eff.hp ef16 (S.nx+ef6.add.length) (Eff.hp ef6 S.nx S.hp)) ((S.nx+ef6.add.length)+ef16.add.length)) r21 (fun r22 _=>k r22)) (fun g22 r22=>Xgq g22 false (fun k=>XvFieldAddr P 91 1 (S.get 8) (fun r23 _=>k r23)) (fun g23 r23=>Xgq g23 false (fun k=>XvLoad P 9 (M (Eff.hp ef16 (S.nx+ef6.add.length) (Eff.hp ef6 S.nx S.hp)) ((S.nx+ef6.add.length)+ef16.add.length)) r23 (fun r24 _=>k r24)) (fun g24 r24=>Xgq g24 false (fun k=>XvBinOV P .add 9 (.tmp 114) r22 r24 (fun r25 _=>k r25)) (fun g25 r25=>Xgq g25 false (fun k=>XvBinOV P .eql 9 (.const (.string { data := #[] })) r25 (.atom (.string { data := #[] })) (fun r26 _=>k r26)) (fun g26 r26=>XvPick g26 (.atom (.bool true)) r26 (fun r27 _=>Xgq r27 false (fun k=>XvFieldAddr P 91 2 (S.get 8) (fun r29 _=>k r29)) (fun g29 r29=>Xgq g29 false (fun k=>XvLoad P 9 (M (Eff.hp ef16 (S.nx+ef6.add.length) (Eff.hp ef6 S.nx S.hp)) ((S.nx+ef6.add.length)+ef16.add.length)) r29 (fun r30 _=>k r30)) (fun g30 r30=>Xge g30 false (fun k=>XvFnIV P (M (Eff.hp ef16 (S.nx+ef6.add.length) (Eff.hp ef6 S.nx S.hp)) ((S.nx+ef6.add.length)+ef16.add.length)) (.fn 43 []) [r30] k) (fun g31 r31 ef31=>Xgq g31 false (fun k=>XvUn .not r31 (fun r32 _=>k r32)) (fun g32 r32=>XvPick g32 (.atom (.bool true)) r32 (fun r33 _=>K ⟨[(84,S.get 84),(85,S.get 85),(86,S.get 86),(123,r33)],(Eff.hp ef31 ((S.nx+ef6.add.length)+ef16.add.length) (Eff.hp ef16 (S.nx+ef6.add.length) (Eff.hp ef6 S.nx S.hp))),(((S.nx+ef6.add.length)+ef16.add.length)+ef31.add.length),S.gh⟩))))))))))))))))))))))))))))))) fun K hK=>?_
   repeat' (first|(refine hK _ ?_;clear hK K)|((first|refine zaw (fun hg=>?_) (fun hg=>?_)|refine fun(hg:(_:Prop))=>?_)<;>((try simp only[BQ] at hg);try (exfalso;omega)))|refine And.intro ?_ ?_|exact cl|refine .inl ⟨_,_,zcf _ (up47 (hx.prefs _ (zic hkl)).after),?_⟩|refine .inl ⟨_,_,zcf _ (up47 (hx.prefs _ (zic hkl)).before),?_⟩|refine .inl ⟨_,_,zcf _ (up47 (hx.prefs _ (zic hkl)).cls),?_⟩|(refine st ?_;try simp only[encX,zaa,zac,zad,encF,encR,encA])|fail)
   all_goals try simp (disch:=omega) only[zae,zaf]
   all_goals
   refine Tri.cond rfl (fun h123=>?_) (fun h123=>?_)
   ·try (cases h123;done)
    all_goals (try simp only[CQ] at h123)
    all_goals
    refine sY [2] (fun P S K=>K ⟨[(2,(.atom (.int .i64 1)))],S.hp,S.nx,S.gh⟩) ?_
    all_goals
    refine Tri.ret ?_
    show ResOk _ _ _ _
    rw[vX_badA (by omega) hkl (by rw[znt];simp_all)]
    exact ResOk.val zce zb7
   try (cases h123;done)
   all_goals (try simp only[CQ] at h123)
   all_goals
   refine Tri.skip ?_
   refine rY [84,85,86] (fun P S K=>XvBinOV P .add 3 (.const (.int .i64 1)) (S.get 86) (.atom (.int .i64 1)) (fun r0 _=>K ⟨[(84,S.get 84),(85,S.get 85),(86,r0)],S.hp,S.nx,S.gh⟩)) ?_
   all_goals try simp (disch:=omega) only[zae,zaf]
   all_goals
   refine⟨⟨k+1,by omega,fun i hi=>?_⟩,[],by dsimp only;omega,?_⟩
   · rcases Nat.lt_succ_iff_lt_or_eq.1 hi with hi|rfl
     · exact ha i hi
     · rw[znt];simp_all
   · exact zbh
  try (cases h87;done)
  all_goals (try simp only[CQ] at h87)
  all_goals
  refine Tri.exit ?_
  refine sY [2] (fun P S K=>K ⟨[(2,(.atom (.int .i64 0)))],S.hp,S.nx,S.gh⟩) ?_
  all_goals
  refine Tri.ret ?_
  show ResOk _ _ _ _
  rw[vX_ok (by omega) (fun j hj=>hf j (by omega)) (fun i hi=>hr i (by omega)) (fun i hi=>ha i (by omega))]
  exact ResOk.val zce zb7
end Go.Proofs.YtehoglapajkabaaGreat
