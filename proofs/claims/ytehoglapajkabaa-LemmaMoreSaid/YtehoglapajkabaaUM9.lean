/-
  Walks: the reference model of lexicons: what is valid;rules,analyses.
-/
import Derived.Test.YtehoglapajkabaaUM0
import Derived.Test.YtehoglapajkabaaUV14
set_option linter.all false
namespace Go.Proofs.Ytehoglapajkabaa
open Go Go.RowKit
set_option maxRecDepth 20000
set_option maxHeartbeats 1000000
theorem up47{n:Nat}(h:n≤140737488355328):n≤9223372036854775807:=by omega
theorem zbG{α β:Type}(f:α→β) (o:List α) (x:β):(o.map f++[x]).take (o.length+1)=o.map f++[x]:=List.take_of_length_le (by simp)
theorem zbl{p:Prop}(h:p:=by(refine⟨4,?_,?_,rfl,by simp,rfl,fun _ h _=>absurd h (Nat.not_lt_zero _)⟩<;>(simp only[List.forall_mem_cons];repeat' (first|refine And.intro ?_ ?_|(intro p hp;exact absurd hp List.not_mem_nil)|rfl|exact sp (zaY _)|exact sp (zaS _)|exact(zaz _ _ _ (zam _)).trans (zcx _ _).symm|exact(zaz _ _ _ (zal _)).trans (zcw _ _).symm|exact sp (by assumption)|(intro o ho;cases ho;refine⟨by decide,?_⟩;first|(refine LeqS.row rfl ?_ ?_;(next=>(first|rfl|(simp only[List.map_append,List.map_cons,List.map_nil,List.append_nil,List.nil_append,List.append_assoc,List.cons_append,encI,encS,ints,strs];done)|(simp[encI,encS,ints,strs,encF,encR,encA];done)));(next=>(first|rfl|exact zay _|exact zax _|exact zaD _|exact zaC _|exact zaE _|exact za5 _|exact za6 _|exact zav _|(simp[zav,zay,zax,zaD,zaC,zaA,PV.pure,zam,zal,zaY,zaE,za5,za6,zaS,zav,encF,encS];done)));done)|refine⟨_,rfl,rfl,?_⟩)|(simp[St.born,St.known,retV,St.get,St.obj,lk,sealed,PV.ren,renL,rmap,AO.ren,ints,strs,encI,encS,zau,zat,zas,zar,zaP,zaO,zaN,zaM,zbg,zbf,zbe,zbd,zcH,zaa,zac,zad,zab,zae,zaf,zaF,za7,zaH,zbj,zaI,zbk,zaU,encF,encR,encA,zbG]<;>omega))));first|done|fail):p:=h
theorem zb5{p:Prop}(h:p:=by(first|rfl|(simp[St.born,St.known,retV,St.get,St.obj,lk,sealed,PV.ren,renL,rmap,AO.ren,ints,strs,encI,encS,zau,zat,zas,zar,zaP,zaO,zaN,zaM,zbg,zbf,zbe,zbd,zcH,zaa,zac,zad,zab,zae,zaf,zaF,za7,zaH,zbj,zaI,zbk,zaU,encF,encR,encA,zbG];done));first|done|fail):p:=h
theorem zbP{p:Prop}(h:p:=by(first|rfl|(simp[zam,zal,PV.pure,zaA,zay,zax,zaD,zaC,zaY,zaE,za5,za6,zaS,zav,encF,encS];done));first|done|fail):p:=h
theorem zeC (a b:List FormD) (ha:a.length≤4294967296) (hb:b.length≤4294967296):Pure Try.prog 14 [zaa a,zaa b] (.atom (.bool (decide (a=b)))) []:=by
  refine Pure.intro (ts:=[4]) Try.func14 (by kernel_rfl) rfl rfl rfl (Nat.le_of_ble_eq_true rfl) ?_ ?_
  · simp[zaS,PV.pure,zaA]
  refine sY [0,1] (fun P S K=>K ⟨[(0,S.get 0),(1,S.get 1)],S.hp,S.nx,S.gh⟩) ?_
  all_goals
  refine Tri.seq ?_
  refine sZ [0,1,10] (fun P S K=>XvLen P 29 (M S.hp S.nx) (S.get 0) (fun r1 _=>XvLen P 29 (M S.hp S.nx) (S.get 1) (fun r3 _=>XvBinOV P .neq 3 (.tmp 9) r1 r3 (fun r4 _=>K ⟨[(0,S.get 0),(1,S.get 1),(10,r4)],S.hp,S.nx,S.gh⟩)))) fun K hK=>?_
  repeat' (first|(refine hK _ ?_;clear hK K)|refine And.intro ?_ ?_|exact cl|(refine st ?_;try simp only[zaa,encF])|refine sx ?_ (by simp only[zaa,encF];exact rfl)|fail)
  all_goals
  refine Tri.cond rfl (fun h10=>?_) (fun h10=>?_)
  ·try (cases h10;done)
   all_goals (try simp only[CQ] at h10)
   all_goals
   refine sY [4] (fun P S K=>K ⟨[(4,(.atom (.bool false)))],S.hp,S.nx,S.gh⟩) ?_
   all_goals
   refine Tri.ret ?_
   show ResOk _ _ _ _
   rw[show decide (a=b)=false from decide_eq_false (fun e=>by have:=congrArg List.length e;omega)]
   exact ResOk.val zb5 zbP
  try (cases h10;done)
  all_goals (try simp only[CQ] at h10)
  all_goals
  refine Tri.skip ?_
  refine Tri.seq ?_
  refine sY [0,1,5] (fun P S K=>K ⟨[(0,S.get 0),(1,S.get 1),(5,(.atom (.int .i64 0)))],S.hp,S.nx,S.gh⟩) ?_
  all_goals
  refine Tri.block ?_
  refine Tri.loop (α:=(i:Nat) ×' (i≤a.length∧∀j,j<i→fF a j=fF b j)) (fun z=>(fun(i:Nat)=>(⟨[(0,zaa a),(1,zaa b),(5,encI i)],[],0,[]⟩:St)) z.1) (fun z=>(fun(i:Nat)=>a.length - i) z.1) ⟨0,⟨Nat.zero_le _,fun j hj=>absurd hj (Nat.not_lt_zero _)⟩⟩ [] ?_ ?_
  ·exact zbl
  rintro⟨i,⟨hi,hs⟩⟩
  refine Tri.seq ?_
  refine sZ [0,1,5,14] (fun P S K=>XvLen P 29 (M S.hp S.nx) (S.get 0) (fun r2 _=>XvBinOV P .lss 3 (.tmp 13) (S.get 5) r2 (fun r3 _=>K ⟨[(0,S.get 0),(1,S.get 1),(5,S.get 5),(14,r3)],S.hp,S.nx,S.gh⟩))) fun K hK=>?_
  repeat' (first|(refine hK _ ?_;clear hK K)|refine And.intro ?_ ?_|exact cl|(refine st ?_;try simp only[zaa,encF])|refine sx ?_ (by simp only[zaa,encF];exact rfl)|fail)
  all_goals
  refine Tri.cond rfl (fun h14=>?_) (fun h14=>?_)
  ·try (cases h14;done)
   all_goals (try simp only[CQ] at h14)
   all_goals
   refine Tri.skip ?_
   refine Tri.seq ?_
   refine Tri.block ?_
   have hil:i<a.length:=by omega
   have hil2:i<b.length:=by omega
   refine sD 9 [0,1,5,25] (fun P GD S K=>XvIndexAddr P 29 (S.get 0) (S.get 5) (fun r2 ef2=>XvLoad P 50 (M S.hp S.nx) r2 (fun r3 ef3=>XvIndexAddr P 29 (S.get 1) (S.get 5) (fun r6 ef6=>XvLoad P 50 (M S.hp S.nx) r6 (fun r7 ef7=>XvBinOV P .neq 50 (.tmp 24) r3 r7 (fun r8 ef8=>(trOk S.nx GD [⟨S.nx,0,[],[],[]⟩,⟨S.nx,0,[],[],[]⟩,⟨S.nx,0,ef2.rd,[],[]⟩,⟨S.nx,0,ef3.rd,[],[]⟩,⟨S.nx,0,[],[],[]⟩,⟨S.nx,0,[],[],[]⟩,⟨S.nx,0,ef6.rd,[],[]⟩,⟨S.nx,0,ef7.rd,[],[]⟩,⟨S.nx,0,ef8.rd,[],[]⟩]=true∧K ⟨[(0,S.get 0),(1,S.get 1),(5,S.get 5),(25,r8)],S.hp,S.nx,S.gh⟩))))))) fun K hK=>?_
   repeat' (first|(refine hK _ ?_;clear hK K)|(refine(?_:trOk _ _ _=true);(try simp only[zaq hil,zaq hil2]);kernel_rfl)|refine And.intro ?_ ?_|exact cl|(refine st ?_;try simp only[zaa,encF,zaq hil,zaq hil2])|refine sx ?_ (by simp only[zaa,encF,zaq hil,zaq hil2];exact rfl)|fail)
   all_goals
   refine Tri.cond rfl (fun h25=>?_) (fun h25=>?_)
   ·try (cases h25;done)
    all_goals (try simp only[CQ] at h25)
    all_goals
    refine sY [4] (fun P S K=>K ⟨[(4,(.atom (.bool false)))],S.hp,S.nx,S.gh⟩) ?_
    all_goals
    refine Tri.ret ?_
    show ResOk _ _ _ _
    rw[show decide (a=b)=false from decide_eq_false (fun e=>by subst e;simp at h25)]
    exact ResOk.val zb5 zbP
   try (cases h25;done)
   all_goals (try simp only[CQ] at h25)
   all_goals
   refine Tri.skip ?_
   refine rY [0,1,5] (fun P S K=>XvBinOV P .add 3 (.const (.int .i64 1)) (S.get 5) (.atom (.int .i64 1)) (fun r1 _=>K ⟨[(0,S.get 0),(1,S.get 1),(5,r1)],S.hp,S.nx,S.gh⟩)) ?_
   all_goals try simp (disch:=omega) only[zag,zaj]
   all_goals
   refine⟨⟨i+1,by omega,fun j hj=>?_⟩,[],by dsimp only;omega,?_⟩
   · rcases Nat.lt_succ_iff_lt_or_eq.1 hj with hj|rfl
     · exact hs j hj
     · cases h1:fF a j;cases h2:fF b j;rw[h1,h2] at h25;simp_all
   · exact zbl
  try (cases h14;done)
  all_goals (try simp only[CQ] at h14)
  all_goals
  refine Tri.exit ?_
  refine sY [4] (fun P S K=>K ⟨[(4,(.atom (.bool true)))],S.hp,S.nx,S.gh⟩) ?_
  all_goals
  refine Tri.ret ?_
  show ResOk _ _ _ _
  rw[show decide (a=b)=true from decide_eq_true (List.ext_getElem (by omega) fun j h1 h2=>by rw[←zet h1,←zet h2];exact hs j (by omega))]
  exact ResOk.val zb5 zbP
theorem znr (x:LexD) (w:ByteArray):(zd7 x w).length≤x.forms.length:=by
  have h:=zcN (zbQ x w) []
  have h2:(zbQ x w).length≤x.forms.length:=List.length_filter_le _ _
  unfold zd7;simp at h;omega
theorem zm0 (x:LexD) (w:ByteArray):(zgr x w).length≤x.rules.length:=by
  have h:=zcN (zcu x w) []
  have h2:(zcu x w).length≤x.rules.length:=List.length_filterMap_le _ _
  unfold zgr;simp at h;omega
theorem zge (x:LexD) (w:ByteArray) (hx:HeldX x):(allX x w).length≤1000000:=by
  have h1:=znr x w
  have h2:=zm0 x w
  have h3:=hx.nforms
  have h4:=hx.nrules
  unfold allX;split
  · omega
  · split
    · omega
    · simp
theorem allX_pos (x:LexD) (w:ByteArray):0<(allX x w).length:=by
  unfold allX;split
  · rename_i h;exact List.length_pos_iff.2 h
  · split
    · rename_i h;exact List.length_pos_iff.2 h
    · simp
theorem allF_no{l:List FormD}{p:FormD→Bool}{j:Nat}(hj:j<l.length) (h:p (fF l j)=false):l.all p=false:=by
  rw[Bool.eq_false_iff]
  intro ha
  have:=List.all_eq_true.1 ha _ (zes hj)
  rw[h] at this;cases this
theorem allF_yes{l:List FormD}{p:FormD→Bool}(h:∀j,j<l.length→p (fF l j)=true):l.all p=true:=List.all_eq_true.2 fun y hy=>by
  obtain⟨j,hj,rfl⟩:=List.getElem_of_mem hy
  rw[←zet hj];exact h j hj
def zeK (P:Program) (S:St):List ResultVar→Option (List PV)
  | []=>some []
  | .tmp t :: l=>(zeK P S l).map (S.get t :: ·)
  | .cell a t :: l=>match S.get a,tAgg P t,zaQ P t with
    | .ptr i sz k c,some ag,some m=>match S.obj i with
      | some o=>if o.sz=sz∧k<o.els.length∧(bif ag then decide (c+m≤(o.els.getD k .junk).cells.length) else decide (c<(o.els.getD k .junk).cells.length))=true then (zeK P S l).map ((o.els.getD k .junk).part ag c m :: ·) else none
      | none=>none
    | _,_,_=>none
def zi3 (S:St) (vs:List PV):St:=⟨zbK 0 vs,S.hp,S.nx,S.gh⟩
def ResR (P:Program) (S:St) (rv:List ResultVar) (r:PV) (os:List AO):Prop:=∃vs,zeK P S rv=some vs∧ResOk (zi3 S vs) (List.range vs.length) r os
def ResPR (P:Program) (S:St) (rv:List ResultVar) (r:PV) (hp:List AO) (hp':List (Option AO)) (os:List AO):Prop:=∃vs,zeK P S rv=some vs∧ResP (zi3 S vs) (List.range vs.length) r hp hp' os
def retQR (P:Program) (rv:List ResultVar) (r:PV) (os:List AO):Exit→St→Prop
  | .normal,S=>ResR P S rv r os
  | .ret,S=>ResR P S rv r os
  | _,_=>False
def retPR (P:Program) (rv:List ResultVar) (r:PV) (hp:List AO) (hp':List (Option AO)) (os:List AO):Exit→St→Prop
  | .normal,S=>ResPR P S rv r hp hp' os
  | .ret,S=>ResPR P S rv r hp hp' os
  | _,_=>False
theorem zjP (S:St) (vs:List PV):(List.range vs.length).map (zi3 S vs).get=vs:=by
  apply List.ext_getElem
  · simp
  · intro i h1 h2
    simp only[List.getElem_map,List.getElem_range]
    show(lk (zbK 0 vs) i).getD .junk=_
    rw[zdh];simp[h2]
theorem zdH (S:St) (vs:List PV):retV (zi3 S vs) (List.range vs.length)=match vs with | [v]=>v|vs=>.tup vs:=by
  have:=zjP S vs
  match vs,this with
  | [],_=>rfl
  | [v],_=>rfl
  | a :: b :: l,h=>
    have e:List.range (a :: b :: l).length=0 :: 1 :: (List.range l.length).map (·+2):=by
      have h1:=List.range_succ_eq_map (n:=(b :: l).length)
      simp only[List.length_cons] at h1 ⊢
      rw[h1,List.range_succ_eq_map];simp
    rw[e] at h ⊢
    show PV.tup _=_
    rw[h]
section
variable {P:Program} {n:Nat} {S:St} {Q:Exit→St→Prop}
theorem tup_rep{D:Nat→Prop}{μ:Nat→Option Nat}{F:Nat→Prop}{w:World}{xs:List Value}{vs:List PV}(hl:xs.length=vs.length) (h:∀i (h:i<vs.length),Rep D μ F w vs[i] (xs.getD i undef)):
    Rep D μ F w (match vs with | [v]=>v|vs=>.tup vs) (if h:xs.toArray.size=1 then xs.toArray[0] else .tuple xs.toArray):=by
  match vs,xs with
  | [v],[x]=>simpa using h 0 (by simp)
  | [],[]=>simp;exact .tup _ _ rfl (fun i hi=>by simp at hi)
  | a :: b :: r,x :: y :: z=>
    rw[dif_neg (by simp)]
    refine .tup _ _ (by simpa using hl) fun i hi=>?_
    have:=h i hi
    simpa[Array.getD_eq_getD_getElem?,List.getD_eq_getElem?_getD] using this
  | [],x :: z=>simp at hl
  | [v],[]=>simp at hl
  | [v],x :: y :: z=>simp at hl
  | a :: b :: r,[]=>simp at hl
  | a :: b :: r,[x]=>simp at hl
theorem ziY {w0 : Home}{F0 D:Nat→Prop}{μ:Nat→Option Nat}{F:Nat→Prop}{w:World}{fn:Func}{rv:List ResultVar}(hr:fn.results=rv.toArray) {tmps:Array Value}(hH:HeapSim w0 F0 D μ F S.obj w) (he:∀s,Rep D μ F w (S.get s) (tmps.getD s undef)) {vs:List PV}(hvs:zeK P S rv=some vs):
    ∃v,(results fn tmps).run P w=.ok v w∧Rep D μ F w (retV (zi3 S vs) (List.range vs.length)) v:=by
  let f:ResultVar→Sem Value:=fun
    | .tmp t=>pure (tmps.getD t undef)
    | .cell a t=>do loadVar t (←asAddr (tmps.getD a undef))
  have key : ∀ (l:List ResultVar) (vs:List PV),zeK P S l=some vs→∃xs:List Value,(l.mapM f).run P w=.ok xs w∧xs.length=vs.length∧∀i (h:i<vs.length),Rep D μ F w vs[i] (xs.getD i undef):=by
    intro l
    induction l with
    | nil=>intro vs h;cases h;exact⟨[],by simp,rfl,fun i h=>by simp at h⟩
    | cons x l ih=>
      intro vs h
      cases x with
      | tmp t=>
        simp only[zeK] at h
        cases hl:zeK P S l with
        | none=>rw[hl] at h;cases h
        | some vs'=>
          rw[hl] at h;cases h
          obtain⟨xs,h1,h2,h3⟩:=ih vs' hl
          refine⟨tmps.getD t undef :: xs,?_,by simp[h2],fun i hi=>?_⟩
          · rw[List.mapM_cons,Sem.run_bind,show(f (.tmp t)).run P w=.ok (tmps.getD t undef) w from rfl]
            simp only[Result.andThen_ok,Sem.run_bind,h1,Sem.run_pure]
          · cases i with
            | zero=>simpa using he t
            | succ i=>simpa using h3 i (by simpa using hi)
      | cell a t=>
        simp only[zeK] at h
        split at h<;>try (cases h;done)
        rename_i i sz k c ag m hp ha hm
        split at h<;>try (cases h;done)
        rename_i o ho
        split at h<;>try (cases h;done)
        rename_i hc
        cases hl:zeK P S l with
        | none=>rw[hl] at h;cases h
        | some vs'=>
          rw[hl] at h;cases h
          obtain⟨xs,h1,h2,h3⟩:=ih vs' hl
          have hrep:=he a
          rw[hp] at hrep
          generalize hu:tmps.getD a undef=u at hrep
          cases hrep with
          | ptr _ _ _ _ b hD hb hkd=>
            have hok:=hH.cellsOk ho hb hkd
            have hk:=hc.2.1
            have hin:=hc.2.2
            rw[ze2 _ _ hk] at hin ⊢
            have hin':bif ag then c+m≤o.els[k].cells.length else c<o.els[k].cells.length:=by
              cases ag
              · simp only[cond_false] at hin ⊢;exact of_decide_eq_true hin
              · simp only[cond_true] at hin ⊢;exact of_decide_eq_true hin
            obtain⟨v,g1,g2⟩:=zcW (D:=D) (μ:=μ) (F:=F) (w:=w) (ad:=⟨b,k * sz+c,none⟩) ha hm hin' rfl (fun j hj hcj=>by
              obtain⟨v,g1,_,g3⟩:=hok.cell hk hj
              refine⟨v,?_,g3⟩
              rw[←hc.1]
              rw[show k * o.sz+c+(j - c)=k * o.sz+j by omega];exact g1)
            refine⟨v :: xs,?_,by simp[h2],fun i hi=>?_⟩
            · rw[List.mapM_cons,Sem.run_bind,show(f (.cell a t)).run P w=.ok v w by
                show(do loadVar t (←asAddr (tmps.getD a undef)):Sem Value).run P w=_
                rw[hu];simpa[asAddr] using g1]
              simp only[Result.andThen_ok,Sem.run_bind,h1,Sem.run_pure]
            · cases i with
              | zero=>simpa using g2
              | succ i=>simpa using h3 i (by simpa using hi)
  obtain⟨xs,h1,h2,h3⟩:=key rv vs hvs
  refine⟨if h:xs.toArray.size=1 then xs.toArray[0] else .tuple xs.toArray,?_,?_⟩
  · have e:results fn tmps=(do let vs ←fn.results.mapM f;pure (if h:vs.size=1 then vs[0] else .tuple vs)):=rfl
    rw[e,hr,Array.mapM_eq_mapM_toList,Sem.run_bind,Sem.run_map,show(rv.toArray.toList.mapM f).run P w=.ok xs w by simpa using h1]
    rfl
  · rw[zdH];exact tup_rep h2 h3
theorem PureCall.introR{f:FuncId}{fn:Func}{c:Code}{args:List PV}{r:PV}{os:List AO}{rv:List ResultVar}(hf:P.funcs[f]? = some fn) (hb:fn.body=some c) (hr:fn.results=rv.toArray) (hn:fn.ntmps=n) (hla:args.length≤n) (hpure:args.all PV.pure=true)
    (h:Tri P n c ⟨zbK 0 args,[],0,[]⟩ (retQR P rv r os)):PureCall P f args r os:=by
  intro D μ F w vs hvs hargs hFs
  refine calls_of_wp hf hb ?_
  have hS:Sim ⟨w,fun _=>False⟩ F (fun _=>False) μ F [] ⟨zbK 0 args,[],0,[]⟩ n { tmps:=vs++Array.replicate (fn.ntmps - vs.size) undef,defers:=[] } w:=by
    refine⟨rfl,by simp[hvs,hn];omega,fun s=>?_,⟨fun i o hi=>(by cases hi),fun i j o o' b hi=>(by cases hi),fun i o b hi=>(by cases hi),Ext.refl _ _,fun b hb=>.inl hb,hFs⟩,fun i hi=>hi.elim,rfl,fun i hi=>by simp at hi⟩
    show Rep _ μ F w ((lk (zbK 0 args) s).getD .junk) _
    rw[zdh]
    simp only[Nat.zero_le,if_true,Nat.sub_zero]
    by_cases hs:s<args.length
    · rw[List.getElem?_eq_getElem hs]
      simp only[Option.getD_some]
      have e:(vs++Array.replicate (fn.ntmps - vs.size) undef).getD s undef=vs.getD s undef:=by
        simp only[Array.getD_eq_getD_getElem?]
        rw[Array.getElem?_append_left (by omega)]
      rw[e]
      exact(hargs s hs).pureAny (zbo hpure s hs)
    · rw[List.getElem?_eq_none (by omega)]
      exact .junk _
  refine wp_mono (h _ F _ μ F [] _ w hS) fun e a' w' ⟨S',D',μ',F',h1,h2⟩=>?_
  have fin:ResR P S' rv r os→a'.defers=[]∧∃v,(results fn a'.tmps).run P w'=.ok v w'∧∃v',Ending.returned v=.returned v'∧Bel w w'∧ResIs F w w' r os v':=fun⟨vs,hvs,hres⟩=>by
    obtain⟨v,hv,hrep⟩:=ziY (P:=P) (S:=S') hr h2.heap h2.env hvs
    exact⟨h2.defers,v,hv,v,rfl,h2.heap.ext.below (fun _ h=>h),hres.is h2.heap h2.ids hrep⟩
  cases e with
  | normal=>exact fin h1
  | ret=>exact fin h1
  | exit id=>exact h1.elim
  | goto l=>exact h1.elim
  | panic ch=>exact h1.elim
  | outgrown=>exact h1.elim
theorem ProcCall.introR{f:FuncId}{fn:Func}{c:Code}{args:List PV}{hp:List AO}{r:PV}{hp':List (Option AO)}{os:List AO}{rv:List ResultVar}(hf:P.funcs[f]? = some fn) (hb:fn.body=some c) (hr:fn.results=rv.toArray) (hn:fn.ntmps=n) (hla:args.length≤n)
    (hlen:hp'.length=hp.length) (h:Tri P n c ⟨zbK 0 args,zbb 0 (hp.map some),hp.length,zbE 0 hp⟩ (retPR P rv r hp hp' os)):ProcCall P f args hp r hp' os:=by
  refine⟨hlen,fun μ F w vs hH hvs hargs=>calls_of_wp hf hb ?_⟩
  have hobj:(St.mk (zbK 0 args) (zbb 0 (hp.map some)) hp.length (zbE 0 hp)).obj=fun i=>hp[i]? := by
    funext i
    show(lk (zbb 0 (hp.map some)) i).join=_
    rw[zce]
    simp only[Nat.zero_le,if_true,Nat.sub_zero,List.getElem?_map]
    cases hp[i]? <;> rfl
  have hS : Sim ⟨w,fun b=>∃i,i<hp.length∧μ i=some b⟩ F (· < hp.length) μ F ((List.range hp.length).map fun i=>zc2 (μ i)) ⟨zbK 0 args,zbb 0 (hp.map some),hp.length,zbE 0 hp⟩ n { tmps:=vs++Array.replicate (fn.ntmps - vs.size) undef,defers:=[] } w:=by
    refine⟨rfl,by simp[hvs,hn];omega,fun s=>?_,by rw[hobj];exact hH,fun i hi=>hi,by simp[zbD],fun i hi=>?_⟩
    · show Rep _ μ F w ((lk (zbK 0 args) s).getD .junk) _
      rw[zdh]
      simp only[Nat.zero_le,if_true,Nat.sub_zero]
      by_cases hs:s<args.length
      · rw[List.getElem?_eq_getElem hs]
        simp only[Option.getD_some]
        have e:(vs++Array.replicate (fn.ntmps - vs.size) undef).getD s undef=vs.getD s undef:=by
          simp only[Array.getD_eq_getD_getElem?]
          rw[Array.getElem?_append_left (by omega)]
        rw[e]
        exact hargs s hs
      · rw[List.getElem?_eq_none (by omega)]
        exact .junk _
    · simp only at hi
      have hi':i<hp.length:=by rwa [zbD] at hi
      have e1:(zbE 0 hp)[i]'hi=.mark i:=by
        have:=zdg hp 0 i
        rw[List.getElem?_eq_getElem hi,List.getElem?_eq_getElem hi'] at this
        simpa using this
      have e2:((List.range hp.length).map fun i=>zc2 (μ i)).getD i undef=zc2 (μ i):=by simp[List.getD_eq_getElem?_getD,hi']
      rw[e1,e2]
      exact .mark i _ hi' rfl
  refine wp_mono (h _ F _ μ F _ _ w hS) fun e a' w' ⟨S',D',μ',F',h1,h2⟩=>?_
  have fin:ResPR P S' rv r hp hp' os→a'.defers=[]∧∃v,(results fn a'.tmps).run P w'=.ok v w'∧∃v',Ending.returned v=.returned v'∧∃(μ2:Nat→Option Nat) (F2:Nat→Prop),Rep (· < hp.length+os.length) μ2 F2 w' r v'∧
      HeapSim ⟨w,fun b=>∃i,i<hp.length∧μ i=some b⟩ F (· < hp.length+os.length) μ2 F2 (fun i=>((hp'++os.map some)[i]?).join) w'∧(∀i,i<hp.length→μ2 i=μ i):=fun⟨vs,hvs,L,k,hr1,hl0⟩=>by
    have hl:LeqS k L S' ⟨[],zbb 0 (hp'++os.map some),hp'.length+os.length,zbE 0 hp⟩:=⟨fun p hp=>(by cases hp),hl0.hp,hl0.nx,hl0.nodup,hl0.ghl,hl0.gh⟩
    have hr1:sealed S'.obj (fun i=>L.contains i) k (retV (zi3 S' vs) (List.range vs.length))=r.ren (rmap L S'.nx):=hr1
    obtain⟨v,hv,hrep⟩:=ziY (P:=P) (S:=S') hr h2.heap h2.env hvs
    have h3:=h2.leq ⟨k,hl⟩
    have hD:∀i,D' (rmap L S'.nx i)→i<hp.length+os.length∧μ' (rmap L S'.nx i)=μ' (rmap L S'.nx i):=fun i hi=>⟨by
      have:=h3.ids i hi
      have e:(St.mk [] (zbb 0 (hp'++os.map some)) (hp'.length+os.length) (zbE 0 hp)).nx=hp'.length+os.length:=rfl
      rw[e] at this;omega,rfl⟩
    refine⟨h2.defers,v,hv,v,rfl,fun i=>μ' (rmap L S'.nx i),frz S' L μ' F',?_,?_,fun i hi=>?_⟩
    · have:=Rep.sealed h2.heap (fun i=>L.contains i) (frz S' L μ' F') (fun b h=>.inl h) (fun i o b h1 h2 h3=>.inr ⟨i,o,h1,h2,h3⟩) k _ _ hrep
      rw[hr1] at this
      exact this.ren_inv hD _ rfl
    · have:=h3.heap.widen (D':=(· < hp.length+os.length)) (fun i hi=>(hD i hi).1)
      have e:(St.mk [] (zbb 0 (hp'++os.map some)) (hp'.length+os.length) (zbE 0 hp)).obj=fun i=>((hp'++os.map some)[i]?).join:=by
        funext i
        show(lk (zbb 0 (hp'++os.map some)) i).join=_
        rw[zce];simp
      rw[e] at this
      exact this
    · have hi2:i<(zbE 0 hp).length:=by rw[zbD];exact hi
      have:=h3.gh i hi2
      have e1:(zbE 0 hp)[i]'hi2=.mark i:=by
        have:=zdg hp 0 i
        rw[List.getElem?_eq_getElem hi2,List.getElem?_eq_getElem hi] at this
        simpa using this
      have e2:((List.range hp.length).map fun i=>zc2 (μ i)).getD i undef=zc2 (μ i):=by simp[List.getD_eq_getElem?_getD,hi]
      simp only[e1,e2] at this
      generalize hpv:zc2 (μ i)=pv at this
      cases this with
      | mark _ _ g1 g2=>
        show μ' (rmap L S'.nx i)=μ i
        exact(zhs (hpv.trans g2)).symm
  cases e with
  | normal=>exact fin h1
  | ret=>exact fin h1
  | exit id=>exact h1.elim
  | goto l=>exact h1.elim
  | panic ch=>exact h1.elim
  | outgrown=>exact h1.elim
theorem Pure.introR {f : FuncId} {fn : Func} {c : Code} {args : List PV} {r : PV} {os : List AO} {rv : List ResultVar} (hf : P.funcs[f]? = some fn) (hname : (fn.name == "runtime.NumGoroutine") = false) (hb : fn.body = some c) (hr : fn.results = rv.toArray) (hn : fn.ntmps = n) (hla : args.length ≤ n) (hpure : args.all PV.pure = true)
    (h:Tri P n c ⟨zbK 0 args,[],0,[]⟩ (retQR P rv r os)):Pure P f args r os:=⟨Go.Proofs.enters_of hf hname hb,PureCall.introR hf hb hr hn hla hpure h⟩
theorem Proc.introR {f : FuncId} {fn : Func} {c : Code} {args : List PV} {hp : List AO} {r : PV} {hp' : List (Option AO)} {os : List AO} {rv : List ResultVar} (hf : P.funcs[f]? = some fn) (hname : (fn.name == "runtime.NumGoroutine") = false) (hb : fn.body = some c) (hr : fn.results = rv.toArray) (hn : fn.ntmps = n) (hla : args.length ≤ n)
    (hlen:hp'.length=hp.length) (h:Tri P n c ⟨zbK 0 args,zbb 0 (hp.map some),hp.length,zbE 0 hp⟩ (retPR P rv r hp hp' os)):Proc P f args hp r hp' os:=⟨Go.Proofs.enters_of hf hname hb,ProcCall.introR hf hb hr hn hla hlen h⟩
end
theorem ResR.cell1{P:Program}{S:St}{rv:ResultVar}{r:PV}(x:PV) (h:zeK P S [rv]=some [x]) (hs:sealed S.obj (fun _=>false) 5 x=r) (hp:r.pure=true):ResR P S [rv] r []:=
  ⟨[x],h,ResOk.frz 5 (by rw[zdH];exact hs) hp⟩
theorem ResR.cells{P:Program}{S:St}{rv:List ResultVar}{r:PV}(x y:PV) (l:List PV) (h:zeK P S rv=some (x :: y :: l)) (hs:sealed S.obj (fun _=>false) 6 (.tup (x :: y :: l))=r) (hp:r.pure=true):ResR P S rv r []:=
  ⟨x :: y :: l,h,ResOk.frz 6 (by rw[zdH];exact hs) hp⟩
def choT (x:LexD) (ws:List ByteArray) (k:Nat):FormD×Bool:=match ze1 x ws k with
  | some f=>(f,true)
  | none=>(noF,false)
theorem zfM{l:List PrefD}{i:Nat}(h:i<l.length):l.drop i=fA l i :: l.drop (i+1):=by rw[List.drop_eq_getElem_cons h,zma h]
def zm6 (x:LexD) (ws:List ByteArray) (n:Nat):List Int:=((List.range n).filter fun k => !(choT x ws k).2).map fun(k:Nat)=>(k:Int)
theorem zeE (x:LexD) (ws:List ByteArray) (n:Nat):zm6 x ws (n+1)=if (choT x ws n).2=true then zm6 x ws n else zm6 x ws n++[(n:Int)]:=by
  unfold zm6
  rw[List.range_succ,List.filter_append,List.map_append]
  cases h:(choT x ws n).2<;>simp[h]
def zpV (x:LexD) (ws:List ByteArray):List Int:=if errX x ws≠0 then [] else zm6 x ws ws.length
def zka (x:LexD) (ws:List ByteArray) (n:Nat):List FormD:=(List.range n).map fun k=>(choT x ws k).1
theorem zmw (x:LexD) (ws:List ByteArray) (n:Nat):zka x ws (n+1)=zka x ws n++[(choT x ws n).1]:=by
  unfold zka;rw[List.range_succ,List.map_append];rfl
def sureX (x:LexD) (ws:List ByteArray):Bool:=(List.range ws.length).all fun k=>(choT x ws k).2
def zf4 (x:LexD) (ws:List ByteArray):List FormD×Int:=if errX x ws≠0 then ([],errX x ws) else if sureX x ws then (zka x ws ws.length,0) else ([],14)
theorem zn4{x:LexD}{ws:List ByteArray}(h:errX x ws≠0):zf4 x ws=([],errX x ws):=if_pos h
theorem zmv{x:LexD}{ws:List ByteArray}(h:¬errX x ws≠0) {i:Nat}(hi:i<ws.length) (h2:(choT x ws i).2=false):zf4 x ws=([],14):=by
  unfold zf4;rw[if_neg h,if_neg]
  intro ha
  have:=List.all_eq_true.1 ha i (List.mem_range.2 hi)
  rw[h2] at this;cases this
theorem zmu{x:LexD}{ws:List ByteArray}(h:¬errX x ws≠0) (h2:∀j,j<ws.length→(choT x ws j).2=true):zf4 x ws=(zka x ws ws.length,0):=by
  unfold zf4;rw[if_neg h,if_pos]
  exact List.all_eq_true.2 fun j hj=>h2 j (List.mem_range.1 hj)
theorem lstM8{p:Prop}(h:p:=by(first|rfl|(simp[St.born,St.known,retV,St.get,St.obj,lk,sealed,PV.ren,renL,rmap,AO.ren,ints,strs,encI,encS,zau,zat,zas,zar,zaP,zaO,zaN,zaM,zbg,zbf,zbe,zbd,zcH,zaa,zac,zad,zab,zae,zaf,zaF,za7,zaH,zbj,zaI,zbk,zaU,encF,encR,encA,zbG,zaU,List.take_length];done));first|done|fail):p:=h
def zbF (x:LexD) (ws:List ByteArray) (k:Int):FormD×Int:=
  if errX x ws≠0 then (noF,errX x ws) else if k<0∨(ws.length:Int)≤k then (noF,5) else if (choT x ws k.toNat).2 then ((choT x ws k.toNat).1,0) else (noF,14)
theorem zlb{x:LexD}{ws:List ByteArray}{k:Int}(h:errX x ws≠0):zbF x ws k=(noF,errX x ws):=if_pos h
theorem zla{x:LexD}{ws:List ByteArray}{k:Int}(h:¬errX x ws≠0) (h2:k<0∨(ws.length:Int)≤k):zbF x ws k=(noF,5):=by
  unfold zbF;rw[if_neg h,if_pos h2]
theorem zjK{x:LexD}{ws:List ByteArray}{k:Int}(h:¬errX x ws≠0) (h2:¬ (k<0∨(ws.length:Int)≤k)) (h3:(choT x ws k.toNat).2=false):zbF x ws k=(noF,14):=by
  unfold zbF;rw[if_neg h,if_neg h2,h3];rfl
theorem zjJ{x:LexD}{ws:List ByteArray}{k:Int}(h:¬errX x ws≠0) (h2:¬ (k<0∨(ws.length:Int)≤k)) (h3:(choT x ws k.toNat).2=true):zbF x ws k=((choT x ws k.toNat).1,0):=by
  unfold zbF;rw[if_neg h,if_neg h2,h3];rfl
def zfr:List ByteArray:=[⟨#[110,111,117,110]⟩,⟨#[118,101,114,98]⟩,⟨#[110,97,109,101]⟩]
def zj2:List ByteArray:=[⟨#[97,110,110,97]⟩,⟨#[114,111,109,101]⟩,⟨#[107,105,110,103]⟩,⟨#[116,104,101]⟩,⟨#[111,102]⟩,⟨#[111,100,101]⟩,⟨#[108,121,114,101]⟩,⟨#[120]⟩,⟨#[111,100,101,115]⟩,⟨#[107,105,110,103,115]⟩,⟨#[97,110,110,97,115]⟩,⟨#[108,121,114,101,115]⟩,⟨#[115]⟩,⟨#[104,105,115]⟩]
def zaG (n:Int):ByteArray:=ls zfr (zbJ n 3).toNat
def zdV (n:Int):ByteArray:=ls zj2 (zbJ n 14).toNat
theorem zcI (n:Int) (hn:I64 n):Pure Try.prog 20 [encI n] (encS (zaG n)) []:=by
  have h0:=zcC (n:=n) (most:=3) (by decide)
  have h3:=zcD (n:=n) (most:=3) (by decide)
  have hg:([.atom (.string ⟨#[110,111,117,110]⟩),.atom (.string ⟨#[118,101,114,98]⟩),.atom (.string ⟨#[110,97,109,101]⟩)]:List PV).getD (zbJ n 3).toNat .junk=.atom (.string (zaG n)):=zaL (l:=zfr) (k:=(zbJ n 3).toNat) (by show _<3;omega)
  refine Pure.intro (ts:=[2]) Try.func20 (by kernel_rfl) rfl rfl rfl (Nat.le_of_ble_eq_true rfl) ?_ ?_
  · simp[zam,zal,encI,encS,PV.pure,zaA]
  refine sY [0] (fun P S K=>K ⟨[(0,S.get 0)],S.hp,S.nx,S.gh⟩) ?_
  all_goals
  refine sZ [2] (fun P S K=>XvBuildS P 35 3 S.nx [(0,(.atom (.string { data := #[110,111,117,110] }))),(1,(.atom (.string { data := #[118,101,114,98] }))),(2,(.atom (.string { data := #[110,97,109,101] })))] (fun r0 ef0=>XvFnIV P (M (Eff.hp ef0 S.nx S.hp) (S.nx+ef0.add.length)) (.fn 10 []) [(S.get 0),(.atom (.int .i64 3))] (fun r2 ef2=>XvIndexAddr P 35 r0 r2 (fun r3 _=>XvLoad P 9 (M (Eff.hp ef2 (S.nx+ef0.add.length) (Eff.hp ef0 S.nx S.hp)) ((S.nx+ef0.add.length)+ef2.add.length)) r3 (fun r4 _=>K ⟨[(2,r4)],(Eff.hp ef2 (S.nx+ef0.add.length) (Eff.hp ef0 S.nx S.hp)),((S.nx+ef0.add.length)+ef2.add.length),S.gh⟩))))) fun K hK=>?_
  repeat' (first|(refine hK _ ?_;clear hK K)|refine And.intro ?_ ?_|exact cl|refine .inl ⟨_,_,zbz n 3 hn (by decide),?_⟩|(refine st ?_;try simp only[hg])|refine sx ?_ (by simp only[hg];exact rfl)|fail)
  all_goals
  refine Tri.ret ?_
  show ResOk _ _ _ _
  exact ResOk.val zb5 zbP
theorem zdJ (n:Int) (hn:I64 n):Pure Try.prog 13 [encI n] (encS (zdV n)) []:=by
  have h0:=zcC (n:=n) (most:=14) (by decide)
  have h3:=zcD (n:=n) (most:=14) (by decide)
  have hg:([.atom (.string ⟨#[97,110,110,97]⟩),.atom (.string ⟨#[114,111,109,101]⟩),.atom (.string ⟨#[107,105,110,103]⟩),.atom (.string ⟨#[116,104,101]⟩),.atom (.string ⟨#[111,102]⟩),.atom (.string ⟨#[111,100,101]⟩),.atom (.string ⟨#[108,121,114,101]⟩),.atom (.string ⟨#[120]⟩),.atom (.string ⟨#[111,100,101,115]⟩),.atom (.string ⟨#[107,105,110,103,115]⟩),.atom (.string ⟨#[97,110,110,97,115]⟩),.atom (.string ⟨#[108,121,114,101,115]⟩),.atom (.string ⟨#[115]⟩),.atom (.string ⟨#[104,105,115]⟩)]:List PV).getD (zbJ n 14).toNat .junk=.atom (.string (zdV n)):=zaL (l:=zj2) (k:=(zbJ n 14).toNat) (by show _<14;omega)
  refine Pure.intro (ts:=[2]) Try.func13 (by kernel_rfl) rfl rfl rfl (Nat.le_of_ble_eq_true rfl) ?_ ?_
  · simp[zam,zal,encI,encS,PV.pure,zaA]
  refine sY [0] (fun P S K=>K ⟨[(0,S.get 0)],S.hp,S.nx,S.gh⟩) ?_
  all_goals
  refine sY [0,3] (fun P S K=>XvBuildS P 35 14 S.nx [(0,(.atom (.string { data := #[97,110,110,97] }))),(1,(.atom (.string { data := #[114,111,109,101] }))),(2,(.atom (.string { data := #[107,105,110,103] }))),(3,(.atom (.string { data := #[116,104,101] }))),(4,(.atom (.string { data := #[111,102] }))),(5,(.atom (.string { data := #[111,100,101] }))),(6,(.atom (.string { data := #[108,121,114,101] }))),(7,(.atom (.string { data := #[120] }))),(8,(.atom (.string { data := #[111,100,101,115] }))),(9,(.atom (.string { data := #[107,105,110,103,115] }))),(10,(.atom (.string { data := #[97,110,110,97,115] }))),(11,(.atom (.string { data := #[108,121,114,101,115] }))),(12,(.atom (.string { data := #[115] }))),(13,(.atom (.string { data := #[104,105,115] })))] (fun r0 ef0=>K ⟨[(0,S.get 0),(3,r0)],(Eff.hp ef0 S.nx S.hp),(S.nx+ef0.add.length),S.gh⟩)) ?_
  all_goals
  refine sZ [2] (fun P S K=>XvLen P 35 (M S.hp S.nx) (S.get 3) (fun r3 _=>XvFnIV P (M S.hp S.nx) (.fn 10 []) [(S.get 0),r3] (fun r4 ef4=>XvIndexAddr P 35 (S.get 3) r4 (fun r5 _=>XvLoad P 9 (M (Eff.hp ef4 S.nx S.hp) (S.nx+ef4.add.length)) r5 (fun r6 _=>K ⟨[(2,r6)],(Eff.hp ef4 S.nx S.hp),(S.nx+ef4.add.length),S.gh⟩))))) fun K hK=>?_
  repeat' (first|(refine hK _ ?_;clear hK K)|refine And.intro ?_ ?_|exact cl|refine .inl ⟨_,_,zbz n 14 hn (by decide),?_⟩|(refine st ?_;try simp only[hg])|refine sx ?_ (by simp only[hg];exact rfl)|fail)
  all_goals
  refine Tri.ret ?_
  show ResOk _ _ _ _
  exact ResOk.val zb5 zbP
def zgg (l:List Int):List ByteArray:=(l.take 7).map zdV
theorem take_liM{l:List Int}{k:Nat}(h:k<l.length):l.take (k+1)=l.take k++[li l k]:=by rw[List.take_succ_eq_append_getElem h];simp[li,List.getD_eq_getElem?_getD,h]
theorem zkM (l:List Int) (hl:Fits l):Pure Try.prog 8 [ints l] (strs (zgg l)) []:=by
  have hll:=hl.2
  refine Pure.intro (ts:=[2]) Try.func8 (by kernel_rfl) rfl rfl rfl (Nat.le_of_ble_eq_true rfl) ?_ ?_
  · simp[zam,zal,encI,encS,PV.pure,zaA]
  refine sY [0] (fun P S K=>K ⟨[(0,S.get 0)],S.hp,S.nx,S.gh⟩) ?_
  all_goals
  refine sY [0,3] (fun P S K=>K ⟨[(0,S.get 0),(3,(.atom (.slice none 0 0)))],S.hp,S.nx,S.gh⟩) ?_
  refine Tri.born 3 1 rfl ?_
  all_goals
  refine Tri.seq ?_
  refine sY [0,3,4] (fun P S K=>K ⟨[(0,S.get 0),(3,S.get 3),(4,(.atom (.int .i64 0)))],S.hp,S.nx,S.gh⟩) ?_
  all_goals
  refine Tri.block ?_
  refine Tri.loop (α:=(o:List ByteArray) ×' (i:Nat) ×' (i≤l.length∧i≤7∧o.length=i∧o=(l.take i).map zdV)) (fun z=>(fun(o:List ByteArray) (i:Nat)=>(⟨[(0,ints l),(3,.ob 0 1 0 o.length),(4,encI i)],[(0,some ⟨1,o.map encS⟩)],1,[]⟩:St)) z.1 z.2.1) (fun z=>(fun(o:List ByteArray) (i:Nat)=>7 - i) z.1 z.2.1) ⟨[],0,⟨Nat.zero_le _,by omega,rfl,rfl⟩⟩ [0] ?_ ?_
  ·exact zbl
  rintro⟨o,i,⟨hi,hi7,hol,ho⟩⟩
  refine Tri.seq ?_
  refine sZ [0,3,4,12] (fun P S K=>XvLen P 22 (M S.hp S.nx) (S.get 0) (fun r2 _=>XvBinOV P .lss 3 (.tmp 7) (S.get 4) r2 (fun r3 _=>Xgq r3 true (fun k=>k (S.get 4)) (fun g5 r5=>Xgq g5 true (fun k=>XvBinOV P .lss 3 (.const (.int .i64 7)) r5 (.atom (.int .i64 7)) (fun r6 _=>k r6)) (fun g6 r6=>XvPick g6 r6 (.atom (.bool false)) (fun r7 _=>K ⟨[(0,S.get 0),(3,S.get 3),(4,S.get 4),(12,r7)],S.hp,S.nx,S.gh⟩)))))) fun K hK=>?_
  repeat' (first|(refine hK _ ?_;clear hK K)|((first|refine zak (fun hg=>?_) (fun hg=>?_)|refine fun(hg:(_:Prop))=>?_)<;>((try simp only[BQ] at hg);try (exfalso;omega)))|refine And.intro ?_ ?_|exact cl|refine zah ?_ _|refine zai ?_ _|refine st ?_|fail)
  all_goals
  refine Tri.cond rfl (fun h12=>?_) (fun h12=>?_)
  ·try (cases h12;done)
   all_goals (try simp only[CQ] at h12)
   all_goals
   refine Tri.skip ?_
   refine Tri.seq ?_
   refine Tri.block ?_
   have hil:i<l.length:=by omega
   refine rZ [0,3,4] (fun P S K=>XvIndexAddr P 22 (S.get 0) (S.get 4) (fun r3 _=>XvLoad P 3 (M S.hp S.nx) r3 (fun r4 _=>XvFnIV P (M S.hp S.nx) (.fn 13 []) [r4] (fun r5 ef5=>XvBuildS P 35 1 (S.nx+ef5.add.length) [(0,r5)] (fun r6 ef6=>(35=35∧XvAppend P 35 (M (Eff.hp ef6 (S.nx+ef5.add.length) (Eff.hp ef5 S.nx S.hp)) ((S.nx+ef5.add.length)+ef6.add.length)) (S.get 3) r6 (fun r7 ef7=>K ⟨[(0,S.get 0),(3,r7),(4,S.get 4)],(Eff.hp ef7 ((S.nx+ef5.add.length)+ef6.add.length) (Eff.hp ef6 (S.nx+ef5.add.length) (Eff.hp ef5 S.nx S.hp))),(((S.nx+ef5.add.length)+ef6.add.length)+ef7.add.length),S.gh⟩))))))) fun K hK=>?_
   repeat' (first|(refine hK _ ?_;clear hK K)|((first|refine zak (fun hg=>?_) (fun hg=>?_)|refine fun(hg:(_:Prop))=>?_)<;>((try simp only[BQ] at hg);try (exfalso;omega)))|refine And.intro ?_ ?_|exact cl|refine zah ?_ _|refine zai ?_ _|refine .inl ⟨_,_,zdJ (li l i) (hl.1 _ (zgJ hil)),?_⟩|(refine st ?_;try simp only[zaR hil])|refine sx ?_ (by simp only[zaR hil];exact rfl)|fail)
   all_goals
   refine rY [0,3,4] (fun P S K=>XvBinOV P .add 3 (.const (.int .i64 1)) (S.get 4) (.atom (.int .i64 1)) (fun r1 _=>K ⟨[(0,S.get 0),(3,S.get 3),(4,r1)],S.hp,S.nx,S.gh⟩)) ?_
   all_goals try simp (disch:=omega) only[zag,zaj]
   all_goals
   refine⟨⟨o++[zdV (li l i)],i+1,by omega,by omega,by simp[hol],by rw[take_liM hil,List.map_append,←ho];rfl⟩,[2],by dsimp only;omega,?_⟩
   exact zbl
  try (cases h12;done)
  all_goals (try simp only[CQ] at h12)
  all_goals
  refine Tri.exit ?_
  refine sY [2] (fun P S K=>K ⟨[(2,(S.get 3))],S.hp,S.nx,S.gh⟩) ?_
  all_goals
  refine Tri.ret ?_
  show ResOk _ _ _ _
  rw[show zgg l=o by unfold zgg;rw[ho];(by_cases h7:i=7;rw[h7];rw[List.take_of_length_le (show l.length≤7 by omega),List.take_of_length_le (by omega)])]
  exact ResOk.frz 5 lstM8 zbP
theorem zcf (s:ByteArray) (least most:Int) (hs:s.size≤9223372036854775807):Pure Try.prog 45 [encS s,encI least,encI most] (.atom (.bool (letS s least most))) []:=by
  refine Pure.intro (ts:=[6]) Try.func45 (by kernel_rfl) rfl rfl rfl (Nat.le_of_ble_eq_true rfl) ?_ ?_
  · simp[zam,zal,encI,encS,PV.pure,zaA]
  refine sY [0,1,2] (fun P S K=>K ⟨[(0,S.get 0),(1,S.get 1),(2,S.get 2)],S.hp,S.nx,S.gh⟩) ?_
  all_goals
  refine Tri.seq ?_
  refine sZ [0,17] (fun P S K=>XvLen P 9 (M S.hp S.nx) (S.get 0) (fun r1 _=>XvBinOV P .lss 3 (.tmp 10) r1 (S.get 1) (fun r3 _=>Xgq r3 false (fun k=>k (S.get 0)) (fun g5 r5=>Xgq g5 false (fun k=>XvLen P 9 (M S.hp S.nx) r5 (fun r6 _=>k r6)) (fun g6 r6=>Xgq g6 false (fun k=>k (S.get 2)) (fun g7 r7=>Xgq g7 false (fun k=>XvBinOV P .gtr 3 (.tmp 15) r6 r7 (fun r8 _=>k r8)) (fun g8 r8=>XvPick g8 (.atom (.bool true)) r8 (fun r9 _=>K ⟨[(0,S.get 0),(17,r9)],S.hp,S.nx,S.gh⟩)))))))) fun K hK=>?_
  repeat' (first|(refine hK _ ?_;clear hK K)|((first|refine zak (fun hg=>?_) (fun hg=>?_)|refine fun(hg:(_:Prop))=>?_)<;>((try simp only[BQ] at hg);try (exfalso;omega)))|refine And.intro ?_ ?_|exact cl|refine zah ?_ _|refine zai ?_ _|refine st ?_|fail)
  all_goals
  refine Tri.cond rfl (fun h17=>?_) (fun h17=>?_)
  ·try (cases h17;done)
   all_goals (try simp only[CQ] at h17)
   all_goals
   refine sY [6] (fun P S K=>K ⟨[(6,(.atom (.bool false)))],S.hp,S.nx,S.gh⟩) ?_
   all_goals
   refine Tri.ret ?_
   show ResOk _ _ _ _
   rw[show letS s least most=false from Bool.eq_false_iff.2 (fun h=>by have:=(letS_iff.1 h).2;omega)]
   exact ResOk.val zb5 zbP
  try (cases h17;done)
  all_goals (try simp only[CQ] at h17)
  all_goals
  refine Tri.skip ?_
  refine Tri.seq ?_
  refine sY [0,19,20] (fun P S K=>XvLen P 9 (M S.hp S.nx) (S.get 0) (fun r1 _=>K ⟨[(0,S.get 0),(19,r1),(20,(.atom (.int .i64 0)))],S.hp,S.nx,S.gh⟩)) ?_
  all_goals
  refine Tri.block ?_
  refine Tri.loop (α:=(i:Nat) ×' (i≤s.size∧∀j,j<i→97≤(zb7 s j).toNat∧(zb7 s j).toNat≤122)) (fun z=>(fun(i:Nat)=>(⟨[(0,encS s),(19,encI s.size),(20,encI i)],[],0,[]⟩:St)) z.1) (fun z=>(fun(i:Nat)=>s.size - i) z.1) ⟨0,⟨by omega,by omega⟩⟩ [] ?_ ?_
  ·exact zbl
  rintro⟨i,⟨hi,hlo⟩⟩
  refine sY [0,19,20,21] (fun P S K=>XvBinOV P .lss 3 (.tmp 19) (S.get 20) (S.get 19) (fun r0 _=>K ⟨[(0,S.get 0),(19,S.get 19),(20,S.get 20),(21,r0)],S.hp,S.nx,S.gh⟩)) ?_
  all_goals
  refine Tri.seq ?_
  refine Tri.cond rfl (fun h21=>?_) (fun h21=>?_)
  ·try (cases h21;done)
   all_goals (try simp only[CQ] at h21)
   all_goals
   refine Tri.skip ?_
   refine Tri.seq ?_
   refine Tri.block ?_
   refine sY [0,7,19,20] (fun P S K=>K ⟨[(0,S.get 0),(7,(S.get 20)),(19,S.get 19),(20,S.get 20)],S.hp,S.nx,S.gh⟩) ?_
   all_goals
   refine sZ [0,19,20,32] (fun P S K=>XvIndex P 9 (S.get 0) (S.get 7) (fun r2 _=>XvBinOV P .lss 5 (.const (.int .u8 97)) r2 (.atom (.int .u8 97)) (fun r3 _=>Xgq r3 false (fun k=>k (S.get 0)) (fun g5 r5=>Xgq g5 false (fun k=>k (S.get 7)) (fun g6 r6=>Xgq g6 false (fun k=>XvIndex P 9 r5 r6 (fun r7 _=>k r7)) (fun g7 r7=>Xgq g7 false (fun k=>XvBinOV P .gtr 5 (.const (.int .u8 122)) r7 (.atom (.int .u8 122)) (fun r8 _=>k r8)) (fun g8 r8=>XvPick g8 (.atom (.bool true)) r8 (fun r9 _=>K ⟨[(0,S.get 0),(19,S.get 19),(20,S.get 20),(32,r9)],S.hp,S.nx,S.gh⟩)))))))) fun K hK=>?_
   repeat' (first|(refine hK _ ?_;clear hK K)|((first|refine zak (fun hg=>?_) (fun hg=>?_)|refine fun(hg:(_:Prop))=>?_)<;>((try simp only[BQ] at hg);try (exfalso;omega)))|refine And.intro ?_ ?_|exact cl|refine zah ?_ _|refine zai ?_ _|refine st ?_|fail)
   all_goals
   refine Tri.cond rfl (fun h32=>?_) (fun h32=>?_)
   ·try (cases h32;done)
    all_goals (try simp only[CQ] at h32)
    all_goals
    refine sY [6] (fun P S K=>K ⟨[(6,(.atom (.bool false)))],S.hp,S.nx,S.gh⟩) ?_
    all_goals
    refine Tri.ret ?_
    show ResOk _ _ _ _
    rw[show letS s least most=false from Bool.eq_false_iff.2 (fun h=>by have:=(letS_iff.1 h).1 i (by omega);omega)]
    exact ResOk.val zb5 zbP
   try (cases h32;done)
   all_goals (try simp only[CQ] at h32)
   all_goals
   refine Tri.skip ?_
   refine rY [0,19,20] (fun P S K=>XvBinOV P .add 3 (.const (.int .i64 1)) (S.get 20) (.atom (.int .i64 1)) (fun r0 _=>K ⟨[(0,S.get 0),(19,S.get 19),(20,r0)],S.hp,S.nx,S.gh⟩)) ?_
   all_goals try simp (disch:=omega) only[zag,zaj]
   all_goals
   refine⟨⟨i+1,by omega,fun j hj=>?_⟩,[],by dsimp only;omega,?_⟩
   · rcases Nat.lt_succ_iff_lt_or_eq.1 hj with hj|rfl
     · exact hlo j hj
     · omega
   · exact zbl
  try (cases h21;done)
  all_goals (try simp only[CQ] at h21)
  all_goals
  refine Tri.exit ?_
  refine sY [6] (fun P S K=>K ⟨[(6,(.atom (.bool true)))],S.hp,S.nx,S.gh⟩) ?_
  all_goals
  refine Tri.ret ?_
  show ResOk _ _ _ _
  rw[show letS s least most=true from letS_iff.2 ⟨fun j hj=>hlo j (by omega),by omega,by omega⟩]
  exact ResOk.val zb5 zbP
theorem zbi (s:ByteArray) (hs:s.size≤9223372036854775807):Pure Try.prog 46 [encS s] (.atom (.bool (letS s 1 8))) []:=by
  refine Pure.intro (ts:=[2]) Try.func46 (by kernel_rfl) rfl rfl rfl (Nat.le_of_ble_eq_true rfl) ?_ ?_
  · simp[zam,zal,encI,encS,PV.pure,zaA]
  refine sY [0] (fun P S K=>K ⟨[(0,S.get 0)],S.hp,S.nx,S.gh⟩) ?_
  all_goals
  refine sZ [2] (fun P S K=>XvFnIV P (M S.hp S.nx) (.fn 45 []) [(S.get 0),(.atom (.int .i64 1)),(.atom (.int .i64 8))] (fun r1 ef1=>K ⟨[(2,r1)],(Eff.hp ef1 S.nx S.hp),(S.nx+ef1.add.length),S.gh⟩)) fun K hK=>?_
  repeat' (first|(refine hK _ ?_;clear hK K)|refine And.intro ?_ ?_|exact cl|refine .inl ⟨_,_,zcf s 1 8 hs,?_⟩|refine st ?_|fail)
  all_goals
  refine Tri.ret ?_
  show ResOk _ _ _ _
  exact ResOk.val zb5 zbP
end Go.Proofs.Ytehoglapajkabaa
