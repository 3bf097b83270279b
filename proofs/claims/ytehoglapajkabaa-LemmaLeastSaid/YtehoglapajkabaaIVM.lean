/-
  The clean machine: code,and the functions that only compute.
-/
import Derived.Test.YtehoglapajkabaaIV12
import Derived.Deep.LoopGhost
import Derived.Test.YtehoglapajkabaaIV7
import Derived.Maps.Keyed
import Derived.DeepKeys4
set_option linter.all false
namespace Go.Proofs.Ytehoglapajkabaa
open Go Go.RowKit
def Tri (P:Program) (n:Nat) (c:Code) (S:St) (Q:Exit→St→Prop):Prop:=
  ∀ (w0:Home) (F0 D:Nat→Prop) (μ:Nat→Option Nat) (F:Nat→Prop) (G:List Value) (a:Act) (w:World),Sim w0 F0 D μ F G S n a w→
    c.wp P (fun e a' w'=>∃S' D' μ' F',Q e S'∧Sim w0 F0 D' μ' F' G S' n a' w') a w
section
variable {P:Program} {n:Nat} {S:St} {Q:Exit→St→Prop}
theorem Tri.mono{c:Code}{Q':Exit→St→Prop}(h:Tri P n c S Q') (hq:∀e S',Q' e S'→Q e S'):Tri P n c S Q:=fun w0 F0 D μ F G a w hS=>
  wp_mono (h w0 F0 D μ F G a w hS) fun e a' w' ⟨S',D',μ',F',h1,h2⟩=>⟨S',D',μ',F',hq e S' h1,h2⟩
theorem Tri.skip (h:Q .normal S):Tri P n .skip S Q:=fun _ _ D μ F _ _ _ hS=>wp_skip ⟨S,D,μ,F,h,hS⟩
theorem Tri.ret (h:Q .ret S):Tri P n .ret S Q:=fun _ _ D μ F _ _ _ hS=>wp_ret ⟨S,D,μ,F,h,hS⟩
theorem Tri.exit{id:Nat}(h:Q (.exit id) S):Tri P n (.exit id) S Q:=fun _ _ D μ F _ _ _ hS=>wp_exit ⟨S,D,μ,F,h,hS⟩
def thenQ (next:St→Prop) (Q:Exit→St→Prop):Exit→St→Prop
  | .normal,S=>next S
  | e,S=>Q e S
theorem Tri.seq{x y:Code}(h:Tri P n x S (thenQ (fun S'=>Tri P n y S' Q) Q)):Tri P n (.seq x y) S Q:=fun w0 F0 D μ F G a w hS=>by
  refine wp_seq (wp_mono (h w0 F0 D μ F G a w hS) fun e a' w' ⟨S',D',μ',F',h1,h2⟩=>?_)
  cases e with
  | normal=>exact h1 w0 F0 D' μ' F' G a' w' h2
  | exit id=>exact⟨S',D',μ',F',h1,h2⟩
  | goto l=>exact⟨S',D',μ',F',h1,h2⟩
  | ret=>exact⟨S',D',μ',F',h1,h2⟩
  | panic ch=>exact⟨S',D',μ',F',h1,h2⟩
  | outgrown=>exact⟨S',D',μ',F',h1,h2⟩
theorem Tri.cond{c:Operand}{x y:Code}{t:Bool}(hc:S.ev c=.atom (.bool t)) (ht:t=true→Tri P n x S Q) (hf:t=false→Tri P n y S Q):Tri P n (.cond c x y) S Q:=fun w0 F0 D μ F G a w hS=>
  wp_cond_split (zaS (hS.evs c) hc) (fun h=>ht h w0 F0 D μ F G a w hS) (fun h=>hf h w0 F0 D μ F G a w hS)
def blockQ (id:Nat) (Q:Exit→St→Prop):Exit→St→Prop
  | .exit id',S=>if id'=id then Q .normal S else Q (.exit id') S
  | e,S=>Q e S
theorem Tri.block{id:Nat}{c:Code}(h:Tri P n c S (blockQ id Q)):Tri P n (.block id c) S Q:=fun w0 F0 D μ F G a w hS=>by
  refine wp_block (wp_mono (h w0 F0 D μ F G a w hS) fun e a' w' ⟨S',D',μ',F',h1,h2⟩=>?_)
  cases e with
  | exit id'=>
    have h1':(if id'=id then Q .normal S' else Q (.exit id') S'):=h1
    show(if id'=id then (∃S' D' μ' F',Q .normal S'∧Sim w0 F0 D' μ' F' G S' n a' w') else (∃S' D' μ' F',Q (.exit id') S'∧Sim w0 F0 D' μ' F' G S' n a' w'))
    by_cases he:id'=id
    · rw[if_pos he] at h1' ⊢;exact⟨S',D',μ',F',h1',h2⟩
    · rw[if_neg he] at h1' ⊢;exact⟨S',D',μ',F',h1',h2⟩
  | normal=>exact⟨S',D',μ',F',h1,h2⟩
  | goto l=>exact⟨S',D',μ',F',h1,h2⟩
  | ret=>exact⟨S',D',μ',F',h1,h2⟩
  | panic ch=>exact⟨S',D',μ',F',h1,h2⟩
  | outgrown=>exact⟨S',D',μ',F',h1,h2⟩
def zf7 (n:Nat) (l:List Oper):Bool:=l.all fun o=>match o.dst with|some d=>decide (d<n)|none=>true
theorem zfQ{l:List Oper}(h:zf7 n l=true):∀o,o∈l→∀d,o.dst=some d→d<n:=fun o ho d hd=>by
  have:=List.all_eq_true.1 h o ho
  rw[hd] at this
  simpa using this
structure SEq (S S':St):Prop where
  get:S.get=S'.get
  obj:S.obj=S'.obj
  nx:S.nx=S'.nx
  gh:S.gh=S'.gh
theorem SEq.refl (S:St):SEq S S:=⟨rfl,rfl,rfl,rfl⟩
theorem Sim.seq{w0:Home}{F0 D:Nat→Prop}{μ:Nat→Option Nat}{F:Nat→Prop}{G:List Value}{a:Act}{w:World}{S':St}(hS:Sim w0 F0 D μ F G S n a w) (h:SEq S S'):Sim w0 F0 D μ F G S' n a w:=by
  refine⟨hS.defers,hS.size,fun s=>by rw[←h.get];exact hS.env s,by rw[←h.obj];exact hS.heap,fun i hi=>by rw[←h.nx];exact hS.ids i hi,by rw[←h.gh];exact hS.ghl,fun i hi=>?_⟩
  have:=hS.gh i (by rw[h.gh];exact hi)
  rwa [gl h.gh] at this
theorem Tri.region{id:Nat}{l:List Oper}(hd:zf7 n l=true) (h:vOps P l.toArray l S (fun S1=>∃S',SEq S1 S'∧Q .normal S')):Tri P n (.region id l.toArray false) S Q:=fun w0 F0 D μ F G a w hS=>
  wp_region_list (zdM l S D μ F a w (zfQ hd) h hS fun S1 D' μ' F' a' w' ⟨S',he,hK⟩ hS'=>⟨S',D',μ',F',hK,hS'.seq he⟩)
structure LeqS (k:Nat) (L:List Nat) (S S':St):Prop where
  env:∀p,p∈S'.env→sealed S.obj (fun i=>L.contains i) k (S.get p.1)=p.2.ren (rmap L S.nx)
  hp:∀p,p∈S'.hp→∀o,p.2=some o→p.1<L.length∧∃o',S.obj (rmap L S.nx p.1)=some o'∧o'.sz=o.sz∧o'.els.map (sealed S.obj (fun i=>L.contains i) k)=o.els.map (PV.ren (rmap L S.nx))
  nx:S'.nx=L.length
  nodup:L.Nodup
  ghl:S'.gh.length=S.gh.length
  gh:∀i (h:i<S'.gh.length) (h2:i<S.gh.length),sealed S.obj (fun i=>L.contains i) k (S.gh[i])=S'.gh[i].ren (rmap L S.nx)
def Leq (L:List Nat) (S S':St):Prop:=∃k,LeqS k L S S'
def frz (S:St) (L:List Nat) (μ:Nat→Option Nat) (F:Nat→Prop) (b:Nat):Prop:=F b∨∃i o,L.contains i=false∧S.obj i=some o∧μ i=some b
theorem Stands.frz{w0:Home}{F0 D:Nat→Prop}{μ:Nat→Option Nat}{F:Nat→Prop}{w:World}{L:List Nat}{k:Nat}{o o':AO}{m:Option Nat}(hH:HeapSim w0 F0 D μ F S.obj w) (hst:Stands D μ F w o' m)
    (h2:o'.sz=o.sz) (h3:o'.els.map (sealed S.obj (fun i=>L.contains i) k)=o.els.map (PV.ren (rmap L S.nx))):Stands D μ (frz S L μ F) w (o.ren (rmap L S.nx)) m:=by
  have hF:∀b,F b→Go.Proofs.Ytehoglapajkabaa.frz S L μ F b:=fun b h=>.inl h
  have hO:∀i o b,L.contains i=false→S.obj i=some o→μ i=some b→Go.Proofs.Ytehoglapajkabaa.frz S L μ F b:=fun i o b h1 h2 h3=>.inr ⟨i,o,h1,h2,h3⟩
  cases m with
  | none=>
    have h':o'.els=[]:=hst
    show(o.ren (rmap L S.nx)).els=[]
    unfold AO.ren
    rw[←h3,h'];rfl
  | some b=>
    refine ObjOk.sealed hH (fun i=>L.contains i) _ hF hO k hst h3 fun⟨A,e,a1,a2,a3,a4⟩=>?_
    have hlen:o.els.length=o'.els.length:=by have:=congrArg List.length h3;simpa using this.symm
    have hek:∀kk (hk:kk<(o.ren (rmap L S.nx)).els.length),(o.ren (rmap L S.nx)).els[kk]=sealed S.obj (fun i=>L.contains i) k (o'.els[kk]'(by simp[AO.ren] at hk;omega)):=fun kk hk=>by
      have e1:(o.ren (rmap L S.nx)).els=o'.els.map (sealed S.obj (fun i=>L.contains i) k):=h3.symm
      rw[gl e1 hk,List.getElem_map]
    refine⟨A,e,a1,?_,fun kk hk=>?_,fun kk hk c hc=>?_⟩
    · simp only[AO.ren,List.length_map];rw[hlen,←h2];exact a2
    · rw[hek kk hk,zcm,a3];exact h2
    · have hkk:kk<o'.els.length:=by simp[AO.ren] at hk;omega
      have e2:(o.ren (rmap L S.nx)).els[kk].cells=(sealed S.obj (fun i=>L.contains i) k o'.els[kk]).cells:=by rw[hek kk hk]
      rw[gl e2 hc]
      have:=zeF hH (fun i=>L.contains i) _ hF hO k o'.els[kk] (fun c=>A.getD (kk * o'.sz+c) undef) (fun c hc=>a4 kk hkk c hc) c (by rw[←e2];exact hc)
      have e3:(o.ren (rmap L S.nx)).sz=o'.sz:=h2.symm
      rw[e3];exact this
theorem Sim.leq{w0:Home}{F0 D:Nat→Prop}{μ:Nat→Option Nat}{F:Nat→Prop}{G:List Value}{a:Act}{w:World}{L:List Nat}{S':St}(hS:Sim w0 F0 D μ F G S n a w) (h:Leq L S S'):
    Sim w0 F0 (fun i=>D (rmap L S.nx i)) (fun i=>μ (rmap L S.nx i)) (frz S L μ F) G S' n a w:=by
  obtain⟨k,h⟩:=h
  have hD:∀i,D (rmap L S.nx i)→D (rmap L S.nx i)∧μ (rmap L S.nx i)=μ (rmap L S.nx i):=fun i hi=>⟨hi,rfl⟩
  have hF:∀b,F b→frz S L μ F b:=fun b h=>.inl h
  have hO:∀i o b,L.contains i=false→S.obj i=some o→μ i=some b→frz S L μ F b:=fun i o b h1 h2 h3=>.inr ⟨i,o,h1,h2,h3⟩
  have hobj:∀i o,S'.obj i=some o→i<L.length∧∃o',S.obj (rmap L S.nx i)=some o'∧o'.sz=o.sz∧o'.els.map (sealed S.obj (fun i=>L.contains i) k)=o.els.map (PV.ren (rmap L S.nx)):=fun i o hi=>by
    unfold St.obj at hi
    cases hl:lk S'.hp i with
    | none=>rw[hl] at hi;cases hi
    | some x=>
      rw[hl] at hi
      have hx:x=some o:=hi
      exact h.hp (i,x) (zjp hl) o hx
  have hget:∀i,i<L.length→rmap L S.nx i∈L:=fun i hi=>by
    have e:rmap L S.nx i=L[i]:=by simp[rmap,hi]
    rw[e];exact List.getElem_mem hi
  have hno:∀i b o',i<L.length→S.obj (rmap L S.nx i)=some o'→μ (rmap L S.nx i)=some b→¬frz S L μ F b:=fun i b o' hi h1 hib hbF=>by
    rcases hbF with h|⟨j,o2,g1,g2,g3⟩
    · exact(hS.heap.own _ _ b h1 hib).2 h
    · have:=hS.heap.inj _ _ _ _ b h1 g2 hib g3
      rw[←this] at g1
      have:=List.contains_iff_mem.2 (hget i hi)
      rw[g1] at this
      cases this
  refine⟨hS.defers,hS.size,fun s=>?_,⟨fun i o hi=>?_,fun i j o o' b hi hj hib hjb=>?_,fun i o b hi hib=>?_,hS.heap.ext,fun b hb=>?_,fun b hb=>?_⟩,fun i hi=>?_,by rw[h.ghl];exact hS.ghl,fun i hi=>?_⟩
  · cases hl:lk S'.env s with
    | none=>rw[show S'.get s=.junk by simp[St.get,hl]];exact .junk _
    | some p=>
      rw[show S'.get s=p by simp[St.get,hl]]
      have:=Rep.sealed hS.heap (fun i=>L.contains i) _ hF hO k _ _ (hS.env s)
      rw[h.env (s,p) (zjp hl)] at this
      exact this.ren_inv hD _ rfl
  · obtain⟨h0,o',h1,h2,h3⟩:=hobj i o hi
    obtain⟨g1,g2⟩:=hS.heap.objs _ _ h1
    exact⟨g1,(Stands.frz hS.heap g2 h2 h3).ren_inv hD⟩
  · obtain⟨h0,o1,h1,h2,h3⟩:=hobj i o hi
    obtain⟨k0,o2,k1,k2,k3⟩:=hobj j o' hj
    have e:=hS.heap.inj _ _ _ _ b h1 k1 hib hjb
    exact zet h.nodup h0 k0 (by simpa[rmap,h0,k0] using e)
  · obtain⟨h0,o',h1,h2,h3⟩:=hobj i o hi
    exact⟨(hS.heap.own _ _ b h1 hib).1,hno i b o' h0 h1 hib⟩
  · rcases hb with h|⟨i,o,h1,h2,h3⟩
    · exact hS.heap.f0 b h
    · exact .inr (hS.heap.own i o b h2 h3).1
  · rcases hb with h|⟨i,o,h1,h2,h3⟩
    · exact hS.heap.fsz b h
    · exact(hS.heap.ok h2 h3).lt
  · rw[h.nx]
    exact(zh2 hS.ids hi).1
  · have hi2:i<S.gh.length:=by rw[←h.ghl];exact hi
    have:=Rep.sealed hS.heap (fun i=>L.contains i) _ hF hO k _ _ (hS.gh i hi2)
    rw[h.gh i hi hi2] at this
    exact this.ren_inv hD _ rfl
theorem Tri.weak{c:Code}{L:List Nat}{S':St}(h:Leq L S S') (ht:Tri P n c S' Q):Tri P n c S Q:=fun w0 F0 _ _ _ G a w hS=>ht w0 F0 _ _ _ G a w (hS.leq h)
def loopQ{α:Type}(S0:α→St) (m:α→Nat) (x:α) (Q:Exit→St→Prop):Exit→St→Prop:=thenQ (fun S'=>∃y L,m y<m x∧Leq L S' (S0 y)) Q
theorem Tri.loop{α:Type}{body:Code}(S0:α→St) (m:α→Nat) (x0:α) (L:List Nat) (h0:Leq L S (S0 x0)) (h:∀x,Tri P n body (S0 x) (loopQ S0 m x Q)):Tri P n (.loop body) S Q:=fun w0 F0 D μ F G a w hS=>by
  refine wp_loop_ghost (fun k a w=>∃x D μ F,m x=k∧Sim w0 F0 D μ F G (S0 x) n a w) (m x0) ⟨x0,_,_,_,rfl,hS.leq h0⟩ fun k a w ⟨x,D,μ,F,hk,hSx⟩=>?_
  refine wp_mono (h x w0 F0 D μ F G a w hSx) fun e a' w' ⟨S',D',μ',F',h1,h2⟩=>?_
  cases e with
  | normal=>
    obtain⟨y,L',hlt,hle⟩:=h1
    exact⟨m y,by rw[←hk];exact hlt,y,_,_,_,rfl,h2.leq hle⟩
  | exit id=>exact⟨S',D',μ',F',h1,h2⟩
  | goto l=>exact⟨S',D',μ',F',h1,h2⟩
  | ret=>exact⟨S',D',μ',F',h1,h2⟩
  | panic ch=>exact⟨S',D',μ',F',h1,h2⟩
  | outgrown=>exact⟨S',D',μ',F',h1,h2⟩
def retV (S:St):List Nat→PV
  | [t]=>S.get t
  | ts=>.tup (ts.map S.get)
theorem zgs{w:World}{fn:Func}{ts:List Nat}(hr:fn.results=(ts.map ResultVar.tmp).toArray) {D:Nat→Prop}{μ:Nat→Option Nat}{F:Nat→Prop}{tmps:Array Value}(he:∀s,Rep D μ F w (S.get s) (tmps.getD s undef)):
    ∃v,(results fn tmps).run P w=.ok v w∧Rep D μ F w (retV S ts) v:=by
  have hm:∀(f:ResultVar→Sem Value),(∀t,(f (.tmp t)).run P w=.ok (tmps.getD t undef) w)→∀(l:List Nat),((l.map ResultVar.tmp).mapM f).run P w=.ok (l.map fun t=>tmps.getD t undef) w:=by
    intro f hf l
    induction l with
    | nil=>simp
    | cons t l ih=>rw[List.map_cons,List.mapM_cons];simp only[Sem.run_bind,hf,Result.andThen_ok,ih,Sem.run_pure];rfl
  have hrun:(results fn tmps).run P w=.ok (if h:(ts.map fun t=>tmps.getD t undef).toArray.size=1 then (ts.map fun t=>tmps.getD t undef).toArray[0] else .tuple (ts.map fun t=>tmps.getD t undef).toArray) w:=by
    unfold results
    rw[hr,Array.mapM_eq_mapM_toList,Sem.run_bind,Sem.run_map,hm _ (fun t=>rfl)]
    rfl
  refine⟨_,hrun,?_⟩
  match ts with
  | [t]=>simp[retV];simpa[Array.getD_eq_getD_getElem?] using he t
  | []=>simp[retV];exact .tup _ _ rfl (fun i hi=>by simp at hi)
  | a :: b :: r=>
    rw[dif_neg (by simp)]
    refine .tup _ _ (by simp) fun i hi=>?_
    have hi':i<(a :: b :: r).length:=by simpa using hi
    have e:((a :: b :: r).map fun t=>tmps.getD t undef).toArray.getD i undef=tmps.getD ((a :: b :: r)[i]) undef:=by
      rw[Array.getD_eq_getD_getElem?,List.getElem?_toArray,List.getElem?_map,List.getElem?_eq_getElem hi'];rfl
    rw[e,List.getElem_map]
    exact he _
def ResOk (S:St) (ts:List Nat) (r:PV) (os:List AO):Prop:=
  ∃ (L:List Nat) (k:Nat),L.length=os.length∧L.Nodup∧sealed S.obj (fun i=>L.contains i) k (retV S ts)=r.ren (rmap L S.nx)∧
    ∀i o,os[i]? = some o→∃o',S.obj (rmap L S.nx i)=some o'∧o'.sz=o.sz∧o'.els.map (sealed S.obj (fun i=>L.contains i) k)=o.els.map (PV.ren (rmap L S.nx))
theorem ResOk.is{w1:World}{F0 D:Nat→Prop}{μ:Nat→Option Nat}{F:Nat→Prop}{w:World}{ts:List Nat}{r:PV}{os:List AO}(h:ResOk S ts r os) (hH:HeapSim ⟨w1,fun _=>False⟩ F0 D μ F S.obj w) (ids:∀i,D i→i<S.nx) {v:Value}(hv:Rep D μ F w (retV S ts) v):ResIs F0 w1 w r os v:=by
  obtain⟨L,k,hL,hnd,hr,ho⟩:=h
  have hD:∀i,D (rmap L S.nx i)→i<os.length∧μ (rmap L S.nx i)=μ (rmap L S.nx i):=fun i hi=>⟨by rw[←hL];exact(zh2 ids hi).1,rfl⟩
  have hF:∀b,F b→F b∨∃i o,L.contains i=false∧S.obj i=some o∧μ i=some b:=fun b h=>.inl h
  have hO:∀i o b,L.contains i=false→S.obj i=some o→μ i=some b→F b∨∃i o,L.contains i=false∧S.obj i=some o∧μ i=some b:=fun i o b h1 h2 h3=>.inr ⟨i,o,h1,h2,h3⟩
  have hget:∀i,i<os.length→∃o',S.obj (rmap L S.nx i)=some o'∧rmap L S.nx i∈L∧rmap L S.nx i=L.getD i 0:=fun i hi=>by
    obtain⟨o',h1,_⟩:=ho i _ (List.getElem?_eq_getElem hi)
    have hi':i<L.length:=by rw[hL];exact hi
    have e:rmap L S.nx i=L[i]:=by simp[rmap,hi']
    exact⟨o',h1,by rw[e];exact List.getElem_mem hi',by rw[e];simp[List.getD_eq_getElem?_getD,hi']⟩
  have hno:∀i b,i<os.length→μ (rmap L S.nx i)=some b→¬ (F b∨∃i o,L.contains i=false∧S.obj i=some o∧μ i=some b):=fun i b hi hib hbF=>by
    obtain⟨o',h1,h2,_⟩:=hget i hi
    rcases hbF with h|⟨j,o2,g1,g2,g3⟩
    · exact(hH.own _ _ b h1 hib).2 h
    · have:=hH.inj _ _ _ _ b h1 g2 hib g3
      rw[←this] at g1
      have:=List.contains_iff_mem.2 h2
      rw[g1] at this
      cases this
  refine⟨fun i=>μ (rmap L S.nx i),fun b=>F b∨∃i o,L.contains i=false∧S.obj i=some o∧μ i=some b,?_,fun i o hi=>?_,fun i b hi hib=>?_,fun i j b hi hj hib hjb=>?_,fun b hb=>?_⟩
  · have:=Rep.sealed hH (fun i=>L.contains i) _ hF hO k _ _ hv
    rw[hr] at this
    exact this.ren_inv hD _ rfl
  · obtain⟨o',h1,h2,h3⟩:=ho i o hi
    obtain⟨_,hst⟩:=hH.objs _ _ h1
    have key:Stands D μ (fun b=>F b∨∃i o,L.contains i=false∧S.obj i=some o∧μ i=some b) w (o.ren (rmap L S.nx)) (μ (rmap L S.nx i)):=by
      cases hm:μ (rmap L S.nx i) with
      | none=>
        rw[hm] at hst
        have h':o'.els=[]:=hst
        show(o.ren (rmap L S.nx)).els=[]
        unfold AO.ren
        rw[←h3,h'];rfl
      | some b=>
        rw[hm] at hst
        refine ObjOk.sealed hH (fun i=>L.contains i) _ hF hO k hst h3 fun⟨A,e,a1,a2,a3,a4⟩=>?_
        have hlen:o.els.length=o'.els.length:=by have:=congrArg List.length h3;simpa using this.symm
        have hek:∀kk (hk:kk<(o.ren (rmap L S.nx)).els.length),(o.ren (rmap L S.nx)).els[kk]=sealed S.obj (fun i=>L.contains i) k (o'.els[kk]'(by simp[AO.ren] at hk;omega)):=fun kk hk=>by
          have e1:(o.ren (rmap L S.nx)).els=o'.els.map (sealed S.obj (fun i=>L.contains i) k):=h3.symm
          rw[gl e1 hk,List.getElem_map]
        refine⟨A,e,a1,?_,fun kk hk=>?_,fun kk hk c hc=>?_⟩
        · simp only[AO.ren,List.length_map];rw[hlen,←h2];exact a2
        · rw[hek kk hk,zcm,a3];exact h2
        · have hkk:kk<o'.els.length:=by simp[AO.ren] at hk;omega
          have e2:(o.ren (rmap L S.nx)).els[kk].cells=(sealed S.obj (fun i=>L.contains i) k o'.els[kk]).cells:=by rw[hek kk hk]
          rw[gl e2 hc]
          have:=zeF hH (fun i=>L.contains i) _ hF hO k o'.els[kk] (fun c=>A.getD (kk * o'.sz+c) undef) (fun c hc=>a4 kk hkk c hc) c (by rw[←e2];exact hc)
          have e3:(o.ren (rmap L S.nx)).sz=o'.sz:=h2.symm
          rw[e3];exact this
    exact key.ren_inv hD
  · obtain⟨o',h1,_⟩:=hget i hi
    exact⟨(hH.own _ _ b h1 hib).1.resolve_right id,hno i b hi hib⟩
  · obtain⟨o1,h1,_⟩:=hget i hi
    obtain⟨o2,h2,_⟩:=hget j hj
    have e:=hH.inj _ _ _ _ b h1 h2 hib hjb
    have hi':i<L.length:=by rw[hL];exact hi
    have hj':j<L.length:=by rw[hL];exact hj
    exact zet hnd hi' hj' (by simpa[rmap,hi',hj'] using e)
  · rcases hb with h|⟨i,o,h1,h2,h3⟩
    · exact⟨(hH.f0 b h).imp id (·.resolve_right id),hH.fsz b h⟩
    · exact⟨.inr ((hH.own i o b h2 h3).1.resolve_right id),(hH.ok h2 h3).lt⟩
def zbO:Nat→List PV→List (Nat×PV)
  | _,[]=>[]
  | k,p :: l=>(k,p) :: zbO (k+1) l
theorem zdW:∀(l:List PV) (k s:Nat),lk (zbO k l) s=if k≤s then l[s - k]? else none
  | [],k,s=>by simp[zbO,lk]
  | p :: l,k,s=>by
    rw[zbO,lk,zdW l (k+1) s]
    by_cases h:k=s
    · subst h;simp
    · rw[if_neg h]
      by_cases h2:k+1≤s
      · rw[if_pos h2,if_pos (by omega),show s - k=(s - (k+1))+1 by omega];simp
      · rw[if_neg h2,if_neg (by omega)]
def retQ (ts:List Nat) (r:PV) (os:List AO):Exit→St→Prop
  | .normal,S=>ResOk S ts r os
  | .ret,S=>ResOk S ts r os
  | _,_=>False
theorem PureCall.intro{f:FuncId}{fn:Func}{c:Code}{args:List PV}{r:PV}{os:List AO}{ts:List Nat}(hf:P.funcs[f]? = some fn) (hb:fn.body=some c) (hr:fn.results=(ts.map ResultVar.tmp).toArray) (hn:fn.ntmps=n) (hla:args.length≤n) (hpure:args.all PV.pure=true)
    (h:Tri P n c ⟨zbO 0 args,[],0,[]⟩ (retQ ts r os)):PureCall P f args r os:=by
  intro D μ F w vs hvs hargs hFs
  refine calls_of_wp hf hb ?_
  have hS:Sim ⟨w,fun _=>False⟩ F (fun _=>False) μ F [] ⟨zbO 0 args,[],0,[]⟩ n { tmps:=vs++Array.replicate (fn.ntmps - vs.size) undef,defers:=[] } w:=by
    refine⟨rfl,by simp[hvs,hn];omega,fun s=>?_,⟨fun i o hi=>(by cases hi),fun i j o o' b hi=>(by cases hi),fun i o b hi=>(by cases hi),Ext.refl _ _,fun b hb=>.inl hb,hFs⟩,fun i hi=>hi.elim,rfl,fun i hi=>by simp at hi⟩
    show Rep _ μ F w ((lk (zbO 0 args) s).getD .junk) _
    rw[zdW]
    simp only[Nat.zero_le,if_true,Nat.sub_zero]
    by_cases hs:s<args.length
    · rw[List.getElem?_eq_getElem hs]
      simp only[Option.getD_some]
      have e:(vs++Array.replicate (fn.ntmps - vs.size) undef).getD s undef=vs.getD s undef:=by
        simp only[Array.getD_eq_getD_getElem?]
        rw[Array.getElem?_append_left (by omega)]
      rw[e]
      exact(hargs s hs).pureAny (zbj hpure s hs)
    · rw[List.getElem?_eq_none (by omega)]
      exact .junk _
  refine wp_mono (h _ F _ μ F [] _ w hS) fun e a' w' ⟨S',D',μ',F',h1,h2⟩=>?_
  have fin:ResOk S' ts r os→a'.defers=[]∧∃v,(results fn a'.tmps).run P w'=.ok v w'∧∃v',Ending.returned v=.returned v'∧Bel w w'∧ResIs F w w' r os v':=fun hres=>by
    obtain⟨v,hv,hrep⟩:=zgs (P:=P) (S:=S') hr h2.env
    exact⟨h2.defers,v,hv,v,rfl,h2.heap.ext.below (fun _ h=>h),hres.is h2.heap h2.ids hrep⟩
  cases e with
  | normal=>exact fin h1
  | ret=>exact fin h1
  | exit id=>exact h1.elim
  | goto l=>exact h1.elim
  | panic ch=>exact h1.elim
  | outgrown=>exact h1.elim
def za9:Nat→List (Option AO)→List (Nat×Option AO)
  | _,[]=>[]
  | k,o :: l=>(k,o) :: za9 (k+1) l
theorem zcA:∀(l:List (Option AO)) (k s:Nat),lk (za9 k l) s=if k≤s then l[s - k]? else none
  | [],k,s=>by simp[za9,lk]
  | p :: l,k,s=>by
    rw[za9,lk,zcA l (k+1) s]
    by_cases h:k=s
    · subst h;simp
    · rw[if_neg h]
      by_cases h2:k+1≤s
      · rw[if_pos h2,if_pos (by omega),show s - k=(s - (k+1))+1 by omega];simp
      · rw[if_neg h2,if_neg (by omega)]
def zbw:Nat→List AO→List PV
  | _,[]=>[]
  | k,_ :: l=>.mark k :: zbw (k+1) l
theorem zbJ:∀(l:List AO) (k:Nat),(zbw k l).length=l.length
  | [],_=>rfl
  | _ :: l,k=>by rw[zbw,List.length_cons,zbJ l,List.length_cons]
theorem zdV:∀(l:List AO) (k i:Nat),(zbw k l)[i]? = (l[i]?).map fun _=>.mark (k+i)
  | [],_,_=>by simp[zbw]
  | _ :: l,k,0=>by simp[zbw]
  | _ :: l,k,i+1=>by rw[zbw,List.getElem?_cons_succ,zdV l (k+1) i,List.getElem?_cons_succ,show k+1+i=k+(i+1) by omega]
def ResP (S:St) (ts:List Nat) (r:PV) (hp:List AO) (hp':List (Option AO)) (os:List AO):Prop:=
  ∃(L:List Nat) (k:Nat),sealed S.obj (fun i=>L.contains i) k (retV S ts)=r.ren (rmap L S.nx)∧LeqS k L S ⟨[],za9 0 (hp'++os.map some),hp'.length+os.length,zbw 0 hp⟩
def retP (ts:List Nat) (r:PV) (hp:List AO) (hp':List (Option AO)) (os:List AO):Exit→St→Prop
  | .normal,S=>ResP S ts r hp hp' os
  | .ret,S=>ResP S ts r hp hp' os
  | _,_=>False
theorem HeapSim.widen{w0:Home}{F0 D D':Nat→Prop}{μ:Nat→Option Nat}{F:Nat→Prop}{H:Nat→Option AO}{w:World}(h:HeapSim w0 F0 D μ F H w) (hD:∀i,D i→D' i):HeapSim w0 F0 D' μ F H w:=
  ⟨fun i o hi=>⟨hD i (h.objs i o hi).1,(h.objs i o hi).2.stay (Stay.refl _ _) (fun i hi=>⟨hD i hi,rfl⟩) (fun _ h=>h) (fun _ _=>rfl)⟩,h.inj,h.own,h.ext,h.f0,h.fsz⟩
theorem ProcCall.intro{f:FuncId}{fn:Func}{c:Code}{args:List PV}{hp:List AO}{r:PV}{hp':List (Option AO)}{os:List AO}{ts:List Nat}(hf:P.funcs[f]? = some fn) (hb:fn.body=some c) (hr:fn.results=(ts.map ResultVar.tmp).toArray) (hn:fn.ntmps=n) (hla:args.length≤n)
    (hlen:hp'.length=hp.length) (h:Tri P n c ⟨zbO 0 args,za9 0 (hp.map some),hp.length,zbw 0 hp⟩ (retP ts r hp hp' os)):ProcCall P f args hp r hp' os:=by
  refine⟨hlen,fun μ F w vs hH hvs hargs=>calls_of_wp hf hb ?_⟩
  have hobj:(St.mk (zbO 0 args) (za9 0 (hp.map some)) hp.length (zbw 0 hp)).obj=fun i=>hp[i]? := by
    funext i
    show(lk (za9 0 (hp.map some)) i).join=_
    rw[zcA]
    simp only[Nat.zero_le,if_true,Nat.sub_zero,List.getElem?_map]
    cases hp[i]? <;> rfl
  have hS : Sim ⟨w,fun b=>∃i,i<hp.length∧μ i=some b⟩ F (· < hp.length) μ F ((List.range hp.length).map fun i=>zc3 (μ i)) ⟨zbO 0 args,za9 0 (hp.map some),hp.length,zbw 0 hp⟩ n { tmps:=vs++Array.replicate (fn.ntmps - vs.size) undef,defers:=[] } w:=by
    refine⟨rfl,by simp[hvs,hn];omega,fun s=>?_,by rw[hobj];exact hH,fun i hi=>hi,by simp[zbJ],fun i hi=>?_⟩
    · show Rep _ μ F w ((lk (zbO 0 args) s).getD .junk) _
      rw[zdW]
      simp only[Nat.zero_le,if_true,Nat.sub_zero]
      by_cases hs:s<args.length
      · rw[List.getElem?_eq_getElem hs]
        simp only[Option.getD_some]
        have e:(vs++Array.replicate (fn.ntmps - vs.size) undef).getD s undef=vs.getD s undef:=by
          simp only[Array.getD_eq_getD_getElem?]
          rw[Array.getElem?_append_left (by omega)]
        rw[e]
        exact hargs s hs
      · rw[List.getElem?_eq_none (by omega)]
        exact .junk _
    · simp only at hi
      have hi':i<hp.length:=by rwa [zbJ] at hi
      have e1:(zbw 0 hp)[i]'hi=.mark i:=by
        have:=zdV hp 0 i
        rw[List.getElem?_eq_getElem hi,List.getElem?_eq_getElem hi'] at this
        simpa using this
      have e2:((List.range hp.length).map fun i=>zc3 (μ i)).getD i undef=zc3 (μ i):=by simp[List.getD_eq_getElem?_getD,hi']
      rw[e1,e2]
      exact .mark i _ hi' rfl
  refine wp_mono (h _ F _ μ F _ _ w hS) fun e a' w' ⟨S',D',μ',F',h1,h2⟩=>?_
  have fin:ResP S' ts r hp hp' os→a'.defers=[]∧∃v,(results fn a'.tmps).run P w'=.ok v w'∧∃v',Ending.returned v=.returned v'∧∃(μ2:Nat→Option Nat) (F2:Nat→Prop),Rep (· < hp.length+os.length) μ2 F2 w' r v'∧
      HeapSim ⟨w,fun b=>∃i,i<hp.length∧μ i=some b⟩ F (· < hp.length+os.length) μ2 F2 (fun i=>((hp'++os.map some)[i]?).join) w'∧(∀i,i<hp.length→μ2 i=μ i):=fun⟨L,k,hr1,hl⟩=>by
    obtain⟨v,hv,hrep⟩:=zgs (P:=P) (S:=S') hr h2.env
    have h3:=h2.leq ⟨k,hl⟩
    have hD:∀i,D' (rmap L S'.nx i)→i<hp.length+os.length∧μ' (rmap L S'.nx i)=μ' (rmap L S'.nx i):=fun i hi=>⟨by
      have:=h3.ids i hi
      have e:(St.mk [] (za9 0 (hp'++os.map some)) (hp'.length+os.length) (zbw 0 hp)).nx=hp'.length+os.length:=rfl
      rw[e] at this;omega,rfl⟩
    refine⟨h2.defers,v,hv,v,rfl,fun i=>μ' (rmap L S'.nx i),frz S' L μ' F',?_,?_,fun i hi=>?_⟩
    · have:=Rep.sealed h2.heap (fun i=>L.contains i) (frz S' L μ' F') (fun b h=>.inl h) (fun i o b h1 h2 h3=>.inr ⟨i,o,h1,h2,h3⟩) k _ _ hrep
      rw[hr1] at this
      exact this.ren_inv hD _ rfl
    · have:=h3.heap.widen (D':=(· < hp.length+os.length)) (fun i hi=>(hD i hi).1)
      have e:(St.mk [] (za9 0 (hp'++os.map some)) (hp'.length+os.length) (zbw 0 hp)).obj=fun i=>((hp'++os.map some)[i]?).join:=by
        funext i
        show(lk (za9 0 (hp'++os.map some)) i).join=_
        rw[zcA];simp
      rw[e] at this
      exact this
    · have hi2:i<(zbw 0 hp).length:=by rw[zbJ];exact hi
      have:=h3.gh i hi2
      have e1:(zbw 0 hp)[i]'hi2=.mark i:=by
        have:=zdV hp 0 i
        rw[List.getElem?_eq_getElem hi2,List.getElem?_eq_getElem hi] at this
        simpa using this
      have e2:((List.range hp.length).map fun i=>zc3 (μ i)).getD i undef=zc3 (μ i):=by simp[List.getD_eq_getElem?_getD,hi]
      simp only[e1,e2] at this
      generalize hpv:zc3 (μ i)=pv at this
      cases this with
      | mark _ _ g1 g2=>
        show μ' (rmap L S'.nx i)=μ i
        exact(zhv (hpv.trans g2)).symm
  cases e with
  | normal=>exact fin h1
  | ret=>exact fin h1
  | exit id=>exact h1.elim
  | goto l=>exact h1.elim
  | panic ch=>exact h1.elim
  | outgrown=>exact h1.elim
end
def zel:List PV→Option (List Value)
  | []=>some []
  | .atom v :: r=>if v.oneCell'=true then (zel r).map (v :: ·) else none
  | _=>none
def keyV:PV→Option Value
  | .atom v=>if v.oneCell'=true then some v else none
  | .agg l=>(zel l).map fun vs=>.agg vs.toArray
  | _=>none
def zeg (P:Program) (k:TypeId) (p:PV):Prop:=∃v l,keyV p=some v∧keyOf P k v=some l
theorem zhO:∀ {a b:List PV}{vs:List Value},zel a=some vs→zel b=some vs→a=b
  | [],[],_,_,_=>rfl
  | [],y :: b,vs,h1,h2=>by
    cases h1
    unfold zel at h2
    split at h2
    · rename_i e;cases e
    · rename_i e
      split at h2
      · simp at h2
      · cases h2
    · cases h2
  | x :: a,[],vs,h1,h2=>by
    cases h2
    unfold zel at h1
    split at h1
    · rename_i e;cases e
    · split at h1
      · simp at h1
      · cases h1
    · cases h1
  | x :: a,y :: b,vs,h1,h2=>by
    cases x<;>simp only[zel] at h1<;>try (cases h1;done)
    cases y<;>simp only[zel] at h2<;>try (cases h2;done)
    split at h1<;>try (cases h1;done)
    split at h2<;>try (cases h2;done)
    obtain⟨as,ha,rfl⟩:=Option.map_eq_some_iff.1 h1
    obtain⟨bs,hb,e⟩:=Option.map_eq_some_iff.1 h2
    cases e
    rw[zhO ha hb]
theorem keyV_inj{p q:PV}{v:Value}(h1:keyV p=some v) (h2:keyV q=some v):p=q:=by
  cases p<;>simp only[keyV] at h1<;>try (cases h1;done)
  · split at h1<;>try (cases h1;done)
    rename_i hv
    cases h1
    cases q<;>simp only[keyV] at h2<;>try (cases h2;done)
    · split at h2<;>try (cases h2;done)
      cases h2;rfl
    · obtain⟨as,ha,e⟩:=Option.map_eq_some_iff.1 h2
      rw[←e] at hv;cases hv
  · obtain⟨as,ha,rfl⟩:=Option.map_eq_some_iff.1 h1
    cases q<;>simp only[keyV] at h2<;>try (cases h2;done)
    · split at h2<;>try (cases h2;done)
      rename_i hv
      cases h2;cases hv
    · obtain⟨bs,hb,e⟩:=Option.map_eq_some_iff.1 h2
      have:bs=as:=by simpa using e
      subst this
      rw[zhO ha hb]
section
variable {P:Program} {w0:Home} {F0 D D':Nat→Prop} {μ μ':Nat→Option Nat} {F F':Nat→Prop} {H:Nat→Option AO} {w w':World}
theorem zhM:∀ {l:List PV}{vs:List Value}(g:Nat→Value),zel l=some vs→(∀i (h:i<l.length),Rep D μ F w l[i] (g i))→∀i,i<l.length→vs[i]? = some (g i)
  | [],_,_,_,_,i,hi=>absurd hi (Nat.not_lt_zero _)
  | x :: l,vs,g,h,hr,i,hi=>by
    cases x<;>simp only[zel] at h<;>try (cases h;done)
    split at h<;>try (cases h;done)
    obtain⟨as,ha,rfl⟩:=Option.map_eq_some_iff.1 h
    cases i with
    | zero=>
      have:=hr 0 (Nat.zero_lt_succ _)
      rw[List.getElem_cons_zero] at this
      rw[←zcV this];rfl
    | succ i=>
      rw[List.getElem?_cons_succ]
      exact zhM (fun j=>g (j+1)) ha (fun j hj=>by have:=hr (j+1) (by simpa using hj);simpa using this) i (by simpa using hi)
theorem zhN:∀ {l:List PV}{vs:List Value},zel l=some vs→vs.length=l.length
  | [],_,h=>by cases h;rfl
  | x :: l,vs,h=>by
    cases x<;>simp only[zel] at h<;>try (cases h;done)
    split at h<;>try (cases h;done)
    obtain⟨as,ha,rfl⟩:=Option.map_eq_some_iff.1 h
    simp[zhN ha]
theorem zc8{p:PV}{v kv:Value}(h:Rep D μ F w p v) (hk:keyV p=some kv):v=kv:=by
  cases p<;>simp only[keyV] at hk<;>try (cases hk;done)
  · split at hk<;>try (cases hk;done)
    cases hk;exact zcV h
  · rename_i l
    obtain⟨as,ha,rfl⟩:=Option.map_eq_some_iff.1 hk
    cases h with
    | agg _ vs hs hr=>
      have hl:=zhN ha
      congr 1
      refine Array.ext' ?_
      apply List.ext_getElem?
      intro i
      by_cases hi:i<l.length
      · have h1:=zhM (fun i=>vs.getD i undef) ha hr i hi
        have h2:vs.toList[i]? = some (vs.getD i undef):=by
          have:i<vs.size:=by omega
          simp[this]
        rw[h2];simpa using h1.symm
      · rw[List.getElem?_eq_none (by simp;omega),List.getElem?_eq_none (by simp;omega)]
theorem zcT{t k e:TypeId}(h:tMap P t=some (k,e)):P.underlying t=some (.map k e):=by
  unfold tMap at h
  split at h
  · rename_i a b hu;cases h;exact hu
  · cases h
structure MapGet (P:Program) (k:TypeId) (els:List PV) (key:PV) (res:Option PV):Prop where
  keyed:Maps.Keyed P k
  all:∀e,e∈els→∃q v,e=.tup [q,v]∧zeg P k q
  good:zeg P k key
  out:match res with|some v=>PV.tup [key,v]∈els|none=>∀v,PV.tup [key,v]∉els
structure MapPut (P:Program) (k:TypeId) (els:List PV) (key v:PV) (els':List PV):Prop where
  keyed:Maps.Keyed P k
  all:∀e,e∈els→∃q v,e=.tup [q,v]∧zeg P k q
  good:zeg P k key
  out:(∃j u,els[j]? = some (.tup [key,u])∧els'=els.set j (.tup [key,v]))∨((∀u,PV.tup [key,u]∉els)∧els'=els++[.tup [key,v]])
theorem zgU{q v:PV}{es:Array MapEntry}{j:Nat}(hj:j<es.size) (h:Rep D μ F w (.tup [q,v]) (entV es j)):Rep D μ F w q es[j].key∧Rep D μ F w v es[j].val:=by
  unfold entV at h
  have e:es.getD j default=es[j]:=by simp[Array.getD_eq_getD_getElem?,hj]
  rw[e] at h
  cases h with
  | tup _ _ _ hr=>
    have h0:=hr 0 (by simp)
    have h1:=hr 1 (by simp)
    exact⟨by simpa using h0,by simpa using h1⟩
theorem ent_mk{q v:PV}{x:MapEntry}(h1:Rep D μ F w q x.key) (h2:Rep D μ F w v x.val):Rep D μ F w (.tup [q,v]) (.tuple #[x.key,x.val]):=by
  refine .tup _ _ rfl fun i hi=>?_
  match i,hi with
  | 0,_=>simpa using h1
  | 1,_=>simpa using h2
theorem zh8{k:TypeId}(K:Maps.Keyed P k) {els:List PV}{key:PV}{kv:Value}{kl:Lit}{es:Array MapEntry}(hkeys:∀e,e∈els→∃q v,e=.tup [q,v]∧zeg P k q) (hk1:keyV key=some kv) (hk2:keyOf P k kv=some kl)
    (hs:es.size=els.length) (hr:∀j (h:j<els.length),Rep D μ F w els[j] (entV es j)) {es0:Array MapEntry} (hp:es.toList.Perm es0.toList) (w1:World):
    ((Instr.findKey k kv es0.toList).run P w1=.ok none w1∧(∀e∈es.toList,e.key≠kv)∧∀v,PV.tup [key,v]∉els)∨
    ∃j j0 v,∃(hj:j<es.size) (hj0:j0<es0.size),(Instr.findKey k kv es0.toList).run P w1=.ok (some (j0,es[j].val)) w1∧es0[j0]=es[j]∧es[j].key=kv∧els[j]? = some (.tup [key,v])∧Rep D μ F w v es[j].val:=by
  have hent:∀j (hj:j<es.size),∃q v,els[j]? = some (.tup [q,v])∧Rep D μ F w q es[j].key∧Rep D μ F w v es[j].val∧keyV q=some es[j].key∧∃l,keyOf P k es[j].key=some l:=fun j hj=>by
    have hj':j<els.length:=by omega
    obtain⟨q,v,e,⟨kq,l,k1,k2⟩⟩:=hkeys _ (List.getElem_mem hj')
    have h1:=hr j hj'
    rw[e] at h1
    obtain⟨h2,h3⟩:=zgU hj h1
    have h4:=zc8 h2 k1
    exact⟨q,v,by rw[List.getElem?_eq_getElem hj',e],h2,h3,by rw[h4];exact k1,l,by rw[h4];exact k2⟩
  have hall:∀e∈es0.toList,∃l,keyOf P k e.key=some l:=fun e he=>by
    obtain⟨j,hj,rfl⟩:=List.getElem_of_mem (hp.mem_iff.2 he)
    have hj':j<es.size:=by simpa using hj
    obtain⟨_,_,_,_,_,_,l,hl⟩:=hent j hj'
    exact⟨l,by simpa using hl⟩
  rcases K.find w1 hk2 es0.toList hall with ⟨h1,h2⟩|⟨j0,e,h1,h2,h3⟩
  · have h2:∀e∈es.toList,e.key≠kv:=fun e he=>h2 e (hp.mem_iff.1 he)
    refine .inl ⟨h1,h2,fun v hm=>?_⟩
    obtain⟨j,hj,e⟩:=List.getElem_of_mem hm
    have hj':j<es.size:=by omega
    have h4:=hr j hj
    rw[e] at h4
    exact h2 es[j] (by simp) (zc8 (zgU hj' h4).1 hk1)
  · have hj0:j0<es0.size:=by have:=(List.getElem?_eq_some_iff.1 h2).1;simpa using this
    have he0:es0[j0]=e:=by simpa[hj0] using h2
    obtain⟨j,hjl,hje⟩:=List.getElem_of_mem (hp.mem_iff.2 (List.mem_of_getElem? h2))
    have hj:j<es.size:=by simpa using hjl
    have he:es[j]=e:=by simpa using hje
    obtain⟨q,v,g1,g2,g3,g4,-⟩:=hent j hj
    rw[he,h3] at g4
    have:q=key:=keyV_inj g4 hk1
    subst this
    exact .inr ⟨j,j0,v,hj,hj0,by rw[he];exact h1,he0.trans he.symm,by rw[he];exact h3,g1,g3⟩
theorem zh0{e:TypeId}{z:PV}(h:zgn P e z) (w:World):∃v,(zeroValue e).run P w=.ok v w∧Rep D μ F w z v:=by
  obtain⟨i,v,h1,h2,h3,_,_⟩:=h
  exact⟨v,by simp[zeroValue,typeInfo,h1,h2],h3▸pvOf_rep v⟩
def zjo (c:Bool) (res:Option PV) (z:PV):PV:=bif c then .tup [res.getD z,.atom (.bool res.isSome)] else res.getD z
theorem zfp{c:Bool}{res:Option PV}{z:PV}{v:Value}(h:Rep D μ F w (res.getD z) v):Rep D μ F w (zjo c res z) (if c then .tuple #[v,.bool res.isSome] else v):=by
  cases c
  · exact h
  · refine .tup _ _ rfl fun i hi=>?_
    match i,hi with
    | 0,_=>simpa using h
    | 1,_=>simpa using Rep.atom _
theorem Sound.lookup{t k e:TypeId}{x y:Operand}{c:Bool}{S:St}{i:Nat}{o:AO}{z:PV}{res:Option PV}(hx:S.ev x=.mp i) (ho:S.obj i=some o) (ht:tMap P t=some (k,e)) (K:Maps.Keyed P k) (hz:zgn P e z) (hg:MapGet P k o.els (S.ev y) res):
    Sound P (.lookup t x y c) S (zjo c res z) ⟨[],[],[],[i]⟩:=Sound.quiet fun op a w0 F0 D μ F H w hop hH hxs hr=>by
  have hp:=hxs x (by simp[Op.operands])
  have hq:=hxs y (by simp[Op.operands])
  rw[hx] at hp
  have hi:H i=some o:=(hr i (by simp)).trans ho
  generalize he:a.eval x=u at hp
  obtain⟨kv,kl,k1,k2⟩:=hg.good
  have hkv:=zc8 hq k1
  cases hp with
  | mp _ b hD hb hkd=>
    obtain⟨es,ck,⟨es0,a1,hpm⟩,a2,a3,a4⟩:=hH.mapOk hi hb hkd
    obtain⟨zv,z1,z2⟩:=zh0 (D:=D) (μ:=μ) (F:=F) hz w
    rcases zh8 K hg.all k1 k2 a3 a4 hpm w with ⟨h1,h2,h3⟩|⟨j,j0,v,hj,hj0,h1,h0,h2,h3,h4⟩
    · have hn:res=none:=by
        cases hres:res with
        | none=>rfl
        | some v=>have:=hg.out;rw[hres] at this;exact(h3 v this).elim
      subst hn
      refine⟨if c then .tuple #[zv,.bool false] else zv,?_,zfp (res:=none) z2⟩
      unfold execOp
      cases c<;>simp[hop,he,hkv,Instr.lookup,run_underlying (zcT ht),MapKept.run_getObj_map a1,K.check w _ k2,h1,z1,Result.andThen]
    · have hn:res=some v:=by
        cases hres:res with
        | none=>have:=hg.out;rw[hres] at this;exact(this v (List.mem_of_getElem? h3)).elim
        | some v'=>
          have:=hg.out;rw[hres] at this
          obtain⟨j2,hj2,e2⟩:=List.getElem_of_mem this
          have hj2':j2<es.size:=by omega
          have h5:=a4 j2 hj2
          rw[e2] at h5
          have h6:=zc8 (zgU hj2' h5).1 k1
          have h7:=a2.2.2 j j2 hj hj2' (h2.trans h6.symm)
          subst h7
          rw[List.getElem?_eq_getElem hj2,e2] at h3
          cases h3;rfl
      subst hn
      refine⟨if c then .tuple #[es[j].val,.bool true] else es[j].val,?_,zfp (res:=some v) h4⟩
      unfold execOp
      cases c<;>simp[hop,he,hkv,Instr.lookup,run_underlying (zcT ht),MapKept.run_getObj_map a1,K.check w _ k2,h1,Result.andThen]
theorem Sound.lookupF{t k e:TypeId}{x y:Operand}{c:Bool}{S:St}{l:List PV}{z:PV}{res:Option PV}(hx:S.ev x=.fmp l) (ht:tMap P t=some (k,e)) (K:Maps.Keyed P k) (hz:zgn P e z) (hg:MapGet P k l (S.ev y) res):
    Sound P (.lookup t x y c) S (zjo c res z) e0:=Sound.quiet fun op a w0 F0 D μ F H w hop hH hxs hr=>by
  have hp:=hxs x (by simp[Op.operands])
  have hq:=hxs y (by simp[Op.operands])
  rw[hx] at hp
  generalize he:a.eval x=u at hp
  obtain⟨kv,kl,k1,k2⟩:=hg.good
  have hkv:=zc8 hq k1
  cases hp with
  | fmp _ b es ck hF hm a2 a3 a4=>
    obtain⟨es0,a1,hpm⟩:=hm
    obtain⟨zv,z1,z2⟩:=zh0 (D:=D) (μ:=μ) (F:=F) hz w
    rcases zh8 K hg.all k1 k2 a3 a4 hpm w with ⟨h1,h2,h3⟩|⟨j,j0,v,hj,hj0,h1,h0,h2,h3,h4⟩
    · have hn:res=none:=by
        cases hres:res with
        | none=>rfl
        | some v=>have:=hg.out;rw[hres] at this;exact(h3 v this).elim
      subst hn
      refine⟨if c then .tuple #[zv,.bool false] else zv,?_,zfp (res:=none) z2⟩
      unfold execOp
      cases c<;>simp[hop,he,hkv,Instr.lookup,run_underlying (zcT ht),MapKept.run_getObj_map a1,K.check w _ k2,h1,z1,Result.andThen]
    · have hn:res=some v:=by
        cases hres:res with
        | none=>have:=hg.out;rw[hres] at this;exact(this v (List.mem_of_getElem? h3)).elim
        | some v'=>
          have:=hg.out;rw[hres] at this
          obtain⟨j2,hj2,e2⟩:=List.getElem_of_mem this
          have hj2':j2<es.size:=by omega
          have h5:=a4 j2 hj2
          rw[e2] at h5
          have h6:=zc8 (zgU hj2' h5).1 k1
          have h7:=a2.2.2 j j2 hj hj2' (h2.trans h6.symm)
          subst h7
          rw[List.getElem?_eq_getElem hj2,e2] at h3
          cases h3;rfl
      subst hn
      refine⟨if c then .tuple #[es[j].val,.bool true] else es[j].val,?_,zfp (res:=some v) h4⟩
      unfold execOp
      cases c<;>simp[hop,he,hkv,Instr.lookup,run_underlying (zcT ht),MapKept.run_getObj_map a1,K.check w _ k2,h1,Result.andThen]
theorem Sound.lookupN{t k e:TypeId}{x y:Operand}{c:Bool}{S:St}{z:PV}(hx:S.ev x=.atom (.map none)) (ht:tMap P t=some (k,e)) (K:Maps.Keyed P k) (hz:zgn P e z) (hg:zeg P k (S.ev y)):
    Sound P (.lookup t x y c) S (zjo c none z) e0:=Sound.quiet fun op a w0 F0 D μ F H w hop hH hxs hr=>by
  have hp:=hxs x (by simp[Op.operands])
  have hq:=hxs y (by simp[Op.operands])
  rw[hx] at hp
  have he:=zcV hp
  obtain⟨kv,kl,k1,k2⟩:=hg
  have hkv:=zc8 hq k1
  obtain⟨zv,z1,z2⟩:=zh0 (D:=D) (μ:=μ) (F:=F) hz w
  rcases K.find w k2 [] (fun e he=>by cases he) with ⟨h1,-⟩|⟨j,e',-,h2,-⟩
  · refine⟨if c then .tuple #[zv,.bool false] else zv,?_,zfp (res:=none) z2⟩
    unfold execOp
    cases c<;>simp[hop,he,hkv,Instr.lookup,run_underlying (zcT ht),K.check w _ k2,h1,z1,Result.andThen]
  · simp at h2
theorem Sound.makeMap{t:TypeId}{S:St}:Sound P (.makeMap t none) S (.mp S.nx) ⟨[⟨0,[]⟩],[],[],[]⟩:=
  Sound.makes fun o a w0 F0 D μ F H w ho hH hxs hr hD=>by
    have hb:Bel w (w.alloc (.map #[] 0)):=Bel.alloc w _
    have hnew:(w.alloc (.map #[] 0)).heap[w.heap.size]? = some (.map #[] 0):=heap_alloc_new w _
    have hS:=hH.add S.nx hD ⟨0,[]⟩ (some w.heap.size) (Stay.below hb.1) (hH.ext.trans hb) hb.size (.inr (.inl ⟨#[],0,⟨#[],hnew,List.Perm.refl _⟩,⟨fun i hi=>(by simp at hi),fun i j hi=>(by simp at hi),fun i j hi=>(by simp at hi)⟩,rfl,fun j hj=>(by simp at hj)⟩))
      (fun b hbe=>by
        cases hbe
        refine⟨.inl hH.ext.size,fun hF=>absurd (hH.fsz _ hF) (Nat.lt_irrefl _),fun j o' hj e=>absurd (hH.ok hj e).lt (Nat.lt_irrefl _)⟩)
      (fun j o' b hj hjb=>hb.block _ (hH.ok hj hjb).lt)
    refine⟨.map (some w.heap.size),_,some w.heap.size,?_,.mp _ _ (.inr rfl) (zbg _ _ _) ⟨_,_,hnew⟩,hS,Stay.below hb.1⟩
    unfold execOp
    simp[ho,Instr.makeMap,newObj]
    rfl
def putB (w:World) (b:Nat) (o:Obj):World:={ w with heap:=w.heap.setIfInBounds b o }
theorem zgC{b:Nat}(h:b<w.heap.size) (o:Obj):(putB w b o).heap[b]? = some o:=by simp[putB,h]
theorem zco{b c:Nat}(o:Obj) (h:c≠b):(putB w b o).heap[c]? = w.heap[c]? := by simp[putB,Array.getElem?_setIfInBounds_ne (Ne.symm h)]
theorem zhr{b:Nat}(es:Array MapEntry) (ck:Nat) (hm:isMap w b) (c:Nat):zbS w c=zbS (putB w b (.map es ck)) c:=by
  by_cases h:c=b
  · subst h
    obtain⟨es',ck',h1⟩:=hm
    simp[zbS,h1,zgC (zdJ h1)]
  · exact(zge (zco _ h)).symm
theorem zi8{b:Nat}(es:Array MapEntry) (ck:Nat) (hm:isMap w b) (c:Nat):Kind w (putB w b (.map es ck)) c:=by
  by_cases h:c=b
  · subst h;exact Kind.maps' hm ⟨_,_,zgC hm.lt _⟩
  · exact Kind.same (zco _ h)
theorem zqu{b:Nat}(es:Array MapEntry) (ck:Nat) (hm:isMap w b) (hF:¬F b):Stay F w (putB w b (.map es ck)):=
  Stay.of_block b hF (Nat.le_of_eq (zhr es ck hm b)) (zi8 es ck hm b) fun c _ hc=>zco _ hc
theorem putB_ext{B:Home}{b:Nat}(es:Array MapEntry) (ck:Nat) (hm:isMap w b) (h:Ext B w) (hb:B.own b):Ext B (putB w b (.map es ck)):=by
  refine⟨h.os,h.tape,h.output,by simpa[putB] using h.size,fun k hk hM=>?_,fun c=>(h.kind c).trans (zi8 es ck hm c),fun c=>by rw[←zhr es ck hm c];exact h.sizes c,h.drawn⟩
  rw[zco _ (by rintro rfl;exact hb.elim (fun h=>by omega) hM)]
  exact h.block k hk hM
theorem HeapSim.putMap (h:HeapSim w0 F0 D μ F H w) {i b:Nat}{o0 o:AO}(hi:H i=some o0) (hib:μ i=some b) (hm:isMap w b) (es es0:Array MapEntry) (hpm:es.toList.Perm es0.toList) (ck:Nat) (hw:zeN es ck) (hs:es.size=o.els.length)
    (hr:∀j (h:j<o.els.length),Rep D μ F w o.els[j] (entV es j)):HeapSim w0 F0 D μ F (upd H i (some o)) (putB w b (.map es0 ck))∧Stay F w (putB w b (.map es0 ck)):=by
  obtain⟨hB,hF⟩:=h.own i o0 b hi hib
  have hst:=zqu (F:=F) es0 ck hm hF
  exact⟨h.set i o0 b hi hib o hst (putB_ext es0 ck hm h.ext hB) (by simp[putB]) (.inr (.inl ⟨es,ck,⟨es0,zgC hm.lt _,hpm⟩,hw,hs,fun j hj=>(hr j hj).stay hst (fun _ h=>⟨h,rfl⟩) (fun _ h=>h)⟩)) (fun c _ hc=>zco _ hc),hst⟩
theorem born_put{es:Array MapEntry}{ck j:Nat}(h:zeN es ck) (hj:j<es.size) (v:Value) {k:Value}(hk:es[j].key=k):zeN (es.modify j fun e=>{ e with key:=k,val:=v }) ck:=by
  have hb:∀i (hi:i<(es.modify j fun e=>{ e with key:=k,val:=v }).size),((es.modify j fun e=>{ e with key:=k,val:=v })[i]).born=(es[i]'(by simpa using hi)).born∧((es.modify j fun e=>{ e with key:=k,val:=v })[i]).key=(es[i]'(by simpa using hi)).key:=fun i hi=>by
    rw[Array.getElem_modify]
    split
    · rename_i e;subst e;exact⟨rfl,hk.symm⟩
    · exact⟨rfl,rfl⟩
  refine⟨fun i hi=>?_,fun i i2 hi hi2 e=>?_,fun i i2 hi hi2 e=>?_⟩
  · rw[(hb i hi).1];exact h.1 i _
  · rw[(hb i hi).1,(hb i2 hi2).1] at e;exact h.2.1 i i2 _ _ e
  · rw[(hb i hi).2,(hb i2 hi2).2] at e;exact h.2.2 i i2 _ _ e
theorem zru{es:Array MapEntry}{ck:Nat}(h:zeN es ck) {k v:Value}(hk:∀e∈es.toList,e.key≠k):zeN (es.push ⟨k,v,ck⟩) (ck+1):=by
  have hlt:∀i (hi:i<es.size),(es.push ⟨k,v,ck⟩)[i]'(by simp;omega)=es[i]:=fun i hi=>by rw[Array.getElem_push_lt hi]
  have hlast:(es.push ⟨k,v,ck⟩)[es.size]'(by simp)=⟨k,v,ck⟩:=by simp
  have hcase:∀i,i<(es.push (⟨k,v,ck⟩:MapEntry)).size→i<es.size∨i=es.size:=fun i hi=>by simp at hi;omega
  refine⟨fun i hi=>?_,fun i j hi hj e=>?_,fun i j hi hj e=>?_⟩
  · rcases hcase i hi with g|rfl
    · rw[hlt i g];have:=h.1 i g;omega
    · rw[hlast];exact Nat.lt_succ_self _
  · rcases hcase i hi with g|rfl<;>rcases hcase j hj with g2|rfl
    · rw[hlt i g,hlt j g2] at e;exact h.2.1 i j g g2 e
    · rw[hlt i g,hlast] at e;have:=h.1 i g;simp at e;omega
    · rw[hlt j g2,hlast] at e;have:=h.1 j g2;simp at e;omega
    · rfl
  · rcases hcase i hi with g|rfl<;>rcases hcase j hj with g2|rfl
    · rw[hlt i g,hlt j g2] at e;exact h.2.2 i j g g2 e
    · rw[hlt i g,hlast] at e;exact absurd e (hk _ (by simp))
    · rw[hlt j g2,hlast] at e;exact absurd e.symm (hk _ (by simp))
    · rfl
theorem perm_set{α:Type}{l m:List α}(h:l.Perm m) {i j:Nat}(hi:i<l.length) (hj:j<m.length) (e:m[j]=l[i]) (x:α):(l.set i x).Perm (m.set j x):=by
  have h1:∀(l:List α) (i:Nat) (hi:i<l.length),l.Perm (l[i] :: l.eraseIdx i)∧(l.set i x).Perm (x :: l.eraseIdx i):=by
    intro l
    induction l with
    | nil=>intro i hi;simp at hi
    | cons y r ih=>
      intro i hi
      cases i with
      | zero=>exact⟨List.Perm.refl _,List.Perm.refl _⟩
      | succ i=>
        obtain⟨g1,g2⟩:=ih i (by simpa using hi)
        exact⟨by simpa using (g1.cons y).trans (List.Perm.swap _ _ _),by simpa using (g2.cons y).trans (List.Perm.swap _ _ _)⟩
  obtain⟨a1,a2⟩:=h1 l i hi
  obtain⟨b1,b2⟩:=h1 m j hj
  have h2:(l[i] :: l.eraseIdx i).Perm (l[i] :: m.eraseIdx j):=by rw[←e] at *;exact a1.symm.trans (h.trans b1)
  exact a2.trans (((List.perm_cons _).1 h2).cons x |>.trans b2.symm)
theorem zkY{es es0:Array MapEntry}(h:es.toList.Perm es0.toList) {i j:Nat}(hi:i<es.size) (hj:j<es0.size) (e:es0[j]=es[i]) (f:MapEntry→MapEntry):(es.modify i f).toList.Perm (es0.modify j f).toList:=by
  have h1:∀(es:Array MapEntry) (i:Nat) (hi:i<es.size),(es.modify i f).toList=es.toList.set i (f es[i]):=fun es i hi=>by
    apply List.ext_getElem?
    intro k
    rw[Array.getElem?_toList,Array.getElem?_modify,List.getElem?_set]
    by_cases hk:i=k
    · subst hk;simp[hi]
    · simp[hk]
  rw[h1 es i hi,h1 es0 j hj,e]
  exact perm_set h (by simpa using hi) (by simpa using hj) (by simpa using e) _
theorem Sound.mapUpdate{t k e:TypeId}{x y u:Operand}{S:St}{i:Nat}{o:AO}{els':List PV}(hx:S.ev x=.mp i) (ho:S.obj i=some o) (ht:tMap P t=some (k,e)) (K:Maps.Keyed P k) (hg:MapPut P k o.els (S.ev y) (S.ev u) els'):
    Sound P (.mapUpdate t x y u) S .junk ⟨[],[],[(i,⟨o.sz,els'⟩)],[i]⟩:=by
  intro op a w0 F0 D μ F H w hop hH hxs hr _ next Q hn
  have hp:=hxs x (by simp[Op.operands])
  have hq:=hxs y (by simp[Op.operands])
  have hu:=hxs u (by simp[Op.operands])
  rw[hx] at hp
  have hi:H i=some o:=(hr i (by simp)).trans ho
  generalize he:a.eval x=ax at hp
  obtain⟨kv,kl,k1,k2⟩:=hg.good
  have hkv:=zc8 hq k1
  rw[hkv] at hq
  cases hp with
  | mp _ b hD hb hkd=>
    obtain⟨es,ck,⟨es0,a1,hpm⟩,a2,a3,a4⟩:=hH.mapOk hi hb hkd
    have done:∀(es' es1:Array MapEntry) (ck':Nat),es'.toList.Perm es1.toList→(execOp a.eval op).run P w=.ok .skip (putB w b (.map es1 ck'))→zeN es' ck'→es'.size=els'.length→(∀j (h:j<els'.length),Rep D μ F w els'[j] (entV es' j))→op.wp P a w next Q:=fun es' es1 ck' hpm hrun hw hs hrep=>by
      obtain⟨hS,hst⟩:=hH.putMap (o:=⟨o.sz,els'⟩) hi hb hkd es' es1 hpm ck' hw hs hrep
      unfold Oper.wp
      rw[hrun]
      exact hn undef _ D μ F (.junk _) (by rw[Eff.app_set];exact hS) hst (fun _ h=>⟨h,rfl⟩) (fun _ h=>h) (fun _ h=>.inl h)
    rcases zh8 K hg.all k1 k2 a3 a4 hpm w with ⟨h1,h2,h3⟩|⟨j,j0,v,hj,hj0,h1,h0,h2,h3,h4⟩
    · rcases hg.out with ⟨j,v,g1,_⟩|⟨_,g2⟩
      · exact absurd (List.mem_of_getElem? g1) (h3 v)
      · subst g2
        refine done (es.push ⟨kv,a.eval u,ck⟩) (es0.push ⟨kv,a.eval u,ck⟩) (ck+1) (by simpa using hpm.append_right _) ?_ (zru a2 h2) (by simp[a3]) fun j hj=>?_
        · unfold execOp
          simp[hop,he,hkv,Instr.mapUpdate,run_underlying (zcT ht),MapKept.run_getObj_map a1,K.check w _ k2,h1,MapKept.run_setObj_map _ a1,Result.andThen,putB]
        · have hc:j<o.els.length∨j=o.els.length:=by simp at hj;omega
          rcases hc with g|g
          · rw[List.getElem_append_left g]
            have hje:j<es.size:=by omega
            have:=a4 j g
            unfold entV at this ⊢
            have e1:(es.push ⟨kv,a.eval u,ck⟩).getD j default=es.getD j default:=by simp[Array.getD_eq_getD_getElem?,Array.getElem?_push,hje,Nat.ne_of_lt hje]
            rw[e1];exact this
          · subst g
            rw[List.getElem_append_right (Nat.le_refl _)]
            simp only[Nat.sub_self,List.getElem_cons_zero]
            have e1:entV (es.push ⟨kv,a.eval u,ck⟩) o.els.length=.tuple #[kv,a.eval u]:=by
              unfold entV
              rw[←a3];simp[Array.getD_eq_getD_getElem?]
            rw[e1]
            exact ent_mk (x:=⟨kv,a.eval u,ck⟩) hq hu
    · have hmem:PV.tup [S.ev y,v]∈o.els:=List.mem_of_getElem? h3
      rcases hg.out with ⟨j2,v2,g1,g2⟩|⟨g1,_⟩
      · have hj2:j2<o.els.length:=(List.getElem?_eq_some_iff.1 g1).1
        have hj2':j2<es.size:=by omega
        have h5:=a4 j2 hj2
        rw[List.getElem?_eq_getElem hj2] at g1
        rw[Option.some.inj g1] at h5
        have h6:=zc8 (zgU hj2' h5).1 k1
        have h7:=a2.2.2 j j2 hj hj2' (h2.trans h6.symm)
        subst h7
        subst g2
        refine done (es.modify j fun e=>{ e with key:=kv,val:=a.eval u }) (es0.modify j0 fun e=>{ e with key:=kv,val:=a.eval u }) ck (zkY hpm hj hj0 h0 _) ?_ (born_put a2 hj _ h2) (by simp[a3]) fun j2 hj2=>?_
        · unfold execOp
          simp[hop,he,hkv,Instr.mapUpdate,run_underlying (zcT ht),MapKept.run_getObj_map a1,K.check w _ k2,h1,hj0,h0,h2,K.stays w k2,MapKept.run_setObj_map _ a1,Result.andThen,putB]
        · have hj2':j2<o.els.length:=by simpa using hj2
          have hje:j2<es.size:=by omega
          by_cases e:j=j2
          · subst e
            rw[List.getElem_set_self]
            have e2:(es.modify j fun e=>{ e with key:=kv,val:=a.eval u }).getD j default={ es[j] with key:=kv,val:=a.eval u }:=by
              rw[Array.getD_eq_getD_getElem?,Array.getElem?_modify,if_pos rfl,Array.getElem?_eq_getElem hj];rfl
            have e1:entV (es.modify j fun e=>{ e with key:=kv,val:=a.eval u }) j=.tuple #[kv,a.eval u]:=by
              unfold entV
              rw[e2]
            rw[e1]
            exact ent_mk (x:=⟨kv,a.eval u,ck⟩) hq hu
          · rw[List.getElem_set_ne e]
            have:=a4 j2 hj2'
            unfold entV at this ⊢
            have e1:(es.modify j fun e=>{ e with key:=kv,val:=a.eval u }).getD j2 default=es.getD j2 default:=by simp[Array.getD_eq_getD_getElem?,Array.getElem?_modify,e]
            rw[e1];exact this
      · exact absurd hmem (g1 v)
theorem Sound.lenMap{t k e:TypeId}{x:Operand}{S:St}{i:Nat}{o:AO}(hx:S.ev x=.mp i) (ho:S.obj i=some o) (ht:tMap P t=some (k,e)):Sound P (.call ⟨.builtin .len,#[x],#[t]⟩) S (.atom (.int .i64 o.els.length)) ⟨[],[],[],[i]⟩:=Sound.quiet fun op a w0 F0 D μ F H w hop hH hxs hr=>by
  have hp:=hxs x (by simp[Op.operands,Call.operands])
  rw[hx] at hp
  have hi:H i=some o:=(hr i (by simp)).trans ho
  generalize he:a.eval x=u at hp
  cases hp with
  | mp _ b hD hb hkd=>
    obtain⟨es,ck,⟨es0,a1,hpm⟩,a2,a3,a4⟩:=hH.mapOk hi hb hkd
    have hsz:=hpm.length_eq
    rw[Array.length_toList,Array.length_toList,a3] at hsz
    refine⟨_,?_,.atom _⟩
    unfold execOp
    simp[hop,resolve,invoke,builtin,he,Builtin.len_,run_underlying (zcT ht),MapKept.run_getObj_map a1,goInt,hsz,Result.andThen]
theorem Sound.lenMapF{t k e:TypeId}{x:Operand}{S:St}{l:List PV}(hx:S.ev x=.fmp l) (ht:tMap P t=some (k,e)):Sound P (.call ⟨.builtin .len,#[x],#[t]⟩) S (.atom (.int .i64 l.length)) e0:=Sound.quiet fun op a w0 F0 D μ F H w hop hH hxs hr=>by
  have hp:=hxs x (by simp[Op.operands,Call.operands])
  rw[hx] at hp
  generalize he:a.eval x=u at hp
  cases hp with
  | fmp _ b es ck hF hm a2 a3 a4=>
    obtain⟨es0,a1,hpm⟩:=hm
    have hsz:=hpm.length_eq
    rw[Array.length_toList,Array.length_toList,a3] at hsz
    refine⟨_,?_,.atom _⟩
    unfold execOp
    simp[hop,resolve,invoke,builtin,he,Builtin.len_,run_underlying (zcT ht),MapKept.run_getObj_map a1,goInt,hsz,Result.andThen]
theorem Sound.lenMapN{t k e:TypeId}{x:Operand}{S:St}(hx:S.ev x=.atom (.map none)) (ht:tMap P t=some (k,e)):Sound P (.call ⟨.builtin .len,#[x],#[t]⟩) S (.atom (.int .i64 0)) e0:=Sound.quiet fun op a w0 F0 D μ F H w hop hH hxs hr=>by
  have hp:=hxs x (by simp[Op.operands,Call.operands])
  rw[hx] at hp
  have he:=zcV hp
  refine⟨_,?_,.atom _⟩
  unfold execOp
  simp[hop,resolve,invoke,builtin,he,Builtin.len_,run_underlying (zcT ht),goInt]
end
end Go.Proofs.Ytehoglapajkabaa
