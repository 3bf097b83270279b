/-
  From the row's reading of the arguments to plain values,and back from a contract to the row's post.
-/
import Derived.Test.YtehoglapajkabaaGreatPM0
import Derived.ProofKit
import Derived.SliceStrings
import Derived.Deep.Slices
import Derived.OpenShut
import Derived.Lib.SmallJoins
import Derived.SizedLaws
import Derived.Test.YtehoglapajkabaaGreatPM30
import Derived.Test.YtehoglapajkabaaGreatPM20
set_option linter.all false
namespace Go.Proofs.YtehoglapajkabaaGreat
open Go Go.RowKit Go.ChangeShapes Go.WideShapes Go.ChangeAt Go.Deep
section
variable {H:Type} {enc:TypeId×Value→H} {P:Program} {W:World} {sp:Nat→Bool} {held:Bool}
def oldF (W:World):Nat→Prop:=fun b=>b<W.heap.size
def IsPv (W:World) (p:PV) (v:Value):Prop:=∀(D:Nat→Prop) (μ:Nat→Option Nat),Rep D μ (oldF W) W p v
theorem IsPv.atom (W:World) (v:Value):IsPv W (.atom v) v:=fun _ _=>.atom v
theorem spot_of{t e:TypeId}{base len cap:Nat}{a:Addr}(ht:P.underlying t=some (.slice e)) (h:Value.okWide P W .any base t (.slice (some a) len cap)):a.spot=none:=by
  simp only[Value.okWide,ht,Cell.okWide,Cell.ok] at h
  exact h.2.2.2.1
theorem zmu (W:World) (sz:Nat):IsPv W (.sl sz []) (.slice none 0 0):=fun _ _=>.sl0 sz none 0 (Nat.zero_le _) (fun _=>rfl) (fun x hx=>by cases hx)
theorem zmt{W:World}{sz:Nat}{l:List PV}{a:Addr}{len cap:Nat}(hs:a.spot=none) (hl:l.length=len) (hlc:len≤cap) (hc:cap≤maxLen) (hsz:0<sz) (g:Nat→Value) (hg:∀j,j<len * sz→W.cell? ⟨a.block,a.off+j,none⟩=some (g j))
    (h1:∀k (h:k<l.length),l[k].cells.length=sz) (h2:∀k (h:k<l.length) c (hc:c<l[k].cells.length),l[k].cells[c]=.atom (g (k * sz+c))):IsPv W (.sl sz l) (.slice (some a) len cap):=fun D μ=>by
  subst hl
  obtain⟨b,off,spot⟩:=a
  simp only at hs hg
  subst hs
  by_cases h0:l=[]
  · subst h0
    exact .sl0 sz _ cap hc (fun h=>by cases h) (fun x hx=>by cases hx;rfl)
  · have hpos:0<l.length:=List.length_pos_iff.2 h0
    have hlt:b<W.heap.size:=World.block_lt_of_cell? W _ (hg 0 (Nat.mul_pos hpos hsz))
    exact .sl sz l b off cap g hlt hlc hc hg h1 (fun k h c hc=>by rw[h2 k h c hc];exact .atom _)
theorem ziO{a:Addr}(hs:a.spot=none) (n:Nat):a.add n=⟨a.block,a.off+n,none⟩:=by
  obtain⟨b,off,spot⟩:=a
  simp only at hs
  subst hs
  unfold Addr.add
  split<;>simp_all
theorem zf6{t e:TypeId}{v:Value}{d:DataW H}{ps:List MemPlace}(ht:P.underlying t=some (.slice e)) (he:P.underlying e=some (.int .i64)) (hc:P.cellsOf e=1)
    {b0:Nat} (hv:Value.okWide P W .any b0 t v) (h:DataW.Trod enc P W 0 sp held t v d ps):∃l:List Int,Fits l∧IsPv W (ints l) v:=by
  obtain⟨a0,len,cap,rfl⟩:=okWide_slice ht hv
  obtain⟨fuel,hf⟩:=h
  rcases open_ints ht he hc hf with ⟨hcs,hx⟩|⟨a,len',cap',zs,hcs,_,hl,hm,hz,hx,hcell,hwf⟩
  · simp[Value.cells] at hcs
    obtain⟨rfl,rfl,rfl⟩:=hcs
    exact⟨[],⟨fun x hx=>(by cases hx),by simp⟩,zmu W 1⟩
  · simp[Value.cells] at hcs
    obtain⟨rfl,rfl,rfl⟩:=hcs
    have hzl:len≤zs.length:=by rw[hz];split<;>omega
    have hs:=spot_of ht hv
    refine⟨zs.take len,⟨fun x hx=>?_,?_⟩,?_⟩
    · have:=hwf x (List.mem_of_mem_take hx)
      simpa[Lit.wf,IntKind.min,IntKind.max,IntKind.signed,IntKind.bits,I64] using this
    · have:maxLen=9223372036854775807:=by decide
      simp only[List.length_take];omega
    · refine zmt (sz:=1) hs (by simp;omega) hl hm Nat.one_pos (fun j=>.int .i64 (zs.getD j 0)) (fun j hj=>?_) (fun k hk=>by simp[encI,PV.cells]) (fun k hk c hcc=>?_)
      · have:=hcell j (by omega)
        rw[ziO hs] at this;exact this
      · have hk':k<len∧k<zs.length:=by have:=hk;simp at this;omega
        have e0:((zs.take len).map encI)[k]=encI (zs.getD k 0):=by simp[List.getD_eq_getElem?_getD,hk'.2]
        have e1:((zs.take len).map encI)[k].cells=[encI (zs.getD k 0)]:=by rw[e0];rfl
        have hc0:c=0:=by rw[e1] at hcc;simpa using hcc
        subst hc0
        rw[gl e1 hcc]
        simp[encI]
theorem Pure.calls{f:FuncId}{args:List PV}(h:Pure P f args (.atom (.bool true)) []) {vs:Array Value}(hl:vs.size=args.length) (hv:∀i (h:i<args.length),IsPv W args[i] (vs.getD i undef)):
    Calls P f vs W fun e W'=>e=.returned (.bool true)∧Below W.heap.size W W':=by
  refine(h.2 (fun _=>False) (fun _=>none) (oldF W) W vs hl (fun i hi=>hv i hi _ _) (fun b hb=>hb)).mono fun e W' ⟨v,he,hb,ν,F',hr,_⟩=>?_
  refine⟨?_,hb.toBelow⟩
  cases hr
  exact he
theorem Below.trods (hl:laidOutB P=true) {W':World}(hb:Below W.heap.size W W'):∀(ts:List TypeId) (vs:List Value) (ds:List (DataW H)) (ps:List MemPlace),(∀t,t∈ts→P.readableRec t=true∧t<P.types.size)→(∀x,x∈ps→x.block<W.heap.size)→
    DataW.TrodAll enc P W 0 (fun _=>true) true ts vs ds ps→DataW.TrodAll enc P W' 0 (fun b=>decide (b<W.heap.size)) true ts vs ds ps
  | [],[],[],ps,_,_,h=>h
  | t :: ts,v :: vs,d :: ds,ps,ht,hp,⟨p,q,h1,h2,e⟩=>by
    subst e
    exact⟨p,q,Below.trod hl (ht t (List.mem_cons_self ..)).1 (ht t (List.mem_cons_self ..)).2 h1 hb (fun x hx=>hp x (List.mem_append_left _ hx)),
      Below.trods hl hb ts vs ds q (fun t h=>ht t (List.mem_cons_of_mem _ h)) (fun x hx=>hp x (List.mem_append_right _ hx)) h2,rfl⟩
  | [],_ :: _,_,_,_,_,h=>h.elim
  | [],[],_ :: _,_,_,_,h=>h.elim
  | _ :: _,[],_,_,_,_,h=>h.elim
  | _ :: _,_ :: _,[],_,_,_,h=>h.elim
end
structure RawX (x:LexD):Prop where
  nforms:x.forms.length≤140737488355328
  nrules:x.rules.length≤140737488355328
  nprefs:x.prefs.length≤140737488355328
  forms:∀f,f∈x.forms→HeldF f
  rules:∀r,r∈x.rules→HeldR r
  prefs:∀p,p∈x.prefs→HeldA p
theorem RawX.held{x:LexD}(h:RawX x) (hn:(x.forms.length:Int)+x.rules.length+x.prefs.length≤70):HeldX x:=⟨by omega,by omega,by omega,h.forms,h.rules,h.prefs⟩
section
variable {H:Type} {enc:TypeId×Value→H} {P:Program} {W:World} {sp:Nat→Bool} {held:Bool}
theorem zeQ{e:TypeId}{p:Nat→Bool}:∀ {ds:List (DataW H)},(DataW.weightsAll P e ds).all p=true→∀d,d∈ds→(d.weights P e).all p=true
  | [],_,d,hd=>by cases hd
  | x :: ds,h,d,hd=>by
    simp only[DataW.weightsAll,List.all_append,Bool.and_eq_true] at h
    rcases List.mem_cons.1 hd with rfl|hd
    · exact h.1
    · exact zeQ h.2 d hd
def ziP (cs:List Value) (p:PV) (n:Nat):Prop:=p.cells.length=n∧∀c,c<n→∃v,cs[c]? = some v∧p.cells[c]? = some (.atom v)
theorem ze0{t e:TypeId}{n:Nat}{v:Value}{d:DataW H}{ps:List MemPlace}{fuel:Nat}{α:Type} [Inhabited α] (en:α→PV) (Q:α→Prop) (ht:P.underlying t=some (.slice e)) (hc:P.cellsOf e=n) (hn:0<n) (hb:0<P.bytesOf e)
    (hel:∀(f:Nat) (cs:List Value) (d:DataW H) (ps:List MemPlace),DataW.trod enc P W 0 sp held f e cs=some (d,ps)→(d.weights P e).all (·≤reachBytes)=true→∃a,Q a∧ziP cs (en a) n)
    (hs:∀a len cap,v=.slice (some a) len cap→a.spot=none) (h:DataW.trod enc P W 0 sp held fuel t [v]=some (d,ps)) (hw:(d.weights P t).all (·≤reachBytes)=true):
    ∃l:List α,(∀a,a∈l→Q a)∧l.length≤140737488355328∧IsPv W (.sl n (l.map en)) v:=by
  have hR:reachBytes=140737488351232:=by decide
  rcases open_slice ht h with ⟨hcs,hx⟩|⟨a,len,cap,m,n',D,Pl,hcs,_,hl,hm,hz,hx,hall⟩
  · simp only[List.cons.injEq,and_true] at hcs
    subst hcs
    exact⟨[],fun a ha=>(by cases ha),by simp,zmu W n⟩
  · simp only[List.cons.injEq,and_true] at hcs
    subst hcs
    simp only[Prod.mk.injEq] at hx
    obtain⟨rfl,_⟩:=hx
    have hsa:=hs a len cap rfl
    have hml:len≤m:=by rw[hz];split<;>omega
    simp only[DataW.weights,ht,List.all_cons,List.all_append,Bool.and_eq_true,decide_eq_true_eq] at hw
    obtain⟨hw1,hw2,_⟩:=hw
    have hlen:len≤140737488355328:=by
      have h1:len * 1≤len * P.bytesOf e:=Nat.mul_le_mul_left _ hb
      have h2:len * P.bytesOf e≤(((List.range len).map D).length+((List.range (m - len)).map fun j=>D (len+j)).length) * P.bytesOf e:=Nat.mul_le_mul_right _ (by simp)
      omega
    have each:∀i,i<len→∃x:α,Q x∧(en x).cells.length=n∧∀c,c<n→∃u,W.cell? ⟨a.block,a.off+(i * n+c),none⟩=some u∧(en x).cells[c]? = some (.atom u):=fun i hi=>by
      obtain⟨cs',h1,h2⟩:=hall i (by omega)
      obtain⟨x,hq,hlx,hcx⟩:=hel _ cs' _ _ h2 (zeQ hw2 _ (List.mem_map.2 ⟨i,List.mem_range.2 hi,rfl⟩))
      rw[hc] at h1
      obtain⟨_,hlen',hcell⟩:=World.cells?_some h1
      refine⟨x,hq,hlx,fun c hcn=>?_⟩
      obtain⟨u,hu1,hu2⟩:=hcx c hcn
      refine⟨u,?_,hu2⟩
      have:=hcell c hcn
      rw[hu1,ziO hsa,ziO rfl] at this
      rw[←this]
      simp only[Nat.add_assoc]
    let X:Nat→α:=fun i=>if h:i<len then (each i h).choose else default
    have hX:∀i,i<len→Q (X i)∧(en (X i)).cells.length=n∧∀c,c<n→∃u,W.cell? ⟨a.block,a.off+(i * n+c),none⟩=some u∧(en (X i)).cells[c]? = some (.atom u):=fun i hi=>by
      have e:X i=(each i hi).choose:=dif_pos hi
      rw[e];exact(each i hi).choose_spec
    refine⟨(List.range len).map X,fun y hy=>?_,by simpa using hlen,?_⟩
    · obtain⟨i,hi,rfl⟩:=List.mem_map.1 hy
      exact(hX i (List.mem_range.1 hi)).1
    · refine zmt (sz:=n) hsa (by simp) hl hm hn (fun j=>(W.cell? ⟨a.block,a.off+j,none⟩).getD undef) (fun j hj=>?_) (fun k hk=>?_) (fun k hk c hcc=>?_)
      · have hjn:j / n<len:=Nat.div_lt_of_lt_mul (by rw[Nat.mul_comm];exact hj)
        obtain⟨u,hu,_⟩:=(hX (j / n) hjn).2.2 (j % n) (Nat.mod_lt _ hn)
        rw[show j / n * n+j % n=j by rw[Nat.mul_comm];exact Nat.div_add_mod j n] at hu
        rw[hu];rfl
      · have hk':k<len:=by simpa using hk
        have e0:(((List.range len).map X).map en)[k]=en (X k):=by simp
        rw[e0];exact(hX k hk').2.1
      · have hk':k<len:=by simpa using hk
        have e0:(((List.range len).map X).map en)[k]=en (X k):=by simp
        have e1:(((List.range len).map X).map en)[k].cells=(en (X k)).cells:=by rw[e0]
        have hcn:c<n:=by rw[e1,(hX k hk').2.1] at hcc;exact hcc
        obtain⟨u,hu,hu2⟩:=(hX k hk').2.2 c hcn
        rw[gl e1 hcc,hu]
        rw[List.getElem?_eq_getElem (by rw[(hX k hk').2.1];exact hcn)] at hu2
        exact Option.some.inj hu2
theorem zcO{cs:List Value}{k:Nat}{v:Value}(h:(cs.drop k).take 1=[v]):cs[k]? = some v:=by
  have hk:k<cs.length:=by
    rcases Nat.lt_or_ge k cs.length with h1|h1
    · exact h1
    · rw[List.drop_eq_nil_of_le h1] at h;cases h
  rw[List.drop_eq_getElem_cons hk,List.take_succ_cons,List.take_zero,List.cons.injEq] at h
  rw[List.getElem?_eq_getElem hk,h.1]
theorem zjY{e:TypeId}{f0 f1 f2:Field}(he:P.underlying e=some (.struct #[f0,f1,f2])) (hone:oneCellFields P #[f0,f1,f2]=true) (hs0:P.underlying f0.type=some .string) (hs1:P.underlying f1.type=some .string) (hs2:P.underlying f2.type=some .string)
    (f:Nat) (cs:List Value) (d:DataW H) (ps:List MemPlace) (h:DataW.trod enc P W 0 sp held f e cs=some (d,ps)) (hw:(d.weights P e).all (·≤reachBytes)=true):
    ∃a b c:ByteArray,(a.size≤140737488355328∧b.size≤140737488355328∧c.size≤140737488355328)∧ziP cs (.agg [encS a,encS b,encS c]) 3:=by
  have hR:reachBytes=140737488351232:=by decide
  obtain⟨y0,y1,y2,n,hx,_,h0,h1,h2⟩:=trod_struct3 he h
  obtain⟨o0,k0⟩:=hone_of hone 0 f0 rfl
  obtain⟨o1,k1⟩:=hone_of hone 1 f1 rfl
  obtain⟨o2,k2⟩:=hone_of hone 2 f2 rfl
  rw[o0,k0] at h0
  rw[o1,k1] at h1
  rw[o2,k2] at h2
  obtain⟨a,ea,rfl,_⟩:=DataW.trod_string hs0 h0
  obtain⟨b,eb,rfl,_⟩:=DataW.trod_string hs1 h1
  obtain⟨c,ec,rfl,_⟩:=DataW.trod_string hs2 h2
  simp only[Prod.mk.injEq] at hx
  obtain⟨rfl,_⟩:=hx
  simp only[DataW.weights,he,List.map_cons,List.map_nil,DataW.weightsEach,List.all_cons,List.all_append,List.all_nil,Bool.and_eq_true,Bool.and_true,decide_eq_true_eq] at hw
  refine⟨a,b,c,⟨by have:=hw.1;simp at this;omega,by have:=hw.2.1;simp at this;omega,by have:=hw.2.2;simp at this;omega⟩,rfl,fun k hk=>?_⟩
  match k,hk with
  | 0,_=>exact⟨_,zcO ea,rfl⟩
  | 1,_=>exact⟨_,zcO eb,rfl⟩
  | 2,_=>exact⟨_,zcO ec,rfl⟩
theorem zof{e:TypeId}{f0 f1 f2 f3:Field}(he:P.underlying e=some (.struct #[f0,f1,f2,f3])) (hone:oneCellFields P #[f0,f1,f2,f3]=true) (hs0:P.underlying f0.type=some .string) (hs1:P.underlying f1.type=some .string) (hs2:P.underlying f2.type=some .string) (hs3:P.underlying f3.type=some (.int .i64))
    (f:Nat) (cs:List Value) (d:DataW H) (ps:List MemPlace) (h:DataW.trod enc P W 0 sp held f e cs=some (d,ps)) (hw:(d.weights P e).all (·≤reachBytes)=true):
    ∃(a b c:ByteArray) (i:Int),(a.size≤140737488355328∧b.size≤140737488355328∧c.size≤140737488355328∧I64 i)∧ziP cs (.agg [encS a,encS b,encS c,encI i]) 4:=by
  have hR:reachBytes=140737488351232:=by decide
  obtain⟨y0,y1,y2,y3,n,hx,_,h0,h1,h2,h3⟩:=Go.Joins.trod_struct4 he h
  obtain⟨o0,k0⟩:=hone_of hone 0 f0 rfl
  obtain⟨o1,k1⟩:=hone_of hone 1 f1 rfl
  obtain⟨o2,k2⟩:=hone_of hone 2 f2 rfl
  obtain⟨o3,k3⟩:=hone_of hone 3 f3 rfl
  rw[o0,k0] at h0
  rw[o1,k1] at h1
  rw[o2,k2] at h2
  rw[o3,k3] at h3
  obtain⟨a,ea,rfl,_⟩:=DataW.trod_string hs0 h0
  obtain⟨b,eb,rfl,_⟩:=DataW.trod_string hs1 h1
  obtain⟨c,ec,rfl,_⟩:=DataW.trod_string hs2 h2
  obtain⟨i,ei,rfl,hi⟩:=DataW.trod_int hs3 h3
  simp only[Prod.mk.injEq] at hx
  obtain⟨rfl,_⟩:=hx
  simp only[DataW.weights,he,List.map_cons,List.map_nil,DataW.weightsEach,List.all_cons,List.all_append,List.all_nil,Bool.and_eq_true,Bool.and_true,decide_eq_true_eq] at hw
  refine⟨a,b,c,i,⟨by have:=hw.1;simp at this;omega,by have:=hw.2.1;simp at this;omega,by have:=hw.2.2;simp at this;omega,by simpa[Lit.wf,IntKind.min,IntKind.max,IntKind.signed,IntKind.bits,I64] using hi⟩,rfl,fun k hk=>?_⟩
  match k,hk with
  | 0,_=>exact⟨_,zcO ea,rfl⟩
  | 1,_=>exact⟨_,zcO eb,rfl⟩
  | 2,_=>exact⟨_,zcO ec,rfl⟩
  | 3,_=>exact⟨_,zcO ei,rfl⟩
instance:Inhabited FormD:=⟨noF⟩
instance:Inhabited RuleD:=⟨noR⟩
instance:Inhabited PrefD:=⟨noA⟩
theorem zk5{t u:TypeId}{cs:Array Value}{fs:Array Field}{base i:Nat}{ts:List TypeId}(ht:P.underlying t=some (.struct fs)) (hts:P.cellTypes P.depth t=some ts) (h:Value.okWide P W .any base t (.agg cs)) {v:Value}(hv:cs[i]? = some v) (hi:ts[i % ts.length]? = some u) {e:TypeId}(hu:P.underlying u=some (.slice e)):∀a len cap,v=.slice (some a) len cap→a.spot=none:=fun a len cap e1=>by
  subst e1
  simp only[Value.okWide,ht] at h
  obtain⟨cs',h1,_,ts',h3,_,h4⟩:=h
  obtain rfl:cs=cs':=by simpa using h1
  rw[hts] at h3
  obtain rfl:ts=ts':=Option.some.inj h3
  obtain⟨u',hu',hc⟩:=h4 i _ hv
  rw[hi] at hu'
  obtain rfl:u=u':=Option.some.inj hu'
  simp only[hu,Cell.okWide,Cell.ok] at hc
  exact hc.2.2.2.1
theorem zlg{b0:Nat}{t t1 t2 t3 e1 e2 e3:TypeId}{o0 o1 o2:Field}{f0 f1 f2 g0 g1 g2 g3 p0 p1 p2:Field}{v:Value}{d:DataW H}{ps:List MemPlace}
    (ht:P.underlying t=some (.struct #[o0,o1,o2])) (hone:oneCellFields P #[o0,o1,o2]=true) (hC:P.cellsOf t=3) (hts:P.cellTypes P.depth t=some [t1,t2,t3]) (eo:o0.type=t1∧o1.type=t2∧o2.type=t3)
    (h1:P.underlying t1=some (.slice e1)) (h2:P.underlying t2=some (.slice e2)) (h3:P.underlying t3=some (.slice e3)) (hc:P.cellsOf e1=3∧P.cellsOf e2=4∧P.cellsOf e3=3) (hb:0<P.bytesOf e1∧0<P.bytesOf e2∧0<P.bytesOf e3)
    (k1:P.underlying e1=some (.struct #[f0,f1,f2])) (n1:oneCellFields P #[f0,f1,f2]=true) (s1:P.underlying f0.type=some .string∧P.underlying f1.type=some .string∧P.underlying f2.type=some .string)
    (k2:P.underlying e2=some (.struct #[g0,g1,g2,g3])) (n2:oneCellFields P #[g0,g1,g2,g3]=true) (s2:P.underlying g0.type=some .string∧P.underlying g1.type=some .string∧P.underlying g2.type=some .string∧P.underlying g3.type=some (.int .i64))
    (k3:P.underlying e3=some (.struct #[p0,p1,p2])) (n3:oneCellFields P #[p0,p1,p2]=true) (s3:P.underlying p0.type=some .string∧P.underlying p1.type=some .string∧P.underlying p2.type=some .string)
    (hv:Value.okWide P W .any b0 t v) (h:DataW.Trod enc P W 0 sp held t v d ps) (hw:(d.weights P t).all (·≤reachBytes)=true):∃x:LexD,RawX x∧IsPv W (encX x) v:=by
  obtain⟨v0,v1,v2,y0,y1,y2,n,rfl,rfl,rfl,r0,r1,r2⟩:=Go.Joins.open_agg3 ht hone hC hv h
  obtain⟨rfl,rfl,rfl⟩:=eo
  simp only[DataW.weights,ht,List.map_cons,List.map_nil,DataW.weightsEach,List.all_append,List.all_nil,Bool.and_eq_true,Bool.and_true] at hw
  obtain⟨lf,qf,nf,pf⟩:=ze0 encF HeldF h1 hc.1 (by decide) hb.1 (fun f cs d ps hh hw=>by
    obtain⟨a,b,c,hq,hcells⟩:=zjY k1 n1 s1.1 s1.2.1 s1.2.2 f cs d ps hh hw
    exact⟨⟨a,b,c⟩,⟨hq.1,hq.2.1,hq.2.2⟩,hcells⟩) (zk5 (i:=0) ht hts hv rfl rfl h1) r0 hw.1
  obtain⟨lr,qr,nr,pr⟩:=ze0 encR HeldR h2 hc.2.1 (by decide) hb.2.1 (fun f cs d ps hh hw=>by
    obtain⟨a,b,c,i,hq,hcells⟩:=zof k2 n2 s2.1 s2.2.1 s2.2.2.1 s2.2.2.2 f cs d ps hh hw
    exact⟨⟨a,b,c,i⟩,⟨hq.1,hq.2.1,hq.2.2.1,hq.2.2.2⟩,hcells⟩) (zk5 (i:=1) ht hts hv rfl rfl h2) r1 hw.2.1
  obtain⟨la,qa,na,pa⟩:=ze0 encA HeldA h3 hc.2.2 (by decide) hb.2.2 (fun f cs d ps hh hw=>by
    obtain⟨a,b,c,hq,hcells⟩:=zjY k3 n3 s3.1 s3.2.1 s3.2.2 f cs d ps hh hw
    exact⟨⟨a,b,c⟩,⟨hq.1,hq.2.1,hq.2.2⟩,hcells⟩) (zk5 (i:=2) ht hts hv rfl rfl h3) r2 hw.2.2
  refine⟨⟨lf,lr,la⟩,⟨nf,nr,na,qf,qr,qa⟩,fun D μ=>.agg [zaa lf,zab lr,zac la] #[v0,v1,v2] rfl fun i hi=>?_⟩
  match i,hi with
  | 0,_=>exact pf D μ
  | 1,_=>exact pr D μ
  | 2,_=>exact pa D μ
end
end Go.Proofs.YtehoglapajkabaaGreat
namespace Go.Proofs.YtehoglapajkabaaGreat
open Go Go.RowKit
set_option maxRecDepth 20000
set_option maxHeartbeats 1000000
theorem zfq{p:Prop}(h:p:=by(refine⟨4,?_,?_,rfl,by simp,rfl,fun _ h _=>absurd h (Nat.not_lt_zero _)⟩<;>(simp only[List.forall_mem_cons];repeat' (first|refine And.intro ?_ ?_|(intro p hp;exact absurd hp List.not_mem_nil)|rfl|exact sp (zaG _)|exact sp (zaP _)|exact(zaD _ _ _ (zan _)).trans (zcl _ _).symm|exact(zaD _ _ _ (zal _)).trans (zcj _ _).symm|exact sp (by assumption)|(intro o ho;cases ho;refine⟨by decide,?_⟩;first|(refine LeqS.row rfl ?_ ?_;(next=>(first|rfl|(simp only[List.map_append,List.map_cons,List.map_nil,List.append_nil,List.nil_append,List.append_assoc,List.cons_append,encI,encS,ints,strs];done)|(simp[encI,encS,ints,strs,encF,encR,encA,encX];done)));(next=>(first|rfl|exact zas _|exact zar _|exact zaC _|exact zaB _|exact zay _|exact zaY _|exact zaZ _|exact zaq _|exact zdg _|(simp[zaq,zas,zar,zaC,zaB,zaz,PV.pure,zan,zal,zaG,zay,zaY,zaZ,zaP,zaq,encF,encS,zdg];done)));done)|refine⟨_,rfl,rfl,?_⟩)|(simp[St.born,St.known,retV,St.get,St.obj,lk,sealed,PV.ren,renL,rmap,AO.ren,ints,strs,encI,encS,zax,zaw,zav,zat,zaL,zaK,zaJ,zaI,zbd,zbc,zbb,zba,zcp,zaa,zab,zac,zad,zag,zah,zaA,za3,zaE,zbg,zaF,zbh,zaU,encF,encR,encA,zbJ,zjn,encX]<;>omega))));first|done|fail):p:=h
theorem lelM31{p:Prop}(h:p:=by(first|rfl|(simp only[List.map_append,List.map_cons,List.map_nil,List.append_nil,List.nil_append,List.append_assoc,List.cons_append,encI,encS,ints,strs];done)|(simp[encI,encS,ints,strs,encF,encR,encA,encX];done));first|done|fail):p:=h
theorem lpuM31{p:Prop}(h:p:=by(first|rfl|exact zas _|exact zar _|exact zaC _|exact zaB _|exact zay _|exact zaY _|exact zaZ _|exact zaq _|exact zdg _|(simp[zaq,zas,zar,zaC,zaB,zaz,PV.pure,zan,zal,zaG,zay,zaY,zaZ,zaP,zaq,encF,encS,zdg];done));first|done|fail):p:=h
theorem lsrM31{p:Prop}(h:p:=by(first|rfl|(simp[St.born,St.known,retV,St.get,St.obj,lk,sealed,PV.ren,renL,rmap,AO.ren,ints,strs,encI,encS,zax,zaw,zav,zat,zaL,zaK,zaJ,zaI,zbd,zbc,zbb,zba,zcp,zaa,zab,zac,zad,zag,zah,zaA,za3,zaE,zbg,zaF,zbh,zaU,encF,encR,encA,zbJ,zjn,encX];done));first|done|fail):p:=h
theorem lpvM31{p:Prop}(h:p:=by(first|rfl|(simp[zan,zal,PV.pure,zaz,zas,zar,zaC,zaB,zaG,zay,zaY,zaZ,zaP,zaq,encF,encS,zdg];done));first|done|fail):p:=h
def noX:LexD:=⟨[],[],[]⟩
def fX (l:List LexD) (k:Nat):LexD:=l.getD k noX
theorem zdg (l:List LexD):zaz (l.map encX)=true:=zbu encX zaG l
theorem zjn (ρ:Nat→Nat) (l:List LexD):renL ρ (l.map encX)=l.map encX:=zbq ρ _ (zdg l)
theorem zbN{l:List LexD}{k:Nat}(h:k<l.length):(l.map encX).getD k .junk=encX (fX l k):=by
  simp[fX,List.getD_eq_getElem?_getD,h]
theorem fX_mem{l:List LexD}{k:Nat}(h:k<l.length):fX l k∈l:=by simp[fX,List.getD_eq_getElem?_getD,h]
theorem zol (x:LexD) (w:ByteArray):(decide (errX x [w]=0)=true∧allE x w=allX x w)∨(decide (errX x [w]=0)=false∧allE x w=[]):=by
  unfold allE
  by_cases h:errX x [w]=0
  · exact .inl ⟨decide_eq_true h,if_pos h⟩
  · exact .inr ⟨decide_eq_false h,if_neg h⟩
theorem all3{P:LexD→Prop}{a b c:LexD}(h1:P a) (h2:P b) (h3:P c):∀x,x∈[a,b,c]→P x:=fun x hx=>by
  rcases List.mem_cons.1 hx with rfl|hx
  · exact h1
  · rcases List.mem_cons.1 hx with rfl|hx
    · exact h2
    · rw[List.mem_singleton.1 hx];exact h3
theorem all4{P:LexD→Prop}{a b c d:LexD}(h1:P a) (h2:P b) (h3:P c) (h4:P d):∀x,x∈[a,b,c,d]→P x:=fun x hx=>by
  rcases List.mem_cons.1 hx with rfl|hx
  · exact h1
  · exact all3 h2 h3 h4 x hx
theorem quoD_I64{x k:Int}(h:I64 x) (hk:0<k):I64 (x.tdiv k):=by
  obtain⟨h1,h2⟩:=h
  rcases Int.le_total 0 x with h0|h0
  · have a:=Int.tdiv_nonneg h0 (Int.le_of_lt hk)
    have b:=Int.tdiv_le_self k h0
    unfold I64;omega
  · obtain⟨y,rfl⟩:∃y,x = -y:=⟨-x,by omega⟩
    have a:=Int.tdiv_nonneg (a:=y) (by omega) (Int.le_of_lt hk)
    have b:=Int.tdiv_le_self (a:=y) k (by omega)
    rw[Int.neg_tdiv]
    unfold I64;omega
def anaW (m:List Int) (word:ByteArray):List ByteArray:=zeP m++[word,word.extract 0 (min word.size 5),⟨#[]⟩,⟨#[65]⟩,⟨#[97,98,32,99]⟩]
theorem zrJ{m:List Int}{word:ByteArray}(h:word.size≤9223372036854775807):∀w,w∈anaW m word→w.size≤9223372036854775807:=fun w hw=>by
  rcases List.mem_append.1 hw with hw|hw
  · have:=zhL (zmV m) w hw;omega
  · rcases List.mem_cons.1 hw with rfl|hw
    · exact h
    · rcases List.mem_cons.1 hw with rfl|hw
      · rw[ByteArray.size_extract];omega
      · rcases List.mem_cons.1 hw with rfl|hw
        · decide
        · rcases List.mem_cons.1 hw with rfl|hw
          · decide
          · rw[List.mem_singleton.1 hw];decide
theorem zht (m:List Int):(zeP m).length≤7:=by unfold zeP;simp;omega
theorem zrK (m:List Int) (word:ByteArray):(anaW m word).length=(zeP m).length+5:=by simp[anaW]
theorem anaW_len (m:List Int) (word:ByteArray):(anaW m word).length≤12:=by have:=zht m;unfold anaW;simp;omega
theorem anaW_enc (m:List Int) (word:ByteArray):(anaW m word).map encS=(zeP m).map encS++[.atom (.string word),.atom (.string (word.extract 0 (min word.size 5))),.atom (.string ⟨#[]⟩),.atom (.string ⟨#[65]⟩),.atom (.string ⟨#[97,98,32,99]⟩)]:=by simp[anaW,encS]
theorem zil (ws:List ByteArray) {k:Nat}(h:k<ws.length):((ws.map encS).drop k).take 1=[encS (ls ws k)]:=by
  rw[←List.map_drop,←List.map_take,List.drop_eq_getElem_cons h,List.take_succ_cons,List.take_zero,ls_get h];rfl
theorem znL (l:List Int) (hl:Fits l):Pure Tryz.prog 10 [ints l] (.ob 0 1 0 (zeP l).length) [⟨1,(zeP l).map encS⟩]:=by
  have hll:=hl.2
  refine Pure.intro (ts:=[2]) Tryz.func10 (by kernel_rfl) rfl rfl rfl (Nat.le_of_ble_eq_true rfl) ?_ ?_
  · simp[zan,zal,encI,encS,PV.pure,zaz]
  refine sY [0] (fun P S K=>K ⟨[(0,S.get 0)],S.hp,S.nx,S.gh⟩) ?_
  all_goals
  refine sY [0,3] (fun P S K=>K ⟨[(0,S.get 0),(3,(.atom (.slice none 0 0)))],S.hp,S.nx,S.gh⟩) ?_
  refine Tri.born 3 1 rfl ?_
  all_goals
  refine Tri.seq ?_
  refine sY [0,3,4] (fun P S K=>K ⟨[(0,S.get 0),(3,S.get 3),(4,(.atom (.int .i64 0)))],S.hp,S.nx,S.gh⟩) ?_
  all_goals
  refine Tri.block ?_
  refine Tri.loop (α:=(o:List ByteArray) ×' (i:Nat) ×' (i≤l.length∧i≤7∧o.length=i∧o=(l.take i).map zgu)) (fun z=>(fun(o:List ByteArray) (i:Nat)=>(⟨[(0,ints l),(3,.ob 0 1 0 o.length),(4,encI i)],[(0,some ⟨1,o.map encS⟩)],1,[]⟩:St)) z.1 z.2.1) (fun z=>(fun(o:List ByteArray) (i:Nat)=>7 - i) z.1 z.2.1) ⟨[],0,⟨Nat.zero_le _,by omega,rfl,rfl⟩⟩ [0] ?_ ?_
  ·exact zfq
  ·rintro⟨o,i,⟨hi,hi7,hol,ho⟩⟩
   refine Tri.seq ?_
   refine sZ [0,3,4,12] (fun P S K=>XvLen P 22 (M S.hp S.nx) (S.get 0) (fun r2 _=>XvBinOV P .lss 3 (.tmp 7) (S.get 4) r2 (fun r3 _=>Xgq r3 true (fun k=>k (S.get 4)) (fun g5 r5=>Xgq g5 true (fun k=>XvBinOV P .lss 3 (.const (.int .i64 7)) r5 (.atom (.int .i64 7)) (fun r6 _=>k r6)) (fun g6 r6=>XvPick g6 r6 (.atom (.bool false)) (fun r7 _=>K ⟨[(0,S.get 0),(3,S.get 3),(4,S.get 4),(12,r7)],S.hp,S.nx,S.gh⟩)))))) fun K hK=>?_
   repeat' (first|(refine hK _ ?_;clear hK K)|((first|refine zak (fun hg=>?_) (fun hg=>?_)|refine fun(hg:(_:Prop))=>?_)<;>((try simp only[BQ] at hg);try (exfalso;omega)))|refine And.intro ?_ ?_|exact cl|refine zai ?_ _|refine zaj ?_ _|refine st ?_|fail)
   all_goals
   refine Tri.cond rfl (fun h12=>?_) (fun h12=>?_)
   ·try (cases h12;done)
    all_goals (try simp only[CQ] at h12)
    all_goals
    refine Tri.skip ?_
    refine Tri.seq ?_
    refine Tri.block ?_
    have hil:i<l.length:=by omega
    refine rZ [0,3,4] (fun P S K=>XvIndexAddr P 22 (S.get 0) (S.get 4) (fun r3 _=>XvLoad P 3 (M S.hp S.nx) r3 (fun r4 _=>XvFnIV P (M S.hp S.nx) (.fn 39 []) [r4] (fun r5 ef5=>XvBuildS P 37 1 (S.nx+ef5.add.length) [(0,r5)] (fun r6 ef6=>(37=37∧XvAppend P 37 (M (Eff.hp ef6 (S.nx+ef5.add.length) (Eff.hp ef5 S.nx S.hp)) ((S.nx+ef5.add.length)+ef6.add.length)) (S.get 3) r6 (fun r7 ef7=>K ⟨[(0,S.get 0),(3,r7),(4,S.get 4)],(Eff.hp ef7 ((S.nx+ef5.add.length)+ef6.add.length) (Eff.hp ef6 (S.nx+ef5.add.length) (Eff.hp ef5 S.nx S.hp))),(((S.nx+ef5.add.length)+ef6.add.length)+ef7.add.length),S.gh⟩))))))) fun K hK=>?_
    repeat' (first|(refine hK _ ?_;clear hK K)|((first|refine zak (fun hg=>?_) (fun hg=>?_)|refine fun(hg:(_:Prop))=>?_)<;>((try simp only[BQ] at hg);try (exfalso;omega)))|refine And.intro ?_ ?_|exact cl|refine zai ?_ _|refine zaj ?_ _|refine .inl ⟨_,_,zfI (li l i) (hl.1 _ (zgX hil)),?_⟩|(refine st ?_;try simp only[zaX hil])|refine sx ?_ (by simp only[zaX hil];exact rfl)|fail)
    all_goals
    refine rY [0,3,4] (fun P S K=>XvBinOV P .add 3 (.const (.int .i64 1)) (S.get 4) (.atom (.int .i64 1)) (fun r1 _=>K ⟨[(0,S.get 0),(3,S.get 3),(4,r1)],S.hp,S.nx,S.gh⟩)) ?_
    all_goals try simp (disch:=omega) only[zae,zaf]
    all_goals
    refine⟨⟨o++[zgu (li l i)],i+1,by omega,by omega,by simp[hol],by rw[take_liM hil,List.map_append,←ho];rfl⟩,[2],by dsimp only;omega,?_⟩
    exact zfq
   ·try (cases h12;done)
    all_goals (try simp only[CQ] at h12)
    all_goals
    refine Tri.exit ?_
    refine sY [2] (fun P S K=>K ⟨[(2,(S.get 3))],S.hp,S.nx,S.gh⟩) ?_
    all_goals
    refine Tri.ret ?_
    show ResOk _ _ _ _
    rw[show zeP l=o by unfold zeP;rw[ho];(by_cases h7:i=7;rw[h7];rw[List.take_of_length_le (show l.length≤7 by omega),List.take_of_length_le (by omega)])]
    exact ResOk.row 0 rfl lelM31 lpuM31 lsrM31
theorem zow (s:ByteArray) (most:Int) (h0:0≤most):Pure Tryz.prog 11 [encS s,encI most] (encS (s.extract 0 (min s.size most.toNat))) []:=by
  refine Pure.intro (ts:=[4]) Tryz.func11 (by kernel_rfl) rfl rfl rfl (Nat.le_of_ble_eq_true rfl) ?_ ?_
  · simp[zan,zal,encI,encS,PV.pure,zaz]
  refine sY [0,1] (fun P S K=>K ⟨[(0,S.get 0),(1,S.get 1)],S.hp,S.nx,S.gh⟩) ?_
  all_goals
  refine Tri.seq ?_
  refine sY [0,1,8] (fun P S K=>XvLen P 9 (M S.hp S.nx) (S.get 0) (fun r1 _=>XvBinOV P .gtr 3 (.tmp 7) r1 (S.get 1) (fun r3 _=>K ⟨[(0,S.get 0),(1,S.get 1),(8,r3)],S.hp,S.nx,S.gh⟩))) ?_
  all_goals
  refine Tri.cond rfl (fun h8=>?_) (fun h8=>?_)
  ·try (cases h8;done)
   all_goals (try simp only[CQ] at h8)
   all_goals
   refine sY [4] (fun P S K=>XvSliceV P 9 (S.get 0) none (some (S.get 1)) (fun r2 _=>K ⟨[(4,r2)],S.hp,S.nx,S.gh⟩)) ?_
   all_goals
   refine Tri.ret ?_
   show ResOk _ _ _ _
   exact ResOk.val (aS (by rw[Nat.min_eq_right (by omega)])) rfl
  ·try (cases h8;done)
   all_goals (try simp only[CQ] at h8)
   all_goals
   refine Tri.skip ?_
   refine sY [4] (fun P S K=>K ⟨[(4,(S.get 0))],S.hp,S.nx,S.gh⟩) ?_
   all_goals
   refine Tri.ret ?_
   show ResOk _ _ _ _
   exact ResOk.val (aS (by rw[Nat.min_eq_left (by omega)];simp)) rfl
theorem ziN (l m:List Int) (how by_ also:Int) (raw:LexD) (word:ByteArray) (hl:Fits l) (hm:Fits m) (hh:I64 how) (hb:I64 by_) (ha:I64 also) (hr:RawX raw) (hw:word.size≤9223372036854775807) (hlv:Pure Tryz.prog 20 [] (.atom (.bool true)) []):
    Pure Tryz.prog 3 [ints l,ints m,encI how,encI by_,encI also,encX raw,encS word] (.atom (.bool true)) []:=by
  have hml:=zgT l
  have hsl:=znC (zcD l) how by_
  have hmh:=zqP l
  have hsh:=zhw (how:=how) (b:=by_) hmh (by omega) (by omega) (by omega)
  have hzh:=zhw (how:=also) (b:=by_.tdiv 3) hsh (by omega) (by omega) (by omega)
  have hq:=quoD_I64 (k:=3) hb (by decide)
  have hr1:=hr.nforms
  have hr2:=hr.nrules
  have hr3:=hr.nprefs
  have hwn:=zht m
  refine Pure.intro (ts:=[14]) Tryz.func3 (by kernel_rfl) rfl rfl rfl (Nat.le_of_ble_eq_true rfl) ?_ ?_
  · simp[zan,zaG,encI,encS,PV.pure,zaz]
  refine sZ [0,1,2,3,4,6,12] (fun P S K=>XvBox S.nx (S.get 5) (fun r0 ef0=>K ⟨[(0,S.get 0),(1,S.get 1),(2,S.get 2),(3,S.get 3),(4,S.get 4),(6,S.get 6),(12,r0)],(Eff.hp ef0 S.nx S.hp),(S.nx+ef0.add.length),S.gh⟩)) fun K hK=>?_
  repeat' (first|(refine hK _ ?_;clear hK K)|refine And.intro ?_ ?_|exact cl|(refine st ?_;try simp only[encX,zaa,zab,zac,encF,zad,zag,zah])|refine sx ?_ (by simp only[encX,zaa,zab,zac,encF,zad,zag,zah];exact rfl)|fail)
  all_goals
  refine sZ [1,2,3,4,6,12,15] (fun P S K=>XvFnIV P (M S.hp S.nx) (.fn 7 []) [(S.get 0)] (fun r1 ef1=>XvAlloc P 32 (S.nx+ef1.add.length) (fun r2 ef2=>XvStore P 32 (M (Eff.hp ef2 (S.nx+ef1.add.length) (Eff.hp ef1 S.nx S.hp)) ((S.nx+ef1.add.length)+ef2.add.length)) r2 r1 (fun r3 ef3=>K ⟨[(1,S.get 1),(2,S.get 2),(3,S.get 3),(4,S.get 4),(6,S.get 6),(12,S.get 12),(15,r2)],(Eff.hp ef3 ((S.nx+ef1.add.length)+ef2.add.length) (Eff.hp ef2 (S.nx+ef1.add.length) (Eff.hp ef1 S.nx S.hp))),(((S.nx+ef1.add.length)+ef2.add.length)+ef3.add.length),S.gh⟩)))) fun K hK=>?_
  repeat' (first|(refine hK _ ?_;clear hK K)|refine And.intro ?_ ?_|exact cl|refine .inl ⟨_,_,zrS l hl,?_⟩|refine .inl ⟨_,_,hlv,?_⟩|(refine st ?_;try simp only[encX,zaa,zab,zac,encF,zad,zag,zah])|refine sx ?_ (by simp only[encX,zaa,zab,zac,encF,zad,zag,zah];exact rfl)|fail)
  all_goals
  refine sZ [1,3,4,6,12,15,16] (fun P S K=>XvLoad P 32 (M S.hp S.nx) (S.get 15) (fun r0 _=>XvFnIV P (M S.hp S.nx) (.fn 8 []) [r0,(S.get 2),(S.get 3)] (fun r3 ef3=>XvAlloc P 32 (S.nx+ef3.add.length) (fun r4 ef4=>XvStore P 32 (M (Eff.hp ef4 (S.nx+ef3.add.length) (Eff.hp ef3 S.nx S.hp)) ((S.nx+ef3.add.length)+ef4.add.length)) r4 r3 (fun r5 ef5=>K ⟨[(1,S.get 1),(3,S.get 3),(4,S.get 4),(6,S.get 6),(12,S.get 12),(15,S.get 15),(16,r4)],(Eff.hp ef5 ((S.nx+ef3.add.length)+ef4.add.length) (Eff.hp ef4 (S.nx+ef3.add.length) (Eff.hp ef3 S.nx S.hp))),(((S.nx+ef3.add.length)+ef4.add.length)+ef5.add.length),S.gh⟩))))) fun K hK=>?_
  repeat' (first|(refine hK _ ?_;clear hK K)|refine And.intro ?_ ?_|exact cl|refine .inl ⟨_,_,zcP (zcD l) how by_ hmh (by omega) (by omega) (by omega) hh hb,?_⟩|refine .inl ⟨_,_,zcP (zbr (zcD l) how by_) also (by_.tdiv 3) hsh (by omega) (by omega) (by omega) ha hq,?_⟩|refine .inl ⟨_,_,hlv,?_⟩|(refine st ?_;try simp only[encX,zaa,zab,zac,encF,zad,zag,zah])|refine sx ?_ (by simp only[encX,zaa,zab,zac,encF,zad,zag,zah];exact rfl)|fail)
  all_goals
  refine sD 9 [1,6,12,17] (fun P GD S K=>XvLoad P 32 (M S.hp S.nx) (S.get 15) (fun r0 ef0=>XvLoad P 32 (M S.hp S.nx) (S.get 16) (fun r1 ef1=>XvLoad P 32 (M S.hp S.nx) (S.get 16) (fun r2 ef2=>XvBinOV P .quo 3 (.const (.int .i64 3)) (S.get 3) (.atom (.int .i64 3)) (fun r5 ef5=>XvFnDV P (M S.hp S.nx) (.fn 8 []) [r2,(S.get 4),r5] (fun r6 ef6=>XvBuildS P 35 3 (S.nx+ef6.add.length) [(0,r0),(1,r1),(2,r6)] (fun r7 ef7=>(trOk S.nx GD [⟨S.nx,0,ef0.rd,[],[]⟩,⟨S.nx,0,ef1.rd,[],[]⟩,⟨S.nx,0,ef2.rd,[],[]⟩,⟨S.nx,0,[],[],[]⟩,⟨S.nx,0,[],[],[]⟩,⟨S.nx,0,ef5.rd,[],[]⟩,(Eff.tr ef6 S.nx),(Eff.tr ef7 (S.nx+ef6.add.length)),⟨((S.nx+ef6.add.length)+ef7.add.length),0,[],[],[]⟩]=true∧K ⟨[(1,S.get 1),(6,S.get 6),(12,S.get 12),(17,r7)],(Eff.hp ef7 (S.nx+ef6.add.length) (Eff.hp ef6 S.nx S.hp)),((S.nx+ef6.add.length)+ef7.add.length),S.gh⟩)))))))) fun K hK=>?_
  repeat' (first|(refine hK _ ?_;clear hK K)|(refine(?_:trOk _ _ _=true);(try simp only[zae hq.1 hq.2]);kernel_rfl)|((first|refine zak (fun hg=>?_) (fun hg=>?_)|refine fun(hg:(_:Prop))=>?_)<;>((try simp only[BQ,List.length_map] at hg);try (cases hg;done);try (exfalso;omega)))|refine And.intro ?_ ?_|exact cl|refine zai ?_ _|refine zaj ?_ _|refine .inl ⟨_,_,zcP (zcD l) how by_ hmh (by omega) (by omega) (by omega) hh hb,?_⟩|refine⟨_,_,zcP (zcD l) how by_ hmh (by omega) (by omega) (by omega) hh hb,?_⟩|refine .inl ⟨_,_,zcP (zbr (zcD l) how by_) also (by_.tdiv 3) hsh (by omega) (by omega) (by omega) ha hq,?_⟩|refine⟨_,_,zcP (zbr (zcD l) how by_) also (by_.tdiv 3) hsh (by omega) (by omega) (by omega) ha hq,?_⟩|refine .inl ⟨_,_,hlv,?_⟩|refine⟨_,_,hlv,?_⟩|(refine st ?_;try simp only[encX,zaa,zab,zac,encF,zad,zag,zah,zae hq.1 hq.2])|refine sx ?_ (by simp only[encX,zaa,zab,zac,encF,zad,zag,zah,zae hq.1 hq.2];exact rfl)|fail)
  all_goals try simp (disch:=omega) only[zae,zaf]
  all_goals
  refine Tri.cut (α:=(xs:List LexD) ×' (0<xs.length∧xs.length≤4∧(∀x,x∈xs→HeldX x)∧zbx (fX xs 0)=0)) (fun⟨xs,hx0,hx4,hxh,hxv⟩=>⟨[(1,ints m),(6,encS word),(17,.sl 3 (xs.map encX))],[],0,[]⟩) ?_ ?_
  ·skip
   refine sZ [1,6,12,17,50] (fun P S K=>XvFieldAddr P 27 0 (S.get 12) (fun r0 _=>XvLoad P 23 (M S.hp S.nx) r0 (fun r1 _=>XvLen P 23 (M S.hp S.nx) r1 (fun r2 _=>XvFieldAddr P 27 1 (S.get 12) (fun r3 _=>XvLoad P 24 (M S.hp S.nx) r3 (fun r4 _=>XvLen P 24 (M S.hp S.nx) r4 (fun r5 _=>XvBinOV P .add 3 (.tmp 44) r2 r5 (fun r6 _=>XvFieldAddr P 27 2 (S.get 12) (fun r7 _=>XvLoad P 25 (M S.hp S.nx) r7 (fun r8 _=>XvLen P 25 (M S.hp S.nx) r8 (fun r9 _=>XvBinOV P .add 3 (.tmp 48) r6 r9 (fun r10 _=>XvBinOV P .leq 3 (.const (.int .i64 70)) r10 (.atom (.int .i64 70)) (fun r11 _=>K ⟨[(1,S.get 1),(6,S.get 6),(12,S.get 12),(17,S.get 17),(50,r11)],S.hp,S.nx,S.gh⟩))))))))))))) fun K hK=>?_
   repeat' (first|(refine hK _ ?_;clear hK K)|refine And.intro ?_ ?_|exact cl|(refine st ?_;try simp only[encX,zaa,zab,zac,encF,zad,zag,zah,zae (x:=(raw.forms.length:Int)+raw.rules.length) (by omega) (by omega),zae (x:=(raw.forms.length:Int)+raw.rules.length+raw.prefs.length) (by omega) (by omega)])|refine sx ?_ (by simp only[encX,zaa,zab,zac,encF,zad,zag,zah,zae (x:=(raw.forms.length:Int)+raw.rules.length) (by omega) (by omega),zae (x:=(raw.forms.length:Int)+raw.rules.length+raw.prefs.length) (by omega) (by omega)];exact rfl)|fail)
   all_goals try simp (disch:=omega) only[zae,zaf]
   all_goals
   refine Tri.cond rfl (fun h50=>?_) (fun h50=>?_)
   ·try (cases h50;done)
    all_goals (try simp only[CQ] at h50)
    all_goals
    refine rZ [1,6,17] (fun P S K=>XvLoad P 27 (M S.hp S.nx) (S.get 12) (fun r1 _=>XvFnIV P (M S.hp S.nx) (.fn 9 []) [r1] (fun r2 ef2=>XvBuildS P 35 1 (S.nx+ef2.add.length) [(0,r2)] (fun r3 ef3=>(35=35∧XvAppend P 35 (M (Eff.hp ef3 (S.nx+ef2.add.length) (Eff.hp ef2 S.nx S.hp)) ((S.nx+ef2.add.length)+ef3.add.length)) (S.get 17) r3 (fun r4 ef4=>K ⟨[(1,S.get 1),(6,S.get 6),(17,r4)],(Eff.hp ef4 ((S.nx+ef2.add.length)+ef3.add.length) (Eff.hp ef3 (S.nx+ef2.add.length) (Eff.hp ef2 S.nx S.hp))),(((S.nx+ef2.add.length)+ef3.add.length)+ef4.add.length),S.gh⟩)))))) fun K hK=>?_
    repeat' (first|(refine hK _ ?_;clear hK K)|((first|refine zak (fun hg=>?_) (fun hg=>?_)|refine fun(hg:(_:Prop))=>?_)<;>((try simp only[BQ,List.length_map] at hg);try (cases hg;done);try (exfalso;omega)))|refine And.intro ?_ ?_|exact cl|refine zai ?_ _|refine zaj ?_ _|refine .inl ⟨_,_,zrI raw (hr.held (by omega)),?_⟩|refine .inl ⟨_,_,hlv,?_⟩|(refine st ?_;try simp only[encX,zaa,zab,zac,encF,zad,zag,zah])|refine sx ?_ (by simp only[encX,zaa,zab,zac,encF,zad,zag,zah];exact rfl)|fail)
    all_goals
    refine⟨(by first|exact⟨[zcD l,zbr (zcD l) how by_,zbr (zbr (zcD l) how by_) also (by_.tdiv 3),raw],by simp,by simp,all4 hmh hsh hzh (hr.held (by omega)),zdS l⟩|exact⟨[zcD l,zbr (zcD l) how by_,zbr (zbr (zcD l) how by_) also (by_.tdiv 3)],by simp,by simp,all3 hmh hsh hzh,zdS l⟩),[],?_⟩
    exact zfq
   ·try (cases h50;done)
    all_goals (try simp only[CQ] at h50)
    all_goals
    refine Tri.skip ?_
    refine⟨(by first|exact⟨[zcD l,zbr (zcD l) how by_,zbr (zbr (zcD l) how by_) also (by_.tdiv 3),raw],by simp,by simp,all4 hmh hsh hzh (hr.held (by omega)),zdS l⟩|exact⟨[zcD l,zbr (zcD l) how by_,zbr (zbr (zcD l) how by_) also (by_.tdiv 3)],by simp,by simp,all3 hmh hsh hzh,zdS l⟩),[],?_⟩
    exact zfq
  ·rintro ⟨xs,hx0,hx4,hxh,hxv⟩
   refine Tri.cut (α:=(ws:List ByteArray) ×' (ws.length≤12∧∀w,w∈ws→w.size≤9223372036854775807)) (fun⟨ws,hwl,hws⟩=>⟨[(17,.sl 3 (xs.map encX)),(18,strs ws)],[],0,[]⟩) ?_ ?_
   ·skip
    refine rZ [17,18] (fun P S K=>XvFnIV P (M S.hp S.nx) (.fn 10 []) [(S.get 1)] (fun r1 ef1=>XvFnIV P (M (Eff.hp ef1 S.nx S.hp) (S.nx+ef1.add.length)) (.fn 11 []) [(S.get 6),(.atom (.int .i64 5))] (fun r4 ef4=>XvBuildS P 37 5 ((S.nx+ef1.add.length)+ef4.add.length) [(0,(S.get 6)),(1,r4),(2,(.atom (.string { data := #[] }))),(3,(.atom (.string { data := #[65] }))),(4,(.atom (.string { data := #[97,98,32,99] })))] (fun r5 ef5=>(37=37∧XvAppend P 37 (M (Eff.hp ef5 ((S.nx+ef1.add.length)+ef4.add.length) (Eff.hp ef4 (S.nx+ef1.add.length) (Eff.hp ef1 S.nx S.hp))) (((S.nx+ef1.add.length)+ef4.add.length)+ef5.add.length)) r1 r5 (fun r6 ef6=>K ⟨[(17,S.get 17),(18,r6)],(Eff.hp ef6 (((S.nx+ef1.add.length)+ef4.add.length)+ef5.add.length) (Eff.hp ef5 ((S.nx+ef1.add.length)+ef4.add.length) (Eff.hp ef4 (S.nx+ef1.add.length) (Eff.hp ef1 S.nx S.hp)))),((((S.nx+ef1.add.length)+ef4.add.length)+ef5.add.length)+ef6.add.length),S.gh⟩)))))) fun K hK=>?_
    repeat' (first|(refine hK _ ?_;clear hK K)|((first|refine zak (fun hg=>?_) (fun hg=>?_)|refine fun(hg:(_:Prop))=>?_)<;>((try simp only[BQ,List.length_map] at hg);try (cases hg;done);try (exfalso;omega)))|refine And.intro ?_ ?_|exact cl|refine zai ?_ _|refine zaj ?_ _|refine .inl ⟨_,_,znL m hm,?_⟩|refine .inl ⟨_,_,zow word 5 (by decide),?_⟩|refine .inl ⟨_,_,hlv,?_⟩|(refine st ?_;try simp only[encX,zaa,zab,zac,encF,zad,zag,zah])|refine sx ?_ (by simp only[encX,zaa,zab,zac,encF,zad,zag,zah];exact rfl)|fail)
    all_goals
    rw[←anaW_enc,←zrK m word]
    refine⟨⟨anaW m word,anaW_len m word,zrJ hw⟩,[],?_⟩
    exact zfq
   ·rintro⟨ws,hwl,hws⟩
    refine Tri.seq ?_
    refine sY [17,18,19] (fun P S K=>K ⟨[(17,S.get 17),(18,S.get 18),(19,(.atom (.int .i64 0)))],S.hp,S.nx,S.gh⟩) ?_
    all_goals
    refine Tri.block ?_
    refine Tri.loop (α:=(i:Nat) ×' (i≤xs.length)) (fun z=>(fun(i:Nat)=>(⟨[(17,.sl 3 (xs.map encX)),(18,strs ws),(19,encI i)],[],0,[]⟩:St)) z.1) (fun z=>(fun(i:Nat)=>xs.length - i) z.1) ⟨0,Nat.zero_le _⟩ [] ?_ ?_
    ·exact zfq
    ·rintro⟨i,hi⟩
     refine Tri.seq ?_
     refine sZ [17,18,19,66] (fun P S K=>XvLen P 35 (M S.hp S.nx) (S.get 17) (fun r2 _=>XvBinOV P .lss 3 (.tmp 65) (S.get 19) r2 (fun r3 _=>K ⟨[(17,S.get 17),(18,S.get 18),(19,S.get 19),(66,r3)],S.hp,S.nx,S.gh⟩))) fun K hK=>?_
     repeat' (first|(refine hK _ ?_;clear hK K)|refine And.intro ?_ ?_|exact cl|(refine st ?_;try simp only[encX,zaa,zab,zac,encF,zad,zag,zah])|refine sx ?_ (by simp only[encX,zaa,zab,zac,encF,zad,zag,zah];exact rfl)|fail)
     all_goals
     refine Tri.cond rfl (fun h66=>?_) (fun h66=>?_)
     ·try (cases h66;done)
      all_goals (try simp only[CQ] at h66)
      all_goals
      refine Tri.skip ?_
      refine Tri.seq ?_
      refine Tri.block ?_
      have hix:i<xs.length:=by omega
      have hxi:=hxh _ (fX_mem hix)
      refine sZ [17,18,19,20] (fun P S K=>XvIndexAddr P 35 (S.get 17) (S.get 19) (fun r2 _=>XvLoad P 32 (M S.hp S.nx) r2 (fun r3 _=>XvFnIV P (M S.hp S.nx) (.fn 12 []) [r3] (fun r4 ef4=>K ⟨[(17,S.get 17),(18,S.get 18),(19,S.get 19),(20,r4)],(Eff.hp ef4 S.nx S.hp),(S.nx+ef4.add.length),S.gh⟩)))) fun K hK=>?_
      repeat' (first|(refine hK _ ?_;clear hK K)|refine And.intro ?_ ?_|exact cl|refine .inl ⟨_,_,zf3 (fX xs i) hxi,?_⟩|refine .inl ⟨_,_,hlv,?_⟩|(refine st ?_;try simp only[encX,zaa,zab,zac,encF,zad,zag,zah,zbN hix])|refine sx ?_ (by simp only[encX,zaa,zab,zac,encF,zad,zag,zah,zbN hix];exact rfl)|fail)
      all_goals
      refine Tri.seq ?_
      refine sZ [17,18,19,89] (fun P S K=>XvIndexAddr P 35 (S.get 17) (S.get 19) (fun r2 _=>XvLoad P 32 (M S.hp S.nx) r2 (fun r3 _=>XvFnIV P (M S.hp S.nx) (.fn 14 []) [r3] (fun r4 ef4=>XvFnIV P (M (Eff.hp ef4 S.nx S.hp) (S.nx+ef4.add.length)) (.fn 13 []) [r4] (fun r5 ef5=>XvBinOV P .neq 40 (.tmp 80) r5 (S.get 20) (fun r7 _=>Xgq r7 false (fun k=>k (S.get 19)) (fun g9 r9=>Xgq g9 false (fun k=>XvBinOV P .eql 3 (.const (.int .i64 0)) r9 (.atom (.int .i64 0)) (fun r10 _=>k r10)) (fun g10 r10=>Xgq g10 false (fun k=>k r10) (fun g11 r11=>Xgq r11 true (fun k=>k (S.get 20)) (fun g12 r12=>Xgq g12 true (fun k=>XvBinOV P .neq 40 (.const (.int .i64 0)) r12 (.atom (.int .i64 0)) (fun r13 _=>k r13)) (fun g13 r13=>Xgq g11 false (fun k=>XvPick g13 r13 (.atom (.bool false)) (fun r14 _=>k r14)) (fun g14 r14=>XvPick g14 (.atom (.bool true)) r14 (fun r15 _=>K ⟨[(17,S.get 17),(18,S.get 18),(19,S.get 19),(89,r15)],(Eff.hp ef5 (S.nx+ef4.add.length) (Eff.hp ef4 S.nx S.hp)),((S.nx+ef4.add.length)+ef5.add.length),S.gh⟩))))))))))))) fun K hK=>?_
      repeat' (first|(refine hK _ ?_;clear hK K)|((first|refine zak (fun hg=>?_) (fun hg=>?_)|refine fun(hg:(_:Prop))=>?_)<;>((try simp only[BQ,List.length_map] at hg);try (cases hg;done);try (exfalso;omega)))|refine And.intro ?_ ?_|exact cl|refine zai ?_ _|refine zaj ?_ _|refine .inl ⟨_,_,zik (fX xs i) hxi,?_⟩|refine .inl ⟨_,_,zd5 (fX xs i) hxi,?_⟩|refine .inl ⟨_,_,hlv,?_⟩|(refine st ?_;try simp only[encX,zaa,zab,zac,encF,zad,zag,zah,↓SE,zbN hix])|refine sx ?_ (by simp only[encX,zaa,zab,zac,encF,zad,zag,zah,↓SE,zbN hix];exact rfl)|fail)
      all_goals
      refine Tri.cond rfl (fun h89=>?_) (fun h89=>?_)
      ·try (cases h89;done)
       all_goals (try simp only[CQ] at h89)
       all_goals
       refine sY [14] (fun P S K=>K ⟨[(14,(.atom (.bool false)))],S.hp,S.nx,S.gh⟩) ?_
       all_goals
       refine Tri.ret ?_
       show ResOk _ _ _ _
       obtain rfl:i=0:=by omega
       exact absurd hxv (by assumption)
      ·try (cases h89;done)
       all_goals (try simp only[CQ] at h89)
       all_goals
       refine Tri.skip ?_
       refine sY [17,18,19,21] (fun P S K=>K ⟨[(17,S.get 17),(18,S.get 18),(19,S.get 19),(21,(.atom (.int .i64 0)))],S.hp,S.nx,S.gh⟩) ?_
       all_goals
       refine Tri.block ?_
       refine Tri.loop (α:=(k:Nat) ×' (k≤ws.length)) (fun z=>(fun(k:Nat)=>(⟨[(17,.sl 3 (xs.map encX)),(18,strs ws),(19,encI i),(21,encI k)],[],0,[]⟩:St)) z.1) (fun z=>(fun(k:Nat)=>ws.length - k) z.1) ⟨0,Nat.zero_le _⟩ [] ?_ ?_
       ·exact zfq
       ·rintro⟨k,hk⟩
        refine Tri.seq ?_
        refine sZ [17,18,19,21,93] (fun P S K=>XvLen P 37 (M S.hp S.nx) (S.get 18) (fun r2 _=>XvBinOV P .lss 3 (.tmp 92) (S.get 21) r2 (fun r3 _=>K ⟨[(17,S.get 17),(18,S.get 18),(19,S.get 19),(21,S.get 21),(93,r3)],S.hp,S.nx,S.gh⟩))) fun K hK=>?_
        repeat' (first|(refine hK _ ?_;clear hK K)|refine And.intro ?_ ?_|exact cl|(refine st ?_;try simp only[encX,zaa,zab,zac,encF,zad,zag,zah])|refine sx ?_ (by simp only[encX,zaa,zab,zac,encF,zad,zag,zah];exact rfl)|fail)
        all_goals
        refine Tri.cond rfl (fun h93=>?_) (fun h93=>?_)
        ·try (cases h93;done)
         all_goals (try simp only[CQ] at h93)
         all_goals
         refine Tri.skip ?_
         refine Tri.seq ?_
         refine Tri.block ?_
         have hkw:k<ws.length:=by omega
         have hwk:=hws _ (zf8 hkw)
         have hal:=zmR (fX xs i) (ls ws k) hxi
         have hnf:=hxi.nforms
         have hnr:=hxi.nrules
         refine sD 15 [17,18,19,21,22,23] (fun P GD S K=>XvIndexAddr P 35 (S.get 17) (S.get 19) (fun r2 ef2=>XvLoad P 32 (M S.hp S.nx) r2 (fun r3 ef3=>XvFnDV P (M S.hp S.nx) (.fn 14 []) [r3] (fun r4 ef4=>XvIndexAddr P 37 (S.get 18) (S.get 21) (fun r7 ef7=>XvLoad P 9 (M (Eff.hp ef4 S.nx S.hp) (S.nx+ef4.add.length)) r7 (fun r8 ef8=>XvFnDV P (M (Eff.hp ef4 S.nx S.hp) (S.nx+ef4.add.length)) (.fn 15 []) [r4,r8] (fun r9 ef9=>XvExtract r9 0 (fun r11 ef11=>XvExtract r9 1 (fun r12 ef12=>(trOk S.nx GD [⟨S.nx,0,[],[],[]⟩,⟨S.nx,0,[],[],[]⟩,⟨S.nx,0,ef2.rd,[],[]⟩,⟨S.nx,0,ef3.rd,[],[]⟩,(Eff.tr ef4 S.nx),⟨(S.nx+ef4.add.length),0,[],[],[]⟩,⟨(S.nx+ef4.add.length),0,[],[],[]⟩,⟨(S.nx+ef4.add.length),0,ef7.rd,[],[]⟩,⟨(S.nx+ef4.add.length),0,ef8.rd,[],[]⟩,(Eff.tr ef9 (S.nx+ef4.add.length)),⟨((S.nx+ef4.add.length)+ef9.add.length),0,[],[],[]⟩,⟨((S.nx+ef4.add.length)+ef9.add.length),0,ef11.rd,[],[]⟩,⟨((S.nx+ef4.add.length)+ef9.add.length),0,ef12.rd,[],[]⟩,⟨((S.nx+ef4.add.length)+ef9.add.length),0,[],[],[]⟩,⟨((S.nx+ef4.add.length)+ef9.add.length),0,[],[],[]⟩]=true∧K ⟨[(17,S.get 17),(18,S.get 18),(19,S.get 19),(21,S.get 21),(22,r11),(23,r12)],(Eff.hp ef9 (S.nx+ef4.add.length) (Eff.hp ef4 S.nx S.hp)),((S.nx+ef4.add.length)+ef9.add.length),S.gh⟩)))))))))) fun K hK=>?_
         repeat' (first|(refine hK _ ?_;clear hK K)|(refine(?_:trOk _ _ _=true);(try simp only[zbN hix,za9 hkw]);kernel_rfl)|refine And.intro ?_ ?_|exact cl|refine .inl ⟨_,_,zik (fX xs i) hxi,?_⟩|refine⟨_,_,zik (fX xs i) hxi,?_⟩|refine .inl ⟨_,_,zfO (fX xs i) (ls ws k) hxi hwk,?_⟩|refine⟨_,_,zfO (fX xs i) (ls ws k) hxi hwk,?_⟩|refine .inl ⟨_,_,hlv,?_⟩|refine⟨_,_,hlv,?_⟩|(refine st ?_;try simp only[encX,zaa,zab,zac,encF,zad,zag,zah,zbN hix,za9 hkw])|refine sx ?_ (by simp only[encX,zaa,zab,zac,encF,zad,zag,zah,zbN hix,za9 hkw];exact rfl)|fail)
         all_goals
         refine sD 11 [17,18,19,21,22,23,24] (fun P GD S K=>XvIndexAddr P 35 (S.get 17) (S.get 19) (fun r2 ef2=>XvLoad P 32 (M S.hp S.nx) r2 (fun r3 ef3=>XvBinOV P .add 3 (.const (.int .i64 1)) (S.get 21) (.atom (.int .i64 1)) (fun r7 ef7=>XvSliceV P 37 (S.get 18) (some (S.get 21)) (some r7) (fun r8 ef8=>XvFnDV P (M S.hp S.nx) (.fn 16 []) [r3,r8] (fun r9 ef9=>(trOk S.nx GD [⟨S.nx,0,[],[],[]⟩,⟨S.nx,0,[],[],[]⟩,⟨S.nx,0,ef2.rd,[],[]⟩,⟨S.nx,0,ef3.rd,[],[]⟩,⟨S.nx,0,[],[],[]⟩,⟨S.nx,0,[],[],[]⟩,⟨S.nx,0,[],[],[]⟩,⟨S.nx,0,ef7.rd,[],[]⟩,⟨S.nx,0,ef8.rd,[],[]⟩,(Eff.tr ef9 S.nx),⟨(S.nx+ef9.add.length),0,[],[],[]⟩]=true∧K ⟨[(17,S.get 17),(18,S.get 18),(19,S.get 19),(21,S.get 21),(22,S.get 22),(23,S.get 23),(24,r9)],(Eff.hp ef9 S.nx S.hp),(S.nx+ef9.add.length),S.gh⟩))))))) fun K hK=>?_
         repeat' (first|(refine hK _ ?_;clear hK K)|(refine(?_:trOk _ _ _=true);(try simp only[zbN hix,show((k:Int)+1).toNat - k=1 by omega,zil ws hkw,zae (x:=(k:Int)+1) (by omega) (by omega)]);kernel_rfl)|((first|refine zak (fun hg=>?_) (fun hg=>?_)|refine fun(hg:(_:Prop))=>?_)<;>((try simp only[BQ,List.length_map] at hg);try (cases hg;done);try (exfalso;omega)))|refine And.intro ?_ ?_|exact cl|refine zai ?_ _|refine zaj ?_ _|refine .inl ⟨_,_,zgJ (fX xs i) [ls ws k] hxi (by simp) (by simpa using hwk),?_⟩|refine⟨_,_,zgJ (fX xs i) [ls ws k] hxi (by simp) (by simpa using hwk),?_⟩|refine .inl ⟨_,_,hlv,?_⟩|refine⟨_,_,hlv,?_⟩|(refine st ?_;try simp only[encX,zaa,zab,zac,encF,zad,zag,zah,zbN hix,show((k:Int)+1).toNat - k=1 by omega,zil ws hkw,zae (x:=(k:Int)+1) (by omega) (by omega)])|refine sx ?_ (by simp only[encX,zaa,zab,zac,encF,zad,zag,zah,zbN hix,show((k:Int)+1).toNat - k=1 by omega,zil ws hkw,zae (x:=(k:Int)+1) (by omega) (by omega)];exact rfl)|fail)
         all_goals try simp (disch:=omega) only[zae,zaf]
         all_goals
         have hcs:=zol (fX xs i) (ls ws k)
         have hwo0:errX (fX xs i) [ls ws k]=0→(ls ws k).size≤140737488355328:=fun h=>zg7 h _ (List.mem_singleton_self _)
         generalize allE (fX xs i) (ls ws k)=a at *
         generalize errX (fX xs i) [ls ws k]=e at *
         rcases hcs with ⟨hd,rfl⟩|⟨hd,rfl⟩
         all_goals
         refine sD 31 [17,18,19,21,149] (fun P GD S K=>XvBinOV P .neq 40 (.tmp 120) (S.get 23) (S.get 24) (fun r2 ef2=>Xge r2 false (fun k=>k (S.get 24) e0) (fun g4 r4 ef4=>Xge g4 false (fun k=>XvBinOV P .neq 40 (.const (.int .i64 0)) r4 (.atom (.int .i64 0)) k) (fun g5 r5 ef5=>Xge g5 false (fun k=>k r5 e0) (fun g6 r6 ef6=>Xge r6 true (fun k=>k (S.get 22) e0) (fun g7 r7 ef7=>Xge g7 true (fun k=>XvLen P 23 (M S.hp S.nx) r7 k) (fun g8 r8 ef8=>Xge g8 true (fun k=>XvBinOV P .gtr 3 (.const (.int .i64 0)) r8 (.atom (.int .i64 0)) k) (fun g9 r9 ef9=>Xge g6 false (fun k=>XvPick g9 r9 (.atom (.bool false)) k) (fun g10 r10 ef10=>XvPick g10 (.atom (.bool true)) r10 (fun r11 ef11=>Xge r11 false (fun k=>k (S.get 24) e0) (fun g13 r13 ef13=>Xge g13 false (fun k=>XvBinOV P .eql 40 (.const (.int .i64 0)) r13 (.atom (.int .i64 0)) k) (fun g14 r14 ef14=>Xge g14 false (fun k=>k r14 e0) (fun g15 r15 ef15=>Xge r15 true (fun k=>k (S.get 22) e0) (fun g16 r16 ef16=>Xge g16 true (fun k=>XvFnDV P (M S.hp S.nx) (.fn 18 []) [r16] k) (fun g17 r17 ef17=>Xge g17 true (fun k=>k (S.get 17) e0) (fun g18 r18 ef18=>Xge g18 true (fun k=>k (S.get 19) e0) (fun g19 r19 ef19=>Xge g19 true (fun k=>XvIndexAddr P 35 r18 r19 k) (fun g20 r20 ef20=>Xge g20 true (fun k=>XvLoad P 32 (M (Eff.hp ef17 S.nx S.hp) (S.nx+ef17.add.length)) r20 k) (fun g21 r21 ef21=>Xge g21 true (fun k=>k (S.get 18) e0) (fun g22 r22 ef22=>Xge g22 true (fun k=>k (S.get 21) e0) (fun g23 r23 ef23=>Xge g23 true (fun k=>XvIndexAddr P 37 r22 r23 k) (fun g24 r24 ef24=>Xge g24 true (fun k=>XvLoad P 9 (M (Eff.hp ef17 S.nx S.hp) (S.nx+ef17.add.length)) r24 k) (fun g25 r25 ef25=>Xge g25 true (fun k=>XvFnDV P (M (Eff.hp ef17 S.nx S.hp) (S.nx+ef17.add.length)) (.fn 19 []) [r21,r25] k) (fun g26 r26 ef26=>Xge g26 true (fun k=>XvFnDV P (M (Eff.hp ef26 (S.nx+ef17.add.length) (Eff.hp ef17 S.nx S.hp)) ((S.nx+ef17.add.length)+ef26.add.length)) (.fn 17 []) [r17,r26] k) (fun g27 r27 ef27=>Xge g27 true (fun k=>XvUn .not r27 k) (fun g28 r28 ef28=>Xge g15 false (fun k=>XvPick g28 r28 (.atom (.bool false)) k) (fun g29 r29 ef29=>XvPick g29 (.atom (.bool true)) r29 (fun r30 ef30=>(trOk S.nx GD [⟨S.nx,0,[],[],[]⟩,⟨S.nx,0,[],[],[]⟩,⟨S.nx,0,ef2.rd,[],[]⟩,⟨S.nx,0,[],[],[]⟩,⟨S.nx,0,ef4.rd,[],[]⟩,⟨S.nx,0,ef5.rd,[],[]⟩,⟨S.nx,0,ef6.rd,[],[]⟩,⟨S.nx,0,ef7.rd,[],[]⟩,⟨S.nx,0,ef8.rd,[],[]⟩,⟨S.nx,0,ef9.rd,[],[]⟩,⟨S.nx,0,ef10.rd,[],[]⟩,⟨S.nx,0,ef11.rd,[],[]⟩,⟨S.nx,0,[],[],[]⟩,⟨S.nx,0,ef13.rd,[],[]⟩,⟨S.nx,0,ef14.rd,[],[]⟩,⟨S.nx,0,ef15.rd,[],[]⟩,⟨S.nx,0,ef16.rd,[],[]⟩,(Eff.tr ef17 S.nx),⟨(S.nx+ef17.add.length),0,ef18.rd,[],[]⟩,⟨(S.nx+ef17.add.length),0,ef19.rd,[],[]⟩,⟨(S.nx+ef17.add.length),0,ef20.rd,[],[]⟩,⟨(S.nx+ef17.add.length),0,ef21.rd,[],[]⟩,⟨(S.nx+ef17.add.length),0,ef22.rd,[],[]⟩,⟨(S.nx+ef17.add.length),0,ef23.rd,[],[]⟩,⟨(S.nx+ef17.add.length),0,ef24.rd,[],[]⟩,⟨(S.nx+ef17.add.length),0,ef25.rd,[],[]⟩,(Eff.tr ef26 (S.nx+ef17.add.length)),(Eff.tr ef27 ((S.nx+ef17.add.length)+ef26.add.length)),⟨(((S.nx+ef17.add.length)+ef26.add.length)+ef27.add.length),0,ef28.rd,[],[]⟩,⟨(((S.nx+ef17.add.length)+ef26.add.length)+ef27.add.length),0,ef29.rd,[],[]⟩,⟨(((S.nx+ef17.add.length)+ef26.add.length)+ef27.add.length),0,ef30.rd,[],[]⟩]=true∧K ⟨[(17,S.get 17),(18,S.get 18),(19,S.get 19),(21,S.get 21),(149,r30)],(Eff.hp ef27 ((S.nx+ef17.add.length)+ef26.add.length) (Eff.hp ef26 (S.nx+ef17.add.length) (Eff.hp ef17 S.nx S.hp))),(((S.nx+ef17.add.length)+ef26.add.length)+ef27.add.length),S.gh⟩))))))))))))))))))))))))))))) fun K hK=>?_
         repeat' (first|(refine hK _ ?_;clear hK K)|(refine(?_:trOk _ _ _=true);(try simp only[↓SE,hd,zbN hix,za9 hkw]);kernel_rfl)|((first|refine zak (fun hg=>?_) (fun hg=>?_)|refine fun(hg:(_:Prop))=>?_)<;>((try simp only[BQ,List.length_map] at hg);try (cases hg;done);try (exfalso;omega)))|refine And.intro ?_ ?_|exact cl|refine zai ?_ _|refine zaj ?_ _|refine .inl ⟨_,_,zfM (allX (fX xs i) (ls ws k)) (by omega),?_⟩|refine⟨_,_,zfM (allX (fX xs i) (ls ws k)) (by omega),?_⟩|refine .inl ⟨_,_,zjr (fX xs i) (ls ws k) hxi (hwo0 (of_decide_eq_true hd)),?_⟩|refine⟨_,_,zjr (fX xs i) (ls ws k) hxi (hwo0 (of_decide_eq_true hd)),?_⟩|refine .inl ⟨_,_,zhE (allX (fX xs i) (ls ws k)) (allX (fX xs i) (ls ws k)) (by omega) (by omega),?_⟩|refine⟨_,_,zhE (allX (fX xs i) (ls ws k)) (allX (fX xs i) (ls ws k)) (by omega) (by omega),?_⟩|refine .inl ⟨_,_,hlv,?_⟩|refine⟨_,_,hlv,?_⟩|(refine st ?_;try simp only[encX,zaa,zab,zac,encF,zad,zag,zah,↓SE,hd,zbN hix,za9 hkw])|refine sx ?_ (by simp only[encX,zaa,zab,zac,encF,zad,zag,zah,↓SE,hd,zbN hix,za9 hkw];exact rfl)|fail)
         all_goals try simp (disch:=omega) only[zae,zaf]
         all_goals
         refine Tri.cond rfl (fun h149=>?_) (fun h149=>?_)
         ·try (cases h149;done)
          all_goals (try simp only[CQ] at h149)
          all_goals
          refine sY [14] (fun P S K=>K ⟨[(14,(.atom (.bool false)))],S.hp,S.nx,S.gh⟩) ?_
          all_goals
          refine Tri.ret ?_
          show ResOk _ _ _ _
          done
         ·try (cases h149;done)
          all_goals (try simp only[CQ] at h149)
          all_goals
          refine Tri.skip ?_
          refine rY [17,18,19,21] (fun P S K=>XvBinOV P .add 3 (.const (.int .i64 1)) (S.get 21) (.atom (.int .i64 1)) (fun r1 _=>K ⟨[(17,S.get 17),(18,S.get 18),(19,S.get 19),(21,r1)],S.hp,S.nx,S.gh⟩)) ?_
          all_goals try simp (disch:=omega) only[zae,zaf]
          all_goals
          refine⟨⟨k+1,by omega⟩,[],by dsimp only;omega,?_⟩
          exact zfq
        ·try (cases h93;done)
         all_goals (try simp only[CQ] at h93)
         all_goals
         refine Tri.exit ?_
         refine rY [17,18,19] (fun P S K=>XvBinOV P .add 3 (.const (.int .i64 1)) (S.get 19) (.atom (.int .i64 1)) (fun r1 _=>K ⟨[(17,S.get 17),(18,S.get 18),(19,r1)],S.hp,S.nx,S.gh⟩)) ?_
         all_goals try simp (disch:=omega) only[zae,zaf]
         all_goals
         refine⟨⟨i+1,by omega⟩,[],by dsimp only;omega,?_⟩
         exact zfq
     ·try (cases h66;done)
      all_goals (try simp only[CQ] at h66)
      all_goals
      refine Tri.exit ?_
      refine sZ [14] (fun P S K=>XvFnIV P (M S.hp S.nx) (.fn 20 []) [] (fun r0 ef0=>K ⟨[(14,r0)],(Eff.hp ef0 S.nx S.hp),(S.nx+ef0.add.length),S.gh⟩)) fun K hK=>?_
      repeat' (first|(refine hK _ ?_;clear hK K)|refine And.intro ?_ ?_|exact cl|refine .inl ⟨_,_,hlv,?_⟩|(refine st ?_;try simp only[encX,zaa,zab,zac,encF,zad,zag,zah])|refine sx ?_ (by simp only[encX,zaa,zab,zac,encF,zad,zag,zah];exact rfl)|fail)
      all_goals
      refine Tri.ret ?_
      show ResOk _ _ _ _
      exact ResOk.val lsrM31 lpvM31
end Go.Proofs.YtehoglapajkabaaGreat
