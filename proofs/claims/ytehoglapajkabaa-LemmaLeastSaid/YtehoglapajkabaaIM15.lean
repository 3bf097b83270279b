/-
  The clean machine: the library's sorting by a function,at structs whose comparison parts whatever two are not one.
-/
import Derived.Test.YtehoglapajkabaaIA11
import Derived.Shelf.SlSortCmp.NoneTotal
import Derived.Test.YtehoglapajkabaaIM0
import Derived.Test.YtehoglapajkabaaIM12
import Derived.Test.YtehoglapajkabaaIShelf
set_option linter.all false
namespace Go.Proofs.Ytehoglapajkabaa
open Go Go.RowKit
theorem Bel.grow_eq{w w':World}(h:Bel w w'):∃q os',w'=Go.Sort.grow (w.drewN q) os':=by
  refine⟨w'.drawn - w.drawn,w'.heap.extract w.heap.size w'.heap.size,?_⟩
  have h1:=h.os;have h2:=h.tape;have h3:=h.output;have h4:=h.drawn;have h5:=h.size;have h6:=h.block
  obtain⟨hp,tp,dr,os,ou⟩:=w'
  simp only at h1 h2 h3 h4 h5 h6
  subst h1;subst h2;subst h3
  unfold Go.Sort.grow World.drewN
  simp only[World.mk.injEq,and_true,true_and]
  refine⟨?_,by omega⟩
  apply Array.ext_getElem?
  intro i
  by_cases hi:i<w.heap.size
  · rw[Array.getElem?_append,if_pos hi];exact h6 i hi
  · rw[Array.getElem?_append,if_neg hi,Array.getElem?_extract]
    by_cases h2:i<hp.size
    · rw[if_pos (by omega)];congr 1;omega
    · rw[if_neg (by omega),Array.getElem?_eq_none (by omega)]
def encG{α:Type}(enc:α→List Value) (x:α):PV:=.agg ((enc x).map .atom)
theorem zlU{α:Type}(enc:α→List Value) (x:α) (D:Nat→Prop) (μ:Nat→Option Nat) (F:Nat→Prop) (w:World):Rep D μ F w (encG enc x) (.agg (enc x).toArray):=
  .agg _ _ (by simp) fun i hi=>by
    have hi':i<(enc x).length:=by simpa using hi
    rw[List.getElem_map]
    have:(enc x).toArray.getD i undef=(enc x)[i]:=by simp[Array.getD,hi']
    rw[this];exact .atom _
open Go.Sort in
theorem zjR{P:Program}{g:FuncId}{α:Type} [Inhabited α] (enc:α→List Value) (k:Nat) (cf:α→α→Int) (hg:∀x y,Pure P g [encG enc x,encG enc y] (.atom (.int .i64 (cf x y))) []) (blk off size:Nat) (w:World):CmpLays P g #[] enc k cf blk off size w:=by
  intro m os dk _ x y
  refine((hg x y).2 (fun _=>False) (fun _=>none) (fun _=>False) _ #[.agg (enc x).toArray,.agg (enc y).toArray] rfl (fun i hi=>?_) (fun b h=>h.elim)).mono fun e w' ⟨v,he,hb,hr⟩=>?_
  · match i,hi with
    | 0,_=>exact zlU enc x _ _ _ _
    | 1,_=>exact zlU enc y _ _ _ _
  · obtain⟨ν,F',h1,_⟩:=hr
    exact⟨by rw[he,zcV h1],hb.grow_eq⟩
def zcr{α:Type}(cf:α→α→Int) (l:List α):List α:=l.mergeSort fun x y => !(ltOf cf) y x
theorem zdN{α:Type}(cf:α→α→Int) (l:List α):(zcr cf l).length=l.length:=by simp[zcr]
open Go.Sort in
theorem zlc{α:Type}{w:World}{n b:Nat}{A:Array Value}{e:TypeId}{z:Nat×Nat}{os:Array Obj}{d:Array Value}{off:Nat}(h:w.heap[b]? = some (.cells A e z)):
    (∀c,c<w.heap.size→c≠b→(grow (putRow id (Go.Sort.ahead w n) b off d) os).heap[c]? = w.heap[c]?)∧(grow (putRow id (Go.Sort.ahead w n) b off d) os).heap[b]? = some (.cells (putCells id off d A) e z):=by
  have hb:=zdJ h
  constructor
  · intro c hc hcb
    simp only[grow,putRow,mapBlock,Go.Sort.ahead,Array.getElem?_append,Array.size_modify,hc,if_true,Array.getElem?_modify,Ne.symm hcb,if_false]
  · simp only[grow,putRow,mapBlock,Go.Sort.ahead,Array.getElem?_append,Array.size_modify,hb,if_true,Array.getElem?_modify,h,Option.map_some,onCells]
open Go.Sort in
theorem znz{P:Program}{f g:FuncId}{α:Type} [Inhabited α] (hen:zg2 P f) (k:Nat) (enc:α→List Value) (hk:∀x,(enc x).length=k) (cf:α→α→Int)
    (hg:∀x y,Pure P g [encG enc x,encG enc y] (.atom (.int .i64 (cf x y))) [])
    (hc:∀(blk off cap:Nat) (d:Array α) (w:World),CmpLays P g #[] enc k cf blk off d.size w→HoldsK enc k w blk off d→blk<w.heap.size→d.size<4611686018427387904→
      Calls P f #[.slice (some ⟨blk,off,none⟩) d.size cap,.func (.func g) #[] #[]] w fun e w'=>e=.returned (.tuple #[])∧∃n os,w'=sortWorldK enc k w blk off n (d.toList.mergeSort fun x y => !(ltOf cf) y x).toArray os)
    (hc0:∀(p:Option Addr) (cap:Nat) (fv:Value) (w:World),Calls P f #[.slice p 0 cap,fv] w fun e w'=>e=.returned (.tuple #[])∧w'=w) (ks:List α) (hl:ks.length<4611686018427387904):
    Proc P f [.ob 0 k 0 ks.length,.fn g []] [⟨k,ks.map (encG enc)⟩] (.tup []) [some ⟨k,(zcr cf ks).map (encG enc)⟩] []:=by
  refine⟨hen,rfl,fun μ F w vs hH hvs hargs=>?_⟩
  obtain⟨v,u,rfl⟩:∃v u,vs = #[v,u]:=by
    have:vs.size=2:=hvs
    exact⟨vs[0],vs[1],Array.ext (by simp[this]) fun i h1 h2=>by
      have:i=0∨i=1:=by omega
      rcases this with rfl|rfl<;>rfl⟩
  have ha:=hargs 0 (by simp)
  have ha1:=hargs 1 (by simp)
  simp only[List.getElem_cons_zero,List.getElem_cons_succ] at ha ha1
  have hv0:(#[v,u]:Array Value).getD 0 undef=v:=rfl
  have hv1:(#[v,u]:Array Value).getD 1 undef=u:=rfl
  rw[hv0] at ha
  rw[hv1] at ha1
  have hu:u=.func (.func g) #[] #[]:=by
    cases ha1 with
    | fn _ _ vs hs _=>rw[Array.eq_empty_of_size_eq_zero hs]
  subst hu
  generalize hlen:ks.length=len at ha
  cases ha with
  | obn _ _ hD hb=>
    have hks:ks=[]:=List.eq_nil_of_length_eq_zero hlen
    subst hks
    refine(hc0 none 0 _ w).mono fun e w' ⟨he,hw⟩=>?_
    subst he;subst hw
    refine⟨_,rfl,μ,F,.tup _ _ rfl (fun i hi=>by simp at hi),?_,fun i _=>rfl⟩
    have e:(fun(i:Nat)=>(([some (⟨k,(zcr cf []).map (encG enc)⟩:AO)]++([]:List AO).map some)[i]?).join)=fun(i:Nat)=>([(⟨k,([]:List α).map (encG enc)⟩:AO)]:List AO)[i]? := by
      rw[show zcr cf ([]:List α)=[] from List.eq_nil_of_length_eq_zero (by rw[zdN];rfl)]
      funext i
      match i with
      | 0=>rfl
      | i+1=>simp
    rw[e];exact hH
  | ob _ _ _ _ cap b hD hb hkc h1 h2 h3=>
    obtain⟨A,et,g1,g2,g3,g4⟩:=hH.cellsOk (i:=0) (o:=⟨k,ks.map (encG enc)⟩) rfl hb hkc
    have hA:ks.length * k≤A.size:=by simpa using g2
    have hcell:∀j (h:j<ks.length) c (hc:c<k),A.getD (j * k+c) undef=(enc ks[j])[c]'(by rw[hk];exact hc):=fun j h c hc=>by
      have:=g4 j (by simpa using h) c (by simp[encG,PV.cells,hk,hc])
      have e:((ks.map (encG enc))[j]'(by simpa using h)).cells[c]'(by simp[encG,PV.cells,hk,hc])=.atom ((enc ks[j])[c]'(by rw[hk];exact hc)):=by simp[encG,PV.cells]
      rw[e] at this
      exact zcV this
    have hH0:HoldsK enc k w b (0 * k) ks.toArray:=fun t ht=>by
      have ht':t<ks.length * k:=by simpa using ht
      have k0:0<k:=by
        rcases Nat.eq_zero_or_pos k with h|h
        · subst h;simp at ht'
        · exact h
      have hj:t / k<ks.length:=by rw[Nat.div_lt_iff_lt_mul k0];exact ht'
      have hm:t % k<k:=Nat.mod_lt _ k0
      have hA':t<A.size:=by omega
      constructor
      · simp only[World.cell?,g1,Nat.zero_mul,Nat.zero_add]
        rw[zgQ hA',get_flatK _ _ _ _ (by simpa using ht')]
        have:=hcell (t / k) hj (t % k) hm
        rw[Nat.div_add_mod'] at this
        rw[this]
        simp[hj,hk,hm]
      · simp[World.frozen?,g1]
    have hcall:=hc b (0 * k) cap ks.toArray w (zjR enc k cf hg _ _ _ _) hH0 (zdJ g1) (by simpa using hl)
    rw[List.size_toArray,hlen] at hcall
    refine hcall.mono fun e w' ⟨he,n,os,hw⟩=>?_
    subst he
    have hso:(ks.toArray.toList.mergeSort fun x y => !(ltOf cf) y x)=zcr cf ks:=rfl
    rw[hso] at hw
    unfold sortWorldK putRowK at hw
    obtain⟨k1,k2⟩:=zlc (α:=α) (n:=n) (os:=os) (d:=flatK enc k (zcr cf ks).toArray) (off:=0 * k) g1
    rw[←hw] at k1 k2
    have hpc:(putCells id (0 * k) (flatK enc k (zcr cf ks).toArray) A).size=A.size:=by simp[putCells]
    have hown:=hH.own 0 _ b rfl hb
    have hsz:w.heap.size≤w'.heap.size:=by rw[hw];simp[grow,putRow,mapBlock,Go.Sort.ahead]
    have hst:Stay F w w':=Stay.of_block b hown.2 (by simp only[zbS,g1,k2,hpc];exact Nat.le_refl _) (Kind.cells' (.mk' g1) (.mk' k2)) k1
    have hext:Ext ⟨w,fun b=>∃i,i<([(⟨k,ks.map (encG enc)⟩:AO)]:List AO).length∧μ i=some b⟩ w':=by
      refine⟨by rw[hw];rfl,by rw[hw];rfl,by rw[hw];rfl,hsz,fun k' hk' hM=>k1 k' hk' (fun e=>hM ⟨0,by simp,by rw[e];exact hb⟩),fun c=>?_,hst.size,by rw[hw];exact Nat.le_trans (Nat.le_add_right _ _) (Nat.le_refl _)⟩
      by_cases hcb:c=b
      · subst hcb;exact Kind.cells' (.mk' g1) (.mk' k2)
      · exact hst.kind c
    refine⟨_,rfl,μ,F,.tup _ _ rfl (fun i hi=>by simp at hi),?_,fun i _=>rfl⟩
    have hset:=HeapSim.set hH 0 ⟨k,ks.map (encG enc)⟩ b rfl hb ⟨k,(zcr cf ks).map (encG enc)⟩ hst hext hsz (.inl ⟨_,et,k2,by rw[hpc];simpa[zdN] using hA,fun j hj=>by simp[encG,PV.cells,hk],fun j hj c hc=>by
      have hj':j<(zcr cf ks).length:=by simpa using hj
      have hjk:j<ks.length:=by simpa[zdN] using hj'
      have e0:(AO.mk k ((zcr cf ks).map (encG enc))).els[j]=encG enc (zcr cf ks)[j]:=by simp
      have hc':c<k:=by
        have:c<((AO.mk k ((zcr cf ks).map (encG enc))).els[j]).cells.length:=hc
        rw[e0] at this
        simpa[encG,PV.cells,hk] using this
      have e1:((AO.mk k ((zcr cf ks).map (encG enc))).els[j]).cells[c]'hc=.atom ((enc (zcr cf ks)[j])[c]'(by rw[hk];exact hc')):=by simp[encG,PV.cells]
      rw[e1]
      have hb1:j * k+c<ks.length * k:=by
        have:=Nat.mul_le_mul_right k (show j+1≤ks.length from hjk)
        rw[Nat.add_mul,Nat.one_mul] at this;omega
      have e2:(putCells id (0 * k) (flatK enc k (zcr cf ks).toArray) A).getD (j * k+c) undef=(enc (zcr cf ks)[j])[c]'(by rw[hk];exact hc'):=by
        unfold Array.getD
        rw[dif_pos (by rw[hpc];omega)]
        simp only[putCells,Array.getInternal_eq_getElem,Array.getElem_mapIdx,Nat.zero_mul,Nat.zero_le,true_and,Nat.zero_add,id]
        rw[if_pos (by rw[size_flatK];simpa[zdN] using hb1),Nat.sub_zero,get_flatK _ _ _ _ (by simpa[zdN] using hb1)]
        have d1:(j * k+c) / k=j:=(blk_iff k j _ (by omega)).1 ⟨by omega,by omega⟩
        have d2:(j * k+c) % k=c:=by rw[Nat.mod_eq_sub_div_mul,d1];omega
        rw[d1,d2]
        simp[hj',hk,hc']
      show Rep _ _ _ _ _ ((putCells id (0 * k) (flatK enc k (zcr cf ks).toArray) A).getD (j * k+c) undef)
      rw[e2]
      exact .atom _⟩) k1
    have e:(fun(i:Nat)=>(([some (⟨k,(zcr cf ks).map (encG enc)⟩:AO)]++([]:List AO).map some)[i]?).join)=upd (fun(i:Nat)=>([(⟨k,ks.map (encG enc)⟩:AO)]:List AO)[i]?) 0 (some ⟨k,(zcr cf ks).map (encG enc)⟩):=by
      funext i
      unfold upd
      match i with
      | 0=>rfl
      | i+1=>simp
    rw[e];exact hset
set_option maxRecDepth 20000
set_option maxHeartbeats 1000000
theorem ze7{p:Prop}(h:p:=by(refine⟨4,?_,?_,rfl,by simp,rfl,fun i h _=>(match i,h with|0,_=>by simp[sealed,PV.ren,rmap])⟩<;>(simp only[List.forall_mem_cons];repeat' (first|refine And.intro ?_ ?_|(intro p hp;exact absurd hp List.not_mem_nil)|rfl|exact sp (zaR _)|exact sp (zaK _)|exact(zas _ _ _ (zah _)).trans (zbQ _ _).symm|exact(zas _ _ _ (zag _)).trans (zbP _ _).symm|exact sp (by assumption)|(intro o ho;cases ho;refine⟨by decide,?_⟩;first|(refine LeqS.row rfl ?_ ?_;(next=>(first|rfl|(simp only[List.map_append,List.map_cons,List.map_nil,List.append_nil,List.nil_append,List.append_assoc,List.cons_append,encI,encS,ints,strs];done)|(simp[encI,encS,ints,strs,encF,encR,encA];done)));(next=>(first|rfl|exact zal _|exact zaq _|exact zau _|exact zat _|exact zaH _|exact zaT _|exact zaU _|exact zar _|(simp[zar,zal,zaq,zau,zat,zaw,PV.pure,zah,zag,zaR,zaH,zaT,zaU,zaK,zar,encF,encS];done)));done)|refine⟨_,rfl,rfl,?_⟩)|(simp[St.born,St.known,retV,St.get,St.obj,lk,sealed,PV.ren,renL,rmap,AO.ren,ints,strs,encI,encS,zap,zao,zan,zam,zaC,zaB,zaA,zaz,za1,za0,zaZ,zaY,zcx,zaa,zab,zac,zad,zai,zaj,zaD,za2,zaE,zbd,zaG,zbe,zaL,encF,encR,encA,zbF]<;>omega))));first|done|fail):p:=h
def cptN (l:List FormD):Nat→List FormD
  | 0=>[]
  | i+1=>if 0<i∧fF l i=fF l (i - 1) then cptN l i else cptN l i++[fF l i]
def cpt (l:List FormD):List FormD:=cptN l l.length
theorem zgV{l:List FormD}:∀ {k:Nat},k≤l.length→(∀i,0<i→i<k→fF l i≠fF l (i - 1))→cptN l k=l.take k
  | 0,_,_=>by simp[cptN]
  | k+1,hk,h=>by
    rw[cptN,if_neg (fun e=>h k e.1 (Nat.lt_succ_self _) e.2),zgV (by omega) (fun i h1 h2=>h i h1 (by omega)),zhW (by omega)]
structure CptI (l:List FormD) (k0:Nat) (d:List FormD) (k j:Nat):Prop where
  len:d.length=l.length
  pre:d.take k=cptN l (k0+j)
  rest:∀i,k≤i→i<l.length→fF d i=fF l i
  le:k+1≤k0+j
  hi:k0+j≤l.length
  pos:1≤j
  base:1≤k0
  low:k0≤k
theorem CptI.start{l:List FormD}{k0:Nat}(h:∀i,0<i→i<k0→fF l i≠fF l (i - 1)) (h0:1≤k0) (hk:k0<l.length) (he:fF l k0=fF l (k0 - 1)):CptI l k0 l k0 1:=
  ⟨rfl,by rw[cptN,if_pos ⟨h0,he⟩,zgV (by omega) h],fun _ _ _=>rfl,by omega,by omega,by omega,h0,Nat.le_refl _⟩
theorem CptI.same{l:List FormD}{k0:Nat}{d:List FormD}{k j:Nat}(h:CptI l k0 d k j) (hj:k0+j<l.length) (he:fF d (k0+j)=fF d (k0+j - 1)):CptI l k0 d k (j+1):=by
  have h1:=h.le;have h2:=h.pos;have h3:=h.base
  refine⟨h.len,?_,h.rest,by omega,by omega,by omega,h3,by have:=h.low;omega⟩
  rw[h.pre,←Nat.add_assoc,cptN,if_pos ⟨by omega,by rw[←h.rest _ (by omega) hj,←h.rest _ (by omega) (by omega)];exact he⟩]
theorem CptI.other{l:List FormD}{k0:Nat}{d:List FormD}{k j:Nat}(h:CptI l k0 d k j) (hj:k0+j<l.length) (he:¬fF d (k0+j)=fF d (k0+j - 1)):CptI l k0 (d.set k (fF d (k0+j))) (k+1) (j+1):=by
  have h1:=h.le;have h2:=h.pos;have h3:=h.base;have h4:=h.len
  refine⟨by simp[h4],?_,fun i hi hl=>?_,by omega,by omega,by omega,h3,by have:=h.low;omega⟩
  · rw[←Nat.add_assoc,cptN,if_neg (fun e=>he (by rw[h.rest _ (by omega) hj,h.rest _ (by omega) (by omega)];exact e.2)),←h.pre,List.take_succ_eq_append_getElem (by simp;omega),List.take_set_of_le (Nat.le_refl _),List.getElem_set_self,h.rest _ (by omega) hj]
  · have:=h.rest i (by omega) hl
    unfold fF at this ⊢
    rw[List.getD_eq_getElem?_getD,List.getElem?_set_ne (by omega),←List.getD_eq_getElem?_getD];exact this
theorem CptI.stop{l:List FormD}{k0:Nat}{d:List FormD}{k j:Nat}(h:CptI l k0 d k j) (hj:¬k0+j<l.length):d.take k=cpt l∧k=(cpt l).length:=by
  have h1:=h.le;have h2:=h.hi;have h4:=h.len
  have:d.take k=cpt l:=by rw[h.pre];unfold cpt;congr 1;omega
  exact⟨this,by rw[←this,List.length_take];omega⟩
theorem zrp{l:List FormD}(h:∀i,0<i→i<l.length→fF l i≠fF l (i - 1)):cpt l=l:=by rw[cpt,zgV (Nat.le_refl _) h,List.take_length]
theorem zjk (d:List FormD) (k:Nat) (f:FormD):(d.map encF).set k (.agg [.atom (.string f.word),.atom (.string f.lem),.atom (.string f.cls)])=(d.set k f).map encF:=by rw[List.map_set];rfl
theorem zjK{f g:FormD}(h1:f.word=g.word) (h2:f.lem=g.lem) (h3:f.cls=g.cls):f=g:=by cases f;cases g;simp_all
theorem zrq{S:St}{l l':List FormD}{o:AO}{els:List PV}{n:Nat}{ts:List Nat}(h0:S.obj 0=some ⟨3,els⟩) (he:els=l'.map encF) (hr:retV S ts=.ob 0 3 0 n) (hg:S.gh=[.mark 0]):ResP S ts (.ob 0 3 0 n) [o] [some ⟨3,l'.map encF⟩] []:=by
  refine ResP.of [0] (by rw[hr];simp[sealed,PV.ren,rmap]) rfl (by decide) hg rfl (fun i hi=>?_) (fun i o' ho=>?_)
  · have:i=0:=by simpa using hi
    subst this;rfl
  · match i,ho with
    | 0,ho=>cases ho;exact⟨_,h0,rfl,by rw[he,zaD,za2]⟩
theorem zj8 (l:List FormD) (hl:l.length≤1000000000):Proc Try.prog 52 [.ob 0 3 0 l.length] [⟨3,l.map encF⟩] (.ob 0 3 0 (cpt l).length) [some ⟨3,(cpt l++List.replicate (l.length - (cpt l).length) noF).map encF⟩] []:=by
  refine Proc.intro (ts:=[2]) Try.func52 (by kernel_rfl) rfl rfl rfl (Nat.le_of_ble_eq_true rfl) rfl ?_
  simp only[za9,zbw,List.map_cons,List.map_nil,List.length_cons,List.length_nil,Nat.zero_add,Nat.reduceAdd]
  refine sY [0] (fun P S K=>K ⟨[(0,S.get 0)],S.hp,S.nx,S.gh⟩) ?_
  all_goals
  refine Tri.seq ?_
  refine sZ [0,8] (fun P S K=>XvLen P 23 (M S.hp S.nx) (S.get 0) (fun r1 _=>XvBinOV P .lss 3 (.const (.int .i64 2)) r1 (.atom (.int .i64 2)) (fun r2 _=>K ⟨[(0,S.get 0),(8,r2)],S.hp,S.nx,S.gh⟩))) fun K hK=>?_
  repeat' (first|(refine hK _ ?_;clear hK K)|(refine st ?_;try simp only[encF,List.length_set])|fail)
  all_goals
  refine Tri.cond rfl (fun h8=>?_) (fun h8=>?_)
  ·try (cases h8;done)
   all_goals (try simp only[CQ] at h8)
   all_goals
   refine sY [2] (fun P S K=>K ⟨[(2,(S.get 0))],S.hp,S.nx,S.gh⟩) ?_
   all_goals
   refine Tri.ret ?_
   show ResP _ _ _ _ _ _
   rw[zrp (l:=l) (fun i h1 h2=>by omega),Nat.sub_self,List.replicate_zero,List.append_nil]
   exact zrq (l:=l) rfl rfl rfl rfl
  try (cases h8;done)
  all_goals (try simp only[CQ] at h8)
  all_goals
  refine Tri.skip ?_
  refine Tri.seq ?_
  refine sY [0,3] (fun P S K=>K ⟨[(0,S.get 0),(3,(.atom (.int .i64 1)))],S.hp,S.nx,S.gh⟩) ?_
  all_goals
  refine Tri.block ?_
  refine Tri.loop (α:=(k:Nat) ×' (1≤k∧k≤l.length∧∀i,0<i→i<k→fF l i≠fF l (i - 1))) (fun z=>(fun(k:Nat)=>(⟨[(0,.ob 0 3 0 l.length),(3,encI k)],[(0,some ⟨3,l.map encF⟩)],1,[.mark 0]⟩:St)) z.1) (fun z=>(fun(k:Nat)=>l.length - k) z.1) ⟨1,⟨Nat.le_refl _,by omega,fun i h1 h2=>absurd h2 (by omega)⟩⟩ [0] ?_ ?_
  ·exact ze7
  rintro⟨k,⟨hk1,hk,hno⟩⟩
  refine Tri.seq ?_
  refine sZ [0,3,13] (fun P S K=>XvLen P 23 (M S.hp S.nx) (S.get 0) (fun r2 _=>XvBinOV P .lss 3 (.tmp 12) (S.get 3) r2 (fun r3 _=>K ⟨[(0,S.get 0),(3,S.get 3),(13,r3)],S.hp,S.nx,S.gh⟩))) fun K hK=>?_
  repeat' (first|(refine hK _ ?_;clear hK K)|(refine st ?_;try simp only[encF,List.length_set])|fail)
  all_goals
  refine Tri.cond rfl (fun h13=>?_) (fun h13=>?_)
  ·try (cases h13;done)
   all_goals (try simp only[CQ] at h13)
   all_goals
   refine Tri.skip ?_
   refine Tri.seq ?_
   refine Tri.block ?_
   refine sD 10 [0,3,25] (fun P GD S K=>XvIndexAddr P 23 (S.get 0) (S.get 3) (fun r2 ef2=>XvLoad P 40 (M S.hp S.nx) r2 (fun r3 ef3=>XvBinOV P .sub 3 (.const (.int .i64 1)) (S.get 3) (.atom (.int .i64 1)) (fun r6 ef6=>XvIndexAddr P 23 (S.get 0) r6 (fun r7 ef7=>XvLoad P 40 (M S.hp S.nx) r7 (fun r8 ef8=>XvBinOV P .eql 40 (.tmp 24) r3 r8 (fun r9 ef9=>(trOk S.nx GD [⟨S.nx,0,[],[],[]⟩,⟨S.nx,0,[],[],[]⟩,⟨S.nx,0,ef2.rd,[],[]⟩,⟨S.nx,0,ef3.rd,[],[]⟩,⟨S.nx,0,[],[],[]⟩,⟨S.nx,0,[],[],[]⟩,⟨S.nx,0,ef6.rd,[],[]⟩,⟨S.nx,0,ef7.rd,[],[]⟩,⟨S.nx,0,ef8.rd,[],[]⟩,⟨S.nx,0,ef9.rd,[],[]⟩]=true∧K ⟨[(0,S.get 0),(3,S.get 3),(25,r9)],S.hp,S.nx,S.gh⟩)))))))) fun K hK=>?_
   repeat' (first|(refine hK _ ?_;clear hK K)|(refine(?_:trOk _ _ _=true);(try simp only[zae (x:=((k:Int) - 1)) (by omega) (by omega),zeP (show 0<k by omega),zba (show k<l.length by omega),zba (show k - 1<l.length by omega)]);kernel_rfl)|refine And.intro ?_ ?_|exact cl|(refine st ?_;try simp only[encF,List.length_set,zae (x:=((k:Int) - 1)) (by omega) (by omega),zeP (show 0<k by omega),zba (show k<l.length by omega),zba (show k - 1<l.length by omega)])|fail)
   all_goals try simp (disch:=omega) only[zae,zaf]
   all_goals
   refine Tri.cond rfl (fun h25=>?_) (fun h25=>?_)
   ·try (cases h25;done)
    all_goals (try simp only[CQ] at h25)
    all_goals
    refine sZ [0,3,4] (fun P S K=>XvSliceV P 23 (S.get 0) (some (S.get 3)) none (fun r2 _=>K ⟨[(0,S.get 0),(3,S.get 3),(4,r2)],S.hp,S.nx,S.gh⟩)) fun K hK=>?_
    repeat' (first|(refine hK _ ?_;clear hK K)|((first|refine zav (fun hg=>?_) (fun hg=>?_)|refine fun(hg:(_:Prop))=>?_)<;>((try simp only[BQ] at hg);try (exfalso;omega)))|refine And.intro ?_ ?_|exact cl|(refine st ?_;try simp only[encF,List.length_set])|fail)
    all_goals
    refine Tri.seq ?_
    refine sY [0,3,4,5] (fun P S K=>K ⟨[(0,S.get 0),(3,S.get 3),(4,S.get 4),(5,(.atom (.int .i64 1)))],S.hp,S.nx,S.gh⟩) ?_
    all_goals
    refine Tri.block ?_
    refine Tri.loop (α:=(d:List FormD) ×' (k2:Nat) ×' (j:Nat) ×' (CptI l k d k2 j)) (fun z=>(fun(d:List FormD) (k2:Nat) (j:Nat)=>(⟨[(0,.ob 0 3 0 l.length),(3,encI k2),(4,.ob 0 3 k (l.length - k)),(5,encI j)],[(0,some ⟨3,d.map encF⟩)],1,[.mark 0]⟩:St)) z.1 z.2.1 z.2.2.1) (fun z=>(fun(d:List FormD) (k2:Nat) (j:Nat)=>l.length - j) z.1 z.2.1 z.2.2.1) ⟨l,k,1,CptI.start hno hk1 (by omega) (zjK h25.1 h25.2.1 h25.2.2)⟩ [0] ?_ ?_
    ·exact ze7
    rintro⟨d,k2,j,hC⟩
    have hdl:=hC.len
    have hle:=hC.le
    have hhi:=hC.hi
    have hpo:=hC.pos
    have hlo:=hC.low
    refine Tri.seq ?_
    refine sZ [0,3,4,5,32] (fun P S K=>XvLen P 23 (M S.hp S.nx) (S.get 4) (fun r2 _=>XvBinOV P .lss 3 (.tmp 31) (S.get 5) r2 (fun r3 _=>K ⟨[(0,S.get 0),(3,S.get 3),(4,S.get 4),(5,S.get 5),(32,r3)],S.hp,S.nx,S.gh⟩))) fun K hK=>?_
    repeat' (first|(refine hK _ ?_;clear hK K)|(refine st ?_;try simp only[encF,List.length_set])|fail)
    all_goals
    refine Tri.cond rfl (fun h32=>?_) (fun h32=>?_)
    ·try (cases h32;done)
     all_goals (try simp only[CQ] at h32)
     all_goals
     refine Tri.skip ?_
     refine Tri.seq ?_
     refine Tri.block ?_
     refine sD 10 [0,3,4,5,44] (fun P GD S K=>XvIndexAddr P 23 (S.get 4) (S.get 5) (fun r2 ef2=>XvLoad P 40 (M S.hp S.nx) r2 (fun r3 ef3=>XvBinOV P .sub 3 (.const (.int .i64 1)) (S.get 5) (.atom (.int .i64 1)) (fun r6 ef6=>XvIndexAddr P 23 (S.get 4) r6 (fun r7 ef7=>XvLoad P 40 (M S.hp S.nx) r7 (fun r8 ef8=>XvBinOV P .neq 40 (.tmp 43) r3 r8 (fun r9 ef9=>(trOk S.nx GD [⟨S.nx,0,[],[],[]⟩,⟨S.nx,0,[],[],[]⟩,⟨S.nx,0,ef2.rd,[],[]⟩,⟨S.nx,0,ef3.rd,[],[]⟩,⟨S.nx,0,[],[],[]⟩,⟨S.nx,0,[],[],[]⟩,⟨S.nx,0,ef6.rd,[],[]⟩,⟨S.nx,0,ef7.rd,[],[]⟩,⟨S.nx,0,ef8.rd,[],[]⟩,⟨S.nx,0,ef9.rd,[],[]⟩]=true∧K ⟨[(0,S.get 0),(3,S.get 3),(4,S.get 4),(5,S.get 5),(44,r9)],S.hp,S.nx,S.gh⟩)))))))) fun K hK=>?_
     repeat' (first|(refine hK _ ?_;clear hK K)|(refine(?_:trOk _ _ _=true);(try simp only[zae (x:=((j:Int) - 1)) (by omega) (by omega),zeP (show 0<j by omega),zba (show k+j<d.length by omega),zba (show k+(j - 1)<d.length by omega)]);kernel_rfl)|refine And.intro ?_ ?_|exact cl|(refine st ?_;try simp only[encF,List.length_set,zae (x:=((j:Int) - 1)) (by omega) (by omega),zeP (show 0<j by omega),zba (show k+j<d.length by omega),zba (show k+(j - 1)<d.length by omega)])|fail)
     all_goals try simp (disch:=omega) only[zae,zaf]
     all_goals
     refine Tri.cond rfl (fun h44=>?_) (fun h44=>?_)
     ·try (cases h44;done)
      all_goals (try simp only[CQ] at h44)
      all_goals
      refine sZ [0,3,4,5] (fun P S K=>XvIndexAddr P 23 (S.get 4) (S.get 5) (fun r4 _=>XvLoad P 40 (M S.hp S.nx) r4 (fun r5 _=>XvIndexAddr P 23 (S.get 0) (S.get 3) (fun r6 _=>XvStore P 40 (M S.hp S.nx) r6 r5 (fun r7 ef7=>K ⟨[(0,S.get 0),(3,S.get 3),(4,S.get 4),(5,S.get 5)],(Eff.hp ef7 S.nx S.hp),(S.nx+ef7.add.length),S.gh⟩))))) fun K hK=>?_
      repeat' (first|(refine hK _ ?_;clear hK K)|refine And.intro ?_ ?_|exact cl|(refine st ?_;try simp only[encF,List.length_set,zba (show k+j<d.length by omega),zba (show k2<d.length by omega),zjk])|fail)
      all_goals
      refine rY [0,3,4,5] (fun P S K=>XvBinOV P .add 3 (.const (.int .i64 1)) (S.get 3) (.atom (.int .i64 1)) (fun r1 _=>K ⟨[(0,S.get 0),(3,r1),(4,S.get 4),(5,S.get 5)],S.hp,S.nx,S.gh⟩)) ?_
      all_goals try simp (disch:=omega) only[zae,zaf]
      all_goals
      refine rY [0,3,4,5] (fun P S K=>XvBinOV P .add 3 (.const (.int .i64 1)) (S.get 5) (.atom (.int .i64 1)) (fun r1 _=>K ⟨[(0,S.get 0),(3,S.get 3),(4,S.get 4),(5,r1)],S.hp,S.nx,S.gh⟩)) ?_
      all_goals try simp (disch:=omega) only[zae,zaf]
      all_goals
      first
      | (refine⟨⟨d,k2,j+1,hC.same (by omega) (by rw[show k+j - 1=k+(j - 1) by omega];first|exact zjK h44.1 h44.2.1 h44.2.2|(simp only[not_not,Decidable.not_not] at h44;exact zjK h44.1 h44.2.1 h44.2.2))⟩,[0],by dsimp only;omega,?_⟩
         exact ze7)
      | (refine⟨⟨d.set k2 (fF d (k+j)),k2+1,j+1,hC.other (by omega) (by rw[show k+j - 1=k+(j - 1) by omega];intro e;rw[e] at h44;simp at h44)⟩,[0],by dsimp only;omega,?_⟩
         exact ze7)
     try (cases h44;done)
     all_goals (try simp only[CQ] at h44)
     all_goals
     refine Tri.skip ?_
     refine rY [0,3,4,5] (fun P S K=>XvBinOV P .add 3 (.const (.int .i64 1)) (S.get 5) (.atom (.int .i64 1)) (fun r1 _=>K ⟨[(0,S.get 0),(3,S.get 3),(4,S.get 4),(5,r1)],S.hp,S.nx,S.gh⟩)) ?_
     all_goals try simp (disch:=omega) only[zae,zaf]
     all_goals
     first
     | (refine⟨⟨d,k2,j+1,hC.same (by omega) (by rw[show k+j - 1=k+(j - 1) by omega];first|exact zjK h44.1 h44.2.1 h44.2.2|(simp only[not_not,Decidable.not_not] at h44;exact zjK h44.1 h44.2.1 h44.2.2))⟩,[0],by dsimp only;omega,?_⟩
        exact ze7)
     | (refine⟨⟨d.set k2 (fF d (k+j)),k2+1,j+1,hC.other (by omega) (by rw[show k+j - 1=k+(j - 1) by omega];intro e;rw[e] at h44;simp at h44)⟩,[0],by dsimp only;omega,?_⟩
        exact ze7)
    try (cases h32;done)
    all_goals (try simp only[CQ] at h32)
    all_goals
    refine Tri.exit ?_
    refine sZ [0,3] (fun P S K=>XvSliceV P 23 (S.get 0) (some (S.get 3)) none (fun r2 _=>XvClear P 23 (M S.hp S.nx) r2 (fun r3 ef3=>K ⟨[(0,S.get 0),(3,S.get 3)],(Eff.hp ef3 S.nx S.hp),(S.nx+ef3.add.length),S.gh⟩))) fun K hK=>?_
    repeat' (first|(refine hK _ ?_;clear hK K)|((first|refine zav (fun hg=>?_) (fun hg=>?_)|refine fun(hg:(_:Prop))=>?_)<;>((try simp only[BQ] at hg);try (exfalso;omega)))|refine And.intro ?_ ?_|exact cl|(refine st ?_;try simp only[encF,List.length_set])|fail)
    all_goals
    refine sZ [2] (fun P S K=>XvSliceV P 23 (S.get 0) none (some (S.get 3)) (fun r2 _=>K ⟨[(2,r2)],S.hp,S.nx,S.gh⟩)) fun K hK=>?_
    repeat' (first|(refine hK _ ?_;clear hK K)|((first|refine zav (fun hg=>?_) (fun hg=>?_)|refine fun(hg:(_:Prop))=>?_)<;>((try simp only[BQ] at hg);try (exfalso;omega)))|refine And.intro ?_ ?_|exact cl|(refine st ?_;try simp only[encF,List.length_set])|fail)
    all_goals
    refine Tri.ret ?_
    show ResP _ _ _ _ _ _
    obtain⟨hp1,hp2⟩:=hC.stop (by omega)
    have hp3:d.length=l.length:=hdl
    subst hp2
    refine zrq (l:=l) rfl ?_ rfl rfl
    rw[List.map_append,←hp1,List.map_take,List.map_replicate]
    have hm:min (cpt l).length d.length=(cpt l).length:=by omega
    simp[encF,noF,encS,hm]
    rw[List.drop_eq_nil_of_le (by rw[List.length_map];omega),List.append_nil];rfl
   try (cases h25;done)
   all_goals (try simp only[CQ] at h25)
   all_goals
   refine Tri.skip ?_
   refine rY [0,3] (fun P S K=>XvBinOV P .add 3 (.const (.int .i64 1)) (S.get 3) (.atom (.int .i64 1)) (fun r1 _=>K ⟨[(0,S.get 0),(3,r1)],S.hp,S.nx,S.gh⟩)) ?_
   all_goals try simp (disch:=omega) only[zae,zaf]
   all_goals
   refine⟨⟨k+1,by omega,by omega,fun i h1 h2=>?_⟩,[0],by dsimp only;omega,?_⟩
   · rcases Nat.lt_succ_iff_lt_or_eq.1 h2 with h2|rfl
     · exact hno i h1 h2
     · intro e;rw[e] at h25;simp at h25
   · exact ze7
  try (cases h13;done)
  all_goals (try simp only[CQ] at h13)
  all_goals
  refine Tri.exit ?_
  refine sY [2] (fun P S K=>K ⟨[(2,(S.get 0))],S.hp,S.nx,S.gh⟩) ?_
  all_goals
  refine Tri.ret ?_
  show ResP _ _ _ _ _ _
  rw[zrp (l:=l) (fun i h1 h2=>hno i h1 (by omega)),Nat.sub_self,List.replicate_zero,List.append_nil]
  exact zrq (l:=l) rfl rfl rfl rfl
def fmW (w:ByteArray) (x:ByteArray×ByteArray):FormD:=⟨w,x.1,x.2⟩
def cmpP (x y:ByteArray×ByteArray):Int:=orI [cmpS x.1 y.1,cmpS x.2 y.2]
theorem zmz (a b:ByteArray):cmpS a b<0↔sLt a b=true:=by
  unfold cmpS
  split
  · simp_all
  · split<;>simp_all
theorem zjQ (a b:ByteArray):cmpS a b=0↔a=b:=by
  unfold cmpS
  constructor
  · intro h
    split at h
    · cases h
    · split at h
      · cases h
      · rename_i h1 h2
        apply Classical.byContradiction
        intro hne
        exact h2 (zff (by simpa using h1) hne)
  · intro h
    subst h
    rw[if_neg (by rw[zdO];decide),if_neg (by rw[zdO];decide)]
theorem ltP (x y:ByteArray×ByteArray):ltOf cmpP x y=(sLt x.1 y.1 || (decide (x.1=y.1) && sLt x.2 y.2)):=by
  unfold ltOf cmpP
  by_cases h:x.1=y.1
  · have e:cmpS x.1 y.1=0:=(zjQ _ _).2 h
    rw[e,h,zdO]
    have:orI [0,cmpS x.2 y.2]=cmpS x.2 y.2:=by
      unfold orI orI;simp[orI];exact fun h=>h.symm
    rw[this]
    simp only[Bool.false_or,decide_true,Bool.true_and]
    have:=zmz x.2 y.2
    cases h2:sLt x.2 y.2<;>simp_all
  · have e:¬cmpS x.1 y.1=0:=fun e=>h ((zjQ _ _).1 e)
    have:orI [cmpS x.1 y.1,cmpS x.2 y.2]=cmpS x.1 y.1:=by
      unfold orI;rw[if_pos e]
    rw[this,decide_eq_false h,Bool.false_and,Bool.or_false]
    have:=zmz x.1 y.1
    cases h2:sLt x.1 y.1<;>simp_all
def fLtP (x y:ByteArray×ByteArray):Bool:=sLt x.1 y.1 || (decide (x.1=y.1) && sLt x.2 y.2)
theorem zlg (x:ByteArray×ByteArray):fLtP x x=false:=by simp[fLtP,zdO]
theorem zfO{x y z:ByteArray×ByteArray}(h:fLtP x y=true) (k:fLtP y z=true):fLtP x z=true:=by
  simp only[fLtP,Bool.or_eq_true,Bool.and_eq_true,decide_eq_true_eq] at *
  rcases h with h|⟨h1,h2⟩
  · rcases k with k|⟨k1,k2⟩
    · exact .inl (ziT h k)
    · exact .inl (by rw[←k1];exact h)
  · rcases k with k|⟨k1,k2⟩
    · exact .inl (by rw[h1];exact k)
    · exact .inr ⟨h1.trans k1,ziT h2 k2⟩
theorem zfP{x y:ByteArray×ByteArray}(h:fLtP x y=false) (k:fLtP y x=false):x=y:=by
  simp only[fLtP,Bool.or_eq_false_iff] at h k
  have e1:x.1=y.1:=Classical.byContradiction fun hne=>by rw[zff h.1 hne] at k;exact absurd k.1 (by decide)
  have h2:=h.2;have k2:=k.2
  rw[e1] at h2 k2
  simp only[decide_true,Bool.true_and] at h2 k2
  have e2:x.2=y.2:=Classical.byContradiction fun hne=>by rw[zff h2 hne] at k2;exact absurd k2 (by decide)
  exact Prod.ext e1 e2
theorem swoP:Go.Sort.SWO (ltOf cmpP) where
  irrefl x:=by rw[ltP];exact zlg x
  trans x y z h k:=by rw[ltP] at *;exact zfO h k
  ntrans x y z h k:=by
    rw[ltP] at *
    change fLtP x y=false at h
    change fLtP y z=false at k
    show fLtP x z=false
    cases e:fLtP x z with
    | false=>rfl
    | true=>
      cases e1:fLtP y x with
      | true=>rw[zfO e1 e] at k;cases k
      | false=>have:=zfP h e1;subst this;rw[e] at k;cases k
theorem totP (x y:ByteArray×ByteArray) (h:ltOf cmpP x y=false) (k:ltOf cmpP y x=false):x=y:=by
  rw[ltP] at h k;exact zfP h k
def encL3 (w:ByteArray) (x:ByteArray×ByteArray):List Value:=[.string w,.string x.1,.string x.2]
theorem zqC (w:ByteArray) (x:ByteArray×ByteArray) (v:Value) (hv:v∈encL3 w x):v.oneCell'=true:=by
  simp only[encL3,List.mem_cons,List.not_mem_nil,or_false] at hv
  rcases hv with rfl|rfl|rfl<;>rfl
set_option maxHeartbeats 1000000 in
set_option maxRecDepth 100000 in
theorem SortF_proc (w:ByteArray) (ks:List (ByteArray×ByteArray)) (hl:ks.length<4611686018427387904):
    Proc Try.prog 50 [.ob 0 3 0 ks.length,.fn 51 []] [⟨3,ks.map fun x=>encF (fmW w x)⟩] (.tup []) [some ⟨3,(zcr cmpP ks).map fun x=>encF (fmW w x)⟩] []:=
  znz (α:=ByteArray×ByteArray) (Go.Proofs.enters_of Try.func50 (by kernel_rfl) rfl) 3 (encL3 w) (fun _=>rfl) cmpP (fun x y=>zoi (fmW w x) (fmW w y))
    (fun blk off cap d wd h1 h2 h3 h4=>AnyQ.slices_SortFunc_total Try.laysSortF 3 (fun _=>rfl) (fun _=>rfl) (encL3 w) (fun _=>rfl) (zqC w) cmpP swoP 51 #[] blk off cap d wd (Go.Proofs.enters_of Try.func51 (by kernel_rfl) rfl) h1 h2 h3 h4 totP)
    (fun p cap fv wd=>AnyF.slices_SortFunc_none Try.laysSortF p cap fv wd) ks hl
theorem zfd{α:Type}{R:α→α→Prop}(hi:∀x,¬R x x) (ht:∀x y z,R x y→R y z→R x z):∀ {a b:List α},a.Pairwise R→b.Pairwise R→(∀x,x∈a↔x∈b)→a=b
  | [],[],_,_,_=>rfl
  | [],y :: b,_,_,h=>absurd ((h y).2 (List.mem_cons_self ..)) (by simp)
  | x :: a,[],_,_,h=>absurd ((h x).1 (List.mem_cons_self ..)) (by simp)
  | x :: a,y :: b,ha,hb,h=>by
    rw[List.pairwise_cons] at ha hb
    have e:x=y:=by
      rcases List.mem_cons.1 ((h x).1 (List.mem_cons_self ..)) with e|h1
      · exact e
      · rcases List.mem_cons.1 ((h y).2 (List.mem_cons_self ..)) with e|h2
        · exact e.symm
        · exact absurd (ht _ _ _ (hb.1 x h1) (ha.1 y h2)) (hi _)
    subst e
    congr 1
    refine zfd hi ht ha.2 hb.2 fun z=>⟨fun hz=>?_,fun hz=>?_⟩
    · rcases List.mem_cons.1 ((h z).1 (List.mem_cons_of_mem _ hz)) with e|h1
      · subst e;exact absurd (ha.1 z hz) (hi z)
      · exact h1
    · rcases List.mem_cons.1 ((h z).2 (List.mem_cons_of_mem _ hz)) with e|h1
      · subst e;exact absurd (hb.1 z hz) (hi z)
      · exact h1
theorem znY (f:FormD):¬fLt f f=true:=by simp[fLt,zdO]
theorem zjJ (f g h:FormD) (h1:fLt f g=true) (h2:fLt g h=true):fLt f h=true:=zfO (x:=(f.lem,f.cls)) (y:=(g.lem,g.cls)) (z:=(h.lem,h.cls)) h1 h2
theorem zgT{f g:FormD}(hw:f.word=g.word) (h:fLt f g=false) (k:fLt g f=false):f=g:=by
  have:=zfP (x:=(f.lem,f.cls)) (y:=(g.lem,g.cls)) h k
  cases f;cases g;simp_all
theorem zjB{w:ByteArray}{f:FormD}(hf:f.word=w):∀ {l:List FormD},(∀g,g∈l→g.word=w)→f∉l→l.Pairwise (fun a b=>fLt a b=true)→(insF f l).Pairwise fun a b=>fLt a b=true
  | [],_,_,_=>by simp[insF]
  | g :: l,hw,hn,hp=>by
    rw[List.pairwise_cons] at hp
    unfold insF
    split
    · rename_i h
      refine List.pairwise_cons.2 ⟨fun x hx=>?_,List.pairwise_cons.2 hp⟩
      rcases List.mem_cons.1 hx with rfl|hx
      · exact h
      · exact zjJ _ _ _ h (hp.1 x hx)
    · rename_i h
      refine List.pairwise_cons.2 ⟨fun x hx=>?_,zjB hf (fun x hx=>hw x (List.mem_cons_of_mem _ hx)) (fun hm=>hn (List.mem_cons_of_mem _ hm)) hp.2⟩
      rcases mem_insF.1 hx with rfl|hx
      · cases e:fLt g x with
        | true=>rfl
        | false=>exact absurd (zgT (by rw[hf,hw g (List.mem_cons_self ..)]) (by simpa using h) e) (fun e=>hn (by rw[e];exact List.mem_cons_self ..))
      · exact hp.1 x hx
theorem zi7{w:ByteArray}:∀ {m l:List FormD},(∀g,g∈m→g.word=w)→(∀g,g∈l→g.word=w)→l.Pairwise (fun a b=>fLt a b=true)→(m.foldl putF l).Pairwise fun a b=>fLt a b=true
  | [],l,_,_,h=>h
  | f :: m,l,hm,hl,h=>by
    rw[List.foldl_cons]
    refine zi7 (fun g hg=>hm g (List.mem_cons_of_mem _ hg)) (fun g hg=>?_) ?_
    · rcases mem_putF.1 hg with rfl|hg
      · exact hm _ (List.mem_cons_self ..)
      · exact hl g hg
    · unfold putF
      split
      · exact h
      · rename_i hn
        exact zjB (hm f (List.mem_cons_self ..)) hl hn h
theorem zjO {w:ByteArray}{l:List FormD}(hw:∀g,g∈l→g.word=w) (hs:∀i j,i<j→j<l.length→fLt (fF l j) (fF l i)=false):∀k,k≤l.length→(cptN l k).Pairwise (fun a b=>fLt a b=true)∧∀x,x∈cptN l k↔∃i,i<k∧fF l i=x
  | 0,_=>⟨by simp[cptN],fun x=>by simp[cptN]⟩
  | k + 1,hk=>by
    obtain⟨h1,h2⟩:=zjO hw hs k (by omega)
    unfold cptN
    by_cases hd:0<k∧fF l k=fF l (k - 1)
    · rw[if_pos hd]
      refine⟨h1,fun x=>(h2 x).trans ⟨fun⟨i,hi,e⟩=>⟨i,by omega,e⟩,fun⟨i,hi,e⟩=>?_⟩⟩
      by_cases hik:i=k
      · subst hik;exact⟨i - 1,by omega,by rw[←hd.2];exact e⟩
      · exact⟨i,by omega,e⟩
    · rw[if_neg hd]
      refine⟨List.pairwise_append.2 ⟨h1,by simp,fun x hx y hy=>?_⟩,fun x=>?_⟩
      · obtain rfl:y=fF l k:=by simpa using hy
        obtain⟨i,hi,rfl⟩:=(h2 x).1 hx
        have hwx:∀j,j<l.length→(fF l j).word=w:=fun j hj=>hw _ (zdp hj)
        cases e:fLt (fF l i) (fF l k) with
        | true=>rfl
        | false=>
          exfalso
          have e1:=zgT (by rw[hwx i (by omega),hwx k (by omega)]) e (hs i k hi (by omega))
          refine hd ⟨by omega,?_⟩
          by_cases hik:i=k - 1
          · rw[←hik];exact e1.symm
          · have a1:=hs i (k - 1) (by omega) (by omega)
            have a2:=hs (k - 1) k (by omega) (by omega)
            rw[←e1] at a2
            exact e1.symm.trans (zgT (by rw[hwx i (by omega),hwx (k - 1) (by omega)]) a2 a1)
      · rw[List.mem_append,h2 x,List.mem_singleton]
        constructor
        · rintro(⟨i,hi,e⟩|rfl)
          · exact⟨i,by omega,e⟩
          · exact⟨k,by omega,rfl⟩
        · rintro⟨i,hi,e⟩
          by_cases hik:i=k
          · subst hik;exact .inr e.symm
          · exact .inl ⟨i,by omega,e⟩
theorem zno (m:List (ByteArray×ByteArray)):(zcr cmpP m).Pairwise fun x y=>fLtP y x=false:=by
  have:=List.pairwise_mergeSort (le:=fun x y => !(ltOf cmpP) y x) (fun a b c h k=>by
    have:=swoP.ntrans c b a (by simpa using k) (by simpa using h)
    simp[this]) (fun a b=>by
    cases h:ltOf cmpP a b with
    | false=>simp
    | true=>
      have:ltOf cmpP b a=false:=by
        cases k:ltOf cmpP b a with
        | false=>rfl
        | true=>have:=swoP.trans _ _ _ h k;rw[swoP.irrefl] at this;cases this
      simp[this]) m
  refine this.imp fun {a b} h=>?_
  have h':ltOf cmpP b a=false:=by simpa using h
  rw[ltP] at h'
  exact h'
theorem cpt_sort (w:ByteArray) (m:List (ByteArray×ByteArray)):cpt ((zcr cmpP m).map (fmW w))=(m.map (fmW w)).foldl putF []:=by
  have hw:∀(q:List (ByteArray×ByteArray)) g,g∈q.map (fmW w)→g.word=w:=fun q g hg=>by
    obtain⟨x,_,rfl⟩:=List.mem_map.1 hg;rfl
  have hp:=zno m
  have hs:∀i j,i<j→j<((zcr cmpP m).map (fmW w)).length→fLt (fF ((zcr cmpP m).map (fmW w)) j) (fF ((zcr cmpP m).map (fmW w)) i)=false:=fun i j hij hj=>by
    have hj':j<(zcr cmpP m).length:=by simpa using hj
    rw[zek hj,zek (by omega),List.getElem_map,List.getElem_map]
    exact List.pairwise_iff_getElem.1 hp i j (by omega) hj' hij
  obtain⟨h1,h2⟩:=zjO (hw _) hs _ (Nat.le_refl _)
  refine zfd znY zjJ h1 (zi7 (hw m) (fun g hg=>by cases hg) List.Pairwise.nil) fun x=>?_
  unfold cpt
  rw[h2 x,mem_foldl_putF]
  have hperm:(zcr cmpP m).Perm m:=List.mergeSort_perm _ _
  constructor
  · rintro⟨i,hi,rfl⟩
    have:=zdp hi
    obtain⟨y,hy,e⟩:=List.mem_map.1 this
    exact .inl (List.mem_map.2 ⟨y,hperm.mem_iff.1 hy,e⟩)
  · rintro(hx|hx)
    · obtain⟨y,hy,rfl⟩:=List.mem_map.1 hx
      obtain⟨i,hi,e⟩:=List.getElem_of_mem (hperm.mem_iff.2 hy)
      exact⟨i,by simpa using hi,by rw[zek (by simpa using hi),List.getElem_map,e]⟩
    · cases hx
theorem zjZ (r:RuleD) (w:ByteArray):zgw r w=if (zeK r w).2=true then some (zeK r w).1 else none:=by
  unfold zgw zeK cutT zhF
  by_cases h1:r.suf.size≤w.size
  · have en:((w.size:Int) - r.suf.size).toNat=w.size - r.suf.size:=by omega
    simp only[en]
    by_cases h2:w.extract (w.size - r.suf.size) w.size=r.suf
    · have hs:(w.extract 0 (w.size - r.suf.size)).size=w.size - r.suf.size:=by rw[ByteArray.size_extract];omega
      simp only[h1,h2,decide_true,Bool.and_self,if_true,Bool.true_and,hs,ne_eq,not_true_eq_false,false_or]
      have hz:(w.extract 0 (w.size - r.suf.size)++r.put=⟨#[]⟩)↔((w.size:Int) - r.suf.size=0∧r.put=.empty):=by
        constructor
        · intro e
          have e2:=congrArg ByteArray.size e
          rw[ByteArray.size_append,hs] at e2
          have e3:(⟨#[]⟩:ByteArray).size=0:=rfl
          exact⟨by omega,ByteArray.size_eq_zero_iff.1 (by omega)⟩
        · rintro⟨e1,e2⟩
          rw[e2]
          have:w.extract 0 (w.size - r.suf.size)=.empty:=ByteArray.size_eq_zero_iff.1 (by rw[hs];omega)
          rw[this];rfl
      by_cases h3:(w.size:Int) - r.suf.size<r.least
      · rw[if_pos (.inl h3),if_neg]
        simp only[Bool.and_eq_true,decide_eq_true_eq,not_and]
        omega
      · by_cases h4:(w.size:Int) - r.suf.size=0∧r.put=.empty
        · rw[if_pos (.inr (.inr h4)),if_neg]
          rw[decide_eq_true (hz.2 h4)];simp
        · rw[if_neg (by rintro(h|h|h);exact h3 h;omega;exact h4 h),if_pos]
          rw[decide_eq_false (fun e=>h4 (hz.1 e)),Bool.not_false,Bool.and_true,decide_eq_true_eq]
          omega
    · rw[if_pos (.inr (.inr (.inl h2))),if_neg]
      simp[h1,h2]
  · rw[if_pos (.inr (.inl (by omega))),if_neg]
    simp[h1]
def rawX (x:LexD) (w:ByteArray):List FormD:=if zbs x w≠[] then zbs x w else if zbC x w≠[] then zbC x w else [⟨w,w,.empty⟩]
theorem zi3{x:LexD}{w:ByteArray}:∀f,f∈rawX x w→f.word=w:=by
  intro f hf
  unfold rawX at hf
  split at hf
  · exact of_decide_eq_true (List.mem_filter.1 hf).2
  · split at hf
    · obtain⟨r,_,h⟩:=List.mem_filterMap.1 hf
      cases hr:zgw r w with
      | none=>rw[hr] at h;cases h
      | some s=>rw[hr] at h;simp at h;rw[←h]
    · obtain rfl:f=⟨w,w,.empty⟩:=by simpa using hf
      rfl
theorem zg9{m:List FormD}:m.foldl putF []=[]↔m=[]:=by
  constructor
  · intro h
    cases m with
    | nil=>rfl
    | cons f m=>
      have:f∈(f :: m).foldl putF []:=mem_foldl_putF.2 (.inl (List.mem_cons_self ..))
      rw[h] at this;cases this
  · rintro rfl;rfl
theorem zmE (x:LexD) (w:ByteArray):allX x w=(rawX x w).foldl putF []:=by
  have n:∀l:List FormD,l.foldl putF []≠[]↔l≠[]:=fun l=>not_congr zg9
  unfold allX rawX zcc zb7
  by_cases h1:zbs x w≠[]
  · rw[if_pos ((n _).2 h1),if_pos h1]
  · rw[if_neg (fun e=>h1 ((n _).1 e)),if_neg h1]
    by_cases h2:zbC x w≠[]
    · rw[if_pos ((n _).2 h2),if_pos h2]
    · rw[if_neg (fun e=>h2 ((n _).1 e)),if_neg h2]
      simp[putF,insF]
def prF (f:FormD):ByteArray×ByteArray:=(f.lem,f.cls)
def ziQ (w:ByteArray) (l:List FormD):List FormD:=(zcr cmpP (l.map prF)).map (fmW w)
theorem zgq (w:ByteArray) (l:List FormD):(ziQ w l).length=l.length:=by simp[ziQ,zdN]
theorem zra{w:ByteArray}{l:List FormD}(h:∀f,f∈l→f.word=w):(l.map prF).map (fmW w)=l:=by
  rw[List.map_map]
  conv=>rhs;rw[←List.map_id l]
  exact List.map_congr_left fun f hf=>by have:=h f hf;cases f;simp_all[fmW,prF]
theorem zro{w:ByteArray}{l:List FormD}(h:∀f,f∈l→f.word=w):cpt (ziQ w l)=l.foldl putF []:=by
  unfold ziQ;rw[cpt_sort,zra h]
theorem zog (w:ByteArray) (l:List FormD) (h:∀f,f∈l→f.word=w) (hl:l.length<4611686018427387904):
    Proc Try.prog 50 [.ob 0 3 0 l.length,.fn 51 []] [⟨3,l.map encF⟩] (.tup []) [some ⟨3,(ziQ w l).map encF⟩] []:=by
  have:=SortF_proc w (l.map prF) (by simpa using hl)
  have e1:((l.map prF).map fun x=>encF (fmW w x))=l.map encF:=by
    conv=>rhs;rw[←zra h]
    rw[List.map_map (f:=fmW w)];rfl
  have e2:((zcr cmpP (l.map prF)).map fun x=>encF (fmW w x))=(ziQ w l).map encF:=by unfold ziQ;rw[List.map_map];rfl
  rw[e1,e2,List.length_map] at this
  exact this
theorem vProc.cpt{P:Program}{S:St}{f:FuncId}{vals:List PV}{K:PV→Eff→Prop}(i:Nat) {n n':Nat}{els els':List FormD}(hpr:Proc P f [.ob 0 3 0 n] [⟨3,els.map encF⟩] (.ob 0 3 0 n') [some ⟨3,els'.map encF⟩] []) (ho:S.obj i=some ⟨3,els.map encF⟩) (hv:vals=[.ob i 3 0 n])
    (hk:K (.ob i 3 0 n') ⟨[],[],[(i,⟨3,els'.map encF⟩)],[]⟩):vProc P S f vals K:=by
  refine vProc.of [i] hpr (by simp) rfl (by rw[hv];simp[PV.ren,rmap]) (fun j o hj=>?_) (by simpa[PV.ren,pmap,zbl,zaW,AO.ren,za2,-List.map_map] using hk)
  match j,hj with
  | 0,hj=>cases hj;simpa[rmap,AO.ren,za2,-List.map_map] using ho
theorem zdz{x:LexD}{w:ByteArray}{i:Nat}(hi:i<x.forms.length):((x.forms.take (i+1)).filter fun f=>decide (f.word=w))=((x.forms.take i).filter fun f=>decide (f.word=w))++if (fF x.forms i).word=w then [fF x.forms i] else []:=by
  rw[zhW hi,List.filter_append]
  by_cases h:(fF x.forms i).word=w<;>simp[h]
def zho (x:LexD) (w:ByteArray) (j:Nat):List FormD:=(x.rules.take j).filterMap fun r=>(zgw r w).map fun s=>⟨w,s,r.cls⟩
theorem zd7{x:LexD}{w:ByteArray}{j:Nat}(hj:j<x.rules.length):zho x w (j+1)=zho x w j++if (zeK (fR x.rules j) w).2=true then [⟨w,(zeK (fR x.rules j) w).1,(fR x.rules j).cls⟩] else []:=by
  unfold zho
  rw[zoA hj,List.filterMap_append]
  congr 1
  simp only[List.filterMap_cons,List.filterMap_nil,zjZ]
  by_cases h:(zeK (fR x.rules j) w).2=true<;>simp[h]
theorem zi5{x:LexD}{w:ByteArray}{r:List FormD}(hr:r=if zbs x w≠[] then zbs x w else zbC x w) (h:r=[]):rawX x w=[⟨w,w,.empty⟩]:=by
  subst h
  unfold rawX
  by_cases h1:zbs x w≠[]
  · rw[if_pos h1] at hr;exact absurd hr.symm h1
  · rw[if_neg h1] at hr
    rw[if_neg h1,if_neg (fun h=>h hr.symm)]
theorem zi4{x:LexD}{w:ByteArray}{r:List FormD}(hr:r=if zbs x w≠[] then zbs x w else zbC x w) (h:r≠[]):rawX x w=r:=by
  unfold rawX
  by_cases h1:zbs x w≠[]
  · rw[if_pos h1] at hr;rw[if_pos h1,hr]
  · rw[if_neg h1] at hr
    rw[if_neg h1,if_pos (by rw[←hr];exact h),hr]
theorem zlV (x:LexD) (w:ByteArray):(rawX x w).length≤x.forms.length+x.rules.length+1:=by
  unfold rawX zbs zbC
  split
  · have:=List.length_filter_le (fun f:FormD=>decide (f.word=w)) x.forms;omega
  · split
    · have:=List.length_filterMap_le (fun r=>(zgw r w).map fun s=>(⟨w,s,r.cls⟩:FormD)) x.rules;omega
    · simp
theorem lAll_own (x:LexD) (w:ByteArray) (hx:HeldX x) (hw:w.size≤140737488355328):Pure Try.prog 29 [encX x,encS w] (.ob 0 3 0 (allX x w).length) [⟨3,(allX x w++List.replicate ((rawX x w).length - (allX x w).length) noF).map encF⟩]:=by
  have hnf:=hx.nforms
  have hnr:=hx.nrules
  have hrw:=zlV x w
  refine Pure.intro (ts:=[4]) Try.func29 (by kernel_rfl) rfl rfl rfl (Nat.le_of_ble_eq_true rfl) ?_ ?_
  · simp[zaR,encS,PV.pure,zaw]
  refine sZ [1,2] (fun P S K=>XvBox S.nx (S.get 0) (fun r0 ef0=>K ⟨[(1,S.get 1),(2,r0)],(Eff.hp ef0 S.nx S.hp),(S.nx+ef0.add.length),S.gh⟩)) fun K hK=>?_
  repeat' (first|(refine hK _ ?_;clear hK K)|refine And.intro ?_ ?_|exact cl|(refine st ?_;try simp only[encX,zaa,zab,zac,encF,encR])|fail)
  all_goals
  refine sY [1,2,5] (fun P S K=>K ⟨[(1,S.get 1),(2,S.get 2),(5,(.atom (.slice none 0 0)))],S.hp,S.nx,S.gh⟩) ?_
  refine Tri.born 5 3 rfl ?_
  all_goals
  refine Tri.seq ?_
  refine sZ [1,2,5,13,14,15] (fun P S K=>XvFieldAddr P 27 0 (S.get 2) (fun r0 _=>XvLoad P 23 (M S.hp S.nx) r0 (fun r1 _=>XvLen P 23 (M S.hp S.nx) r1 (fun r2 _=>K ⟨[(1,S.get 1),(2,S.get 2),(5,S.get 5),(13,r1),(14,r2),(15,(.atom (.int .i64 0)))],S.hp,S.nx,S.gh⟩)))) fun K hK=>?_
  repeat' (first|(refine hK _ ?_;clear hK K)|refine And.intro ?_ ?_|exact cl|(refine st ?_;try simp only[encX,zaa,zab,zac,encF,encR])|fail)
  all_goals
  refine Tri.block ?_
  refine Tri.loop (α:=(o:List FormD) ×' (i:Nat) ×' (i≤x.forms.length∧o.length≤i∧o=(x.forms.take i).filter fun f=>decide (f.word=w))) (fun z=>(fun(o:List FormD) (i:Nat)=>(⟨[(1,encS w),(2,.ptr 0 3 0 0),(5,.ob 1 3 0 o.length),(13,zaa x.forms),(14,encI x.forms.length),(15,encI i)],[(0,some ⟨3,[encX x]⟩),(1,some ⟨3,o.map encF⟩)],2,[]⟩:St)) z.1 z.2.1) (fun z=>(fun(o:List FormD) (i:Nat)=>x.forms.length - i) z.1 z.2.1) ⟨[],0,⟨Nat.zero_le _,Nat.le_refl _,rfl⟩⟩ [0,1] ?_ ?_
  ·exact zbm
  rintro⟨o,i,⟨hi,hol,ho⟩⟩
  refine sY [1,2,5,13,14,15,16] (fun P S K=>XvBinOV P .lss 3 (.tmp 14) (S.get 15) (S.get 14) (fun r0 _=>K ⟨[(1,S.get 1),(2,S.get 2),(5,S.get 5),(13,S.get 13),(14,S.get 14),(15,S.get 15),(16,r0)],S.hp,S.nx,S.gh⟩)) ?_
  all_goals
  refine Tri.seq ?_
  refine Tri.cond rfl (fun h16=>?_) (fun h16=>?_)
  ·try (cases h16;done)
   all_goals (try simp only[CQ] at h16)
   all_goals
   refine Tri.skip ?_
   refine Tri.seq ?_
   refine Tri.block ?_
   have hil:i<x.forms.length:=by omega
   refine sZ [1,2,5,7,13,14,15] (fun P S K=>XvIndexAddr P 23 (S.get 13) (S.get 15) (fun r0 _=>XvLoad P 40 (M S.hp S.nx) r0 (fun r1 _=>XvAlloc P 40 S.nx (fun r2 ef2=>XvStore P 40 (M (Eff.hp ef2 S.nx S.hp) (S.nx+ef2.add.length)) r2 r1 (fun r3 ef3=>K ⟨[(1,S.get 1),(2,S.get 2),(5,S.get 5),(7,r2),(13,S.get 13),(14,S.get 14),(15,S.get 15)],(Eff.hp ef3 (S.nx+ef2.add.length) (Eff.hp ef2 S.nx S.hp)),((S.nx+ef2.add.length)+ef3.add.length),S.gh⟩))))) fun K hK=>?_
   repeat' (first|(refine hK _ ?_;clear hK K)|refine And.intro ?_ ?_|exact cl|(refine st ?_;try simp only[encX,zaa,zab,zac,encF,encR,zba hil])|fail)
   all_goals
   refine sZ [1,2,5,7,13,14,15,22] (fun P S K=>XvFieldAddr P 40 0 (S.get 7) (fun r0 _=>XvLoad P 9 (M S.hp S.nx) r0 (fun r1 _=>XvBinOV P .eql 9 (.tmp 21) r1 (S.get 1) (fun r3 _=>K ⟨[(1,S.get 1),(2,S.get 2),(5,S.get 5),(7,S.get 7),(13,S.get 13),(14,S.get 14),(15,S.get 15),(22,r3)],S.hp,S.nx,S.gh⟩)))) fun K hK=>?_
   repeat' (first|(refine hK _ ?_;clear hK K)|refine And.intro ?_ ?_|exact cl|(refine st ?_;try simp only[encX,zaa,zab,zac,encF,encR])|fail)
   all_goals
   refine Tri.cond rfl (fun h22=>?_) (fun h22=>?_)
   ·try (cases h22;done)
    all_goals (try simp only[CQ] at h22)
    all_goals
    refine rZ [1,2,5,13,14,15] (fun P S K=>XvLoad P 40 (M S.hp S.nx) (S.get 7) (fun r1 _=>XvBuildS P 23 1 S.nx [(0,r1)] (fun r2 ef2=>(23=23∧XvAppend P 23 (M (Eff.hp ef2 S.nx S.hp) (S.nx+ef2.add.length)) (S.get 5) r2 (fun r3 ef3=>K ⟨[(1,S.get 1),(2,S.get 2),(5,r3),(13,S.get 13),(14,S.get 14),(15,S.get 15)],(Eff.hp ef3 (S.nx+ef2.add.length) (Eff.hp ef2 S.nx S.hp)),((S.nx+ef2.add.length)+ef3.add.length),S.gh⟩))))) fun K hK=>?_
    repeat' (first|(refine hK _ ?_;clear hK K)|refine And.intro ?_ ?_|exact cl|(refine st ?_;try simp only[encX,zaa,zab,zac,encF,encR,zba hil])|fail)
    all_goals
    refine rY [1,2,5,13,14,15] (fun P S K=>XvBinOV P .add 3 (.const (.int .i64 1)) (S.get 15) (.atom (.int .i64 1)) (fun r0 _=>K ⟨[(1,S.get 1),(2,S.get 2),(5,S.get 5),(13,S.get 13),(14,S.get 14),(15,r0)],S.hp,S.nx,S.gh⟩)) ?_
    all_goals try simp (disch:=omega) only[zae,zaf]
    all_goals
    first
    | (refine⟨⟨o++[fF x.forms i],i+1,by omega,by simp;omega,by rw[zdz hil,if_pos (by assumption),←ho]⟩,[0,4],by dsimp only;omega,?_⟩
       exact zbm)
    | (refine⟨⟨o,i+1,by omega,by omega,by rw[zdz hil,if_neg (by assumption),←ho,List.append_nil]⟩,[0,1],by dsimp only;omega,?_⟩
       exact zbm)
   try (cases h22;done)
   all_goals (try simp only[CQ] at h22)
   all_goals
   refine Tri.skip ?_
   refine rY [1,2,5,13,14,15] (fun P S K=>XvBinOV P .add 3 (.const (.int .i64 1)) (S.get 15) (.atom (.int .i64 1)) (fun r0 _=>K ⟨[(1,S.get 1),(2,S.get 2),(5,S.get 5),(13,S.get 13),(14,S.get 14),(15,r0)],S.hp,S.nx,S.gh⟩)) ?_
   all_goals try simp (disch:=omega) only[zae,zaf]
   all_goals
   first
   | (refine⟨⟨o++[fF x.forms i],i+1,by omega,by simp;omega,by rw[zdz hil,if_pos (by assumption),←ho]⟩,[0,4],by dsimp only;omega,?_⟩
      exact zbm)
   | (refine⟨⟨o,i+1,by omega,by omega,by rw[zdz hil,if_neg (by assumption),←ho,List.append_nil]⟩,[0,1],by dsimp only;omega,?_⟩
      exact zbm)
  try (cases h16;done)
  all_goals (try simp only[CQ] at h16)
  all_goals
  refine Tri.exit ?_
  refine Tri.cut (α:=(r:List FormD) ×' (r.length≤1000000∧r=if zbs x w≠[] then zbs x w else zbC x w)) (fun⟨r,hrl,hr⟩=>⟨[(1,encS w),(5,.ob 0 3 0 r.length)],[(0,some ⟨3,r.map encF⟩)],1,[]⟩) ?_ ?_
  ·skip
   have hfo:o=zbs x w:=by rw[ho];unfold zbs;rw[List.take_of_length_le (by omega)]
   refine sZ [1,2,5,30] (fun P S K=>XvLen P 23 (M S.hp S.nx) (S.get 5) (fun r1 _=>XvBinOV P .eql 3 (.const (.int .i64 0)) r1 (.atom (.int .i64 0)) (fun r2 _=>K ⟨[(1,S.get 1),(2,S.get 2),(5,S.get 5),(30,r2)],S.hp,S.nx,S.gh⟩))) fun K hK=>?_
   repeat' (first|(refine hK _ ?_;clear hK K)|refine And.intro ?_ ?_|exact cl|(refine st ?_;try simp only[encX,zaa,zab,zac,encF,encR])|fail)
   all_goals
   refine Tri.cond rfl (fun h30=>?_) (fun h30=>?_)
   ·try (cases h30;done)
    all_goals (try simp only[CQ] at h30)
    all_goals
    have hon:o=[]:=List.eq_nil_of_length_eq_zero (by omega)
    subst hon
    refine sZ [1,5,32,33,34] (fun P S K=>XvFieldAddr P 27 1 (S.get 2) (fun r0 _=>XvLoad P 24 (M S.hp S.nx) r0 (fun r1 _=>XvLen P 24 (M S.hp S.nx) r1 (fun r2 _=>K ⟨[(1,S.get 1),(5,S.get 5),(32,r1),(33,r2),(34,(.atom (.int .i64 0)))],S.hp,S.nx,S.gh⟩)))) fun K hK=>?_
    repeat' (first|(refine hK _ ?_;clear hK K)|refine And.intro ?_ ?_|exact cl|(refine st ?_;try simp only[encX,zaa,zab,zac,encF,encR])|fail)
    all_goals
    refine Tri.block ?_
    refine Tri.loop (α:=(q:List FormD) ×' (j:Nat) ×' (j≤x.rules.length∧q.length≤j∧q=zho x w j)) (fun z=>(fun(q:List FormD) (j:Nat)=>(⟨[(1,encS w),(5,.ob 1 3 0 q.length),(32,zab x.rules),(33,encI x.rules.length),(34,encI j)],[(0,some ⟨3,[encX x]⟩),(1,some ⟨3,q.map encF⟩)],2,[]⟩:St)) z.1 z.2.1) (fun z=>(fun(q:List FormD) (j:Nat)=>x.rules.length - j) z.1 z.2.1) ⟨[],0,⟨Nat.zero_le _,Nat.le_refl _,rfl⟩⟩ [0,1] ?_ ?_
    ·exact zbm
    rintro⟨q,j,⟨hj,hql,hq⟩⟩
    refine sY [1,5,32,33,34,35] (fun P S K=>XvBinOV P .lss 3 (.tmp 33) (S.get 34) (S.get 33) (fun r0 _=>K ⟨[(1,S.get 1),(5,S.get 5),(32,S.get 32),(33,S.get 33),(34,S.get 34),(35,r0)],S.hp,S.nx,S.gh⟩)) ?_
    all_goals
    refine Tri.seq ?_
    refine Tri.cond rfl (fun h35=>?_) (fun h35=>?_)
    ·try (cases h35;done)
     all_goals (try simp only[CQ] at h35)
     all_goals
     refine Tri.skip ?_
     refine Tri.seq ?_
     refine Tri.block ?_
     have hjl:j<x.rules.length:=by omega
     refine sZ [1,5,9,32,33,34] (fun P S K=>XvIndexAddr P 24 (S.get 32) (S.get 34) (fun r0 _=>XvLoad P 66 (M S.hp S.nx) r0 (fun r1 _=>XvAlloc P 66 S.nx (fun r2 ef2=>XvStore P 66 (M (Eff.hp ef2 S.nx S.hp) (S.nx+ef2.add.length)) r2 r1 (fun r3 ef3=>K ⟨[(1,S.get 1),(5,S.get 5),(9,r2),(32,S.get 32),(33,S.get 33),(34,S.get 34)],(Eff.hp ef3 (S.nx+ef2.add.length) (Eff.hp ef2 S.nx S.hp)),((S.nx+ef2.add.length)+ef3.add.length),S.gh⟩))))) fun K hK=>?_
     repeat' (first|(refine hK _ ?_;clear hK K)|refine And.intro ?_ ?_|exact cl|(refine st ?_;try simp only[encX,zaa,zab,zac,encF,encR,zdo hjl])|fail)
     all_goals
     refine sZ [1,5,9,10,11,32,33,34] (fun P S K=>XvLoad P 66 (M S.hp S.nx) (S.get 9) (fun r0 _=>XvFnIV P (M S.hp S.nx) (.fn 49 []) [r0,(S.get 1)] (fun r2 ef2=>XvExtract r2 0 (fun r4 _=>XvExtract r2 1 (fun r5 _=>K ⟨[(1,S.get 1),(5,S.get 5),(9,S.get 9),(10,r4),(11,r5),(32,S.get 32),(33,S.get 33),(34,S.get 34)],(Eff.hp ef2 S.nx S.hp),(S.nx+ef2.add.length),S.gh⟩))))) fun K hK=>?_
     repeat' (first|(refine hK _ ?_;clear hK K)|refine And.intro ?_ ?_|refine .inl ⟨_,_,zk9 (fR x.rules j) w (hx.rules _ (zfx hjl)) hw,?_⟩|(refine st ?_;try simp only[encX,zaa,zab,zac,encF,encR,zdo hjl])|fail)
     all_goals
     refine sY [1,5,9,10,32,33,34,44] (fun P S K=>K ⟨[(1,S.get 1),(5,S.get 5),(9,S.get 9),(10,S.get 10),(32,S.get 32),(33,S.get 33),(34,S.get 34),(44,(S.get 11))],S.hp,S.nx,S.gh⟩) ?_
     all_goals
     refine Tri.cond rfl (fun h44=>?_) (fun h44=>?_)
     ·try (cases h44;done)
      all_goals (try simp only[CQ] at h44)
      all_goals
      refine rZ [1,5,32,33,34] (fun P S K=>XvFieldAddr P 66 2 (S.get 9) (fun r3 _=>XvLoad P 9 (M S.hp S.nx) r3 (fun r4 _=>XvBuild P 40 [(0,(S.get 1)),(1,(S.get 10)),(2,r4)] (fun r5 _=>XvBuildS P 23 1 S.nx [(0,r5)] (fun r6 ef6=>(23=23∧XvAppend P 23 (M (Eff.hp ef6 S.nx S.hp) (S.nx+ef6.add.length)) (S.get 5) r6 (fun r7 ef7=>K ⟨[(1,S.get 1),(5,r7),(32,S.get 32),(33,S.get 33),(34,S.get 34)],(Eff.hp ef7 (S.nx+ef6.add.length) (Eff.hp ef6 S.nx S.hp)),((S.nx+ef6.add.length)+ef7.add.length),S.gh⟩))))))) fun K hK=>?_
      repeat' (first|(refine hK _ ?_;clear hK K)|refine And.intro ?_ ?_|exact cl|(refine st ?_;try simp only[encX,zaa,zab,zac,encF,encR,zdo hjl])|fail)
      all_goals
      refine rY [1,5,32,33,34] (fun P S K=>XvBinOV P .add 3 (.const (.int .i64 1)) (S.get 34) (.atom (.int .i64 1)) (fun r0 _=>K ⟨[(1,S.get 1),(5,S.get 5),(32,S.get 32),(33,S.get 33),(34,r0)],S.hp,S.nx,S.gh⟩)) ?_
      all_goals try simp (disch:=omega) only[zae,zaf]
      all_goals
      first
      | (refine⟨⟨q++[⟨w,(zeK (fR x.rules j) w).1,(fR x.rules j).cls⟩],j+1,by omega,by simp;omega,by rw[zd7 hjl,if_pos (by assumption),←hq]⟩,[0,4],by dsimp only;omega,?_⟩
         exact zbm)
      | (refine⟨⟨q,j+1,by omega,by omega,by rw[zd7 hjl,if_neg (by simp_all),←hq,List.append_nil]⟩,[0,1],by dsimp only;omega,?_⟩
         exact zbm)
     try (cases h44;done)
     all_goals (try simp only[CQ] at h44)
     all_goals
     refine Tri.skip ?_
     refine rY [1,5,32,33,34] (fun P S K=>XvBinOV P .add 3 (.const (.int .i64 1)) (S.get 34) (.atom (.int .i64 1)) (fun r0 _=>K ⟨[(1,S.get 1),(5,S.get 5),(32,S.get 32),(33,S.get 33),(34,r0)],S.hp,S.nx,S.gh⟩)) ?_
     all_goals try simp (disch:=omega) only[zae,zaf]
     all_goals
     first
     | (refine⟨⟨q++[⟨w,(zeK (fR x.rules j) w).1,(fR x.rules j).cls⟩],j+1,by omega,by simp;omega,by rw[zd7 hjl,if_pos (by assumption),←hq]⟩,[0,4],by dsimp only;omega,?_⟩
        exact zbm)
     | (refine⟨⟨q,j+1,by omega,by omega,by rw[zd7 hjl,if_neg (by simp_all),←hq,List.append_nil]⟩,[0,1],by dsimp only;omega,?_⟩
        exact zbm)
    try (cases h35;done)
    all_goals (try simp only[CQ] at h35)
    all_goals
    refine Tri.exit ?_
    first|(have e:q=zbC x w:=(by rw[hq];unfold zho zbC;rw[List.take_of_length_le (by omega)]);refine⟨⟨q,by omega,by rw[←hfo,if_neg (by simp)];exact e⟩,[1],?_⟩;exact zbm)|(refine⟨⟨o,by omega,by rw[←hfo,if_pos (fun e=>h30 (by rw[e];rfl))]⟩,[1],?_⟩;exact zbm)
   try (cases h30;done)
   all_goals (try simp only[CQ] at h30)
   all_goals
   refine Tri.skip ?_
   first|(have e:q=zbC x w:=(by rw[hq];unfold zho zbC;rw[List.take_of_length_le (by omega)]);refine⟨⟨q,by omega,by rw[←hfo,if_neg (by simp)];exact e⟩,[1],?_⟩;exact zbm)|(refine⟨⟨o,by omega,by rw[←hfo,if_pos (fun e=>h30 (by rw[e];rfl))]⟩,[1],?_⟩;exact zbm)
  rintro⟨r,hrl,hr⟩
  refine Tri.cut (α:=Unit) (fun⟨⟩=>⟨[(5,.ob 0 3 0 (rawX x w).length)],[(0,some ⟨3,(rawX x w).map encF⟩)],1,[]⟩) ?_ ?_
  ·skip
   refine sZ [1,5,56] (fun P S K=>XvLen P 23 (M S.hp S.nx) (S.get 5) (fun r1 _=>XvBinOV P .eql 3 (.const (.int .i64 0)) r1 (.atom (.int .i64 0)) (fun r2 _=>K ⟨[(1,S.get 1),(5,S.get 5),(56,r2)],S.hp,S.nx,S.gh⟩))) fun K hK=>?_
   repeat' (first|(refine hK _ ?_;clear hK K)|refine And.intro ?_ ?_|exact cl|(refine st ?_;try simp only[encX,zaa,zab,zac,encF,encR])|fail)
   all_goals
   refine Tri.cond rfl (fun h56=>?_) (fun h56=>?_)
   ·try (cases h56;done)
    all_goals (try simp only[CQ] at h56)
    all_goals
    refine rZ [5] (fun P S K=>XvBuild P 40 [(0,(S.get 1)),(1,(S.get 1))] (fun r2 _=>XvBuildS P 23 1 S.nx [(0,r2)] (fun r3 ef3=>K ⟨[(5,r3)],(Eff.hp ef3 S.nx S.hp),(S.nx+ef3.add.length),S.gh⟩))) fun K hK=>?_
    repeat' (first|(refine hK _ ?_;clear hK K)|refine And.intro ?_ ?_|exact cl|(refine st ?_;try simp only[encX,zaa,zab,zac,encF,encR])|fail)
    all_goals
    first|(have e:rawX x w=[⟨w,w,.empty⟩]:=zi5 hr (List.eq_nil_of_length_eq_zero (by omega));refine⟨(),[1],?_⟩;rw[e];exact zbm)|(have e:rawX x w=r:=zi4 hr (fun e=>h56 (by rw[e];rfl));refine⟨(),[0],?_⟩;rw[e];exact zbm)
   try (cases h56;done)
   all_goals (try simp only[CQ] at h56)
   all_goals
   refine Tri.skip ?_
   first|(have e:rawX x w=[⟨w,w,.empty⟩]:=zi5 hr (List.eq_nil_of_length_eq_zero (by omega));refine⟨(),[1],?_⟩;rw[e];exact zbm)|(have e:rawX x w=r:=zi4 hr (fun e=>h56 (by rw[e];rfl));refine⟨(),[0],?_⟩;rw[e];exact zbm)
  rintro⟨⟩
  refine sZ [5] (fun P S K=>XvFnIV P (M S.hp S.nx) (.fn 50 []) [(S.get 5),(.fn 51 [])] (fun r1 ef1=>K ⟨[(5,S.get 5)],(Eff.hp ef1 S.nx S.hp),(S.nx+ef1.add.length),S.gh⟩)) fun K hK=>?_
  repeat' (first|(refine hK _ ?_;clear hK K)|refine .inr (vProc.row 0 3 (zog w _ zi3 (by omega)) rfl (zaH _) (zaH _) rfl rfl rfl (zrc _) ?_)|(refine st ?_;try simp only[encX,zaa,zab,zac,encF,encR])|fail)
  all_goals
  refine sZ [4] (fun P S K=>XvFnIV P (M S.hp S.nx) (.fn 52 []) [(S.get 5)] (fun r1 ef1=>K ⟨[(4,r1)],(Eff.hp ef1 S.nx S.hp),(S.nx+ef1.add.length),S.gh⟩)) fun K hK=>?_
  repeat' (first|(refine hK _ ?_;clear hK K)|refine .inr (vProc.cpt 0 (zj8 _ (by rw[zgq];omega)) rfl (by rw[zgq]) ?_)|(refine st ?_;try simp only[encX,zaa,zab,zac,encF,encR])|fail)
  all_goals
  refine Tri.ret ?_
  show ResOk _ _ _ _
  have e1:allX x w=cpt (ziQ w (rawX x w)):=(zmE x w).trans (zro zi3).symm
  rw[e1,←zgq w (rawX x w)]
  exact ResOk.row 0 rfl rfl (zaH _) (by simp[retV,St.get,lk,sealed,PV.ren,rmap])
theorem zqn{H:Nat→Option AO}{keep:Nat→Bool}{k i sz n:Nat}{els:List PV}(hi:H i=some ⟨sz,els⟩) (hk:keep i=false) (hn:n≤els.length) (hp:zaw els=true):sealed H keep (k+1) (.ob i sz 0 n)=.sl sz (els.take n):=by
  simp only[sealed,hk,hi]
  simp only[Bool.false_eq_true,if_false,Nat.zero_add,hn,and_self,if_true,List.drop_zero,zak _ _ _ hp,←List.map_take,zak _ _ _ (znx hp n)]
theorem zjr (x:LexD) (w:ByteArray) (hx:HeldX x) (hw:w.size≤140737488355328):Pure Try.prog 29 [encX x,encS w] (zaa (allX x w)) []:=by
  refine(lAll_own x w hx hw).freeze 4 ?_ (zaK _)
  rw[zqn rfl rfl (by simp) (zaH _)]
  simp[zaa,List.map_append,List.take_left']
end Go.Proofs.Ytehoglapajkabaa
