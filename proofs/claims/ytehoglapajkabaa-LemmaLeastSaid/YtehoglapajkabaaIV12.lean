/-
  The clean machine: a region that draws its order,by what holds when some of its operations have come up.
-/
import Derived.Test.YtehoglapajkabaaIVL
import Derived.StillTail
set_option linter.all false
namespace Go.Proofs.Ytehoglapajkabaa
open Go Go.RowKit
section
variable {P:Program} {ops:Array Oper}
def zei (ops:Array Oper) (m:Nat):Option Tmp:=(ops[m]?).bind (·.dst)
structure GrowOk (ops:Array Oper) (D:Nat→List Nat) (n:Nat):Prop where
  size:n≤ops.size
  edge:∀m o,m<n→ops[m]? = some o→∀e∈o.after,Region.binds .any e=true→e.on<m
  sub:∀m o,ops[m]? = some o→∀j,j∈D m→∃e∈o.after,Region.binds .any e=true∧(e.on=j∨j∈D e.on)
  reads:∀i j o,i<j→j<n→ops[j]? = some o→∀t,zei ops i=some t→t∈o.looksAt ops→i∈D j
  over:∀i j o,i<j→j<n→ops[i]? = some o→∀t,zei ops j=some t→t∈o.looksAt ops→i∈D j
  apart:∀i j t,i<n→j<n→zei ops i=some t→zei ops j=some t→i=j
  tail:∀t,n≤t→t<ops.size→∀i,i<n→i∈D t
  noSel:Region.noSelect ops=true
  seq:Region.seqB .any ops (ops.size - n) n (Array.replicate n true++Array.replicate (ops.size - n) false)=true
theorem Act.put_get (a:Act) (d:Option Tmp) (v:Value) (t:Tmp):(a.put d v).tmps[t]? = if d=some t∧t<a.tmps.size then some v else a.tmps[t]? := by
  cases d with
  | none=>simp[Act.put]
  | some d=>
    simp only[Act.put,Array.getElem?_setIfInBounds,Option.some.injEq]
    by_cases h:d=t
    · subst h
      by_cases h2:d<a.tmps.size<;>simp[h2]
    · simp[h]
theorem Act.put_size (a:Act) (d:Option Tmp) (v:Value):(a.put d v).tmps.size=a.tmps.size:=by cases d<;>simp[Act.put]
theorem Act.put_def (a:Act) (d:Option Tmp) (v:Value):(a.put d v).defers=a.defers:=by cases d<;>simp[Act.put]
theorem zjP{p q:Nat→Bool}{i:Nat}(hp:p i=true) (hq:q i=false) (he:∀j,j≠i→q j=p j):∀n,i<n→(List.range n).countP q+1=(List.range n).countP p
  | 0,h=>by omega
  | n + 1,h=>by
    rw[List.range_succ,List.countP_append,List.countP_append]
    by_cases hn:i=n
    · subst hn
      have:(List.range i).countP q=(List.range i).countP p:=List.countP_congr fun j hj=>by rw[he j (by have:=List.mem_range.1 hj;omega)]
      simp[hp,hq,this]
    · have:=zjP hp hq he n (by omega)
      have h2:[n].countP q=[n].countP p:=by simp[List.countP_cons,he n (Ne.symm hn)]
      omega
theorem zeB{listed:Array Bool}{i j:Nat}(hi:i<listed.size):((listed.setIfInBounds i true).getD j false=true)=(listed.getD j false=true∨j=i):=by
  apply propext
  by_cases h:i=j
  · subst h;simp[hi]
  · rw[getD_set_ne false h];constructor
    · exact .inl
    · rintro(h2|h2)
      · exact h2
      · exact absurd h2.symm h
theorem zeA{listed:Array Bool}{j:Nat}(hj:j<listed.size):listed.getD j true=listed.getD j false:=by simp[hj]
def zcY (Dl:List (List Nat)) (m:Nat):List Nat:=Dl.getD m []
def zbz (ops:List Oper):List (List Nat):=
  ops.foldl (init:=[]) fun acc o=>acc++[(o.after.toList.filter (Region.binds .any ·)).foldl (init:=[]) fun l e=>(l++e.on :: acc.getD e.on []).eraseDups]
def zjC (ops:Array Oper) (Dl:List (List Nat)) (n:Nat):Bool:=
  decide (n≤ops.size) && Region.noSelect ops && Region.seqB .any ops (ops.size - n) n (Array.replicate n true++Array.replicate (ops.size - n) false) &&
  (decide (Dl.length≤ops.size) && ((List.range ops.size).all fun m=>
    (match ops[m]? with
      | none=>true
      | some o=>(decide (n≤m) || o.after.all fun e => !Region.binds .any e || decide (e.on<m)) &&
        ((zcY Dl m).all fun j=>decide (j<m) && o.after.any fun e=>Region.binds .any e && (e.on == j || (zcY Dl e.on).contains j)) &&
        (decide (m<n) || (List.range n).all fun i=>(zcY Dl m).contains i)))) &&
  ((List.range n).all fun j=>(List.range j).all fun i=>
    match ops[i]?,ops[j]? with
    | some oi,some oj=>
      (match oi.dst with|some t=>(!(oj.looksAt ops).contains t || (zcY Dl j).contains i) && oj.dst != some t|none=>true) &&
      (match oj.dst with|some t => !(oi.looksAt ops).contains t || (zcY Dl j).contains i|none=>true)
    | _,_=>true)
theorem zmn{l:List Oper}{Dl:List (List Nat)}{n:Nat}(h:zjC l.toArray Dl n=true):GrowOk l.toArray (zcY Dl) n∧∀m j,j∈zcY Dl m→j<m:=by
  unfold zjC at h
  simp only[Bool.and_eq_true,decide_eq_true_eq,List.all_eq_true,List.mem_range] at h
  obtain⟨⟨⟨⟨h1,h2⟩,h3⟩,h4,h5⟩,h6⟩:=h
  have hlt:∀m j,j∈zcY Dl m→j<m:=fun m j hj=>by
    have hm:m<l.toArray.size:=by
      rcases Nat.lt_or_ge m Dl.length with h|h
      · omega
      · have:zcY Dl m=[]:=by unfold zcY;simp[h]
        rw[this] at hj;cases hj
    have:=h5 m hm
    rw[Array.getElem?_eq_getElem hm] at this
    simp only[Bool.and_eq_true,List.all_eq_true,decide_eq_true_eq] at this
    exact(this.1.2 j hj).1
  have hpair:∀i j oi oj,i<j→j<n→l.toArray[i]? = some oi→l.toArray[j]? = some oj→
      (∀t,oi.dst=some t→(t∈oj.looksAt l.toArray→i∈zcY Dl j)∧oj.dst≠some t)∧(∀t,oj.dst=some t→t∈oi.looksAt l.toArray→i∈zcY Dl j):=fun i j oi oj hij hj hoi hoj=>by
    have:=h6 j hj i hij
    rw[hoi,hoj] at this
    simp only[Bool.and_eq_true] at this
    constructor
    · intro t ht
      rw[ht] at this
      have h7:=this.1
      simp only[Bool.and_eq_true,Bool.or_eq_true,Bool.not_eq_true',List.contains_eq_mem,decide_eq_true_eq,decide_eq_false_iff_not,bne_iff_ne] at h7
      exact⟨fun hx=>h7.1.resolve_left (fun h=>h hx),h7.2⟩
    · intro t ht hx
      rw[ht] at this
      have h7:=this.2
      simp only[Bool.or_eq_true,Bool.not_eq_true',List.contains_eq_mem,decide_eq_true_eq,decide_eq_false_iff_not] at h7
      exact h7.resolve_left (fun h=>h hx)
  have hat:∀i t,zei l.toArray i=some t→∃o,l.toArray[i]? = some o∧o.dst=some t:=fun i t h=>by
    unfold zei at h
    cases ho:l.toArray[i]? with
    | none=>rw[ho] at h;cases h
    | some o=>rw[ho] at h;exact⟨o,rfl,h⟩
  refine⟨⟨h1,?_,?_,?_,?_,?_,?_,h2,h3⟩,hlt⟩
  · intro m o hm ho e he hb
    have:=h5 m (by omega)
    rw[ho] at this
    simp only[Bool.and_eq_true,Bool.or_eq_true,decide_eq_true_eq] at this
    have h7:=this.1.1.resolve_left (by omega)
    have h8:=Array.all_eq_true_iff_forall_mem.1 h7 e he
    simpa[hb] using h8
  · intro m o ho j hj
    have hm:m<l.toArray.size:=(Array.getElem?_eq_some_iff.1 ho).1
    have:=h5 m hm
    rw[ho] at this
    simp only[Bool.and_eq_true,List.all_eq_true,decide_eq_true_eq] at this
    have h7:=(this.1.2 j hj).2
    obtain⟨e,he,h8⟩:=Array.any_eq_true'.1 h7
    simp only[Bool.and_eq_true,Bool.or_eq_true,beq_iff_eq,List.contains_eq_mem,decide_eq_true_eq] at h8
    exact⟨e,he,h8.1,h8.2⟩
  · intro i j o hij hj ho t ht hx
    obtain⟨oi,hoi,hdi⟩:=hat i t ht
    exact((hpair i j oi o hij hj hoi ho).1 t hdi).1 hx
  · intro i j o hij hj ho t ht hx
    obtain⟨oj,hoj,hdj⟩:=hat j t ht
    exact(hpair i j o oj hij hj ho hoj).2 t hdj hx
  · intro i j t hi hj hti htj
    obtain⟨oi,hoi,hdi⟩:=hat i t hti
    obtain⟨oj,hoj,hdj⟩:=hat j t htj
    rcases Nat.lt_trichotomy i j with h|h|h
    · exact absurd hdj ((hpair i j oi oj h hj hoi hoj).1 t hdi).2
    · exact h
    · exact absurd hdi ((hpair j i oj oi h hi hoj hoi).1 t hdj).2
  · intro t ht hts i hi
    have:=h5 t hts
    rw[Array.getElem?_eq_getElem hts] at this
    simp only[Bool.and_eq_true,Bool.or_eq_true,decide_eq_true_eq,List.all_eq_true,List.mem_range,List.contains_eq_mem] at this
    exact(this.2.resolve_left (by omega)) i hi
theorem zis {D:Nat→List Nat}{Q:Exit→Act→World→Prop}{tail:List Oper}{n:Nat}(ok:GrowOk ops D n) (htl:∀j,tail[j]? = ops[n+j]?) (I:(Nat→Prop)→Act→World→Prop)
    (hstep:∀(L:Nat→Prop) a w i,(∀m,L m→∀j,j∈D m→L j)→¬L i→i<n→(∀j,j∈D i→L j)→I L a w→∀K:Act→World→Prop,(∀a' w',I (fun j=>L j∨j=i) a' w'→K a' w')→wpOp P ops Q i K a w)
    (hfin:∀(L:Nat→Prop) a w,(∀j,j<n→L j)→(∀j,L j→j<n)→I L a w→wpList P ops Q tail a w):
    ∀ f (listed:Array Bool) (a:Act) (w:World),listed.size=ops.size→(∀t,n≤t→t<ops.size→listed.getD t false=false)→(∀m,listed.getD m false=true→∀j,j∈D m→listed.getD j false=true)→
      I (fun j=>listed.getD j false=true) a w→(List.range n).countP (fun j => !listed.getD j false)=f→wpAny P .any ops Q (f+tail.length) listed a w
  | 0,listed,a,w,hsz,ht0,hcl,hI,hf=>by
    have hL:∀j,j<n→listed.getD j false=true:=fun j hj=>by
      have:=List.countP_eq_zero.1 hf j (List.mem_range.2 hj)
      simpa using this
    have hlt:∀j,listed.getD j false=true→j<n:=fun j hj=>by
      rcases Nat.lt_or_ge j n with h|h
      · exact h
      · by_cases h2:j<ops.size
        · rw[ht0 j h h2] at hj;cases hj
        · simp[Array.getElem?_eq_none (by omega:listed.size≤j)] at hj
    rw[Nat.zero_add]
    have hlen:tail.length=ops.size - n:=by
      have h1:tail[ops.size - n]? = none:=by rw[htl];exact Array.getElem?_eq_none (by have:=ok.size;omega)
      have h2:=List.getElem?_eq_none_iff.1 h1
      rcases Nat.lt_or_ge tail.length (ops.size - n) with h|h
      · have h3:tail[tail.length]? = none:=List.getElem?_eq_none_iff.2 (Nat.le_refl _)
        rw[htl] at h3
        have:=Array.getElem?_eq_none_iff.1 h3
        have:=ok.size
        omega
      · omega
    have hlist:listed=Array.replicate n true++Array.replicate (ops.size - n) false:=by
      have hn:=ok.size
      apply Array.ext
      · simp[hsz];omega
      · intro j h1 h2
        rcases Nat.lt_or_ge j n with hjn|hjn
        · have h3:listed[j]=true:=by have:=hL j hjn;simpa[h1] using this
          exact h3.trans (by rw[Array.getElem_append_left (by simpa using hjn)];simp)
        · have h3:listed[j]=false:=by have:=ht0 j hjn (by rw[←hsz];exact h1);simpa[h1] using this
          exact h3.trans (by rw[Array.getElem_append_right (by simpa using hjn)];simp)
    exact wpAny_of_seq tail n listed _ w htl (by rw[hlist,hlen];exact ok.seq) (hfin _ a w hL hlt hI)
  | f + 1,listed,a,w,hsz,ht0,hcl,hI,hf=>by
    have hex:∃j,j<n∧listed.getD j false=false:=by
      have hp:0<(List.range n).countP (fun j => !listed.getD j false):=by omega
      obtain⟨j,hj,hj2⟩:=List.countP_pos_iff.1 hp
      exact⟨j,List.mem_range.1 hj,by simpa using hj2⟩
    have hsmall:∀j,j<n→listed.getD j false=false→Region.ready .any ops listed≠[]:=by
      intro j
      induction j using Nat.strongRecOn with
      | _ j ih=>
        intro hj hjf
        have hjo:j<ops.size:=by have:=ok.size;omega
        have hol:ops[j]? = some ops[j]:=Array.getElem?_eq_getElem hjo
        by_cases hb:∀e∈ops[j].after,Region.binds .any e=true→listed.getD e.on false=true
        · intro hnil
          have:j∈Region.ready .any ops listed:=mem_ready.2 ⟨by rw[zeA (by rw[hsz];exact hjo)];exact hjf,_,hol,hb⟩
          rw[hnil] at this
          cases this
        · have:∃e,e∈ops[j].after∧Region.binds .any e=true∧¬listed.getD e.on false=true:=by
            apply Classical.byContradiction
            intro hne
            exact hb fun e he hbe=>Classical.byContradiction fun hx=>hne ⟨e,he,hbe,hx⟩
          obtain⟨e,he,hbe,hx⟩:=this
          have:=ok.edge j _ hj hol e he hbe
          exact ih e.on this (by omega) (by simpa using hx)
    obtain⟨j0,hj0,hj0f⟩:=hex
    rw[show f+1+tail.length=(f+tail.length)+1 by omega]
    refine⟨fun h0=>absurd h0 (hsmall j0 hj0 hj0f),fun i hi=>?_⟩
    obtain⟨hun,o,ho,hall⟩:=mem_ready.1 hi
    have hio:i<ops.size:=(Array.getElem?_eq_some_iff.1 ho).1
    have hd:∀j,j∈D i→listed.getD j false=true:=fun j hj=>by
      obtain⟨e,he,hb,hon⟩:=ok.sub i o ho j hj
      have h1:=hall e he hb
      rcases hon with rfl|hon
      · exact h1
      · exact hcl _ h1 j hon
    have hin:i<n:=by
      rcases Nat.lt_or_ge i n with h|h
      · exact h
      · exfalso
        have h2:=hd j0 (ok.tail i h hio j0 hj0)
        rw[hj0f] at h2
        cases h2
    have his:i<listed.size:=by rw[hsz];exact hio
    have hui:listed.getD i false=false:=by rw[←zeA his];exact hun
    have hset:(fun j=>listed.getD j false=true∨j=i)=(fun j=>(listed.setIfInBounds i true).getD j false=true):=by funext j;exact(zeB his).symm
    refine hstep _ a w i hcl (by rw[hui];exact fun h=>by cases h) hin hd hI _ fun a' w' I'=>zis ok htl I hstep hfin f _ a' w' (by simp[hsz]) (fun t h1 h2=>by rw[getD_set_ne false (by omega)];exact ht0 t h1 h2) (fun m hm j hj=>?_) (by rw[←hset];exact I') ?_
    · rw[zeB his] at hm ⊢
      rcases hm with hm|rfl
      · exact .inl (hcl m hm j hj)
      · exact .inl (hd j hj)
    · have:=zjP (p:=fun j => !listed.getD j false) (q:=fun j => !(listed.setIfInBounds i true).getD j false) (i:=i) (by simp only[hui];rfl)
        (by have:(listed.setIfInBounds i true).getD i false=true:=by rw[zeB his];exact .inr rfl
            simp only[this];rfl)
        (fun j hj=>by simp only[getD_set_ne false (Ne.symm hj)]) n hin
      omega
theorem znv{id:Nat}{l:List Oper}{a:Act}{W:World}{Q:Exit→Act→World→Prop}(n:Nat) (Dl:List (List Nat)) (hm:P.follows .mixedOrders=true) (hB:zjC l.toArray Dl n=true) (I:(Nat→Prop)→Act→World→Prop)
    (h0:I (fun _=>False) a W.drew)
    (hstep:∀(L:Nat→Prop) a w i,(∀m,L m→∀j,j∈zcY Dl m→L j)→¬L i→i<n→(∀j,j∈zcY Dl i→L j)→I L a w→∀K:Act→World→Prop,(∀a' w',I (fun j=>L j∨j=i) a' w'→K a' w')→wpOp P l.toArray Q i K a w)
    (hfin:∀(L:Nat→Prop) a w,(∀j,j<n→L j)→(∀j,L j→j<n)→I L a w→wpList P l.toArray Q (l.drop n) a w):(Code.region id l.toArray true).wp P Q a W:=by
  obtain⟨ok,hlt⟩:=zmn hB
  have hn:n≤l.length:=by have:=ok.size;simpa using this
  have hcount:∀m,(List.range m).countP (fun j => !(Array.replicate l.toArray.size false).getD j false)=m:=fun m=>by
    have:(List.range m).countP (fun j => !(Array.replicate l.toArray.size false).getD j false)=(List.range m).length:=
      List.countP_eq_length.2 fun j _=>by rw[getD_replicate_false];rfl
    rw[this,List.length_range]
  have hfuel:n+(l.drop n).length=l.toArray.size:=by simp;omega
  have hno:(fun j=>(Array.replicate l.toArray.size false).getD j false=true)=fun _=>False:=by funext j;rw[getD_replicate_false];simp
  refine wp_region_any hm ?_
  have:=zis ok (fun j=>by simp[List.getElem?_drop]) I hstep hfin n (Array.replicate l.toArray.size false) a W.drew (by simp) (fun t _ _=>getD_replicate_false _ _) (fun m hm=>by rw[getD_replicate_false] at hm;cases hm) (by rw[hno];exact h0) (hcount n)
  rw[hfuel] at this
  exact this
end
structure Sim (w0:Home) (F0 D:Nat→Prop) (μ:Nat→Option Nat) (F:Nat→Prop) (G:List Value) (S:St) (n:Nat) (a:Act) (w:World):Prop where
  defers:a.defers=[]
  size:a.tmps.size=n
  env:∀s,Rep D μ F w (S.get s) (a.tmps.getD s undef)
  heap:HeapSim w0 F0 D μ F S.obj w
  ids:∀i,D i→i<S.nx
  ghl:S.gh.length=G.length
  gh:∀i (h:i<S.gh.length),Rep D μ F w S.gh[i] (G.getD i undef)
theorem St.get_fin (S:St) (dst:Option Tmp) (r:PV) (e:Eff) (s:Nat):(S.fin dst r e).get s=if dst=some s then r else S.get s:=by
  unfold St.fin St.get
  cases dst with
  | none=>rfl
  | some d=>
    simp only[lk,Option.some.injEq]
    split<;>rfl
theorem zlJ (a:Act) (dst:Option Tmp) (v:Value) (s:Nat) (h:∀d,dst=some d→d<a.tmps.size):(a.put dst v).tmps.getD s undef=if dst=some s then v else a.tmps.getD s undef:=by
  simp only[Array.getD_eq_getD_getElem?,Act.put_get]
  by_cases hd:dst=some s
  · rw[if_pos ⟨hd,h s hd⟩,if_pos hd];rfl
  · rw[if_neg (fun h=>hd h.1),if_neg hd]
def zfu (ops:Array Oper) (S:St) (o:Oper):Bool→Prop
  | true=>o.guard=none∨∃j want d,o.guard=some (j,want)∧(ops[j]?).bind (·.dst)=some d∧S.get d=.atom (.bool want)
  | false=>∃j want d,o.guard=some (j,want)∧(ops[j]?).bind (·.dst)=some d∧(S.get d=.atom (.bool (!want))∨∃vs,S.get d=.atom (.tuple vs))
theorem zhG{D:Nat→Prop}{μ:Nat→Option Nat}{F:Nat→Prop}{w:World}{ops:Array Oper}{S:St}{o:Oper}{a:Act}(h:zfu ops S o true) (he:∀s,s∈o.looksAt ops→Rep D μ F w (S.get s) (a.tmps.getD s undef)):
    Region.wanted o (yielded ops a.tmps)=true:=by
  rcases h with h|⟨j,want,d,hg,hd,hs⟩
  · unfold Region.wanted;rw[h]
  · have hm:d∈o.looksAt ops:=List.mem_append_right _ (by simp[hg,hd])
    have hv:=zaS (he d hm) hs
    unfold Region.wanted
    rw[hg]
    have:yielded ops a.tmps j=some want:=by
      unfold yielded
      rw[hd]
      simp only[Option.bind_some]
      rw[Array.getD_eq_getD_getElem?] at hv
      cases ht:a.tmps[d]? with
      | none=>rw[ht] at hv;cases hv
      | some u=>rw[ht] at hv;simp only[Option.getD_some] at hv;rw[hv]
    simp[this]
theorem zgR{D:Nat→Prop}{μ:Nat→Option Nat}{F:Nat→Prop}{w:World}{ops:Array Oper}{S:St}{o:Oper}{a:Act}(h:zfu ops S o false) (he:∀s,s∈o.looksAt ops→Rep D μ F w (S.get s) (a.tmps.getD s undef)):
    Region.wanted o (yielded ops a.tmps)=false:=by
  obtain⟨j,want,d,hg,hd,hs⟩:=h
  have hm:d∈o.looksAt ops:=List.mem_append_right _ (by simp[hg,hd])
  unfold Region.wanted
  rw[hg]
  have:yielded ops a.tmps j≠some want:=by
    unfold yielded
    rw[hd]
    simp only[Option.bind_some]
    rcases hs with hs|⟨vs,hs⟩
    · have hv:=zaS (he d hm) hs
      rw[Array.getD_eq_getD_getElem?] at hv
      cases ht:a.tmps[d]? with
      | none=>simp
      | some u=>rw[ht] at hv;simp only[Option.getD_some] at hv;subst hv;cases want<;>simp
    · have hv:=zaS (he d hm) hs
      rw[Array.getD_eq_getD_getElem?] at hv
      cases ht:a.tmps[d]? with
      | none=>simp
      | some u=>rw[ht] at hv;simp only[Option.getD_some] at hv;subst hv;simp
  simpa using this
def zhi (ops:Array Oper) (S:St) (o:Oper) (run skip:Prop):Prop:=
  match o.guard with
  | none=>run
  | some (j,want)=>match (ops[j]?).bind (·.dst) with
    | some d=>match S.get d with
      | .atom (.bool b)=>(b=want→run)∧(b=(!want)→skip)
      | .atom (.tuple _)=>skip
      | _=>False
    | none=>False
theorem zem{ops:Array Oper}{S:St}{o:Oper}{run skip:Prop}(h:zhi ops S o run skip):(zfu ops S o true∧run)∨(zfu ops S o false∧skip):=by
  unfold zhi at h
  cases hg:o.guard with
  | none=>rw[hg] at h;exact .inl ⟨.inl hg,h⟩
  | some jw=>
    obtain⟨j,want⟩:=jw
    rw[hg] at h
    simp only at h
    cases hd:(ops[j]?).bind (·.dst) with
    | none=>rw[hd] at h;exact h.elim
    | some d=>
      rw[hd] at h
      simp only at h
      split at h
      · rename_i b hs
        by_cases hb:b=want
        · subst hb;exact .inl ⟨.inr ⟨j,b,d,hg,hd,hs⟩,h.1 rfl⟩
        · have hb':b = !want:=by cases b<;>cases want<;>simp_all
          subst hb'
          exact .inr ⟨⟨j,want,d,hg,hd,.inl hs⟩,h.2 rfl⟩
      · rename_i vs hs
        exact .inr ⟨⟨j,want,d,hg,hd,.inr ⟨vs,hs⟩⟩,h⟩
      · exact h.elim
def vOps (P:Program) (ops:Array Oper):List Oper→St→(St→Prop)→Prop
  | [],S,K=>K S
  | o :: rest,S,K=>zhi ops S o (∃R:PV→Eff→Prop,SoundR P o.op S R∧∀r e,R r e→vOps P ops rest (S.fin o.dst r e) K) (vOps P ops rest (S.fin o.dst (.atom undef) e0) K)
section
variable {P:Program} {w0:Home} {F0 D:Nat→Prop} {μ:Nat→Option Nat} {F:Nat→Prop} {G:List Value} {S:St} {n:Nat} {a:Act} {w:World}
theorem Sim.after (hS:Sim w0 F0 D μ F G S n a w) {o:Oper}(hd:∀d,o.dst=some d→d<n) {r:PV}{e:Eff}{v:Value}{w':World}{D':Nat→Prop}{μ':Nat→Option Nat}{F':Nat→Prop}(h1:Rep D' μ' F' w' r v) (h2:HeapSim w0 F0 D' μ' F' (e.app S.nx S.obj) w')
    (h3:Stay F w w') (h4:∀i,D i→D' i∧μ' i=μ i) (h5:∀b,F b→F' b) (h6:∀i,D' i→D i∨(S.nx≤i∧i<S.nx+e.add.length)):Sim w0 F0 D' μ' F' G (S.fin o.dst r e) n (a.put o.dst v) w':=by
  refine⟨by rw[Act.put_def];exact hS.defers,by rw[Act.put_size];exact hS.size,fun s=>?_,by rw[St.obj_fin];exact h2,fun i hi=>?_,hS.ghl,fun i hi=>(hS.gh i hi).stay h3 h4 h5⟩
  · rw[St.get_fin,zlJ a o.dst v s (fun d hd'=>by rw[hS.size];exact hd d hd')]
    split
    · exact h1
    · exact(hS.env s).stay h3 h4 h5
  · show i<S.nx+e.add.length
    rcases h6 i hi with h|h
    · have:=hS.ids i h;omega
    · exact h.2
theorem Sim.evs (hS:Sim w0 F0 D μ F G S n a w) (x:Operand):Rep D μ F w (S.ev x) (a.eval x):=by
  cases x with
  | tmp t=>exact hS.env t
  | const v=>exact .atom v
  | global g=>exact .junk _
  | func f=>exact .fn f [] #[] rfl (fun i hi=>by simp at hi)
theorem zdM{ops:Array Oper}{Q:Exit→Act→World→Prop}{K:St→Prop}:∀(l:List Oper) (S:St) (D:Nat→Prop) (μ:Nat→Option Nat) (F:Nat→Prop) (a:Act) (w:World),(∀o,o∈l→∀d,o.dst=some d→d<n)→vOps P ops l S K→Sim w0 F0 D μ F G S n a w→
    (∀S' D' μ' F' a' w',K S'→Sim w0 F0 D' μ' F' G S' n a' w'→Q .normal a' w')→wpList P ops Q l a w
  | [],S,D,μ,F,a,w,_,h,hS,hQ=>hQ S D μ F a w h hS
  | o :: rest,S,D,μ,F,a,w,hd,h,hS,hQ=>by
    unfold wpList
    rcases zem h with ⟨hg,R,hs,hr⟩|⟨hg,hr⟩
    · rw[if_pos (zhG hg (fun s _=>hS.env s))]
      refine .inl (hs o a w0 F0 D μ F w rfl hS.heap (fun x _=>hS.evs x) hS.ids _ Q fun r e v w' D' μ' F' hR h1 h2 h3 h4 h5 h6=>?_)
      exact zdM rest _ D' μ' F' _ w' (fun o' ho'=>hd o' (List.mem_cons_of_mem _ ho')) (hr r e hR) (hS.after (hd o (List.mem_cons_self ..)) h1 h2 h3 h4 h5 h6) hQ
    · rw[if_neg (by rw[zgR hg (fun s _=>hS.env s)];exact fun h=>by cases h)]
      exact zdM rest _ D μ F _ w (fun o' ho'=>hd o' (List.mem_cons_of_mem _ ho')) hr
        (hS.after (e:=e0) (hd o (List.mem_cons_self ..)) (.atom undef) (by rw[show e0.app S.nx S.obj=S.obj from Eff.app_e0 _ _ _];exact hS.heap) (Stay.refl _ _) (fun _ h=>⟨h,rfl⟩) (fun _ h=>h) (fun _ h=>.inl h)) hQ
structure Tr where
  nx:Nat
  cnt:Nat
  rd:List Nat
  del:List Nat
  st:List Nat
def Eff.tr (e:Eff) (n:Nat):Tr:=⟨n,e.add.length,e.rd,e.del,e.set.map (·.1)⟩
def zhS (P:Program) (ops:Array Oper):List Oper→St→List Tr→(St→List Tr→Prop)→Prop
  | [],S,tr,K=>K S tr
  | o :: rest,S,tr,K=>zhi ops S o (∃r e,Sound P o.op S r e∧zhS P ops rest (S.fin o.dst r e) (tr++[e.tr S.nx]) K) (zhS P ops rest (S.fin o.dst (.atom undef) e0) (tr++[e0.tr S.nx]) K)
structure Run (P:Program) (ops:Array Oper) (l:List Oper) (st:Nat→St) (R:Nat→PV) (E:Nat→Eff):Prop where
  next:∀k o,l[k]? = some o→st (k+1)=(st k).fin o.dst (R k) (E k)
  doing:∀k o,l[k]? = some o→(zfu ops (st k) o true∧Sound P o.op (st k) (R k) (E k))∨(zfu ops (st k) o false∧R k=.atom undef∧E k=e0)
theorem zix{ops:Array Oper}{K:St→List Tr→Prop}:∀(l:List Oper) (S:St) (tr:List Tr),zhS P ops l S tr K→
    ∃(st:Nat→St) (R:Nat→PV) (E:Nat→Eff),st 0=S∧Run P ops l st R E∧K (st l.length) (tr++(List.range l.length).map fun k=>(E k).tr (st k).nx)
  | [],S,tr,h=>⟨fun _=>S,fun _=>.junk,fun _=>e0,rfl,⟨fun k o h=>by simp at h,fun k o h=>by simp at h⟩,by simpa[zhS] using h⟩
  | o :: rest,S,tr,h=>by
    have go:∀(r:PV) (e:Eff),((zfu ops S o true∧Sound P o.op S r e)∨(zfu ops S o false∧r=.atom undef∧e=e0))→zhS P ops rest (S.fin o.dst r e) (tr++[e.tr S.nx]) K→
        ∃(st:Nat→St) (R:Nat→PV) (E:Nat→Eff),st 0=S∧Run P ops (o :: rest) st R E∧K (st (o :: rest).length) (tr++(List.range (o :: rest).length).map fun k=>(E k).tr (st k).nx):=by
      intro r e hdo hr
      obtain⟨st,R,E,h0,hrun,hK⟩:=zix rest _ _ hr
      refine⟨fun k=>match k with|0=>S|k+1=>st k,fun k=>match k with|0=>r|k+1=>R k,fun k=>match k with|0=>e|k+1=>E k,rfl,⟨fun k o' ho'=>?_,fun k o' ho'=>?_⟩,?_⟩
      · cases k with
        | zero=>cases ho';exact h0
        | succ k=>exact hrun.next k o' (by simpa using ho')
      · cases k with
        | zero=>cases ho';exact hdo
        | succ k=>exact hrun.doing k o' (by simpa using ho')
      · simpa[List.range_succ_eq_map,Function.comp_def] using hK
    rcases zem h with ⟨hg,r,e,hs,hr⟩|⟨hg,hr⟩
    · exact go r e (.inl ⟨hg,hs⟩) hr
    · exact go (.atom undef) e0 (.inr ⟨hg,rfl,rfl⟩) hr
def trOk (nx0:Nat) (Dl:List (List Nat)) (tr:List Tr):Bool:=
  (List.range tr.length).all fun k=>match tr[k]? with
    | some x=>
      ((x.rd++x.del++x.st).all fun i=>decide (i<nx0) || (zcY Dl k).any fun j=>match tr[j]? with|some y=>decide (y.nx≤i) && decide (i<y.nx+y.cnt)|none=>false) &&
      ((List.range tr.length).all fun m=>match tr[m]? with
        | some y=>(y.del.all fun i=>(m == k || !x.rd.contains i || (zcY Dl m).contains k || (zcY Dl k).contains m) && !x.st.contains i) &&
            (m == k || y.st.all fun i => !(x.rd.contains i || x.st.contains i) || (zcY Dl m).contains k || (zcY Dl k).contains m)
        | none=>true)
    | none=>true
end
open Classical in
noncomputable def envL (ops:Array Oper) (n0:Nat) (S:St) (R:Nat→PV) (L:Nat→Prop) (s:Nat):PV:=if h:∃k,L k∧k<n0∧zei ops k=some s then R h.choose else S.get s
open Classical in
noncomputable def lastS (E:Nat→Eff) (L:Nat→Prop) (i:Nat):Nat→Option AO
  | 0=>none
  | k+1=>if L k∧(lk (E k).set i).isSome=true then lk (E k).set i else lastS E L i k
open Classical in
noncomputable def objB (n0:Nat) (S:St) (st:Nat→St) (E:Nat→Eff) (L:Nat→Prop) (i:Nat):Option AO:=
  if h:∃k,L k∧k<n0∧(st k).nx≤i∧i<(st k).nx+(E k).add.length then (E h.choose).add[i - (st h.choose).nx]? else S.obj i
open Classical in
noncomputable def objL (n0:Nat) (S:St) (st:Nat→St) (E:Nat→Eff) (L:Nat→Prop) (i:Nat):Option AO:=
  if ∃m,L m∧m<n0∧i∈(E m).del then none else match lastS E L i n0 with|some o=>some o|none=>objB n0 S st E L i
section
variable {P:Program} {ops:Array Oper} {n0:Nat} {Dn:Nat→List Nat} {S:St} {st:Nat→St} {R:Nat→PV} {E:Nat→Eff} {L:Nat→Prop}
theorem zeE (ok:GrowOk ops Dn n0) {k s:Nat}(h1:L k) (h2:k<n0) (h3:zei ops k=some s):envL ops n0 S R L s=R k:=by
  have h:∃k,L k∧k<n0∧zei ops k=some s:=⟨k,h1,h2,h3⟩
  unfold envL
  rw[dif_pos h,ok.apart _ _ _ h.choose_spec.2.1 h2 h.choose_spec.2.2 h3]
theorem zdA{s:Nat}(h:∀k,L k→k<n0→zei ops k≠some s):envL ops n0 S R L s=S.get s:=by
  unfold envL
  rw[dif_neg (fun⟨k,h1,h2,h3⟩=>h k h1 h2 h3)]
structure NxOk (n0:Nat) (S:St) (st:Nat→St) (E:Nat→Eff):Prop where
  zero:(st 0).nx=S.nx
  succ:∀k,k<n0→(st (k+1)).nx=(st k).nx+(E k).add.length
theorem NxOk.mono (h:NxOk n0 S st E):∀k j,j≤k→k≤n0→(st j).nx≤(st k).nx
  | 0,j,h1,_=>by rw[show j=0 by omega];exact Nat.le_refl _
  | k + 1,j,h1,h2=>by
    rcases Nat.lt_or_ge j (k+1) with hj|hj
    · have:=h.mono k j (by omega) (by omega)
      have:=h.succ k (by omega)
      omega
    · rw[show j=k+1 by omega];exact Nat.le_refl _
theorem NxOk.uniq (h:NxOk n0 S st E) {j k i:Nat}(hj:j<n0) (hk:k<n0) (h1:(st j).nx≤i) (h2:i<(st j).nx+(E j).add.length) (h3:(st k).nx≤i) (h4:i<(st k).nx+(E k).add.length):j=k:=by
  rcases Nat.lt_trichotomy j k with hlt|heq|hgt
  · have:=h.mono k (j+1) (by omega) (by omega)
    have:=h.succ j hj
    omega
  · exact heq
  · have:=h.mono j (k+1) (by omega) (by omega)
    have:=h.succ k hk
    omega
theorem NxOk.lo (h:NxOk n0 S st E) {k:Nat}(hk:k≤n0):S.nx≤(st k).nx:=by rw[←h.zero];exact h.mono k 0 (by omega) hk
theorem zdX{i:Nat}:∀ {n:Nat},(∀k,k<n→L k→lk (E k).set i=none)→lastS E L i n=none
  | 0,_=>rfl
  | n+1,h=>by
    unfold lastS
    rw[if_neg (fun hc=>by rw[h n (by omega) hc.1] at hc;cases hc.2)]
    exact zdX fun k hk=>h k (by omega)
theorem zid{i k:Nat}{o:AO}:∀ {n:Nat},k<n→L k→lk (E k).set i=some o→(∀m,k<m→m<n→L m→lk (E m).set i=none)→lastS E L i n=some o
  | 0,h,_,_,_=>by omega
  | n + 1,hk,h1,h2,h3=>by
    unfold lastS
    by_cases hkn:k=n
    · subst hkn;rw[if_pos ⟨h1,by rw[h2];rfl⟩];exact h2
    · rw[if_neg (fun hc=>by rw[h3 n (by omega) (by omega) hc.1] at hc;cases hc.2)]
      exact zid (by omega) h1 h2 fun m a b=>h3 m a (by omega)
theorem zed{L L':Nat→Prop}{i:Nat}:∀ {n:Nat},(∀k,k<n→(lk (E k).set i).isSome=true→(L k↔L' k))→lastS E L i n=lastS E L' i n
  | 0,_=>rfl
  | n + 1,h=>by
    unfold lastS
    rw[zed (n:=n) fun k hk=>h k (by omega)]
    by_cases hs:(lk (E n).set i).isSome=true
    · have:=h n (by omega) hs
      by_cases hL:L n
      · rw[if_pos ⟨hL,hs⟩,if_pos ⟨this.1 hL,hs⟩]
      · rw[if_neg (fun hc=>hL hc.1),if_neg (fun hc=>hL (this.2 hc.1))]
    · rw[if_neg (fun hc=>hs hc.2),if_neg (fun hc=>hs hc.2)]
theorem lk_keys{l:List (Nat×AO)}{i:Nat}:(lk l i).isSome=true↔i∈l.map (·.1):=by
  induction l with
  | nil=>simp[lk]
  | cons p l ih=>
    obtain⟨j,o⟩:=p
    simp only[lk,List.map_cons,List.mem_cons]
    by_cases h:j=i
    · simp[h]
    · simp only[if_neg h,ih]
      constructor
      · exact .inr
      · rintro(rfl|h2)
        · exact absurd rfl h
        · exact h2
theorem zdy (hn:NxOk n0 S st E) {i k:Nat}(h1:L k) (h2:k<n0) (h3:(st k).nx≤i) (h4:i<(st k).nx+(E k).add.length):objB n0 S st E L i=(E k).add[i - (st k).nx]? := by
  have hh:∃k,L k∧k<n0∧(st k).nx≤i∧i<(st k).nx+(E k).add.length:=⟨k,h1,h2,h3,h4⟩
  unfold objB
  rw[dif_pos hh,hn.uniq hh.choose_spec.2.1 h2 hh.choose_spec.2.2.1 hh.choose_spec.2.2.2 h3 h4]
theorem zdx{i:Nat}(h2:¬ ∃k,L k∧k<n0∧(st k).nx≤i∧i<(st k).nx+(E k).add.length):objB n0 S st E L i=S.obj i:=by
  unfold objB;rw[dif_neg h2]
theorem zeU{i:Nat}(h:∃m,L m∧m<n0∧i∈(E m).del):objL n0 S st E L i=none:=by unfold objL;rw[if_pos h]
theorem zl1{i:Nat}{o:AO}(h:¬ ∃m,L m∧m<n0∧i∈(E m).del) (h2:lastS E L i n0=some o):objL n0 S st E L i=some o:=by unfold objL;rw[if_neg h,h2]
theorem zfn{i:Nat}(h:¬ ∃m,L m∧m<n0∧i∈(E m).del) (h2:lastS E L i n0=none):objL n0 S st E L i=objB n0 S st E L i:=by unfold objL;rw[if_neg h,h2]
theorem zgD{L L':Nat→Prop}{i:Nat}(h:¬ ∃m,L m∧m<n0∧i∈(E m).del) (h':¬ ∃m,L' m∧m<n0∧i∈(E m).del) (h2:lastS E L i n0=lastS E L' i n0) (h3:objB n0 S st E L i=objB n0 S st E L' i):
    objL n0 S st E L i=objL n0 S st E L' i:=by unfold objL;rw[if_neg h,if_neg h',h2,h3]
structure TrSpec (n0:Nat) (Dn:Nat→List Nat) (S:St) (st:Nat→St) (E:Nat→Eff):Prop where
  new:∀k i,k<n0→(i∈(E k).rd∨i∈(E k).del∨(lk (E k).set i).isSome=true)→i<S.nx∨∃j,j∈Dn k∧(st j).nx≤i∧i<(st j).nx+(E j).add.length
  del:∀k m i,k<n0→m<n0→m≠k→i∈(E m).del→i∈(E k).rd→k∈Dn m∨m∈Dn k
  ds:∀k m i,k<n0→m<n0→i∈(E m).del→lk (E k).set i=none
  set:∀k m i,k<n0→m<n0→m≠k→(lk (E m).set i).isSome=true→(i∈(E k).rd∨(lk (E k).set i).isSome=true)→k∈Dn m∨m∈Dn k
theorem zoy{Dl:List (List Nat)}(hlt:∀m j,j∈zcY Dl m→j<m) (h:trOk S.nx Dl ((List.range n0).map fun k=>(E k).tr (st k).nx)=true):TrSpec n0 (zcY Dl) S st E:=by
  unfold trOk at h
  simp only[List.length_map,List.length_range,List.all_eq_true,List.mem_range] at h
  have hget:∀k,k<n0→((List.range n0).map fun k=>(E k).tr (st k).nx)[k]? = some ((E k).tr (st k).nx):=fun k hk=>by simp[hk]
  have hpair:∀k m,k<n0→m<n0→((E m).del.all fun i=>(m == k || !(E k).rd.contains i || (zcY Dl m).contains k || (zcY Dl k).contains m) && !((E k).set.map (·.1)).contains i)=true∧
      (m == k || ((E m).set.map (·.1)).all fun i => !((E k).rd.contains i || ((E k).set.map (·.1)).contains i) || (zcY Dl m).contains k || (zcY Dl k).contains m)=true:=fun k m hk hm=>by
    have h1:=h k hk
    rw[hget k hk] at h1
    simp only[Bool.and_eq_true,List.all_eq_true,List.mem_range] at h1
    have h2:=h1.2 m hm
    rw[hget m hm] at h2
    simp only[Eff.tr,Bool.and_eq_true] at h2
    exact h2
  refine⟨fun k i hk hi=>?_,fun k m i hk hm hmk hi hr=>?_,fun k m i hk hm hi=>?_,fun k m i hk hm hmk hi hr=>?_⟩
  · have h1:=h k hk
    rw[hget k hk] at h1
    simp only[Bool.and_eq_true,List.all_eq_true] at h1
    have h2:=h1.1 i (by
      simp only[Eff.tr,List.mem_append]
      rcases hi with hi|hi|hi
      · exact .inl (.inl hi)
      · exact .inl (.inr hi)
      · exact .inr (lk_keys.1 hi))
    simp only[Bool.or_eq_true,decide_eq_true_eq,List.any_eq_true] at h2
    rcases h2 with h2|⟨j,hj,h2⟩
    · exact .inl h2
    · rw[hget j (by have:=hlt k j hj;omega)] at h2
      simp only[Eff.tr,Bool.and_eq_true] at h2
      exact .inr ⟨j,hj,of_decide_eq_true h2.1,of_decide_eq_true h2.2⟩
  · have h3:=List.all_eq_true.1 (hpair k m hk hm).1 i hi
    rw[Bool.and_eq_true] at h3
    have h4:=h3.1
    simp only[Bool.or_eq_true,beq_iff_eq,Bool.not_eq_true',List.contains_eq_mem,decide_eq_true_eq,decide_eq_false_iff_not] at h4
    rcases h4 with ((h4|h4)|h4)|h4
    · exact absurd h4 hmk
    · exact absurd hr h4
    · exact .inl h4
    · exact .inr h4
  · have h3:=List.all_eq_true.1 (hpair k m hk hm).1 i hi
    rw[Bool.and_eq_true] at h3
    have h4:=h3.2
    simp only[Bool.not_eq_true',List.contains_eq_mem,decide_eq_false_iff_not] at h4
    cases hl:lk (E k).set i with
    | none=>rfl
    | some o=>exact absurd (lk_keys.1 (by rw[hl];rfl)) h4
  · have h3:=(hpair k m hk hm).2
    rw[Bool.or_eq_true] at h3
    have h4:=List.all_eq_true.1 (h3.resolve_left (by simpa using hmk)) i (lk_keys.1 hi)
    simp only[Bool.or_eq_true,Bool.not_eq_true',Bool.or_eq_false_iff,List.contains_eq_mem,decide_eq_true_eq,decide_eq_false_iff_not] at h4
    rcases h4 with (h4|h4)|h4
    · rcases hr with hr|hr
      · exact absurd hr h4.1
      · exact absurd (lk_keys.1 hr) h4.2
    · exact .inl h4
    · exact .inr h4
theorem zlK (hn : NxOk n0 S st E) (hs0:st 0=S) (ht:TrSpec n0 Dn S st E) (hlt:∀m j,j∈Dn m→j<m) (hnext:∀k,k<n0→∃d r,st (k+1)=(st k).fin d r (E k)):
    ∀k,k≤n0→(st k).obj=objL n0 S st E (fun j=>j<k)
  | 0,_=>by
    funext i
    rw[hs0,zfn (fun⟨m,h,_⟩=>by omega) (zdX fun k _ h=>by omega),zdx (fun⟨m,h,_⟩=>by omega)]
  | k + 1, hk => by
    have ih:=zlK hn hs0 ht hlt hnext k (by omega)
    obtain⟨d,r,hfin⟩:=hnext k (by omega)
    rw[hfin,St.obj_fin,ih]
    funext i
    unfold Eff.app
    by_cases hnew:(st k).nx≤i∧i<(st k).nx+(E k).add.length
    · rw[if_pos hnew]
      have early:∀m,m<k+1→m<n0→¬ (i∈(E m).del∨(lk (E m).set i).isSome=true):=fun m h1 h2 h3=>by
        rcases ht.new m i h2 (.inr h3) with h|⟨j,hj,h4,h5⟩
        · have:=hn.lo (k:=k) (by omega);omega
        · have hjm:=hlt m j hj
          have:=hn.mono k (j+1) (by omega) (by omega)
          have:=hn.succ j (by omega)
          omega
      rw[zfn (fun⟨m,h1,h2,h3⟩=>early m h1 h2 (.inl h3)) (zdX fun m h1 h2=>by
        cases hl:lk (E m).set i with
        | none=>rfl
        | some o=>exact absurd (.inr (by rw[hl];rfl)) (early m h2 h1)),zdy hn (k:=k) (by omega) (by omega) hnew.1 hnew.2]
    · rw[if_neg hnew]
      cases hset:lk (E k).set i with
      | some o=>
        simp only
        rw[zl1 (fun⟨m,h1,h2,h3⟩=>by rw[ht.ds k m i (by omega) h2 h3] at hset;cases hset) (zid (k:=k) (by omega) (by omega) hset (fun m h1 _ h2=>by omega))]
      | none=>
        simp only
        by_cases hdel:i∈(E k).del
        · rw[if_pos hdel,zeU ⟨k,by omega,by omega,hdel⟩]
        · rw[if_neg hdel]
          by_cases h1:∃m,m<k∧m<n0∧i∈(E m).del
          · obtain⟨m,a1,a2,a3⟩:=h1
            rw[zeU ⟨m,a1,a2,a3⟩,zeU ⟨m,by omega,a2,a3⟩]
          · have h1':¬ ∃m,m<k+1∧m<n0∧i∈(E m).del:=fun⟨m,a1,a2,a3⟩=>by
              by_cases hm:m=k
              · subst hm;exact hdel a3
              · exact h1 ⟨m,by omega,a2,a3⟩
            refine zgD h1 h1' (zed fun m _ hm=>?_) ?_
            · by_cases hmk:m=k
              · subst hmk;rw[hset] at hm;cases hm
              · omega
            · by_cases h2:∃j,j<k∧j<n0∧(st j).nx≤i∧i<(st j).nx+(E j).add.length
              · obtain⟨j,b1,b2,b3,b4⟩:=h2
                rw[zdy (L:=fun j=>j<k) hn (k:=j) b1 b2 b3 b4,zdy (L:=fun j=>j<k+1) hn (k:=j) (by omega) b2 b3 b4]
              · rw[zdx (L:=fun j=>j<k) h2,zdx (L:=fun j=>j<k+1) (fun⟨j,b1,b2,b3,b4⟩=>by
                  by_cases hj:j=k
                  · subst hj;exact hnew ⟨b3,b4⟩
                  · exact h2 ⟨j,by omega,b2,b3,b4⟩)]
theorem zhV (ok:GrowOk ops Dn n0) (hs0:st 0=S) (hnext:∀k,k<n0→st (k+1)=(st k).fin (zei ops k) (R k) (E k)):∀k,k≤n0→∀s,(st k).get s=envL ops n0 S R (fun j=>j<k) s
  | 0,_,s=>by rw[hs0,zdA (fun j h=>by omega)]
  | k + 1,hk,s=>by
    have ih:=zhV ok hs0 hnext k (by omega) s
    rw[hnext k (by omega),St.get_fin,ih]
    by_cases hd:zei ops k=some s
    · rw[if_pos hd,zeE ok (k:=k) (by omega) (by omega) hd]
    · rw[if_neg hd]
      by_cases h:∃j,j<k∧j<n0∧zei ops j=some s
      · obtain⟨j,a1,a2,a3⟩:=h
        rw[zeE ok (k:=j) a1 a2 a3,zeE ok (k:=j) (show j<k+1 by omega) a2 a3]
      · rw[zdA (fun j a1 a2 a3=>h ⟨j,a1,a2,a3⟩),zdA (fun j a1 a2 a3=>by
          by_cases hj:j=k
          · subst hj;exact hd a3
          · exact h ⟨j,by omega,a2,a3⟩)]
theorem look_env (ok:GrowOk ops Dn n0) (hs0:st 0=S) (hnext:∀k,k<n0→st (k+1)=(st k).fin (zei ops k) (R k) (E k)) (hcl:∀m,L m→∀j,j∈Dn m→L j) {k:Nat}(hk:k<n0) (hLk:¬L k) (hd:∀j,j∈Dn k→L j) {o:Oper}(ho:ops[k]? = some o)
    {t:Nat} (ht:t∈o.looksAt ops):envL ops n0 S R L t=(st k).get t:=by
  rw[zhV ok hs0 hnext k (by omega)]
  by_cases h:∃j,j<k∧j<n0∧zei ops j=some t
  · obtain⟨j,a1,a2,a3⟩:=h
    rw[zeE (L:=fun j=>j<k) ok (k:=j) a1 a2 a3,zeE ok (k:=j) (hd j (ok.reads j k o a1 hk ho t a3 ht)) a2 a3]
  · rw[zdA (L:=fun j=>j<k) (fun j a1 a2 a3=>h ⟨j,a1,a2,a3⟩),zdA (fun j a1 a2 a3=>by
      rcases Nat.lt_trichotomy j k with hlt|heq|hgt
      · exact h ⟨j,hlt,a2,a3⟩
      · subst heq;exact hLk a1
      · exact hLk (hcl j a1 k (ok.over k j o hgt a2 ho t a3 ht)))]
theorem look_obj (hn:NxOk n0 S st E) (ht:TrSpec n0 Dn S st E) (hlt:∀m j,j∈Dn m→j<m) (hcl:∀m,L m→∀j,j∈Dn m→L j) {k:Nat}(hk:k<n0) (hLk:¬L k) (hd:∀j,j∈Dn k→L j) {i:Nat}(hi:i∈(E k).rd):
    objL n0 S st E L i=objL n0 S st E (fun j=>j<k) i:=by
  by_cases h1:∃m,m<k∧m<n0∧i∈(E m).del
  · obtain⟨m,a1,a2,a3⟩:=h1
    rw[zeU (L:=fun j=>j<k) ⟨m,a1,a2,a3⟩]
    rcases ht.del k m i hk a2 (by omega) a3 hi with h|h
    · have:=hlt m k h;omega
    · exact zeU ⟨m,hd m h,a2,a3⟩
  · have h1':¬ ∃m,L m∧m<n0∧i∈(E m).del:=fun⟨m,a1,a2,a3⟩=>by
      by_cases hmk:m=k
      · subst hmk;exact hLk a1
      · rcases ht.del k m i hk a2 hmk a3 hi with h|h
        · exact hLk (hcl m a1 k h)
        · exact h1 ⟨m,hlt k m h,a2,a3⟩
    refine zgD h1' h1 (zed fun m hm hs=>?_) ?_
    · by_cases hmk:m=k
      · subst hmk;exact⟨fun h=>absurd h hLk,fun h=>absurd h (Nat.lt_irrefl _)⟩
      · rcases ht.set k m i hk hm hmk hs (.inl hi) with h|h
        · exact⟨fun a=>absurd (hcl m a k h) hLk,fun a=>by have:=hlt m k h;omega⟩
        · exact⟨fun _=>hlt k m h,fun _=>hd m h⟩
    · rcases ht.new k i hk (.inl hi) with h|⟨j,hj,b1,b2⟩
      · rw[zdx (L:=fun j=>j<k) (fun⟨j,_,a2,a3,a4⟩=>by have:=hn.lo (k:=j) (by omega);omega),zdx (fun⟨j,_,a2,a3,a4⟩=>by have:=hn.lo (k:=j) (by omega);omega)]
      · have hjk:=hlt k j hj
        rw[zdy (L:=fun j=>j<k) hn (k:=j) hjk (by omega) b1 b2,zdy hn (k:=j) (hd j hj) (by omega) b1 b2]
theorem zjg (hn:NxOk n0 S st E) (ht:TrSpec n0 Dn S st E) (hlt:∀m j,j∈Dn m→j<m) (hcl:∀m,L m→∀j,j∈Dn m→L j) {k:Nat}(hLk:¬L k) (hk:k<n0) {i:Nat}{o:AO}(h:objL n0 S st E (fun j=>L j∨j=k) i=some o):(E k).app (st k).nx (objL n0 S st E L) i=some o:=by
  have hno:¬ ∃m,(L m∨m=k)∧m<n0∧i∈(E m).del:=fun hx=>by rw[zeU (L:=fun j=>L j∨j=k) hx] at h;cases h
  have hnoL:¬ ∃m,L m∧m<n0∧i∈(E m).del:=fun⟨m,a,b,c⟩=>hno ⟨m,.inl a,b,c⟩
  have hnok:i∉(E k).del:=fun hx=>hno ⟨k,.inr rfl,hk,hx⟩
  unfold Eff.app
  by_cases hnew:(st k).nx≤i∧i<(st k).nx+(E k).add.length
  · rw[if_pos hnew]
    have hl:lastS E (fun j=>L j∨j=k) i n0=none:=zdX fun m hm hLm=>by
      cases hs:lk (E m).set i with
      | none=>rfl
      | some o'=>
        exfalso
        rcases ht.new m i hm (.inr (.inr (by rw[hs];rfl))) with h|⟨j,hj,b1,b2⟩
        · have:=hn.lo (k:=k) (by omega);omega
        · have hjm:=hlt m j hj
          have:=hn.uniq (by omega) hk b1 b2 hnew.1 hnew.2
          subst this
          rcases hLm with hLm|rfl
          · exact hLk (hcl m hLm j hj)
          · omega
    rw[zfn (L:=fun j=>L j∨j=k) hno hl,zdy (L:=fun j=>L j∨j=k) hn (k:=k) (.inr rfl) hk hnew.1 hnew.2] at h
    exact h
  · rw[if_neg hnew]
    cases hset:lk (E k).set i with
    | some o'=>
      have hl:lastS E (fun j=>L j∨j=k) i n0=some o':=zid (k:=k) hk (.inr rfl) hset fun m h1 h2 h3=>by
        cases hs:lk (E m).set i with
        | none=>rfl
        | some o2=>
          exfalso
          rcases h3 with h3|h3
          · rcases ht.set k m i hk h2 (by omega) (by rw[hs];rfl) (.inr (by rw[hset];rfl)) with h4|h4
            · exact hLk (hcl m h3 k h4)
            · have:=hlt k m h4;omega
          · omega
      rw[zl1 (L:=fun j=>L j∨j=k) hno hl] at h
      exact h
    | none=>
      simp only
      rw[if_neg hnok,←h]
      refine zgD hnoL hno (zed fun m _ hs=>⟨.inl,fun hx=>?_⟩) ?_
      · rcases hx with hx|hx
        · exact hx
        · subst hx;rw[hset] at hs;cases hs
      · by_cases h2:∃j,L j∧j<n0∧(st j).nx≤i∧i<(st j).nx+(E j).add.length
        · obtain⟨j,b1,b2,b3,b4⟩:=h2
          rw[zdy (L:=fun j=>L j∨j=k) hn (k:=j) (.inl b1) b2 b3 b4,zdy hn b1 b2 b3 b4]
        · rw[zdx (L:=fun j=>L j∨j=k) (fun⟨j,b1,b2,b3,b4⟩=>by
            rcases b1 with b1|b1
            · exact h2 ⟨j,b1,b2,b3,b4⟩
            · subst b1;exact hnew ⟨b3,b4⟩),zdx h2]
end
section
variable {P:Program} {w0:Home} {F0:Nat→Prop} {G:List Value} {n:Nat}
theorem znZ {id:Nat}{l:List Oper}{Q:Exit→Act→World→Prop}{K:St→Prop}(n0:Nat) (Dl:List (List Nat)) (hm:P.follows .mixedOrders=true) (hB:zjC l.toArray Dl n0=true) (hd:∀o,o∈l→∀d,o.dst=some d→d<n) {S:St}{D:Nat→Prop}{μ:Nat→Option Nat}{F:Nat→Prop}{a:Act}{w:World}
    (h:zhS P l.toArray (l.take n0) S [] (fun S1 tr=>trOk S.nx Dl tr=true∧vOps P l.toArray (l.drop n0) S1 K)) (hS:Sim w0 F0 D μ F G S n a w)
    (hQ:∀S' D' μ' F' a' w',K S'→Sim w0 F0 D' μ' F' G S' n a' w'→Q .normal a' w'):(Code.region id l.toArray true).wp P Q a w:=by
  obtain⟨ok,hlt⟩:=zmn hB
  have hn0:n0≤l.length:=by have:=ok.size;simpa using this
  obtain⟨st,R,E,hs0,hrun,htr,htail⟩:=zix _ _ _ h
  have hlen:(l.take n0).length=n0:=by simp;omega
  rw[hlen] at htr htail
  simp only[List.nil_append] at htr
  have hget:∀k,k<n0→∃o,l.toArray[k]? = some o∧(l.take n0)[k]? = some o∧o∈l:=fun k hk=>by
    have hkl:k<l.length:=by omega
    exact⟨l[k],by simp[hkl],by simp[hk,hkl],List.getElem_mem hkl⟩
  have hdst:∀k o,l.toArray[k]? = some o→zei l.toArray k=o.dst:=fun k o ho=>by simp[zei,ho]
  have hnext:∀k,k<n0→st (k+1)=(st k).fin (zei l.toArray k) (R k) (E k):=fun k hk=>by
    obtain⟨o,h1,h2,_⟩:=hget k hk
    rw[hdst k o h1];exact hrun.next k o h2
  have hnx:NxOk n0 S st E:=⟨by rw[hs0],fun k hk=>by rw[hnext k hk];rfl⟩
  have hts:=zoy hlt htr
  have htobj:=zlK hnx hs0 hts hlt (fun k hk=>⟨_,_,hnext k hk⟩)
  have htenv:=zhV ok hs0 hnext
  refine znv n0 Dl hm hB (fun L a' w'=>∃(D':Nat→Prop) (μ':Nat→Option Nat) (F':Nat→Prop),a'.defers=[]∧a'.tmps.size=n∧(∀s,Rep D' μ' F' w' (envL l.toArray n0 S R L s) (a'.tmps.getD s undef))∧HeapSim w0 F0 D' μ' F' (objL n0 S st E L) w'∧
      (∀i,D' i→i<S.nx∨∃k,L k∧k<n0∧(st k).nx≤i∧i<(st k).nx+(E k).add.length)∧(∀i (h:i<S.gh.length),Rep D' μ' F' w' S.gh[i] (G.getD i undef))) ?_ ?_ ?_
  · have hbd:Bel w w.drew:=Bel.drew w
    have hst:Stay F w w.drew:=Stay.below hbd.1
    refine⟨D,μ,F,hS.defers,hS.size,fun s=>?_,?_,fun i hi=>.inl (hS.ids i hi),fun i hi=>(hS.gh i hi).stay hst (fun _ h=>⟨h,rfl⟩) (fun _ h=>h)⟩
    · rw[zdA (fun k h=>h.elim)];exact(hS.env s).stay hst (fun _ h=>⟨h,rfl⟩) (fun _ h=>h)
    · have:objL n0 S st E (fun _=>False)=S.obj:=by funext i;exact(zfn (fun⟨_,h,_⟩=>h) (zdX fun _ _ h=>h.elim)).trans (zdx (fun⟨_,h,_⟩=>h))
      rw[this];exact hS.heap.still hbd
  · intro L a' w' k hcl hLk hk hdk ⟨D',μ',F',i1,i2,i3,i4,i5,i6⟩ K' hK'
    obtain⟨o,ho,ho2,hol⟩:=hget k hk
    have hod:=hdst k o ho
    have hdn:∀d,o.dst=some d→d<a'.tmps.size:=fun d hd'=>by rw[i2];exact hd o hol d hd'
    have hlook:∀t,t∈o.looksAt l.toArray→Rep D' μ' F' w' ((st k).get t) (a'.tmps.getD t undef):=fun t ht=>by
      rw[←look_env ok hs0 hnext hcl hk hLk hdk ho ht];exact i3 t
    have henv : ∀ {D2:Nat→Prop} {μ2:Nat→Option Nat} {F2:Nat→Prop} {w2:World} {v:Value},Rep D2 μ2 F2 w2 (R k) v→Stay F' w' w2→(∀i,D' i→D2 i∧μ2 i=μ' i)→(∀b,F' b→F2 b)→
        ∀s,Rep D2 μ2 F2 w2 (envL l.toArray n0 S R (fun j=>L j∨j=k) s) ((a'.put o.dst v).tmps.getD s undef):=fun hv hst hDD hFF s=>by
      rw[zlJ a' o.dst _ s hdn]
      by_cases hds:o.dst=some s
      · rw[if_pos hds,zeE (L:=fun j=>L j∨j=k) ok (.inr rfl) hk (by rw[hod];exact hds)];exact hv
      · rw[if_neg hds]
        have:envL l.toArray n0 S R (fun j=>L j∨j=k) s=envL l.toArray n0 S R L s:=by
          by_cases h:∃j,L j∧j<n0∧zei l.toArray j=some s
          · obtain⟨j,a1,a2,a3⟩:=h
            rw[zeE (L:=fun j=>L j∨j=k) ok (.inl a1) a2 a3,zeE ok a1 a2 a3]
          · rw[zdA (L:=L) (fun j a1 a2 a3=>h ⟨j,a1,a2,a3⟩),zdA (fun j a1 a2 a3=>by
              rcases a1 with a1|a1
              · exact h ⟨j,a1,a2,a3⟩
              · subst a1;exact hds (by rw[←hod];exact a3))]
        rw[this]
        exact(i3 s).stay hst hDD hFF
    unfold wpOp
    simp only[ho]
    rcases hrun.doing k o ho2 with ⟨hg,hsound⟩|⟨hg,hr,he⟩
    · rw[if_pos (zhG hg hlook)]
      refine .inl (hsound o a' w0 F0 D' μ' F' (objL n0 S st E L) w' rfl i4 (fun x hx=>?_) (fun i hi=>?_) (fun c hc hDc=>?_) _ Q fun v w2 D2 μ2 F2 r1 r2 r3 r4 r5 r6=>hK' _ _ ?_)
      · cases x with
        | tmp t=>exact hlook t (List.mem_append_left _ (List.mem_filterMap.2 ⟨.tmp t,hx,rfl⟩))
        | const v=>exact .atom v
        | global g=>exact .junk _
        | func f=>exact .fn f [] #[] rfl (fun i hi=>by simp at hi)
      · rw[look_obj hnx hts hlt hcl hk hLk hdk hi,htobj k (by omega)]
      · rcases i5 _ hDc with h|⟨j,hj,hjn,h1,h2⟩
        · have:=hnx.lo (k:=k) (by omega);omega
        · have:=hnx.uniq hjn hk h1 h2 (by omega) (by omega)
          subst this;exact hLk hj
      · refine⟨D2,μ2,F2,by rw[Act.put_def];exact i1,by rw[Act.put_size];exact i2,henv r1 r3 r4 r5,r2.drop (fun i ob hi=>zjg hnx hts hlt hcl hLk hk hi),fun i hi=>?_,fun i hi=>(i6 i hi).stay r3 r4 r5⟩
        rcases r6 i hi with h|h
        · rcases i5 i h with h|⟨j,b1,b2,b3,b4⟩
          · exact .inl h
          · exact .inr ⟨j,.inl b1,b2,b3,b4⟩
        · exact .inr ⟨k,.inr rfl,hk,h.1,h.2⟩
    · rw[if_neg (by rw[zgR hg hlook];exact fun h=>by cases h)]
      refine hK' _ _ ⟨D',μ',F',by rw[Act.put_def];exact i1,by rw[Act.put_size];exact i2,henv (by rw[hr];exact .atom undef) (Stay.refl _ _) (fun _ h=>⟨h,rfl⟩) (fun _ h=>h),?_,fun i hi=>?_,i6⟩
      · refine i4.drop fun i ob hi=>?_
        have:=zjg (L:=L) hnx hts hlt hcl hLk hk hi
        rw[he,show e0.app (st k).nx (objL n0 S st E L)=objL n0 S st E L from Eff.app_e0 _ _ _] at this
        exact this
      · rcases i5 i hi with h|⟨j,b1,b2,b3,b4⟩
        · exact .inl h
        · exact .inr ⟨j,.inl b1,b2,b3,b4⟩
  · intro L a' w' hall hin ⟨D',μ',F',i1,i2,i3,i4,i5,i6⟩
    have hL:L=fun j=>j<n0:=by funext j;exact propext ⟨hin j,hall j⟩
    subst hL
    refine zdM (l.drop n0) (st n0) D' μ' F' a' w' (fun o ho=>hd o (List.mem_of_mem_drop ho)) htail ⟨i1,i2,fun s=>?_,?_,fun i hi=>?_,?_,?_⟩ hQ
    · rw[htenv n0 (Nat.le_refl _)];exact i3 s
    · rw[htobj n0 (Nat.le_refl _)];exact i4
    · rcases i5 i hi with h|⟨k,_,hk,h1,h2⟩
      · exact Nat.lt_of_lt_of_le h (hnx.lo (Nat.le_refl _))
      · have:=hnx.mono n0 (k+1) (by omega) (Nat.le_refl _)
        have:=hnx.succ k hk
        omega
    · have:∀k,k≤n0→(st k).gh=S.gh:=by
        intro k
        induction k with
        | zero=>intro _;rw[hs0]
        | succ k ih=>intro hk;rw[hnext k (by omega)];exact ih (by omega)
      rw[this n0 (Nat.le_refl _)];exact hS.ghl
    · have:∀k,k≤n0→(st k).gh=S.gh:=by
        intro k
        induction k with
        | zero=>intro _;rw[hs0]
        | succ k ih=>intro hk;rw[hnext k (by omega)];exact ih (by omega)
      intro i hi
      rw[gl (this n0 (Nat.le_refl _)) hi];exact i6 i _
end
end Go.Proofs.Ytehoglapajkabaa
