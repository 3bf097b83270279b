/-
  Walks: the library's SortFunc and Compact of forms.
-/
import Derived.Test.YtehoglapajkabaaGreatJM0
import Derived.Test.YtehoglapajkabaaGreatJM12
import Derived.Test.YtehoglapajkabaaGreatJA12
import Derived.Test.YtehoglapajkabaaGreatJShelf
set_option linter.all false
namespace Go.Proofs.YtehoglapajkabaaGreat
open Go Go.RowKit
set_option maxRecDepth 20000
set_option maxHeartbeats 1000000
theorem ze8{p:Prop}(h:p:=by(refine⟨4,?_,?_,rfl,by simp,rfl,fun i h _=>(match i,h with|0,_=>by simp[sealed,PV.ren,rmap])⟩<;>(simp only[List.forall_mem_cons];repeat' (first|refine And.intro ?_ ?_|(intro p hp;exact absurd hp List.not_mem_nil)|rfl|exact sp (zaF _)|exact sp (zaH _)|exact(zau _ _ _ (zah _)).trans (zbE _ _).symm|exact(zau _ _ _ (zag _)).trans (zbD _ _).symm|exact sp (by assumption)|(intro o ho;cases ho;refine⟨by decide,?_⟩;first|(refine LeqS.row rfl ?_ ?_;(next=>(first|rfl|(simp only[List.map_append,List.map_cons,List.map_nil,List.append_nil,List.nil_append,List.append_assoc,List.cons_append,encI,encS,ints,strs];done)|(simp[encI,encS,ints,strs,encF,encR,encA];done)));(next=>(first|rfl|exact zao _|exact zaq _|exact zas _|exact zar _|exact zaz _|exact zaK _|exact zaL _|exact zap _|(simp[zap,zao,zaq,zas,zar,zaE,PV.pure,zah,zag,zaF,zaz,zaK,zaL,zaH,zap,encF,encS];done)));done)|refine⟨_,rfl,rfl,?_⟩)|(simp[St.born,St.known,retV,St.get,St.obj,lk,sealed,PV.ren,renL,rmap,AO.ren,ints,strs,encI,encS,zan,zam,zal,zak,zaD,zaC,zaB,zaA,zaW,zaV,zaU,zaT,zbB,zaa,zab,zac,zad,zai,zaj,zat,zaJ,zav,zaQ,zaw,zaR,zaG,encF,encR,encA,zbu]<;>omega))));first|done|fail):p:=h
def cptN (l:List FormD):Nat→List FormD
  | 0=>[]
  | i+1=>if 0<i∧fF l i=fF l (i - 1) then cptN l i else cptN l i++[fF l i]
def cpt (l:List FormD):List FormD:=cptN l l.length
theorem zgY{l:List FormD}:∀ {k:Nat},k≤l.length→(∀i,0<i→i<k→fF l i≠fF l (i - 1))→cptN l k=l.take k
  | 0,_,_=>by simp[cptN]
  | k+1,hk,h=>by
    rw[cptN,if_neg (fun e=>h k e.1 (Nat.lt_succ_self _) e.2),zgY (by omega) (fun i h1 h2=>h i h1 (by omega)),ze3 (by omega)]
structure CptI (l:List FormD) (k0:Nat) (d:List FormD) (k j:Nat):Prop where
  len:d.length=l.length
  pre:d.take k=cptN l (k0+j)
  rest:∀i,k≤i→i<l.length→fF d i=fF l i
  le:k+1≤k0+j
  hi:k0+j≤l.length
  pos:1≤j
  base:1≤k0
  low:k0≤k
theorem CptI.start{l:List FormD}{k0:Nat}(h:∀i,0<i→i<k0→fF l i≠fF l (i - 1)) (h0:1≤k0) (hk:k0<l.length) (he:fF l k0=fF l (k0 - 1)):CptI l k0 l k0 1:=
  ⟨rfl,by rw[cptN,if_pos ⟨h0,he⟩,zgY (by omega) h],fun _ _ _=>rfl,by omega,by omega,by omega,h0,Nat.le_refl _⟩
theorem CptI.same{l:List FormD}{k0:Nat}{d:List FormD}{k j:Nat}(h:CptI l k0 d k j) (hj:k0+j<l.length) (he:fF d (k0+j)=fF d (k0+j - 1)):CptI l k0 d k (j+1):=by
  have h1:=h.le;have h2:=h.pos;have h3:=h.base
  refine⟨h.len,?_,h.rest,by omega,by omega,by omega,h3,by have:=h.low;omega⟩
  rw[h.pre,←Nat.add_assoc,cptN,if_pos ⟨by omega,by rw[←h.rest _ (by omega) hj,←h.rest _ (by omega) (by omega)];exact he⟩]
theorem CptI.other{l:List FormD}{k0:Nat}{d:List FormD}{k j:Nat}(h:CptI l k0 d k j) (hj:k0+j<l.length) (he:¬fF d (k0+j)=fF d (k0+j - 1)):CptI l k0 (d.set k (fF d (k0+j))) (k+1) (j+1):=by
  have h1:=h.le;have h2:=h.pos;have h3:=h.base;have h4:=h.len
  refine⟨by simp[h4],?_,fun i hi hl=>?_,by omega,by omega,by omega,h3,by have:=h.low;omega⟩
  · rw[←Nat.add_assoc,cptN,if_neg (fun e=>he (by rw[h.rest _ (by omega) hj,h.rest _ (by omega) (by omega)];exact e.2)),←h.pre,List.take_succ_eq_append_getElem (by simp;omega),List.take_set_of_le (Nat.le_refl _),List.getElem_set_self,h.rest _ (by omega) hj]
  · have:=h.rest i (by omega) hl
    unfold fF at this ⊢
    rw[List.getD_eq_getElem?_getD,List.getElem?_set_ne (by omega),←List.getD_eq_getElem?_getD];exact this
theorem CptI.stop{l:List FormD}{k0:Nat}{d:List FormD}{k j:Nat}(h:CptI l k0 d k j) (hj:¬k0+j<l.length):d.take k=cpt l∧k=(cpt l).length:=by
  have h1:=h.le;have h2:=h.hi;have h4:=h.len
  have:d.take k=cpt l:=by rw[h.pre];unfold cpt;congr 1;omega
  exact⟨this,by rw[←this,List.length_take];omega⟩
theorem zrr{l:List FormD}(h:∀i,0<i→i<l.length→fF l i≠fF l (i - 1)):cpt l=l:=by rw[cpt,zgY (Nat.le_refl _) h,List.take_length]
theorem zjt (d:List FormD) (k:Nat) (f:FormD):(d.map encF).set k (.agg [.atom (.string f.word),.atom (.string f.lem),.atom (.string f.cls)])=(d.set k f).map encF:=by rw[List.map_set];rfl
theorem zjT{f g:FormD}(h1:f.word=g.word) (h2:f.lem=g.lem) (h3:f.cls=g.cls):f=g:=by cases f;cases g;simp_all
theorem zrs{S:St}{l l':List FormD}{o:AO}{els:List PV}{n:Nat}{ts:List Nat}(h0:S.obj 0=some ⟨3,els⟩) (he:els=l'.map encF) (hr:retV S ts=.ob 0 3 0 n) (hg:S.gh=[.mark 0]):ResP S ts (.ob 0 3 0 n) [o] [some ⟨3,l'.map encF⟩] []:=by
  refine ResP.of [0] (by rw[hr];simp[sealed,PV.ren,rmap]) rfl (by decide) hg rfl (fun i hi=>?_) (fun i o' ho=>?_)
  · have:i=0:=by simpa using hi
    subst this;rfl
  · match i,ho with
    | 0,ho=>cases ho;exact⟨_,h0,rfl,by rw[he,zat,zaJ]⟩
theorem zkj (l:List FormD) (hl:l.length≤1000000000):Proc Tryz.prog 75 [.ob 0 3 0 l.length] [⟨3,l.map encF⟩] (.ob 0 3 0 (cpt l).length) [some ⟨3,(cpt l++List.replicate (l.length - (cpt l).length) noF).map encF⟩] []:=by
  refine Proc.intro (ts:=[2]) Tryz.func75 (by kernel_rfl) rfl rfl rfl (Nat.le_of_ble_eq_true rfl) rfl ?_
  simp only[zbe,zbv,List.map_cons,List.map_nil,List.length_cons,List.length_nil,Nat.zero_add,Nat.reduceAdd]
  refine sY [0] (fun P S K=>K ⟨[(0,S.get 0)],S.hp,S.nx,S.gh⟩) ?_
  all_goals
  refine Tri.seq ?_
  refine sZ [0,8] (fun P S K=>XvLen P 23 (M S.hp S.nx) (S.get 0) (fun r1 _=>XvBinOV P .lss 3 (.const (.int .i64 2)) r1 (.atom (.int .i64 2)) (fun r2 _=>K ⟨[(0,S.get 0),(8,r2)],S.hp,S.nx,S.gh⟩))) fun K hK=>?_
  repeat' (first|(refine hK _ ?_;clear hK K)|(refine st ?_;try simp only[encF,List.length_set])|fail)
  all_goals
  refine Tri.cond rfl (fun h8=>?_) (fun h8=>?_)
  ·try (cases h8;done)
   all_goals (try simp only[CQ] at h8)
   all_goals
   refine sY [2] (fun P S K=>K ⟨[(2,(S.get 0))],S.hp,S.nx,S.gh⟩) ?_
   all_goals
   refine Tri.ret ?_
   show ResP _ _ _ _ _ _
   rw[zrr (l:=l) (fun i h1 h2=>by omega),Nat.sub_self,List.replicate_zero,List.append_nil]
   exact zrs (l:=l) rfl rfl rfl rfl
  try (cases h8;done)
  all_goals (try simp only[CQ] at h8)
  all_goals
  refine Tri.skip ?_
  refine Tri.seq ?_
  refine sY [0,3] (fun P S K=>K ⟨[(0,S.get 0),(3,(.atom (.int .i64 1)))],S.hp,S.nx,S.gh⟩) ?_
  all_goals
  refine Tri.block ?_
  refine Tri.loop (α:=(k:Nat) ×' (1≤k∧k≤l.length∧∀i,0<i→i<k→fF l i≠fF l (i - 1))) (fun z=>(fun(k:Nat)=>(⟨[(0,.ob 0 3 0 l.length),(3,encI k)],[(0,some ⟨3,l.map encF⟩)],1,[.mark 0]⟩:St)) z.1) (fun z=>(fun(k:Nat)=>l.length - k) z.1) ⟨1,⟨Nat.le_refl _,by omega,fun i h1 h2=>absurd h2 (by omega)⟩⟩ [0] ?_ ?_
  ·exact ze8
  rintro⟨k,⟨hk1,hk,hno⟩⟩
  refine Tri.seq ?_
  refine sZ [0,3,13] (fun P S K=>XvLen P 23 (M S.hp S.nx) (S.get 0) (fun r2 _=>XvBinOV P .lss 3 (.tmp 12) (S.get 3) r2 (fun r3 _=>K ⟨[(0,S.get 0),(3,S.get 3),(13,r3)],S.hp,S.nx,S.gh⟩))) fun K hK=>?_
  repeat' (first|(refine hK _ ?_;clear hK K)|(refine st ?_;try simp only[encF,List.length_set])|fail)
  all_goals
  refine Tri.cond rfl (fun h13=>?_) (fun h13=>?_)
  ·try (cases h13;done)
   all_goals (try simp only[CQ] at h13)
   all_goals
   refine Tri.skip ?_
   refine Tri.seq ?_
   refine Tri.block ?_
   refine sD 10 [0,3,25] (fun P GD S K=>XvIndexAddr P 23 (S.get 0) (S.get 3) (fun r2 ef2=>XvLoad P 73 (M S.hp S.nx) r2 (fun r3 ef3=>XvBinOV P .sub 3 (.const (.int .i64 1)) (S.get 3) (.atom (.int .i64 1)) (fun r6 ef6=>XvIndexAddr P 23 (S.get 0) r6 (fun r7 ef7=>XvLoad P 73 (M S.hp S.nx) r7 (fun r8 ef8=>XvBinOV P .eql 73 (.tmp 24) r3 r8 (fun r9 ef9=>(trOk S.nx GD [⟨S.nx,0,[],[],[]⟩,⟨S.nx,0,[],[],[]⟩,⟨S.nx,0,ef2.rd,[],[]⟩,⟨S.nx,0,ef3.rd,[],[]⟩,⟨S.nx,0,[],[],[]⟩,⟨S.nx,0,[],[],[]⟩,⟨S.nx,0,ef6.rd,[],[]⟩,⟨S.nx,0,ef7.rd,[],[]⟩,⟨S.nx,0,ef8.rd,[],[]⟩,⟨S.nx,0,ef9.rd,[],[]⟩]=true∧K ⟨[(0,S.get 0),(3,S.get 3),(25,r9)],S.hp,S.nx,S.gh⟩)))))))) fun K hK=>?_
   repeat' (first|(refine hK _ ?_;clear hK K)|(refine(?_:trOk _ _ _=true);(try simp only[zaf (x:=((k:Int) - 1)) (by omega) (by omega),zeK (show 0<k by omega),zaS (show k<l.length by omega),zaS (show k - 1<l.length by omega)]);kernel_rfl)|refine And.intro ?_ ?_|exact cl|(refine st ?_;try simp only[encF,List.length_set,zaf (x:=((k:Int) - 1)) (by omega) (by omega),zeK (show 0<k by omega),zaS (show k<l.length by omega),zaS (show k - 1<l.length by omega)])|fail)
   all_goals try simp (disch:=omega) only[zaf,zae]
   all_goals
   refine Tri.cond rfl (fun h25=>?_) (fun h25=>?_)
   ·try (cases h25;done)
    all_goals (try simp only[CQ] at h25)
    all_goals
    refine sZ [0,3,4] (fun P S K=>XvSliceV P 23 (S.get 0) (some (S.get 3)) none (fun r2 _=>K ⟨[(0,S.get 0),(3,S.get 3),(4,r2)],S.hp,S.nx,S.gh⟩)) fun K hK=>?_
    repeat' (first|(refine hK _ ?_;clear hK K)|((first|refine zax (fun hg=>?_) (fun hg=>?_)|refine fun(hg:(_:Prop))=>?_)<;>((try simp only[BQ] at hg);try (exfalso;omega)))|refine And.intro ?_ ?_|exact cl|(refine st ?_;try simp only[encF,List.length_set])|fail)
    all_goals
    refine Tri.seq ?_
    refine sY [0,3,4,5] (fun P S K=>K ⟨[(0,S.get 0),(3,S.get 3),(4,S.get 4),(5,(.atom (.int .i64 1)))],S.hp,S.nx,S.gh⟩) ?_
    all_goals
    refine Tri.block ?_
    refine Tri.loop (α:=(d:List FormD) ×' (k2:Nat) ×' (j:Nat) ×' (CptI l k d k2 j)) (fun z=>(fun(d:List FormD) (k2:Nat) (j:Nat)=>(⟨[(0,.ob 0 3 0 l.length),(3,encI k2),(4,.ob 0 3 k (l.length - k)),(5,encI j)],[(0,some ⟨3,d.map encF⟩)],1,[.mark 0]⟩:St)) z.1 z.2.1 z.2.2.1) (fun z=>(fun(d:List FormD) (k2:Nat) (j:Nat)=>l.length - j) z.1 z.2.1 z.2.2.1) ⟨l,k,1,CptI.start hno hk1 (by omega) (zjT h25.1 h25.2.1 h25.2.2)⟩ [0] ?_ ?_
    ·exact ze8
    rintro⟨d,k2,j,hC⟩
    have hdl:=hC.len
    have hle:=hC.le
    have hhi:=hC.hi
    have hpo:=hC.pos
    have hlo:=hC.low
    refine Tri.seq ?_
    refine sZ [0,3,4,5,32] (fun P S K=>XvLen P 23 (M S.hp S.nx) (S.get 4) (fun r2 _=>XvBinOV P .lss 3 (.tmp 31) (S.get 5) r2 (fun r3 _=>K ⟨[(0,S.get 0),(3,S.get 3),(4,S.get 4),(5,S.get 5),(32,r3)],S.hp,S.nx,S.gh⟩))) fun K hK=>?_
    repeat' (first|(refine hK _ ?_;clear hK K)|(refine st ?_;try simp only[encF,List.length_set])|fail)
    all_goals
    refine Tri.cond rfl (fun h32=>?_) (fun h32=>?_)
    ·try (cases h32;done)
     all_goals (try simp only[CQ] at h32)
     all_goals
     refine Tri.skip ?_
     refine Tri.seq ?_
     refine Tri.block ?_
     refine sD 10 [0,3,4,5,44] (fun P GD S K=>XvIndexAddr P 23 (S.get 4) (S.get 5) (fun r2 ef2=>XvLoad P 73 (M S.hp S.nx) r2 (fun r3 ef3=>XvBinOV P .sub 3 (.const (.int .i64 1)) (S.get 5) (.atom (.int .i64 1)) (fun r6 ef6=>XvIndexAddr P 23 (S.get 4) r6 (fun r7 ef7=>XvLoad P 73 (M S.hp S.nx) r7 (fun r8 ef8=>XvBinOV P .neq 73 (.tmp 43) r3 r8 (fun r9 ef9=>(trOk S.nx GD [⟨S.nx,0,[],[],[]⟩,⟨S.nx,0,[],[],[]⟩,⟨S.nx,0,ef2.rd,[],[]⟩,⟨S.nx,0,ef3.rd,[],[]⟩,⟨S.nx,0,[],[],[]⟩,⟨S.nx,0,[],[],[]⟩,⟨S.nx,0,ef6.rd,[],[]⟩,⟨S.nx,0,ef7.rd,[],[]⟩,⟨S.nx,0,ef8.rd,[],[]⟩,⟨S.nx,0,ef9.rd,[],[]⟩]=true∧K ⟨[(0,S.get 0),(3,S.get 3),(4,S.get 4),(5,S.get 5),(44,r9)],S.hp,S.nx,S.gh⟩)))))))) fun K hK=>?_
     repeat' (first|(refine hK _ ?_;clear hK K)|(refine(?_:trOk _ _ _=true);(try simp only[zaf (x:=((j:Int) - 1)) (by omega) (by omega),zeK (show 0<j by omega),zaS (show k+j<d.length by omega),zaS (show k+(j - 1)<d.length by omega)]);kernel_rfl)|refine And.intro ?_ ?_|exact cl|(refine st ?_;try simp only[encF,List.length_set,zaf (x:=((j:Int) - 1)) (by omega) (by omega),zeK (show 0<j by omega),zaS (show k+j<d.length by omega),zaS (show k+(j - 1)<d.length by omega)])|fail)
     all_goals try simp (disch:=omega) only[zaf,zae]
     all_goals
     refine Tri.cond rfl (fun h44=>?_) (fun h44=>?_)
     ·try (cases h44;done)
      all_goals (try simp only[CQ] at h44)
      all_goals
      refine sZ [0,3,4,5] (fun P S K=>XvIndexAddr P 23 (S.get 4) (S.get 5) (fun r4 _=>XvLoad P 73 (M S.hp S.nx) r4 (fun r5 _=>XvIndexAddr P 23 (S.get 0) (S.get 3) (fun r6 _=>XvStore P 73 (M S.hp S.nx) r6 r5 (fun r7 ef7=>K ⟨[(0,S.get 0),(3,S.get 3),(4,S.get 4),(5,S.get 5)],(Eff.hp ef7 S.nx S.hp),(S.nx+ef7.add.length),S.gh⟩))))) fun K hK=>?_
      repeat' (first|(refine hK _ ?_;clear hK K)|refine And.intro ?_ ?_|exact cl|(refine st ?_;try simp only[encF,List.length_set,zaS (show k+j<d.length by omega),zaS (show k2<d.length by omega),zjt])|fail)
      all_goals
      refine rY [0,3,4,5] (fun P S K=>XvBinOV P .add 3 (.const (.int .i64 1)) (S.get 3) (.atom (.int .i64 1)) (fun r1 _=>K ⟨[(0,S.get 0),(3,r1),(4,S.get 4),(5,S.get 5)],S.hp,S.nx,S.gh⟩)) ?_
      all_goals try simp (disch:=omega) only[zaf,zae]
      all_goals
      refine rY [0,3,4,5] (fun P S K=>XvBinOV P .add 3 (.const (.int .i64 1)) (S.get 5) (.atom (.int .i64 1)) (fun r1 _=>K ⟨[(0,S.get 0),(3,S.get 3),(4,S.get 4),(5,r1)],S.hp,S.nx,S.gh⟩)) ?_
      all_goals try simp (disch:=omega) only[zaf,zae]
      all_goals
      first
      | (refine⟨⟨d,k2,j+1,hC.same (by omega) (by rw[show k+j - 1=k+(j - 1) by omega];first|exact zjT h44.1 h44.2.1 h44.2.2|(simp only[not_not,Decidable.not_not] at h44;exact zjT h44.1 h44.2.1 h44.2.2))⟩,[0],by dsimp only;omega,?_⟩
         exact ze8)
      | (refine⟨⟨d.set k2 (fF d (k+j)),k2+1,j+1,hC.other (by omega) (by rw[show k+j - 1=k+(j - 1) by omega];intro e;rw[e] at h44;simp at h44)⟩,[0],by dsimp only;omega,?_⟩
         exact ze8)
     try (cases h44;done)
     all_goals (try simp only[CQ] at h44)
     all_goals
     refine Tri.skip ?_
     refine rY [0,3,4,5] (fun P S K=>XvBinOV P .add 3 (.const (.int .i64 1)) (S.get 5) (.atom (.int .i64 1)) (fun r1 _=>K ⟨[(0,S.get 0),(3,S.get 3),(4,S.get 4),(5,r1)],S.hp,S.nx,S.gh⟩)) ?_
     all_goals try simp (disch:=omega) only[zaf,zae]
     all_goals
     first
     | (refine⟨⟨d,k2,j+1,hC.same (by omega) (by rw[show k+j - 1=k+(j - 1) by omega];first|exact zjT h44.1 h44.2.1 h44.2.2|(simp only[not_not,Decidable.not_not] at h44;exact zjT h44.1 h44.2.1 h44.2.2))⟩,[0],by dsimp only;omega,?_⟩
        exact ze8)
     | (refine⟨⟨d.set k2 (fF d (k+j)),k2+1,j+1,hC.other (by omega) (by rw[show k+j - 1=k+(j - 1) by omega];intro e;rw[e] at h44;simp at h44)⟩,[0],by dsimp only;omega,?_⟩
        exact ze8)
    try (cases h32;done)
    all_goals (try simp only[CQ] at h32)
    all_goals
    refine Tri.exit ?_
    refine sZ [0,3] (fun P S K=>XvSliceV P 23 (S.get 0) (some (S.get 3)) none (fun r2 _=>XvClear P 23 (M S.hp S.nx) r2 (fun r3 ef3=>K ⟨[(0,S.get 0),(3,S.get 3)],(Eff.hp ef3 S.nx S.hp),(S.nx+ef3.add.length),S.gh⟩))) fun K hK=>?_
    repeat' (first|(refine hK _ ?_;clear hK K)|((first|refine zax (fun hg=>?_) (fun hg=>?_)|refine fun(hg:(_:Prop))=>?_)<;>((try simp only[BQ] at hg);try (exfalso;omega)))|refine And.intro ?_ ?_|exact cl|(refine st ?_;try simp only[encF,List.length_set])|fail)
    all_goals
    refine sZ [2] (fun P S K=>XvSliceV P 23 (S.get 0) none (some (S.get 3)) (fun r2 _=>K ⟨[(2,r2)],S.hp,S.nx,S.gh⟩)) fun K hK=>?_
    repeat' (first|(refine hK _ ?_;clear hK K)|((first|refine zax (fun hg=>?_) (fun hg=>?_)|refine fun(hg:(_:Prop))=>?_)<;>((try simp only[BQ] at hg);try (exfalso;omega)))|refine And.intro ?_ ?_|exact cl|(refine st ?_;try simp only[encF,List.length_set])|fail)
    all_goals
    refine Tri.ret ?_
    show ResP _ _ _ _ _ _
    obtain⟨hp1,hp2⟩:=hC.stop (by omega)
    have hp3:d.length=l.length:=hdl
    subst hp2
    refine zrs (l:=l) rfl ?_ rfl rfl
    rw[List.map_append,←hp1,List.map_take,List.map_replicate]
    have hm:min (cpt l).length d.length=(cpt l).length:=by omega
    simp[encF,noF,encS,hm]
    rw[List.drop_eq_nil_of_le (by rw[List.length_map];omega),List.append_nil];rfl
   try (cases h25;done)
   all_goals (try simp only[CQ] at h25)
   all_goals
   refine Tri.skip ?_
   refine rY [0,3] (fun P S K=>XvBinOV P .add 3 (.const (.int .i64 1)) (S.get 3) (.atom (.int .i64 1)) (fun r1 _=>K ⟨[(0,S.get 0),(3,r1)],S.hp,S.nx,S.gh⟩)) ?_
   all_goals try simp (disch:=omega) only[zaf,zae]
   all_goals
   refine⟨⟨k+1,by omega,by omega,fun i h1 h2=>?_⟩,[0],by dsimp only;omega,?_⟩
   · rcases Nat.lt_succ_iff_lt_or_eq.1 h2 with h2|rfl
     · exact hno i h1 h2
     · intro e;rw[e] at h25;simp at h25
   · exact ze8
  try (cases h13;done)
  all_goals (try simp only[CQ] at h13)
  all_goals
  refine Tri.exit ?_
  refine sY [2] (fun P S K=>K ⟨[(2,(S.get 0))],S.hp,S.nx,S.gh⟩) ?_
  all_goals
  refine Tri.ret ?_
  show ResP _ _ _ _ _ _
  rw[zrr (l:=l) (fun i h1 h2=>hno i h1 (by omega)),Nat.sub_self,List.replicate_zero,List.append_nil]
  exact zrs (l:=l) rfl rfl rfl rfl
def fmW (w:ByteArray) (x:ByteArray×ByteArray):FormD:=⟨w,x.1,x.2⟩
def cmpP (x y:ByteArray×ByteArray):Int:=orI [cmpS x.1 y.1,cmpS x.2 y.2]
theorem zmA (a b:ByteArray):cmpS a b<0↔sLt a b=true:=by
  unfold cmpS
  split
  · simp_all
  · split<;>simp_all
theorem zjY (a b:ByteArray):cmpS a b=0↔a=b:=by
  unfold cmpS
  constructor
  · intro h
    split at h
    · cases h
    · split at h
      · cases h
      · rename_i h1 h2
        apply Classical.byContradiction
        intro hne
        exact h2 (zfh (by simpa using h1) hne)
  · intro h
    subst h
    rw[if_neg (by rw[zdQ];decide),if_neg (by rw[zdQ];decide)]
theorem ltP (x y:ByteArray×ByteArray):ltOf cmpP x y=(sLt x.1 y.1 || (decide (x.1=y.1) && sLt x.2 y.2)):=by
  unfold ltOf cmpP
  by_cases h:x.1=y.1
  · have e:cmpS x.1 y.1=0:=(zjY _ _).2 h
    rw[e,h,zdQ]
    have:orI [0,cmpS x.2 y.2]=cmpS x.2 y.2:=by
      unfold orI orI;simp[orI];exact fun h=>h.symm
    rw[this]
    simp only[Bool.false_or,decide_true,Bool.true_and]
    have:=zmA x.2 y.2
    cases h2:sLt x.2 y.2<;>simp_all
  · have e:¬cmpS x.1 y.1=0:=fun e=>h ((zjY _ _).1 e)
    have:orI [cmpS x.1 y.1,cmpS x.2 y.2]=cmpS x.1 y.1:=by
      unfold orI;rw[if_pos e]
    rw[this,decide_eq_false h,Bool.false_and,Bool.or_false]
    have:=zmA x.1 y.1
    cases h2:sLt x.1 y.1<;>simp_all
def fLtP (x y:ByteArray×ByteArray):Bool:=sLt x.1 y.1 || (decide (x.1=y.1) && sLt x.2 y.2)
theorem zlk (x:ByteArray×ByteArray):fLtP x x=false:=by simp[fLtP,zdQ]
theorem zfU{x y z:ByteArray×ByteArray}(h:fLtP x y=true) (k:fLtP y z=true):fLtP x z=true:=by
  simp only[fLtP,Bool.or_eq_true,Bool.and_eq_true,decide_eq_true_eq] at *
  rcases h with h|⟨h1,h2⟩
  · rcases k with k|⟨k1,k2⟩
    · exact .inl (ziY h k)
    · exact .inl (by rw[←k1];exact h)
  · rcases k with k|⟨k1,k2⟩
    · exact .inl (by rw[h1];exact k)
    · exact .inr ⟨h1.trans k1,ziY h2 k2⟩
theorem zfV{x y:ByteArray×ByteArray}(h:fLtP x y=false) (k:fLtP y x=false):x=y:=by
  simp only[fLtP,Bool.or_eq_false_iff] at h k
  have e1:x.1=y.1:=Classical.byContradiction fun hne=>by rw[zfh h.1 hne] at k;exact absurd k.1 (by decide)
  have h2:=h.2;have k2:=k.2
  rw[e1] at h2 k2
  simp only[decide_true,Bool.true_and] at h2 k2
  have e2:x.2=y.2:=Classical.byContradiction fun hne=>by rw[zfh h2 hne] at k2;exact absurd k2 (by decide)
  exact Prod.ext e1 e2
theorem swoP:Go.Sort.SWO (ltOf cmpP) where
  irrefl x:=by rw[ltP];exact zlk x
  trans x y z h k:=by rw[ltP] at *;exact zfU h k
  ntrans x y z h k:=by
    rw[ltP] at *
    change fLtP x y=false at h
    change fLtP y z=false at k
    show fLtP x z=false
    cases e:fLtP x z with
    | false=>rfl
    | true=>
      cases e1:fLtP y x with
      | true=>rw[zfU e1 e] at k;cases k
      | false=>have:=zfV h e1;subst this;rw[e] at k;cases k
theorem totP (x y:ByteArray×ByteArray) (h:ltOf cmpP x y=false) (k:ltOf cmpP y x=false):x=y:=by
  rw[ltP] at h k;exact zfV h k
def encL3 (w:ByteArray) (x:ByteArray×ByteArray):List Value:=[.string w,.string x.1,.string x.2]
theorem zqH (w:ByteArray) (x:ByteArray×ByteArray) (v:Value) (hv:v∈encL3 w x):v.oneCell'=true:=by
  simp only[encL3,List.mem_cons,List.not_mem_nil,or_false] at hv
  rcases hv with rfl|rfl|rfl<;>rfl
set_option maxHeartbeats 1000000 in
set_option maxRecDepth 100000 in
theorem SortF_proc (w:ByteArray) (ks:List (ByteArray×ByteArray)) (hl:ks.length<4611686018427387904):
    Proc Tryz.prog 73 [.ob 0 3 0 ks.length,.fn 74 []] [⟨3,ks.map fun x=>encF (fmW w x)⟩] (.tup []) [some ⟨3,(zcr cmpP ks).map fun x=>encF (fmW w x)⟩] []:=
  znI (α:=ByteArray×ByteArray) (Go.Proofs.enters_of Tryz.func73 (by kernel_rfl) rfl) 3 (encL3 w) (fun _=>rfl) cmpP (fun x y=>zou (fmW w x) (fmW w y))
    (fun blk off cap d wd h1 h2 h3 h4=>AnyQ.slices_SortFunc_total Tryz.laysSortF 3 (fun _=>rfl) (fun _=>rfl) (encL3 w) (fun _=>rfl) (zqH w) cmpP swoP 74 #[] blk off cap d wd (Go.Proofs.enters_of Tryz.func74 (by kernel_rfl) rfl) h1 h2 h3 h4 totP)
    (fun p cap fv wd=>AnyF.slices_SortFunc_none Tryz.laysSortF p cap fv wd) ks hl
theorem zff{α:Type}{R:α→α→Prop}(hi:∀x,¬R x x) (ht:∀x y z,R x y→R y z→R x z):∀ {a b:List α},a.Pairwise R→b.Pairwise R→(∀x,x∈a↔x∈b)→a=b
  | [],[],_,_,_=>rfl
  | [],y :: b,_,_,h=>absurd ((h y).2 (List.mem_cons_self ..)) (by simp)
  | x :: a,[],_,_,h=>absurd ((h x).1 (List.mem_cons_self ..)) (by simp)
  | x :: a,y :: b,ha,hb,h=>by
    rw[List.pairwise_cons] at ha hb
    have e:x=y:=by
      rcases List.mem_cons.1 ((h x).1 (List.mem_cons_self ..)) with e|h1
      · exact e
      · rcases List.mem_cons.1 ((h y).2 (List.mem_cons_self ..)) with e|h2
        · exact e.symm
        · exact absurd (ht _ _ _ (hb.1 x h1) (ha.1 y h2)) (hi _)
    subst e
    congr 1
    refine zff hi ht ha.2 hb.2 fun z=>⟨fun hz=>?_,fun hz=>?_⟩
    · rcases List.mem_cons.1 ((h z).1 (List.mem_cons_of_mem _ hz)) with e|h1
      · subst e;exact absurd (ha.1 z hz) (hi z)
      · exact h1
    · rcases List.mem_cons.1 ((h z).2 (List.mem_cons_of_mem _ hz)) with e|h1
      · subst e;exact absurd (hb.1 z hz) (hi z)
      · exact h1
theorem zn9 (f:FormD):¬fLt f f=true:=by simp[fLt,zdQ]
theorem zjS (f g h:FormD) (h1:fLt f g=true) (h2:fLt g h=true):fLt f h=true:=zfU (x:=(f.lem,f.cls)) (y:=(g.lem,g.cls)) (z:=(h.lem,h.cls)) h1 h2
theorem zgW{f g:FormD}(hw:f.word=g.word) (h:fLt f g=false) (k:fLt g f=false):f=g:=by
  have:=zfV (x:=(f.lem,f.cls)) (y:=(g.lem,g.cls)) h k
  cases f;cases g;simp_all
theorem zjJ{w:ByteArray}{f:FormD}(hf:f.word=w):∀ {l:List FormD},(∀g,g∈l→g.word=w)→f∉l→l.Pairwise (fun a b=>fLt a b=true)→(insF f l).Pairwise fun a b=>fLt a b=true
  | [],_,_,_=>by simp[insF]
  | g :: l,hw,hn,hp=>by
    rw[List.pairwise_cons] at hp
    unfold insF
    split
    · rename_i h
      refine List.pairwise_cons.2 ⟨fun x hx=>?_,List.pairwise_cons.2 hp⟩
      rcases List.mem_cons.1 hx with rfl|hx
      · exact h
      · exact zjS _ _ _ h (hp.1 x hx)
    · rename_i h
      refine List.pairwise_cons.2 ⟨fun x hx=>?_,zjJ hf (fun x hx=>hw x (List.mem_cons_of_mem _ hx)) (fun hm=>hn (List.mem_cons_of_mem _ hm)) hp.2⟩
      rcases mem_insF.1 hx with rfl|hx
      · cases e:fLt g x with
        | true=>rfl
        | false=>exact absurd (zgW (by rw[hf,hw g (List.mem_cons_self ..)]) (by simpa using h) e) (fun e=>hn (by rw[e];exact List.mem_cons_self ..))
      · exact hp.1 x hx
theorem zjg{w:ByteArray}:∀ {m l:List FormD},(∀g,g∈m→g.word=w)→(∀g,g∈l→g.word=w)→l.Pairwise (fun a b=>fLt a b=true)→(m.foldl putF l).Pairwise fun a b=>fLt a b=true
  | [],l,_,_,h=>h
  | f :: m,l,hm,hl,h=>by
    rw[List.foldl_cons]
    refine zjg (fun g hg=>hm g (List.mem_cons_of_mem _ hg)) (fun g hg=>?_) ?_
    · rcases mem_putF.1 hg with rfl|hg
      · exact hm _ (List.mem_cons_self ..)
      · exact hl g hg
    · unfold putF
      split
      · exact h
      · rename_i hn
        exact zjJ (hm f (List.mem_cons_self ..)) hl hn h
theorem zjW {w:ByteArray}{l:List FormD}(hw:∀g,g∈l→g.word=w) (hs:∀i j,i<j→j<l.length→fLt (fF l j) (fF l i)=false):∀k,k≤l.length→(cptN l k).Pairwise (fun a b=>fLt a b=true)∧∀x,x∈cptN l k↔∃i,i<k∧fF l i=x
  | 0,_=>⟨by simp[cptN],fun x=>by simp[cptN]⟩
  | k + 1,hk=>by
    obtain⟨h1,h2⟩:=zjW hw hs k (by omega)
    unfold cptN
    by_cases hd:0<k∧fF l k=fF l (k - 1)
    · rw[if_pos hd]
      refine⟨h1,fun x=>(h2 x).trans ⟨fun⟨i,hi,e⟩=>⟨i,by omega,e⟩,fun⟨i,hi,e⟩=>?_⟩⟩
      by_cases hik:i=k
      · subst hik;exact⟨i - 1,by omega,by rw[←hd.2];exact e⟩
      · exact⟨i,by omega,e⟩
    · rw[if_neg hd]
      refine⟨List.pairwise_append.2 ⟨h1,by simp,fun x hx y hy=>?_⟩,fun x=>?_⟩
      · obtain rfl:y=fF l k:=by simpa using hy
        obtain⟨i,hi,rfl⟩:=(h2 x).1 hx
        have hwx:∀j,j<l.length→(fF l j).word=w:=fun j hj=>hw _ (zb0 hj)
        cases e:fLt (fF l i) (fF l k) with
        | true=>rfl
        | false=>
          exfalso
          have e1:=zgW (by rw[hwx i (by omega),hwx k (by omega)]) e (hs i k hi (by omega))
          refine hd ⟨by omega,?_⟩
          by_cases hik:i=k - 1
          · rw[←hik];exact e1.symm
          · have a1:=hs i (k - 1) (by omega) (by omega)
            have a2:=hs (k - 1) k (by omega) (by omega)
            rw[←e1] at a2
            exact e1.symm.trans (zgW (by rw[hwx i (by omega),hwx (k - 1) (by omega)]) a2 a1)
      · rw[List.mem_append,h2 x,List.mem_singleton]
        constructor
        · rintro(⟨i,hi,e⟩|rfl)
          · exact⟨i,by omega,e⟩
          · exact⟨k,by omega,rfl⟩
        · rintro⟨i,hi,e⟩
          by_cases hik:i=k
          · subst hik;exact .inr e.symm
          · exact .inl ⟨i,by omega,e⟩
theorem znu (m:List (ByteArray×ByteArray)):(zcr cmpP m).Pairwise fun x y=>fLtP y x=false:=by
  have:=List.pairwise_mergeSort (le:=fun x y => !(ltOf cmpP) y x) (fun a b c h k=>by
    have:=swoP.ntrans c b a (by simpa using k) (by simpa using h)
    simp[this]) (fun a b=>by
    cases h:ltOf cmpP a b with
    | false=>simp
    | true=>
      have:ltOf cmpP b a=false:=by
        cases k:ltOf cmpP b a with
        | false=>rfl
        | true=>have:=swoP.trans _ _ _ h k;rw[swoP.irrefl] at this;cases this
      simp[this]) m
  refine this.imp fun {a b} h=>?_
  have h':ltOf cmpP b a=false:=by simpa using h
  rw[ltP] at h'
  exact h'
theorem cpt_sort (w:ByteArray) (m:List (ByteArray×ByteArray)):cpt ((zcr cmpP m).map (fmW w))=(m.map (fmW w)).foldl putF []:=by
  have hw:∀(q:List (ByteArray×ByteArray)) g,g∈q.map (fmW w)→g.word=w:=fun q g hg=>by
    obtain⟨x,_,rfl⟩:=List.mem_map.1 hg;rfl
  have hp:=znu m
  have hs:∀i j,i<j→j<((zcr cmpP m).map (fmW w)).length→fLt (fF ((zcr cmpP m).map (fmW w)) j) (fF ((zcr cmpP m).map (fmW w)) i)=false:=fun i j hij hj=>by
    have hj':j<(zcr cmpP m).length:=by simpa using hj
    rw[zek hj,zek (by omega),List.getElem_map,List.getElem_map]
    exact List.pairwise_iff_getElem.1 hp i j (by omega) hj' hij
  obtain⟨h1,h2⟩:=zjW (hw _) hs _ (Nat.le_refl _)
  refine zff zn9 zjS h1 (zjg (hw m) (fun g hg=>by cases hg) List.Pairwise.nil) fun x=>?_
  unfold cpt
  rw[h2 x,mem_foldl_putF]
  have hperm:(zcr cmpP m).Perm m:=List.mergeSort_perm _ _
  constructor
  · rintro⟨i,hi,rfl⟩
    have:=zb0 hi
    obtain⟨y,hy,e⟩:=List.mem_map.1 this
    exact .inl (List.mem_map.2 ⟨y,hperm.mem_iff.1 hy,e⟩)
  · rintro(hx|hx)
    · obtain⟨y,hy,rfl⟩:=List.mem_map.1 hx
      obtain⟨i,hi,e⟩:=List.getElem_of_mem (hperm.mem_iff.2 hy)
      exact⟨i,by simpa using hi,by rw[zek (by simpa using hi),List.getElem_map,e]⟩
    · cases hx
theorem zj7 (r:RuleD) (w:ByteArray):zdi r w=if (zeG r w).2=true then some (zeG r w).1 else none:=by
  unfold zdi zeG cutT zhM
  by_cases h1:r.suf.size≤w.size
  · have en:((w.size:Int) - r.suf.size).toNat=w.size - r.suf.size:=by omega
    simp only[en]
    by_cases h2:w.extract (w.size - r.suf.size) w.size=r.suf
    · have hs:(w.extract 0 (w.size - r.suf.size)).size=w.size - r.suf.size:=by rw[ByteArray.size_extract];omega
      simp only[h1,h2,decide_true,Bool.and_self,if_true,Bool.true_and,hs,ne_eq,not_true_eq_false,false_or]
      have hz:(w.extract 0 (w.size - r.suf.size)++r.put=⟨#[]⟩)↔((w.size:Int) - r.suf.size=0∧r.put=.empty):=by
        constructor
        · intro e
          have e2:=congrArg ByteArray.size e
          rw[ByteArray.size_append,hs] at e2
          have e3:(⟨#[]⟩:ByteArray).size=0:=rfl
          exact⟨by omega,ByteArray.size_eq_zero_iff.1 (by omega)⟩
        · rintro⟨e1,e2⟩
          rw[e2]
          have:w.extract 0 (w.size - r.suf.size)=.empty:=ByteArray.size_eq_zero_iff.1 (by rw[hs];omega)
          rw[this];rfl
      by_cases h3:(w.size:Int) - r.suf.size<r.least
      · rw[if_pos (.inl h3),if_neg]
        simp only[Bool.and_eq_true,decide_eq_true_eq,not_and]
        omega
      · by_cases h4:(w.size:Int) - r.suf.size=0∧r.put=.empty
        · rw[if_pos (.inr (.inr h4)),if_neg]
          rw[decide_eq_true (hz.2 h4)];simp
        · rw[if_neg (by rintro(h|h|h);exact h3 h;omega;exact h4 h),if_pos]
          rw[decide_eq_false (fun e=>h4 (hz.1 e)),Bool.not_false,Bool.and_true,decide_eq_true_eq]
          omega
    · rw[if_pos (.inr (.inr (.inl h2))),if_neg]
      simp[h1,h2]
  · rw[if_pos (.inr (.inl (by omega))),if_neg]
    simp[h1]
def rawX (x:LexD) (w:ByteArray):List FormD:=if zbC x w≠[] then zbC x w else if zbP x w≠[] then zbP x w else [⟨w,w,.empty⟩]
theorem zi9{x:LexD}{w:ByteArray}:∀f,f∈rawX x w→f.word=w:=by
  intro f hf
  unfold rawX at hf
  split at hf
  · exact of_decide_eq_true (List.mem_filter.1 hf).2
  · split at hf
    · obtain⟨r,_,h⟩:=List.mem_filterMap.1 hf
      cases hr:zdi r w with
      | none=>rw[hr] at h;cases h
      | some s=>rw[hr] at h;simp at h;rw[←h]
    · obtain rfl:f=⟨w,w,.empty⟩:=by simpa using hf
      rfl
theorem zhf{m:List FormD}:m.foldl putF []=[]↔m=[]:=by
  constructor
  · intro h
    cases m with
    | nil=>rfl
    | cons f m=>
      have:f∈(f :: m).foldl putF []:=mem_foldl_putF.2 (.inl (List.mem_cons_self ..))
      rw[h] at this;cases this
  · rintro rfl;rfl
theorem zmF (x:LexD) (w:ByteArray):allX x w=(rawX x w).foldl putF []:=by
  have n:∀l:List FormD,l.foldl putF []≠[]↔l≠[]:=fun l=>not_congr zhf
  unfold allX rawX zcJ zcI
  by_cases h1:zbC x w≠[]
  · rw[if_pos ((n _).2 h1),if_pos h1]
  · rw[if_neg (fun e=>h1 ((n _).1 e)),if_neg h1]
    by_cases h2:zbP x w≠[]
    · rw[if_pos ((n _).2 h2),if_pos h2]
    · rw[if_neg (fun e=>h2 ((n _).1 e)),if_neg h2]
      simp[putF,insF]
def prF (f:FormD):ByteArray×ByteArray:=(f.lem,f.cls)
def ziV (w:ByteArray) (l:List FormD):List FormD:=(zcr cmpP (l.map prF)).map (fmW w)
theorem zgv (w:ByteArray) (l:List FormD):(ziV w l).length=l.length:=by simp[ziV,zdP]
theorem zrd{w:ByteArray}{l:List FormD}(h:∀f,f∈l→f.word=w):(l.map prF).map (fmW w)=l:=by
  rw[List.map_map]
  conv=>rhs;rw[←List.map_id l]
  exact List.map_congr_left fun f hf=>by have:=h f hf;cases f;simp_all[fmW,prF]
theorem zrq{w:ByteArray}{l:List FormD}(h:∀f,f∈l→f.word=w):cpt (ziV w l)=l.foldl putF []:=by
  unfold ziV;rw[cpt_sort,zrd h]
theorem zor (w:ByteArray) (l:List FormD) (h:∀f,f∈l→f.word=w) (hl:l.length<4611686018427387904):
    Proc Tryz.prog 73 [.ob 0 3 0 l.length,.fn 74 []] [⟨3,l.map encF⟩] (.tup []) [some ⟨3,(ziV w l).map encF⟩] []:=by
  have:=SortF_proc w (l.map prF) (by simpa using hl)
  have e1:((l.map prF).map fun x=>encF (fmW w x))=l.map encF:=by
    conv=>rhs;rw[←zrd h]
    rw[List.map_map (f:=fmW w)];rfl
  have e2:((zcr cmpP (l.map prF)).map fun x=>encF (fmW w x))=(ziV w l).map encF:=by unfold ziV;rw[List.map_map];rfl
  rw[e1,e2,List.length_map] at this
  exact this
theorem vProc.cpt{P:Program}{S:St}{f:FuncId}{vals:List PV}{K:PV→Eff→Prop}(i:Nat) {n n':Nat}{els els':List FormD}(hpr:Proc P f [.ob 0 3 0 n] [⟨3,els.map encF⟩] (.ob 0 3 0 n') [some ⟨3,els'.map encF⟩] []) (ho:S.obj i=some ⟨3,els.map encF⟩) (hv:vals=[.ob i 3 0 n])
    (hk:K (.ob i 3 0 n') ⟨[],[],[(i,⟨3,els'.map encF⟩)],[]⟩):vProc P S f vals K:=by
  refine vProc.of [i] hpr (by simp) rfl (by rw[hv];simp[PV.ren,rmap]) (fun j o hj=>?_) (by simpa[PV.ren,pmap,zbl,za3,AO.ren,zaJ,-List.map_map] using hk)
  match j,hj with
  | 0,hj=>cases hj;simpa[rmap,AO.ren,zaJ,-List.map_map] using ho
theorem zdC{x:LexD}{w:ByteArray}{i:Nat}(hi:i<x.forms.length):((x.forms.take (i+1)).filter fun f=>decide (f.word=w))=((x.forms.take i).filter fun f=>decide (f.word=w))++if (fF x.forms i).word=w then [fF x.forms i] else []:=by
  rw[ze3 hi,List.filter_append]
  by_cases h:(fF x.forms i).word=w<;>simp[h]
def zhu (x:LexD) (w:ByteArray) (j:Nat):List FormD:=(x.rules.take j).filterMap fun r=>(zdi r w).map fun s=>⟨w,s,r.cls⟩
theorem zd8{x:LexD}{w:ByteArray}{j:Nat}(hj:j<x.rules.length):zhu x w (j+1)=zhu x w j++if (zeG (fR x.rules j) w).2=true then [⟨w,(zeG (fR x.rules j) w).1,(fR x.rules j).cls⟩] else []:=by
  unfold zhu
  rw[zh3 hj,List.filterMap_append]
  congr 1
  simp only[List.filterMap_cons,List.filterMap_nil,zj7]
  by_cases h:(zeG (fR x.rules j) w).2=true<;>simp[h]
theorem zjb{x:LexD}{w:ByteArray}{r:List FormD}(hr:r=if zbC x w≠[] then zbC x w else zbP x w) (h:r=[]):rawX x w=[⟨w,w,.empty⟩]:=by
  subst h
  unfold rawX
  by_cases h1:zbC x w≠[]
  · rw[if_pos h1] at hr;exact absurd hr.symm h1
  · rw[if_neg h1] at hr
    rw[if_neg h1,if_neg (fun h=>h hr.symm)]
theorem zja{x:LexD}{w:ByteArray}{r:List FormD}(hr:r=if zbC x w≠[] then zbC x w else zbP x w) (h:r≠[]):rawX x w=r:=by
  unfold rawX
  by_cases h1:zbC x w≠[]
  · rw[if_pos h1] at hr;rw[if_pos h1,hr]
  · rw[if_neg h1] at hr
    rw[if_neg h1,if_pos (by rw[←hr];exact h),hr]
theorem zlX (x:LexD) (w:ByteArray):(rawX x w).length≤x.forms.length+x.rules.length+1:=by
  unfold rawX zbC zbP
  split
  · have:=List.length_filter_le (fun f:FormD=>decide (f.word=w)) x.forms;omega
  · split
    · have:=List.length_filterMap_le (fun r=>(zdi r w).map fun s=>(⟨w,s,r.cls⟩:FormD)) x.rules;omega
    · simp
theorem lAll_own (x:LexD) (w:ByteArray) (hx:HeldX x) (hw:w.size≤140737488355328):Pure Tryz.prog 45 [encX x,encS w] (.ob 0 3 0 (allX x w).length) [⟨3,(allX x w++List.replicate ((rawX x w).length - (allX x w).length) noF).map encF⟩]:=by
  have hnf:=hx.nforms
  have hnr:=hx.nrules
  have hrw:=zlX x w
  refine Pure.intro (ts:=[4]) Tryz.func45 (by kernel_rfl) rfl rfl rfl (Nat.le_of_ble_eq_true rfl) ?_ ?_
  · simp[zaF,encS,PV.pure,zaE]
  refine sZ [1,2] (fun P S K=>XvBox S.nx (S.get 0) (fun r0 ef0=>K ⟨[(1,S.get 1),(2,r0)],(Eff.hp ef0 S.nx S.hp),(S.nx+ef0.add.length),S.gh⟩)) fun K hK=>?_
  repeat' (first|(refine hK _ ?_;clear hK K)|refine And.intro ?_ ?_|exact cl|(refine st ?_;try simp only[encX,zaa,zab,zac,encF,encR])|fail)
  all_goals
  refine sY [1,2,5] (fun P S K=>K ⟨[(1,S.get 1),(2,S.get 2),(5,(.atom (.slice none 0 0)))],S.hp,S.nx,S.gh⟩) ?_
  refine Tri.born 5 3 rfl ?_
  all_goals
  refine Tri.seq ?_
  refine sZ [1,2,5,13,14,15] (fun P S K=>XvFieldAddr P 27 0 (S.get 2) (fun r0 _=>XvLoad P 23 (M S.hp S.nx) r0 (fun r1 _=>XvLen P 23 (M S.hp S.nx) r1 (fun r2 _=>K ⟨[(1,S.get 1),(2,S.get 2),(5,S.get 5),(13,r1),(14,r2),(15,(.atom (.int .i64 0)))],S.hp,S.nx,S.gh⟩)))) fun K hK=>?_
  repeat' (first|(refine hK _ ?_;clear hK K)|refine And.intro ?_ ?_|exact cl|(refine st ?_;try simp only[encX,zaa,zab,zac,encF,encR])|fail)
  all_goals
  refine Tri.block ?_
  refine Tri.loop (α:=(o:List FormD) ×' (i:Nat) ×' (i≤x.forms.length∧o.length≤i∧o=(x.forms.take i).filter fun f=>decide (f.word=w))) (fun z=>(fun(o:List FormD) (i:Nat)=>(⟨[(1,encS w),(2,.ptr 0 3 0 0),(5,.ob 1 3 0 o.length),(13,zaa x.forms),(14,encI x.forms.length),(15,encI i)],[(0,some ⟨3,[encX x]⟩),(1,some ⟨3,o.map encF⟩)],2,[]⟩:St)) z.1 z.2.1) (fun z=>(fun(o:List FormD) (i:Nat)=>x.forms.length - i) z.1 z.2.1) ⟨[],0,⟨Nat.zero_le _,Nat.le_refl _,rfl⟩⟩ [0,1] ?_ ?_
  ·exact za0
  rintro⟨o,i,⟨hi,hol,ho⟩⟩
  refine sY [1,2,5,13,14,15,16] (fun P S K=>XvBinOV P .lss 3 (.tmp 14) (S.get 15) (S.get 14) (fun r0 _=>K ⟨[(1,S.get 1),(2,S.get 2),(5,S.get 5),(13,S.get 13),(14,S.get 14),(15,S.get 15),(16,r0)],S.hp,S.nx,S.gh⟩)) ?_
  all_goals
  refine Tri.seq ?_
  refine Tri.cond rfl (fun h16=>?_) (fun h16=>?_)
  ·try (cases h16;done)
   all_goals (try simp only[CQ] at h16)
   all_goals
   refine Tri.skip ?_
   refine Tri.seq ?_
   refine Tri.block ?_
   have hil:i<x.forms.length:=by omega
   refine sZ [1,2,5,7,13,14,15] (fun P S K=>XvIndexAddr P 23 (S.get 13) (S.get 15) (fun r0 _=>XvLoad P 73 (M S.hp S.nx) r0 (fun r1 _=>XvAlloc P 73 S.nx (fun r2 ef2=>XvStore P 73 (M (Eff.hp ef2 S.nx S.hp) (S.nx+ef2.add.length)) r2 r1 (fun r3 ef3=>K ⟨[(1,S.get 1),(2,S.get 2),(5,S.get 5),(7,r2),(13,S.get 13),(14,S.get 14),(15,S.get 15)],(Eff.hp ef3 (S.nx+ef2.add.length) (Eff.hp ef2 S.nx S.hp)),((S.nx+ef2.add.length)+ef3.add.length),S.gh⟩))))) fun K hK=>?_
   repeat' (first|(refine hK _ ?_;clear hK K)|refine And.intro ?_ ?_|exact cl|(refine st ?_;try simp only[encX,zaa,zab,zac,encF,encR,zaS hil])|fail)
   all_goals
   refine sZ [1,2,5,7,13,14,15,22] (fun P S K=>XvFieldAddr P 73 0 (S.get 7) (fun r0 _=>XvLoad P 9 (M S.hp S.nx) r0 (fun r1 _=>XvBinOV P .eql 9 (.tmp 21) r1 (S.get 1) (fun r3 _=>K ⟨[(1,S.get 1),(2,S.get 2),(5,S.get 5),(7,S.get 7),(13,S.get 13),(14,S.get 14),(15,S.get 15),(22,r3)],S.hp,S.nx,S.gh⟩)))) fun K hK=>?_
   repeat' (first|(refine hK _ ?_;clear hK K)|refine And.intro ?_ ?_|exact cl|(refine st ?_;try simp only[encX,zaa,zab,zac,encF,encR])|fail)
   all_goals
   refine Tri.cond rfl (fun h22=>?_) (fun h22=>?_)
   ·try (cases h22;done)
    all_goals (try simp only[CQ] at h22)
    all_goals
    refine rZ [1,2,5,13,14,15] (fun P S K=>XvLoad P 73 (M S.hp S.nx) (S.get 7) (fun r1 _=>XvBuildS P 23 1 S.nx [(0,r1)] (fun r2 ef2=>(23=23∧XvAppend P 23 (M (Eff.hp ef2 S.nx S.hp) (S.nx+ef2.add.length)) (S.get 5) r2 (fun r3 ef3=>K ⟨[(1,S.get 1),(2,S.get 2),(5,r3),(13,S.get 13),(14,S.get 14),(15,S.get 15)],(Eff.hp ef3 (S.nx+ef2.add.length) (Eff.hp ef2 S.nx S.hp)),((S.nx+ef2.add.length)+ef3.add.length),S.gh⟩))))) fun K hK=>?_
    repeat' (first|(refine hK _ ?_;clear hK K)|refine And.intro ?_ ?_|exact cl|(refine st ?_;try simp only[encX,zaa,zab,zac,encF,encR,zaS hil])|fail)
    all_goals
    refine rY [1,2,5,13,14,15] (fun P S K=>XvBinOV P .add 3 (.const (.int .i64 1)) (S.get 15) (.atom (.int .i64 1)) (fun r0 _=>K ⟨[(1,S.get 1),(2,S.get 2),(5,S.get 5),(13,S.get 13),(14,S.get 14),(15,r0)],S.hp,S.nx,S.gh⟩)) ?_
    all_goals try simp (disch:=omega) only[zaf,zae]
    all_goals
    first
    | (refine⟨⟨o++[fF x.forms i],i+1,by omega,by simp;omega,by rw[zdC hil,if_pos (by assumption),←ho]⟩,[0,4],by dsimp only;omega,?_⟩
       exact za0)
    | (refine⟨⟨o,i+1,by omega,by omega,by rw[zdC hil,if_neg (by assumption),←ho,List.append_nil]⟩,[0,1],by dsimp only;omega,?_⟩
       exact za0)
   try (cases h22;done)
   all_goals (try simp only[CQ] at h22)
   all_goals
   refine Tri.skip ?_
   refine rY [1,2,5,13,14,15] (fun P S K=>XvBinOV P .add 3 (.const (.int .i64 1)) (S.get 15) (.atom (.int .i64 1)) (fun r0 _=>K ⟨[(1,S.get 1),(2,S.get 2),(5,S.get 5),(13,S.get 13),(14,S.get 14),(15,r0)],S.hp,S.nx,S.gh⟩)) ?_
   all_goals try simp (disch:=omega) only[zaf,zae]
   all_goals
   first
   | (refine⟨⟨o++[fF x.forms i],i+1,by omega,by simp;omega,by rw[zdC hil,if_pos (by assumption),←ho]⟩,[0,4],by dsimp only;omega,?_⟩
      exact za0)
   | (refine⟨⟨o,i+1,by omega,by omega,by rw[zdC hil,if_neg (by assumption),←ho,List.append_nil]⟩,[0,1],by dsimp only;omega,?_⟩
      exact za0)
  try (cases h16;done)
  all_goals (try simp only[CQ] at h16)
  all_goals
  refine Tri.exit ?_
  refine Tri.cut (α:=(r:List FormD) ×' (r.length≤1000000∧r=if zbC x w≠[] then zbC x w else zbP x w)) (fun⟨r,hrl,hr⟩=>⟨[(1,encS w),(5,.ob 0 3 0 r.length)],[(0,some ⟨3,r.map encF⟩)],1,[]⟩) ?_ ?_
  ·skip
   have hfo:o=zbC x w:=by rw[ho];unfold zbC;rw[List.take_of_length_le (by omega)]
   refine sZ [1,2,5,30] (fun P S K=>XvLen P 23 (M S.hp S.nx) (S.get 5) (fun r1 _=>XvBinOV P .eql 3 (.const (.int .i64 0)) r1 (.atom (.int .i64 0)) (fun r2 _=>K ⟨[(1,S.get 1),(2,S.get 2),(5,S.get 5),(30,r2)],S.hp,S.nx,S.gh⟩))) fun K hK=>?_
   repeat' (first|(refine hK _ ?_;clear hK K)|refine And.intro ?_ ?_|exact cl|(refine st ?_;try simp only[encX,zaa,zab,zac,encF,encR])|fail)
   all_goals
   refine Tri.cond rfl (fun h30=>?_) (fun h30=>?_)
   ·try (cases h30;done)
    all_goals (try simp only[CQ] at h30)
    all_goals
    have hon:o=[]:=List.eq_nil_of_length_eq_zero (by omega)
    subst hon
    refine sZ [1,5,32,33,34] (fun P S K=>XvFieldAddr P 27 1 (S.get 2) (fun r0 _=>XvLoad P 24 (M S.hp S.nx) r0 (fun r1 _=>XvLen P 24 (M S.hp S.nx) r1 (fun r2 _=>K ⟨[(1,S.get 1),(5,S.get 5),(32,r1),(33,r2),(34,(.atom (.int .i64 0)))],S.hp,S.nx,S.gh⟩)))) fun K hK=>?_
    repeat' (first|(refine hK _ ?_;clear hK K)|refine And.intro ?_ ?_|exact cl|(refine st ?_;try simp only[encX,zaa,zab,zac,encF,encR])|fail)
    all_goals
    refine Tri.block ?_
    refine Tri.loop (α:=(q:List FormD) ×' (j:Nat) ×' (j≤x.rules.length∧q.length≤j∧q=zhu x w j)) (fun z=>(fun(q:List FormD) (j:Nat)=>(⟨[(1,encS w),(5,.ob 1 3 0 q.length),(32,zab x.rules),(33,encI x.rules.length),(34,encI j)],[(0,some ⟨3,[encX x]⟩),(1,some ⟨3,q.map encF⟩)],2,[]⟩:St)) z.1 z.2.1) (fun z=>(fun(q:List FormD) (j:Nat)=>x.rules.length - j) z.1 z.2.1) ⟨[],0,⟨Nat.zero_le _,Nat.le_refl _,rfl⟩⟩ [0,1] ?_ ?_
    ·exact za0
    rintro⟨q,j,⟨hj,hql,hq⟩⟩
    refine sY [1,5,32,33,34,35] (fun P S K=>XvBinOV P .lss 3 (.tmp 33) (S.get 34) (S.get 33) (fun r0 _=>K ⟨[(1,S.get 1),(5,S.get 5),(32,S.get 32),(33,S.get 33),(34,S.get 34),(35,r0)],S.hp,S.nx,S.gh⟩)) ?_
    all_goals
    refine Tri.seq ?_
    refine Tri.cond rfl (fun h35=>?_) (fun h35=>?_)
    ·try (cases h35;done)
     all_goals (try simp only[CQ] at h35)
     all_goals
     refine Tri.skip ?_
     refine Tri.seq ?_
     refine Tri.block ?_
     have hjl:j<x.rules.length:=by omega
     refine sZ [1,5,9,32,33,34] (fun P S K=>XvIndexAddr P 24 (S.get 32) (S.get 34) (fun r0 _=>XvLoad P 90 (M S.hp S.nx) r0 (fun r1 _=>XvAlloc P 90 S.nx (fun r2 ef2=>XvStore P 90 (M (Eff.hp ef2 S.nx S.hp) (S.nx+ef2.add.length)) r2 r1 (fun r3 ef3=>K ⟨[(1,S.get 1),(5,S.get 5),(9,r2),(32,S.get 32),(33,S.get 33),(34,S.get 34)],(Eff.hp ef3 (S.nx+ef2.add.length) (Eff.hp ef2 S.nx S.hp)),((S.nx+ef2.add.length)+ef3.add.length),S.gh⟩))))) fun K hK=>?_
     repeat' (first|(refine hK _ ?_;clear hK K)|refine And.intro ?_ ?_|exact cl|(refine st ?_;try simp only[encX,zaa,zab,zac,encF,encR,zcf hjl])|fail)
     all_goals
     refine sZ [1,5,9,10,11,32,33,34] (fun P S K=>XvLoad P 90 (M S.hp S.nx) (S.get 9) (fun r0 _=>XvFnIV P (M S.hp S.nx) (.fn 72 []) [r0,(S.get 1)] (fun r2 ef2=>XvExtract r2 0 (fun r4 _=>XvExtract r2 1 (fun r5 _=>K ⟨[(1,S.get 1),(5,S.get 5),(9,S.get 9),(10,r4),(11,r5),(32,S.get 32),(33,S.get 33),(34,S.get 34)],(Eff.hp ef2 S.nx S.hp),(S.nx+ef2.add.length),S.gh⟩))))) fun K hK=>?_
     repeat' (first|(refine hK _ ?_;clear hK K)|refine And.intro ?_ ?_|refine .inl ⟨_,_,zle (fR x.rules j) w (hx.rules _ (zcD hjl)) hw,?_⟩|(refine st ?_;try simp only[encX,zaa,zab,zac,encF,encR,zcf hjl])|fail)
     all_goals
     refine sY [1,5,9,10,32,33,34,44] (fun P S K=>K ⟨[(1,S.get 1),(5,S.get 5),(9,S.get 9),(10,S.get 10),(32,S.get 32),(33,S.get 33),(34,S.get 34),(44,(S.get 11))],S.hp,S.nx,S.gh⟩) ?_
     all_goals
     refine Tri.cond rfl (fun h44=>?_) (fun h44=>?_)
     ·try (cases h44;done)
      all_goals (try simp only[CQ] at h44)
      all_goals
      refine rZ [1,5,32,33,34] (fun P S K=>XvFieldAddr P 90 2 (S.get 9) (fun r3 _=>XvLoad P 9 (M S.hp S.nx) r3 (fun r4 _=>XvBuild P 73 [(0,(S.get 1)),(1,(S.get 10)),(2,r4)] (fun r5 _=>XvBuildS P 23 1 S.nx [(0,r5)] (fun r6 ef6=>(23=23∧XvAppend P 23 (M (Eff.hp ef6 S.nx S.hp) (S.nx+ef6.add.length)) (S.get 5) r6 (fun r7 ef7=>K ⟨[(1,S.get 1),(5,r7),(32,S.get 32),(33,S.get 33),(34,S.get 34)],(Eff.hp ef7 (S.nx+ef6.add.length) (Eff.hp ef6 S.nx S.hp)),((S.nx+ef6.add.length)+ef7.add.length),S.gh⟩))))))) fun K hK=>?_
      repeat' (first|(refine hK _ ?_;clear hK K)|refine And.intro ?_ ?_|exact cl|(refine st ?_;try simp only[encX,zaa,zab,zac,encF,encR,zcf hjl])|fail)
      all_goals
      refine rY [1,5,32,33,34] (fun P S K=>XvBinOV P .add 3 (.const (.int .i64 1)) (S.get 34) (.atom (.int .i64 1)) (fun r0 _=>K ⟨[(1,S.get 1),(5,S.get 5),(32,S.get 32),(33,S.get 33),(34,r0)],S.hp,S.nx,S.gh⟩)) ?_
      all_goals try simp (disch:=omega) only[zaf,zae]
      all_goals
      first
      | (refine⟨⟨q++[⟨w,(zeG (fR x.rules j) w).1,(fR x.rules j).cls⟩],j+1,by omega,by simp;omega,by rw[zd8 hjl,if_pos (by assumption),←hq]⟩,[0,4],by dsimp only;omega,?_⟩
         exact za0)
      | (refine⟨⟨q,j+1,by omega,by omega,by rw[zd8 hjl,if_neg (by simp_all),←hq,List.append_nil]⟩,[0,1],by dsimp only;omega,?_⟩
         exact za0)
     try (cases h44;done)
     all_goals (try simp only[CQ] at h44)
     all_goals
     refine Tri.skip ?_
     refine rY [1,5,32,33,34] (fun P S K=>XvBinOV P .add 3 (.const (.int .i64 1)) (S.get 34) (.atom (.int .i64 1)) (fun r0 _=>K ⟨[(1,S.get 1),(5,S.get 5),(32,S.get 32),(33,S.get 33),(34,r0)],S.hp,S.nx,S.gh⟩)) ?_
     all_goals try simp (disch:=omega) only[zaf,zae]
     all_goals
     first
     | (refine⟨⟨q++[⟨w,(zeG (fR x.rules j) w).1,(fR x.rules j).cls⟩],j+1,by omega,by simp;omega,by rw[zd8 hjl,if_pos (by assumption),←hq]⟩,[0,4],by dsimp only;omega,?_⟩
        exact za0)
     | (refine⟨⟨q,j+1,by omega,by omega,by rw[zd8 hjl,if_neg (by simp_all),←hq,List.append_nil]⟩,[0,1],by dsimp only;omega,?_⟩
        exact za0)
    try (cases h35;done)
    all_goals (try simp only[CQ] at h35)
    all_goals
    refine Tri.exit ?_
    first|(have e:q=zbP x w:=(by rw[hq];unfold zhu zbP;rw[List.take_of_length_le (by omega)]);refine⟨⟨q,by omega,by rw[←hfo,if_neg (by simp)];exact e⟩,[1],?_⟩;exact za0)|(refine⟨⟨o,by omega,by rw[←hfo,if_pos (fun e=>h30 (by rw[e];rfl))]⟩,[1],?_⟩;exact za0)
   try (cases h30;done)
   all_goals (try simp only[CQ] at h30)
   all_goals
   refine Tri.skip ?_
   first|(have e:q=zbP x w:=(by rw[hq];unfold zhu zbP;rw[List.take_of_length_le (by omega)]);refine⟨⟨q,by omega,by rw[←hfo,if_neg (by simp)];exact e⟩,[1],?_⟩;exact za0)|(refine⟨⟨o,by omega,by rw[←hfo,if_pos (fun e=>h30 (by rw[e];rfl))]⟩,[1],?_⟩;exact za0)
  rintro⟨r,hrl,hr⟩
  refine Tri.cut (α:=Unit) (fun⟨⟩=>⟨[(5,.ob 0 3 0 (rawX x w).length)],[(0,some ⟨3,(rawX x w).map encF⟩)],1,[]⟩) ?_ ?_
  ·skip
   refine sZ [1,5,56] (fun P S K=>XvLen P 23 (M S.hp S.nx) (S.get 5) (fun r1 _=>XvBinOV P .eql 3 (.const (.int .i64 0)) r1 (.atom (.int .i64 0)) (fun r2 _=>K ⟨[(1,S.get 1),(5,S.get 5),(56,r2)],S.hp,S.nx,S.gh⟩))) fun K hK=>?_
   repeat' (first|(refine hK _ ?_;clear hK K)|refine And.intro ?_ ?_|exact cl|(refine st ?_;try simp only[encX,zaa,zab,zac,encF,encR])|fail)
   all_goals
   refine Tri.cond rfl (fun h56=>?_) (fun h56=>?_)
   ·try (cases h56;done)
    all_goals (try simp only[CQ] at h56)
    all_goals
    refine rZ [5] (fun P S K=>XvBuild P 73 [(0,(S.get 1)),(1,(S.get 1))] (fun r2 _=>XvBuildS P 23 1 S.nx [(0,r2)] (fun r3 ef3=>K ⟨[(5,r3)],(Eff.hp ef3 S.nx S.hp),(S.nx+ef3.add.length),S.gh⟩))) fun K hK=>?_
    repeat' (first|(refine hK _ ?_;clear hK K)|refine And.intro ?_ ?_|exact cl|(refine st ?_;try simp only[encX,zaa,zab,zac,encF,encR])|fail)
    all_goals
    first|(have e:rawX x w=[⟨w,w,.empty⟩]:=zjb hr (List.eq_nil_of_length_eq_zero (by omega));refine⟨(),[1],?_⟩;rw[e];exact za0)|(have e:rawX x w=r:=zja hr (fun e=>h56 (by rw[e];rfl));refine⟨(),[0],?_⟩;rw[e];exact za0)
   try (cases h56;done)
   all_goals (try simp only[CQ] at h56)
   all_goals
   refine Tri.skip ?_
   first|(have e:rawX x w=[⟨w,w,.empty⟩]:=zjb hr (List.eq_nil_of_length_eq_zero (by omega));refine⟨(),[1],?_⟩;rw[e];exact za0)|(have e:rawX x w=r:=zja hr (fun e=>h56 (by rw[e];rfl));refine⟨(),[0],?_⟩;rw[e];exact za0)
  rintro⟨⟩
  refine sZ [5] (fun P S K=>XvFnIV P (M S.hp S.nx) (.fn 73 []) [(S.get 5),(.fn 74 [])] (fun r1 ef1=>K ⟨[(5,S.get 5)],(Eff.hp ef1 S.nx S.hp),(S.nx+ef1.add.length),S.gh⟩)) fun K hK=>?_
  repeat' (first|(refine hK _ ?_;clear hK K)|refine .inr (vProc.row 0 3 (zor w _ zi9 (by omega)) rfl (zaz _) (zaz _) rfl rfl rfl (zrf _) ?_)|(refine st ?_;try simp only[encX,zaa,zab,zac,encF,encR])|fail)
  all_goals
  refine sZ [4] (fun P S K=>XvFnIV P (M S.hp S.nx) (.fn 75 []) [(S.get 5)] (fun r1 ef1=>K ⟨[(4,r1)],(Eff.hp ef1 S.nx S.hp),(S.nx+ef1.add.length),S.gh⟩)) fun K hK=>?_
  repeat' (first|(refine hK _ ?_;clear hK K)|refine .inr (vProc.cpt 0 (zkj _ (by rw[zgv];omega)) rfl (by rw[zgv]) ?_)|(refine st ?_;try simp only[encX,zaa,zab,zac,encF,encR])|fail)
  all_goals
  refine Tri.ret ?_
  show ResOk _ _ _ _
  have e1:allX x w=cpt (ziV w (rawX x w)):=(zmF x w).trans (zrq zi9).symm
  rw[e1,←zgv w (rawX x w)]
  exact ResOk.row 0 rfl rfl (zaz _) (by simp[retV,St.get,lk,sealed,PV.ren,rmap])
theorem zqs{H:Nat→Option AO}{keep:Nat→Bool}{k i sz n:Nat}{els:List PV}(hi:H i=some ⟨sz,els⟩) (hk:keep i=false) (hn:n≤els.length) (hp:zaE els=true):sealed H keep (k+1) (.ob i sz 0 n)=.sl sz (els.take n):=by
  simp only[sealed,hk,hi]
  simp only[Bool.false_eq_true,if_false,Nat.zero_add,hn,and_self,if_true,List.drop_zero,zay _ _ _ hp,←List.map_take,zay _ _ _ (znG hp n)]
theorem zjB (x:LexD) (w:ByteArray) (hx:HeldX x) (hw:w.size≤140737488355328):Pure Tryz.prog 45 [encX x,encS w] (zaa (allX x w)) []:=by
  refine(lAll_own x w hx hw).freeze 4 ?_ (zaH _)
  rw[zqs rfl rfl (by simp) (zaz _)]
  simp[zaa,List.map_append,List.take_left']
end Go.Proofs.YtehoglapajkabaaGreat
