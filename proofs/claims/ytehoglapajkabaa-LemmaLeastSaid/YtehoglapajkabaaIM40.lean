/-
  The machine of a lexicon (plain),and its walk.
-/
import Derived.Test.YtehoglapajkabaaIM0
import Derived.Test.YtehoglapajkabaaIM39
import Derived.Test.YtehoglapajkabaaIM12
set_option linter.all false
namespace Go.Proofs.Ytehoglapajkabaa
open Go Go.RowKit
set_option maxRecDepth 20000
set_option maxHeartbeats 1000000
theorem zfY{p:Prop}(h:p:=by(refine⟨4,?_,?_,rfl,by simp,rfl,fun _ h _=>absurd h (Nat.not_lt_zero _)⟩<;>(simp only[List.forall_mem_cons];repeat' (first|refine And.intro ?_ ?_|(intro p hp;exact absurd hp List.not_mem_nil)|rfl|exact sp (zaR _)|exact sp (zaK _)|exact sp (zaI _)|exact bsEq1|exact(zas _ _ _ (zah _)).trans (zbQ _ _).symm|exact(zas _ _ _ (zag _)).trans (zbP _ _).symm|exact sp (by assumption)|(intro o ho;cases ho;refine⟨by decide,?_⟩;first|(refine LeqS.row rfl ?_ ?_;(next=>(first|rfl|(simp only[List.map_append,List.map_cons,List.map_nil,List.append_nil,List.nil_append,List.append_assoc,List.cons_append,encI,encS,ints,strs];done)|(simp[encI,encS,ints,strs,encC,bS];done)));(next=>(first|rfl|exact zal _|exact zaq _|exact zau _|exact zat _|exact za5 _|exact zaH _|exact zaT _|exact zaU _|(simp[zar,zal,zaq,zau,zat,zaw,PV.pure,zah,zag,zaR,za5,zaH,zaT,zaU,zaK,encF,encS,encR,zaI];done)));done)|refine⟨_,rfl,rfl,?_⟩)|(simp[St.born,St.known,retV,St.get,St.obj,lk,sealed,PV.ren,renL,rmap,AO.ren,ints,strs,encI,encS,zap,zao,zan,zam,zaC,zaB,zaA,zaz,za1,za0,zaZ,zaY,bS,zaQ,zaF,zax,encC,zaL,zcx,encF,encR,zaa,zab,zac,encX,zad,zai,zaj,zaD,za2,zaE,zbd,zaG,zbe]<;>omega))));first|done|fail):p:=h
structure BSt where
  n:Nat
  A:List ArcD
def slB:ByteArray:=⟨#[47]⟩
def mkB (c:UInt8):ByteArray:=⟨#[c]⟩
def zcs (f:FormD):ByteArray:=f.lem++slB++f.cls
def zc9 (b:BSt) (f:FormD):BSt:=
  ⟨b.n+1+f.word.size+zdD 1 (zcs f),b.A++[⟨0,b.n,eB,mkB 49⟩]++zcW (b.n+1) b.n f.word f.word.size++zd5 1 (b.n+1+f.word.size) (zbp (b.n+1) b.n f.word.size) 1 (zcs f)⟩
def zcL (r:RuleD):Int:=if r.put=⟨#[]⟩∨r.suf=⟨#[]⟩ then max r.least 1 else r.least
def rulT (r:RuleD):ByteArray:=r.put++slB++r.cls
def copA (n:Nat) (s:Int):Nat→List ArcD
  | 0=>[]
  | k+1=>copA n s k++zcd (zbp n s k) ((n:Int)+k) 26
theorem zmx (n:Nat) (s:Int):∀k,(copA n s k).length=26 * k
  | 0=>rfl
  | k+1=>by rw[copA,List.length_append,zmx n s k,zbN];omega
def zc6 (b:BSt) (r:RuleD):BSt:=
  ⟨b.n+1+(zcL r).toNat+r.suf.size+zdD 1 (rulT r),b.A++[⟨0,b.n,eB,mkB 50⟩]++copA (b.n+1) b.n (zcL r).toNat++zcd (zbp (b.n+1) b.n (zcL r).toNat) (zbp (b.n+1) b.n (zcL r).toNat) 26++
    zcW (b.n+1+(zcL r).toNat) (zbp (b.n+1) b.n (zcL r).toNat) r.suf r.suf.size++zd5 1 (b.n+1+(zcL r).toNat+r.suf.size) (zbp (b.n+1+(zcL r).toNat) (zbp (b.n+1) b.n (zcL r).toNat) r.suf.size) 1 (rulT r)⟩
def zee (b:BSt):BSt:=⟨b.n+2,b.A++[⟨0,b.n,eB,mkB 51⟩]++zcd b.n ((b.n:Int)+1) 26++zcd ((b.n:Int)+1) ((b.n:Int)+1) 26++[⟨(b.n:Int)+1,1,eB,slB⟩]⟩
def zbD (l:List FormD):BSt:=l.foldl zc9 ⟨2,[]⟩
def zcn (b:BSt) (l:List RuleD):BSt:=l.foldl zc6 b
def zbH (x:LexD):MachD:=⟨(zee (zcn (zbD x.forms) x.rules)).n,0,[1],(zee (zcn (zbD x.forms) x.rules)).A⟩
theorem zhH{α β:Type}(f:β→α→β) (b:β) {l:List α}{k:Nat}(h:k<l.length):(l.take (k+1)).foldl f b=f ((l.take k).foldl f b) l[k]:=by
  rw[List.take_succ_eq_append_getElem h,List.foldl_append];rfl
theorem zcB{x:LexD}(h:zbc x=0):(∀f,f∈x.forms→zeD f=true)∧(∀r,r∈x.rules→zd3 r=true)∧x.forms.length≤64∧x.rules.length≤32:=by
  unfold zbc at h
  split at h
  · omega
  · split at h
    · rename_i h1 h2
      unfold zhb at h2
      simp only[Bool.and_eq_true,List.all_eq_true] at h2
      exact⟨h2.1.1,h2.1.2,by omega,by omega⟩
    · omega
theorem zgb{f:FormD}(h:zeD f=true) (b:BSt):(zc9 b f).n≤b.n+26∧(zc9 b f).A.length≤b.A.length+27∧f.word.size≤24∧(zcs f).size≤33∧f.lem.size≤24∧f.cls.size≤8∧(f.lem++(⟨#[47]⟩:ByteArray)).size=f.lem.size+1:=by
  unfold zeD at h
  simp only[Bool.and_eq_true,letS_iff] at h
  have h1:=h.1.1.2.2
  have h2:=h.1.2.2.2
  have h3:=h.2.2.2
  have e:(zcs f).size=f.lem.size+1+f.cls.size:=by simp[zcs,ByteArray.size_append,slB];rfl
  have:=zhQ 1 (zcs f)
  refine⟨?_,?_,by omega,by omega,by omega,by omega,by rw[ByteArray.size_append];rfl⟩
  · simp only[zc9];omega
  · simp only[zc9,List.length_append,zdP,zfc,List.length_cons,List.length_nil];omega
theorem zd8{r:RuleD}(h:zd3 r=true) (b:BSt):(zc6 b r).n≤b.n+18∧(zc6 b r).A.length≤b.A.length+245∧r.suf.size≤8∧(rulT r).size≤17∧0≤zcL r∧zcL r≤8∧0≤r.least∧r.least≤8∧r.put.size≤8∧r.cls.size≤8∧(r.put++(⟨#[47]⟩:ByteArray)).size=r.put.size+1:=by
  unfold zd3 at h
  simp only[Bool.and_eq_true,letS_iff,decide_eq_true_eq] at h
  have h1:=h.1.1.1.1.2.2
  have h2:=h.1.1.1.2.2.2
  have h3:=h.1.1.2.2.2
  have h4:=h.1.2
  have h5:=h.2
  have e:(rulT r).size=r.put.size+1+r.cls.size:=by simp[rulT,ByteArray.size_append,slB];rfl
  have hL:0≤zcL r∧zcL r≤8:=by unfold zcL;split<;>omega
  have hw0:zdD 1 (rulT r)=0:=by rw[zdD,if_neg (by omega)]
  refine⟨?_,?_,by omega,by omega,hL.1,hL.2,h4,h5,by omega,by omega,by rw[ByteArray.size_append];rfl⟩
  · simp only[zc6];omega
  · simp only[zc6,List.length_append,zdP,zfc,zmx,zbN,List.length_cons,List.length_nil];omega
def zcq:PV:=.agg [encI 0,encI 0,.atom (.slice none 0 0),.atom (.slice none 0 0)]
def machR (x:LexD):PV:=if zbc x=0 then .tup [encM (zbH x),encI 0] else .tup [zcq,encI (zbc x)]
theorem bsEq{H:Nat→Option AO}{keep:Nat→Bool}{ρ:Nat→Nat}{n n' st:Int}{fin:List Int}{ri rj len len':Nat}(hk:keep ri=true:=by rfl) (hr:ρ rj=ri:=by rfl) (hn:n=n':=by first|rfl|(simp;done)|(simp;omega)) (hl:len=len':=by first|rfl|(simp;done)|(simp;omega)):
    [bS n st fin ri len].map (sealed H keep 4)=[bS n' st fin rj len'].map (PV.ren ρ):=by
  subst hn hl
  rw[List.map_cons,List.map_cons,zfE hk,zc2,hr];rfl
theorem bsEq1{H:Nat→Option AO}{keep:Nat→Bool}{ρ:Nat→Nat}{n n':Int}{ri rj len len':Nat}(hk:keep ri=true:=by rfl) (hr:ρ rj=ri:=by rfl) (hn:n=n':=by first|rfl|(simp;done)|(simp;omega)) (hl:len=len':=by first|rfl|(simp;done)|(simp[zc9,zc6,zee];done)|(simp[zc9,zc6,zee];omega)):
    [bS n 0 [1] ri len].map (sealed H keep 4)=[bS n' 0 [1] rj len'].map (PV.ren ρ):=bsEq hk hr hn hl
theorem zqm{H:Nat→Option AO}{n st:Int}{fin:List Int}{A:List ArcD}{ri len:Nat}(hH:H ri=some ⟨4,A.map encC⟩) (hl:len=A.length):sealed H (fun _=>false) 6 (.tup [bS n st fin ri len,encI 0])=.tup [encM ⟨n,st,fin,A⟩,encI 0]:=by
  subst hl
  have h1:∀k,sealed H (fun _=>false) (k+1) (ints fin)=ints fin:=fun k=>by simp[ints,sealed,zak H (fun _=>false) _ (zbh encI (fun _=>rfl) fin)]
  simp[-List.map_map,sealed,bS,hH,encM,zay,zaF,zaL,h1,encI]
theorem znM (x:LexD) (hx:HeldX x):Pure Try.prog 16 [encX x] (machR x) []:=by
  have hnf:=hx.nforms
  have hnr:=hx.nrules
  have hnp:=hx.nprefs
  have hcf:=zcB (x:=x)
  obtain⟨V,hV⟩:∃V,zbc x=V:=⟨_,rfl⟩
  rw[hV] at hcf
  have hval:=zef x hx
  rw[hV] at hval
  refine Pure.introR (rv:=[.cell 2 58,.tmp 3]) Try.func16 (by kernel_rfl) rfl rfl rfl (Nat.le_of_ble_eq_true rfl) ?_ ?_
  · simp[zaR]
  refine sZ [1,2] (fun P S K=>XvBox S.nx (S.get 0) (fun r0 ef0=>XvAlloc P 58 (S.nx+ef0.add.length) (fun r1 ef1=>K ⟨[(1,r0),(2,r1)],(Eff.hp ef1 (S.nx+ef0.add.length) (Eff.hp ef0 S.nx S.hp)),((S.nx+ef0.add.length)+ef1.add.length),S.gh⟩))) fun K hK=>?_
  repeat' (first|(refine hK _ ?_;clear hK K)|refine And.intro ?_ ?_|exact cl|(refine st ?_;try simp only[encX,zaa,zab,zac,encF,encR,bS,zcq])|fail)
  all_goals
  refine Tri.seq ?_
  refine sZ [1,2,4] (fun P S K=>XvLoad P 27 (M S.hp S.nx) (S.get 1) (fun r0 _=>XvFnIV P (M S.hp S.nx) (.fn 27 []) [r0] (fun r1 ef1=>K ⟨[(1,S.get 1),(2,S.get 2),(4,r1)],(Eff.hp ef1 S.nx S.hp),(S.nx+ef1.add.length),S.gh⟩))) fun K hK=>?_
  repeat' (first|(refine hK _ ?_;clear hK K)|refine .inl ⟨_,_,hval,?_⟩|(refine st ?_;try simp only[encX,zaa,zab,zac,encF,encR,bS,zcq])|fail)
  all_goals
  refine sY [1,2,4,21] (fun P S K=>XvBinOV P .neq 41 (.const (.int .i64 0)) (S.get 4) (.atom (.int .i64 0)) (fun r1 _=>K ⟨[(1,S.get 1),(2,S.get 2),(4,S.get 4),(21,r1)],S.hp,S.nx,S.gh⟩)) ?_
  all_goals
  refine Tri.cond rfl (fun h21=>?_) (fun h21=>?_)
  ·try (cases h21;done)
   all_goals (try simp only[CQ] at h21)
   all_goals
   refine sZ [2,3] (fun P S K=>XvBuild P 58 [] (fun r0 _=>XvStore P 58 (M S.hp S.nx) (S.get 2) r0 (fun r2 ef2=>K ⟨[(2,S.get 2),(3,(S.get 4))],(Eff.hp ef2 S.nx S.hp),(S.nx+ef2.add.length),S.gh⟩))) fun K hK=>?_
   repeat' (first|(refine hK _ ?_;clear hK K)|refine And.intro ?_ ?_|exact cl|(refine st ?_;try simp only[encX,zaa,zab,zac,encF,encR,bS,zcq])|fail)
   all_goals
   refine Tri.ret ?_
   show ResR _ _ _ _ _
   unfold machR
   rw[if_neg (by omega),hV]
   refine ResR.cells zcq (encI V) [] rfl rfl rfl
  try (cases h21;done)
  all_goals (try simp only[CQ] at h21)
  all_goals
  refine Tri.skip ?_
  refine sZ [1,2,5] (fun P S K=>XvBuild P 83 [] (fun r0 _=>XvBox S.nx r0 (fun r1 ef1=>XvAlloc P 81 (S.nx+ef1.add.length) (fun r2 ef2=>XvStore P 81 (M (Eff.hp ef2 (S.nx+ef1.add.length) (Eff.hp ef1 S.nx S.hp)) ((S.nx+ef1.add.length)+ef2.add.length)) r2 r1 (fun r3 ef3=>K ⟨[(1,S.get 1),(2,S.get 2),(5,r2)],(Eff.hp ef3 ((S.nx+ef1.add.length)+ef2.add.length) (Eff.hp ef2 (S.nx+ef1.add.length) (Eff.hp ef1 S.nx S.hp))),(((S.nx+ef1.add.length)+ef2.add.length)+ef3.add.length),S.gh⟩))))) fun K hK=>?_
  repeat' (first|(refine hK _ ?_;clear hK K)|refine And.intro ?_ ?_|exact cl|(refine st ?_;try simp only[encX,zaa,zab,zac,encF,encR,bS,zcq])|fail)
  obtain rfl:V=0:=by omega
  obtain⟨hff,hrr,hfl,hrl⟩:=hcf rfl
  refine Tri.bornF 2 3 4 4 [encI 0,encI 0,.atom (.slice none 0 0),.atom (.slice none 0 0)] rfl rfl ?_
  refine Tri.nilF 2 2 1 4 [encI 0,encI 0,.atom (.slice none 0 0),.ob 4 4 0 0] rfl rfl ?_
  all_goals
  refine sD 5 [1,2,5,6,7] (fun P GD S K=>XvLoad P 81 (M S.hp S.nx) (S.get 5) (fun r0 ef0=>XvFnDV P (M S.hp S.nx) (.fn 30 []) [r0] (fun r1 ef1=>XvLoad P 81 (M (Eff.hp ef1 S.nx S.hp) (S.nx+ef1.add.length)) (S.get 5) (fun r2 ef2=>XvFnDV P (M (Eff.hp ef1 S.nx S.hp) (S.nx+ef1.add.length)) (.fn 30 []) [r2] (fun r3 ef3=>XvAlloc P 3 ((S.nx+ef1.add.length)+ef3.add.length) (fun r4 ef4=>(trOk S.nx GD [⟨S.nx,0,ef0.rd,[],[]⟩,(Eff.tr ef1 S.nx),⟨(S.nx+ef1.add.length),0,ef2.rd,[],[]⟩,(Eff.tr ef3 (S.nx+ef1.add.length)),(Eff.tr ef4 ((S.nx+ef1.add.length)+ef3.add.length))]=true∧XvStore P 3 (M (Eff.hp ef4 ((S.nx+ef1.add.length)+ef3.add.length) (Eff.hp ef3 (S.nx+ef1.add.length) (Eff.hp ef1 S.nx S.hp))) (((S.nx+ef1.add.length)+ef3.add.length)+ef4.add.length)) r4 r1 (fun r5 ef5=>K ⟨[(1,S.get 1),(2,S.get 2),(5,S.get 5),(6,r4),(7,r3)],(Eff.hp ef5 (((S.nx+ef1.add.length)+ef3.add.length)+ef4.add.length) (Eff.hp ef4 ((S.nx+ef1.add.length)+ef3.add.length) (Eff.hp ef3 (S.nx+ef1.add.length) (Eff.hp ef1 S.nx S.hp)))),((((S.nx+ef1.add.length)+ef3.add.length)+ef4.add.length)+ef5.add.length),S.gh⟩)))))))) fun K hK=>?_
  repeat' (first|(refine hK _ ?_;clear hK K)|(refine(?_:trOk _ _ _=true);kernel_rfl)|refine And.intro ?_ ?_|exact cl|refine .inr (vProcD.grow0 2 4 (by decide) (zb0 0 0 [] [] (by omega) (by omega)) rfl rfl rfl rfl rfl ?_)|refine .inr (vProcD.grow0 2 4 (by decide) (zb0 (0+1) 0 [] [] (by omega) (by omega)) rfl rfl rfl rfl rfl ?_)|(refine st ?_;try simp only[encX,zaa,zab,zac,encF,encR,bS,zcq])|fail)
  all_goals
  refine sD 13 [1,2,5,6,7] (fun P GD S K=>XvLoad P 81 (M S.hp S.nx) (S.get 5) (fun r0 ef0=>XvLoad P 81 (M S.hp S.nx) (S.get 5) (fun r1 ef1=>XvLoad P 3 (M S.hp S.nx) (S.get 6) (fun r2 ef2=>XvBuildS P 22 1 S.nx [(0,(S.get 7))] (fun r4 ef4=>XvNil r0 (fun r5 ef5=>XvFieldAddr P 83 0 r5 (fun r6 ef6=>XvFieldAddr P 58 1 r6 (fun r7 ef7=>XvStore P 3 (M (Eff.hp ef4 S.nx S.hp) (S.nx+ef4.add.length)) r7 r2 (fun r8 ef8=>XvNil r1 (fun r9 ef9=>XvFieldAddr P 83 0 r9 (fun r10 ef10=>XvFieldAddr P 58 2 r10 (fun r11 ef11=>XvStore P 22 (M (Eff.hp ef8 (S.nx+ef4.add.length) (Eff.hp ef4 S.nx S.hp)) ((S.nx+ef4.add.length)+ef8.add.length)) r11 r4 (fun r12 ef12=>(trOk S.nx GD [⟨S.nx,0,ef0.rd,[],[]⟩,⟨S.nx,0,ef1.rd,[],[]⟩,⟨S.nx,0,ef2.rd,[],[]⟩,⟨S.nx,0,[],[],[]⟩,(Eff.tr ef4 S.nx),⟨(S.nx+ef4.add.length),0,ef5.rd,[],[]⟩,⟨(S.nx+ef4.add.length),0,ef6.rd,[],[]⟩,⟨(S.nx+ef4.add.length),0,ef7.rd,[],[]⟩,(Eff.tr ef8 (S.nx+ef4.add.length)),⟨((S.nx+ef4.add.length)+ef8.add.length),0,ef9.rd,[],[]⟩,⟨((S.nx+ef4.add.length)+ef8.add.length),0,ef10.rd,[],[]⟩,⟨((S.nx+ef4.add.length)+ef8.add.length),0,ef11.rd,[],[]⟩,(Eff.tr ef12 ((S.nx+ef4.add.length)+ef8.add.length))]=true∧K ⟨[(1,S.get 1),(2,S.get 2),(5,S.get 5),(6,S.get 6),(7,S.get 7)],(Eff.hp ef12 ((S.nx+ef4.add.length)+ef8.add.length) (Eff.hp ef8 (S.nx+ef4.add.length) (Eff.hp ef4 S.nx S.hp))),(((S.nx+ef4.add.length)+ef8.add.length)+ef12.add.length),S.gh⟩)))))))))))))) fun K hK=>?_
  repeat' (first|(refine hK _ ?_;clear hK K)|(refine(?_:trOk _ _ _=true);kernel_rfl)|refine And.intro ?_ ?_|(refine st ?_;try simp only[encX,zaa,zab,zac,encF,encR,bS,zcq])|fail)
  all_goals
  refine sZ [1,2,5,7,8] (fun P S K=>XvMakeFV (.func 31) [] [(S.get 5),(S.get 6)] (fun r0 _=>K ⟨[(1,S.get 1),(2,S.get 2),(5,S.get 5),(7,S.get 7),(8,r0)],S.hp,S.nx,S.gh⟩)) fun K hK=>?_
  repeat' (first|(refine hK _ ?_;clear hK K)|((first|refine zav (fun hg=>?_) (fun hg=>?_)|refine fun(hg:(_:Prop))=>?_)<;>((try simp only[BQ] at hg);try (exfalso;omega)))|(refine st ?_;try simp only[encX,zaa,zab,zac,encF,encR,bS,zcq])|fail)
  all_goals
  refine Tri.seq ?_
  refine sZ [1,2,5,7,8,43,44,45] (fun P S K=>XvFieldAddr P 27 0 (S.get 1) (fun r0 _=>XvLoad P 23 (M S.hp S.nx) r0 (fun r1 _=>XvLen P 23 (M S.hp S.nx) r1 (fun r2 _=>K ⟨[(1,S.get 1),(2,S.get 2),(5,S.get 5),(7,S.get 7),(8,S.get 8),(43,r1),(44,r2),(45,(.atom (.int .i64 0)))],S.hp,S.nx,S.gh⟩)))) fun K hK=>?_
  repeat' (first|(refine hK _ ?_;clear hK K)|refine And.intro ?_ ?_|exact cl|(refine st ?_;try simp only[encX,zaa,zab,zac,encF,encR,bS,zcq])|fail)
  all_goals
  refine Tri.block ?_
  refine Tri.loop (α:=(b:BSt) ×' (i:Nat) ×' (i≤x.forms.length∧b=zbD (x.forms.take i)∧b.n≤2+26 * i∧b.A.length≤27 * i)) (fun z=>(fun(b:BSt) (i:Nat)=>(⟨[(1,.ptr 0 3 0 0),(2,.ptr 1 4 0 0),(5,.ptr 3 1 0 0),(7,encI 1),(8,.fn 31 [.ptr 3 1 0 0,.ptr 4 1 0 0]),(43,zaa x.forms),(44,encI x.forms.length),(45,encI i)],[(0,some ⟨3,[encX x]⟩),(1,some ⟨4,[.agg [encI 0,encI 0,.atom (.slice none 0 0),.atom (.slice none 0 0)]]⟩),(2,some ⟨4,[bS b.n 0 [1] 5 b.A.length]⟩),(3,some ⟨1,[.ptr 2 4 0 0]⟩),(4,some ⟨1,[encI 0]⟩),(5,some ⟨4,b.A.map encC⟩)],6,[]⟩:St)) z.1 z.2.1) (fun z=>(fun(b:BSt) (i:Nat)=>x.forms.length - i) z.1 z.2.1) ⟨⟨2,[]⟩,0,⟨Nat.zero_le _,rfl,by decide,by decide⟩⟩ [0,1,2,3,5,4] ?_ ?_
  ·exact zfY
  rintro⟨b,i,⟨hi,hb,hbn,hbA⟩⟩
  refine sY [1,2,5,7,8,43,44,45,46] (fun P S K=>XvBinOV P .lss 3 (.tmp 44) (S.get 45) (S.get 44) (fun r0 _=>K ⟨[(1,S.get 1),(2,S.get 2),(5,S.get 5),(7,S.get 7),(8,S.get 8),(43,S.get 43),(44,S.get 44),(45,S.get 45),(46,r0)],S.hp,S.nx,S.gh⟩)) ?_
  all_goals
  refine Tri.seq ?_
  refine Tri.cond rfl (fun h46=>?_) (fun h46=>?_)
  ·try (cases h46;done)
   all_goals (try simp only[CQ] at h46)
   all_goals
   refine Tri.skip ?_
   refine Tri.seq ?_
   refine Tri.block ?_
   have hil:i<x.forms.length:=by omega
   obtain⟨hl1,hl2,hl3,hl4,hl5,hl6,hl7⟩:=zgb (hff _ (zdp hil)) b
   have hsl:(⟨#[47]⟩:ByteArray).size=1:=rfl
   refine sZ [1,2,5,7,8,10,43,44,45] (fun P S K=>XvIndexAddr P 23 (S.get 43) (S.get 45) (fun r0 _=>XvLoad P 40 (M S.hp S.nx) r0 (fun r1 _=>XvAlloc P 40 S.nx (fun r2 ef2=>XvStore P 40 (M (Eff.hp ef2 S.nx S.hp) (S.nx+ef2.add.length)) r2 r1 (fun r3 ef3=>K ⟨[(1,S.get 1),(2,S.get 2),(5,S.get 5),(7,S.get 7),(8,S.get 8),(10,r2),(43,S.get 43),(44,S.get 44),(45,S.get 45)],(Eff.hp ef3 (S.nx+ef2.add.length) (Eff.hp ef2 S.nx S.hp)),((S.nx+ef2.add.length)+ef3.add.length),S.gh⟩))))) fun K hK=>?_
   repeat' (first|(refine hK _ ?_;clear hK K)|refine And.intro ?_ ?_|exact cl|(refine st ?_;try simp only[encX,zaa,zab,zac,encF,encR,bS,zcq,zba hil])|fail)
   all_goals
   refine rD 15 [1,2,5,7,8,43,44,45] (fun P GD S K=>XvLoad P 81 (M S.hp S.nx) (S.get 5) (fun r0 ef0=>XvLoad P 81 (M S.hp S.nx) (S.get 5) (fun r1 ef1=>XvFnDV P (M S.hp S.nx) (S.get 8) [(.atom (.string { data := #[49] }))] (fun r3 ef3=>XvFieldAddr P 40 0 (S.get 10) (fun r4 ef4=>XvLoad P 9 (M (Eff.hp ef3 S.nx S.hp) (S.nx+ef3.add.length)) r4 (fun r5 ef5=>XvFnDV P (M (Eff.hp ef3 S.nx S.hp) (S.nx+ef3.add.length)) (.fn 34 []) [r1,r3,r5] (fun r6 ef6=>XvFieldAddr P 40 1 (S.get 10) (fun r8 ef8=>XvLoad P 9 (M (Eff.hp ef6 (S.nx+ef3.add.length) (Eff.hp ef3 S.nx S.hp)) ((S.nx+ef3.add.length)+ef6.add.length)) r8 (fun r9 ef9=>XvBinOV P .add 9 (.const (.string { data := #[47] })) r9 (.atom (.string { data := #[47] })) (fun r10 ef10=>XvFieldAddr P 40 2 (S.get 10) (fun r11 ef11=>XvLoad P 9 (M (Eff.hp ef6 (S.nx+ef3.add.length) (Eff.hp ef3 S.nx S.hp)) ((S.nx+ef3.add.length)+ef6.add.length)) r11 (fun r12 ef12=>XvBinOV P .add 9 (.tmp 61) r10 r12 (fun r13 ef13=>XvFnDV P (M (Eff.hp ef6 (S.nx+ef3.add.length) (Eff.hp ef3 S.nx S.hp)) ((S.nx+ef3.add.length)+ef6.add.length)) (.fn 33 []) [r0,r6,(S.get 7),r13] (fun r14 ef14=>(trOk S.nx GD [⟨S.nx,0,ef0.rd,[],[]⟩,⟨S.nx,0,ef1.rd,[],[]⟩,⟨S.nx,0,[],[],[]⟩,(Eff.tr ef3 S.nx),⟨(S.nx+ef3.add.length),0,ef4.rd,[],[]⟩,⟨(S.nx+ef3.add.length),0,ef5.rd,[],[]⟩,(Eff.tr ef6 (S.nx+ef3.add.length)),⟨((S.nx+ef3.add.length)+ef6.add.length),0,[],[],[]⟩,⟨((S.nx+ef3.add.length)+ef6.add.length),0,ef8.rd,[],[]⟩,⟨((S.nx+ef3.add.length)+ef6.add.length),0,ef9.rd,[],[]⟩,⟨((S.nx+ef3.add.length)+ef6.add.length),0,ef10.rd,[],[]⟩,⟨((S.nx+ef3.add.length)+ef6.add.length),0,ef11.rd,[],[]⟩,⟨((S.nx+ef3.add.length)+ef6.add.length),0,ef12.rd,[],[]⟩,⟨((S.nx+ef3.add.length)+ef6.add.length),0,ef13.rd,[],[]⟩,(Eff.tr ef14 ((S.nx+ef3.add.length)+ef6.add.length))]=true∧K ⟨[(1,S.get 1),(2,S.get 2),(5,S.get 5),(7,S.get 7),(8,S.get 8),(43,S.get 43),(44,S.get 44),(45,S.get 45)],(Eff.hp ef14 ((S.nx+ef3.add.length)+ef6.add.length) (Eff.hp ef6 (S.nx+ef3.add.length) (Eff.hp ef3 S.nx S.hp))),(((S.nx+ef3.add.length)+ef6.add.length)+ef14.add.length),S.gh⟩))))))))))))))) fun K hK=>?_
   repeat' (first|(refine hK _ ?_;clear hK K)|(refine(?_:trOk _ _ _=true);kernel_rfl)|refine And.intro ?_ ?_|exact cl|refine .inr (vProcD.enter 2 5 3 4 (by decide) (zds (b.n:Int) 0 [1] b.A (mkB 49) (by omega) (by omega) (by omega)) rfl rfl rfl rfl rfl rfl rfl ?_)|refine .inr (vProcD.grow 2 7 (by decide) (zfa (b.n+1) 0 [1] (b.A++[⟨0,b.n,eB,mkB 49⟩]) (b.n:Int) (fF x.forms i).word (by simp;omega) (by omega) (by omega)) rfl rfl rfl rfl rfl ?_)|refine .inr (vProcD.grow 2 8 (by decide) (zeH (b.n+1+(fF x.forms i).word.size) 0 [1] (b.A++[⟨0,b.n,eB,mkB 49⟩]++zcW (b.n+1) b.n (fF x.forms i).word (fF x.forms i).word.size) (zbp (b.n+1) b.n (fF x.forms i).word.size) 1 (zcs (fF x.forms i)) 1 (by simp[zdP];omega) (by omega) (by omega) (by omega)) rfl rfl rfl rfl rfl ?_)|refine .inr (vProcD.enter 2 5 3 4 (by decide) (zds (c.n:Int) 0 [1] c.A (mkB 51) (by omega) (by omega) (by omega)) rfl rfl rfl rfl rfl rfl rfl ?_)|refine .inr (vProcD.grow0 2 6 (by decide) (zb0 ((c.n:Int)+1) 0 [1] (c.A++[ArcD.mk 0 c.n eB (mkB 51)]) (by omega) (by omega)) rfl rfl rfl rfl rfl ?_)|(refine st ?_;try simp only[encX,zaa,zab,zac,encF,encR,bS,zcq])|fail)
   all_goals try simp (disch:=omega) only[zae,zaf]
   all_goals
   refine rY [1,2,5,7,8,43,44,45] (fun P S K=>XvBinOV P .add 3 (.const (.int .i64 1)) (S.get 45) (.atom (.int .i64 1)) (fun r0 _=>K ⟨[(1,S.get 1),(2,S.get 2),(5,S.get 5),(7,S.get 7),(8,S.get 8),(43,S.get 43),(44,S.get 44),(45,r0)],S.hp,S.nx,S.gh⟩)) ?_
   all_goals try simp (disch:=omega) only[zae,zaf]
   all_goals
   refine⟨⟨zc9 b (fF x.forms i),i+1,by omega,by rw[hb,zbD,zbD,zhH _ _ hil,zek hil],by omega,by omega⟩,[0,1,2,3,4,9],by dsimp only;omega,?_⟩
   exact zfY
  try (cases h46;done)
  all_goals (try simp only[CQ] at h46)
  all_goals
  refine Tri.exit ?_
  refine Tri.seq ?_
  have hbf:b=zbD x.forms:=by rw[hb,List.take_of_length_le (by omega)]
  refine sZ [2,5,7,8,66,67,68] (fun P S K=>XvFieldAddr P 27 1 (S.get 1) (fun r0 _=>XvLoad P 24 (M S.hp S.nx) r0 (fun r1 _=>XvLen P 24 (M S.hp S.nx) r1 (fun r2 _=>K ⟨[(2,S.get 2),(5,S.get 5),(7,S.get 7),(8,S.get 8),(66,r1),(67,r2),(68,(.atom (.int .i64 0)))],S.hp,S.nx,S.gh⟩)))) fun K hK=>?_
  repeat' (first|(refine hK _ ?_;clear hK K)|refine And.intro ?_ ?_|exact cl|(refine st ?_;try simp only[encX,zaa,zab,zac,encF,encR,bS,zcq])|fail)
  all_goals
  refine Tri.block ?_
  refine Tri.loop (α:=(c:BSt) ×' (j:Nat) ×' (j≤x.rules.length∧c=zcn b (x.rules.take j)∧c.n≤1666+18 * j∧c.A.length≤1728+245 * j)) (fun z=>(fun(c:BSt) (j:Nat)=>(⟨[(2,.ptr 1 4 0 0),(5,.ptr 3 1 0 0),(7,encI 1),(8,.fn 31 [.ptr 3 1 0 0,.ptr 4 1 0 0]),(66,zab x.rules),(67,encI x.rules.length),(68,encI j)],[(0,some ⟨3,[encX x]⟩),(1,some ⟨4,[zcq]⟩),(2,some ⟨4,[bS c.n 0 [1] 5 c.A.length]⟩),(3,some ⟨1,[.ptr 2 4 0 0]⟩),(4,some ⟨1,[encI 0]⟩),(5,some ⟨4,c.A.map encC⟩)],6,[]⟩:St)) z.1 z.2.1) (fun z=>(fun(c:BSt) (j:Nat)=>x.rules.length - j) z.1 z.2.1) ⟨b,0,⟨Nat.zero_le _,rfl,by omega,by omega⟩⟩ [0,1,2,3,4,5] ?_ ?_
  ·exact zfY
  rintro⟨c,j,⟨hj,hc,hcn,hcA⟩⟩
  refine sY [2,5,7,8,66,67,68,69] (fun P S K=>XvBinOV P .lss 3 (.tmp 67) (S.get 68) (S.get 67) (fun r0 _=>K ⟨[(2,S.get 2),(5,S.get 5),(7,S.get 7),(8,S.get 8),(66,S.get 66),(67,S.get 67),(68,S.get 68),(69,r0)],S.hp,S.nx,S.gh⟩)) ?_
  all_goals
  refine Tri.seq ?_
  refine Tri.cond rfl (fun h69=>?_) (fun h69=>?_)
  ·try (cases h69;done)
   all_goals (try simp only[CQ] at h69)
   all_goals
   refine Tri.skip ?_
   refine Tri.seq ?_
   refine Tri.block ?_
   have hjl:j<x.rules.length:=by omega
   obtain⟨hm1,hm2,hm3,hm4,hm5,hm6,hm7,hm8,hm9,hm10,hm11⟩:=zd8 (hrr _ (zfx hjl)) c
   have hsl:(⟨#[47]⟩:ByteArray).size=1:=rfl
   refine sZ [2,5,7,8,12,66,67,68] (fun P S K=>XvIndexAddr P 24 (S.get 66) (S.get 68) (fun r0 _=>XvLoad P 66 (M S.hp S.nx) r0 (fun r1 _=>XvAlloc P 66 S.nx (fun r2 ef2=>XvStore P 66 (M (Eff.hp ef2 S.nx S.hp) (S.nx+ef2.add.length)) r2 r1 (fun r3 ef3=>K ⟨[(2,S.get 2),(5,S.get 5),(7,S.get 7),(8,S.get 8),(12,r2),(66,S.get 66),(67,S.get 67),(68,S.get 68)],(Eff.hp ef3 (S.nx+ef2.add.length) (Eff.hp ef2 S.nx S.hp)),((S.nx+ef2.add.length)+ef3.add.length),S.gh⟩))))) fun K hK=>?_
   repeat' (first|(refine hK _ ?_;clear hK K)|refine And.intro ?_ ?_|exact cl|(refine st ?_;try simp only[encX,zaa,zab,zac,encF,encR,bS,zcq,zdo hjl])|fail)
   all_goals
   refine sZ [2,5,7,8,12,13,66,67,68] (fun P S K=>XvFnIV P (M S.hp S.nx) (S.get 8) [(.atom (.string { data := #[50] }))] (fun r1 ef1=>K ⟨[(2,S.get 2),(5,S.get 5),(7,S.get 7),(8,S.get 8),(12,S.get 12),(13,r1),(66,S.get 66),(67,S.get 67),(68,S.get 68)],(Eff.hp ef1 S.nx S.hp),(S.nx+ef1.add.length),S.gh⟩)) fun K hK=>?_
   repeat' (first|(refine hK _ ?_;clear hK K)|refine .inr (vProc.enter 2 5 3 4 (by decide) (zds (c.n:Int) 0 [1] c.A (mkB 50) (by omega) (by omega) (by omega)) rfl rfl rfl rfl rfl rfl ?_)|(refine st ?_;try simp only[encX,zaa,zab,zac,encF,encR,bS,zcq])|fail)
   all_goals
   refine sZ [2,5,7,8,12,13,14,66,67,68] (fun P S K=>XvFieldAddr P 66 3 (S.get 12) (fun r0 _=>XvLoad P 3 (M S.hp S.nx) r0 (fun r1 _=>K ⟨[(2,S.get 2),(5,S.get 5),(7,S.get 7),(8,S.get 8),(12,S.get 12),(13,S.get 13),(14,r1),(66,S.get 66),(67,S.get 67),(68,S.get 68)],S.hp,S.nx,S.gh⟩))) fun K hK=>?_
   repeat' (first|(refine hK _ ?_;clear hK K)|refine And.intro ?_ ?_|exact cl|(refine st ?_;try simp only[encX,zaa,zab,zac,encF,encR,bS,zcq])|fail)
   all_goals
   refine Tri.cut (α:=(lst:Int) ×' (lst=zcL (fR x.rules j))) (fun⟨lst,hlst⟩=>⟨[(2,.ptr 1 4 0 0),(5,.ptr 3 1 0 0),(7,encI 1),(8,.fn 31 [.ptr 3 1 0 0,.ptr 4 1 0 0]),(12,.ptr 6 4 0 0),(13,encI c.n),(14,encI lst),(66,zab x.rules),(67,encI x.rules.length),(68,encI j)],[(0,some ⟨3,[encX x]⟩),(1,some ⟨4,[zcq]⟩),(2,some ⟨4,[bS ((c.n:Int)+1) 0 [1] 5 (c.A.length+1)]⟩),(3,some ⟨1,[.ptr 2 4 0 0]⟩),(4,some ⟨1,[encI 0]⟩),(5,some ⟨4,(c.A++[ArcD.mk 0 c.n eB (mkB 50)]).map encC⟩),(6,some ⟨4,[encR (fR x.rules j)]⟩)],7,[]⟩) ?_ ?_
   ·skip
    refine sZ [2,5,7,8,12,13,14,66,67,68,83] (fun P S K=>XvFieldAddr P 66 1 (S.get 12) (fun r0 _=>XvLoad P 9 (M S.hp S.nx) r0 (fun r1 _=>XvBinOV P .eql 9 (.const (.string { data := #[] })) r1 (.atom (.string { data := #[] })) (fun r2 _=>Xgq r2 false (fun k=>XvFieldAddr P 66 0 (S.get 12) (fun r4 _=>k r4)) (fun g4 r4=>Xgq g4 false (fun k=>XvLoad P 9 (M S.hp S.nx) r4 (fun r5 _=>k r5)) (fun g5 r5=>Xgq g5 false (fun k=>XvBinOV P .eql 9 (.const (.string { data := #[] })) r5 (.atom (.string { data := #[] })) (fun r6 _=>k r6)) (fun g6 r6=>XvPick g6 (.atom (.bool true)) r6 (fun r7 _=>K ⟨[(2,S.get 2),(5,S.get 5),(7,S.get 7),(8,S.get 8),(12,S.get 12),(13,S.get 13),(14,S.get 14),(66,S.get 66),(67,S.get 67),(68,S.get 68),(83,r7)],S.hp,S.nx,S.gh⟩)))))))) fun K hK=>?_
    repeat' (first|(refine hK _ ?_;clear hK K)|((first|refine zav (fun hg=>?_) (fun hg=>?_)|refine fun(hg:(_:Prop))=>?_)<;>((try simp only[BQ] at hg);try (exfalso;omega)))|(refine st ?_;try simp only[encX,zaa,zab,zac,encF,encR,bS,zcq])|fail)
    all_goals
    refine Tri.cond rfl (fun h83=>?_) (fun h83=>?_)
    ·try (cases h83;done)
     all_goals (try simp only[CQ] at h83)
     all_goals
     refine rZ [2,5,7,8,12,13,14,66,67,68] (fun P S K=>XvMinMax true (S.get 14) (.atom (.int .i64 1)) (fun r1 _=>K ⟨[(2,S.get 2),(5,S.get 5),(7,S.get 7),(8,S.get 8),(12,S.get 12),(13,S.get 13),(14,r1),(66,S.get 66),(67,S.get 67),(68,S.get 68)],S.hp,S.nx,S.gh⟩)) fun K hK=>?_
     repeat' (first|(refine hK _ ?_;clear hK K)|((first|refine zav (fun hg=>?_) (fun hg=>?_)|refine fun(hg:(_:Prop))=>?_)<;>((try simp only[BQ] at hg);try (exfalso;omega)))|(refine st ?_;try simp only[encX,zaa,zab,zac,encF,encR,bS,zcq])|fail)
     all_goals
     refine⟨(by first|exact⟨(fR x.rules j).least,(if_neg (not_or.2 ⟨hg,h83⟩)).symm⟩|exact⟨max (fR x.rules j).least 1,(if_pos (Or.inl hg)).symm⟩|exact⟨max (fR x.rules j).least 1,(if_pos (Or.inr h83)).symm⟩),[0,1,2,3,4,7,6],?_⟩
     exact zfY
    try (cases h83;done)
    all_goals (try simp only[CQ] at h83)
    all_goals
    refine Tri.skip ?_
    refine⟨(by first|exact⟨(fR x.rules j).least,(if_neg (not_or.2 ⟨hg,h83⟩)).symm⟩|exact⟨max (fR x.rules j).least 1,(if_pos (Or.inl hg)).symm⟩|exact⟨max (fR x.rules j).least 1,(if_pos (Or.inr h83)).symm⟩),[0,1,2,3,4,7,6],?_⟩
    exact zfY
   rintro⟨lst,hlst⟩
   refine Tri.seq ?_
   refine sY [2,5,7,8,12,13,66,67,68,86,87] (fun P S K=>K ⟨[(2,S.get 2),(5,S.get 5),(7,S.get 7),(8,S.get 8),(12,S.get 12),(13,S.get 13),(66,S.get 66),(67,S.get 67),(68,S.get 68),(86,(S.get 14)),(87,(.atom (.int .i64 0)))],S.hp,S.nx,S.gh⟩) ?_
   all_goals
   refine Tri.block ?_
   refine Tri.loop (α:=(B:List ArcD) ×' (k:Nat) ×' ((k:Int)≤lst∧B.length≤c.A.length+1+26 * k∧B=c.A++[ArcD.mk 0 c.n eB (mkB 50)]++copA (c.n+1) c.n k)) (fun z=>(fun(B:List ArcD) (k:Nat)=>(⟨[(2,.ptr 1 4 0 0),(5,.ptr 3 1 0 0),(7,encI 1),(8,.fn 31 [.ptr 3 1 0 0,.ptr 4 1 0 0]),(12,.ptr 6 4 0 0),(13,encI (zbp (c.n+1) c.n k)),(66,zab x.rules),(67,encI x.rules.length),(68,encI j),(86,encI lst),(87,encI k)],[(0,some ⟨3,[encX x]⟩),(1,some ⟨4,[zcq]⟩),(2,some ⟨4,[bS ((c.n:Int)+1+k) 0 [1] 5 B.length]⟩),(3,some ⟨1,[.ptr 2 4 0 0]⟩),(4,some ⟨1,[encI 0]⟩),(5,some ⟨4,B.map encC⟩),(6,some ⟨4,[encR (fR x.rules j)]⟩)],7,[]⟩:St)) z.1 z.2.1) (fun z=>(fun(B:List ArcD) (k:Nat)=>lst.toNat - k) z.1 z.2.1) ⟨c.A++[ArcD.mk 0 c.n eB (mkB 50)],0,⟨by omega,by simp,by simp[copA]⟩⟩ [0,1,2,3,4,5,6] ?_ ?_
   ·exact zfY
   rintro⟨B,k,⟨hk,hBl,hB⟩⟩
   refine sY [2,5,7,8,12,13,66,67,68,86,87,88] (fun P S K=>XvBinOV P .lss 3 (.tmp 86) (S.get 87) (S.get 86) (fun r0 _=>K ⟨[(2,S.get 2),(5,S.get 5),(7,S.get 7),(8,S.get 8),(12,S.get 12),(13,S.get 13),(66,S.get 66),(67,S.get 67),(68,S.get 68),(86,S.get 86),(87,S.get 87),(88,r0)],S.hp,S.nx,S.gh⟩)) ?_
   all_goals
   refine Tri.seq ?_
   refine Tri.cond rfl (fun h88=>?_) (fun h88=>?_)
   ·try (cases h88;done)
    all_goals (try simp only[CQ] at h88)
    all_goals
    refine Tri.skip ?_
    refine Tri.seq ?_
    refine Tri.block ?_
    refine sZ [2,5,7,8,12,13,15,66,67,68,86,87] (fun P S K=>XvLoad P 81 (M S.hp S.nx) (S.get 5) (fun r0 _=>XvFnIV P (M S.hp S.nx) (.fn 30 []) [r0] (fun r1 ef1=>K ⟨[(2,S.get 2),(5,S.get 5),(7,S.get 7),(8,S.get 8),(12,S.get 12),(13,S.get 13),(15,r1),(66,S.get 66),(67,S.get 67),(68,S.get 68),(86,S.get 86),(87,S.get 87)],(Eff.hp ef1 S.nx S.hp),(S.nx+ef1.add.length),S.gh⟩))) fun K hK=>?_
    repeat' (first|(refine hK _ ?_;clear hK K)|refine .inr (vProc.grow0 2 5 (by decide) (zb0 ((c.n:Int)+1+k) 0 [1] B (by omega) (by omega)) rfl rfl rfl rfl ?_)|(refine st ?_;try simp only[encX,zaa,zab,zac,encF,encR,bS,zcq])|fail)
    all_goals
    refine sZ [2,5,7,8,12,15,66,67,68,86,87] (fun P S K=>XvLoad P 81 (M S.hp S.nx) (S.get 5) (fun r0 _=>XvFnIV P (M S.hp S.nx) (.fn 35 []) [r0,(S.get 13),(S.get 15)] (fun r3 ef3=>K ⟨[(2,S.get 2),(5,S.get 5),(7,S.get 7),(8,S.get 8),(12,S.get 12),(15,S.get 15),(66,S.get 66),(67,S.get 67),(68,S.get 68),(86,S.get 86),(87,S.get 87)],(Eff.hp ef3 S.nx S.hp),(S.nx+ef3.add.length),S.gh⟩))) fun K hK=>?_
    repeat' (first|(refine hK _ ?_;clear hK K)|refine .inr (vProc.grow 2 5 (by decide) (za6 ((c.n:Int)+1+k+1) 0 [1] B (zbp (c.n+1) c.n k) ((c.n:Int)+1+k) (by omega)) rfl rfl rfl rfl ?_)|refine .inr (vProc.grow 2 5 (by decide) (za6 ((c.n:Int)+1+k) 0 [1] B (zbp (c.n+1) c.n k) (zbp (c.n+1) c.n k) (by omega)) rfl rfl rfl rfl ?_)|refine .inr (vProc.grow 2 6 (by decide) (za6 ((c.n:Int)+1+1) 0 [1] (c.A++[ArcD.mk 0 c.n eB (mkB 51)]) c.n ((c.n:Int)+1) (by simp;omega)) rfl rfl rfl rfl ?_)|refine .inr (vProc.grow 2 7 (by decide) (za6 ((c.n:Int)+1+1) 0 [1] (c.A++[ArcD.mk 0 c.n eB (mkB 51)]++zcd c.n ((c.n:Int)+1) 26) ((c.n:Int)+1) ((c.n:Int)+1) (by simp[zbN];omega)) rfl rfl rfl rfl ?_)|(refine st ?_;try simp only[encX,zaa,zab,zac,encF,encR,bS,zcq])|fail)
    all_goals
    refine rY [2,5,7,8,12,13,66,67,68,86,87] (fun P S K=>K ⟨[(2,S.get 2),(5,S.get 5),(7,S.get 7),(8,S.get 8),(12,S.get 12),(13,(S.get 15)),(66,S.get 66),(67,S.get 67),(68,S.get 68),(86,S.get 86),(87,S.get 87)],S.hp,S.nx,S.gh⟩) ?_
    all_goals
    refine rY [2,5,7,8,12,13,66,67,68,86,87] (fun P S K=>XvBinOV P .add 3 (.const (.int .i64 1)) (S.get 87) (.atom (.int .i64 1)) (fun r0 _=>K ⟨[(2,S.get 2),(5,S.get 5),(7,S.get 7),(8,S.get 8),(12,S.get 12),(13,S.get 13),(66,S.get 66),(67,S.get 67),(68,S.get 68),(86,S.get 86),(87,r0)],S.hp,S.nx,S.gh⟩)) ?_
    all_goals try simp (disch:=omega) only[zae,zaf]
    all_goals
    have hre:zbp (c.n+1) c.n (k+1)=(c.n:Int)+1+k:=by unfold zbp;rw[if_neg (by omega)];omega
    refine⟨⟨B++zcd (zbp (c.n+1) c.n k) ((c.n:Int)+1+k) 26,k+1,by omega,by simp[zbN];omega,by rw[copA,hB];simp only[List.append_assoc];rfl⟩,[0,1,2,3,4,7,6],by dsimp only;omega,?_⟩
    dsimp only
    rw[hre]
    exact zfY
   try (cases h88;done)
   all_goals (try simp only[CQ] at h88)
   all_goals
   refine Tri.exit ?_
   obtain rfl:lst=(k:Int):=by omega
   have hkl:(zcL (fR x.rules j)).toNat=k:=by omega
   refine sZ [2,5,7,8,12,13,66,67,68] (fun P S K=>XvLoad P 81 (M S.hp S.nx) (S.get 5) (fun r0 _=>XvFnIV P (M S.hp S.nx) (.fn 35 []) [r0,(S.get 13),(S.get 13)] (fun r3 ef3=>K ⟨[(2,S.get 2),(5,S.get 5),(7,S.get 7),(8,S.get 8),(12,S.get 12),(13,S.get 13),(66,S.get 66),(67,S.get 67),(68,S.get 68)],(Eff.hp ef3 S.nx S.hp),(S.nx+ef3.add.length),S.gh⟩))) fun K hK=>?_
   repeat' (first|(refine hK _ ?_;clear hK K)|refine .inr (vProc.grow 2 5 (by decide) (za6 ((c.n:Int)+1+k+1) 0 [1] B (zbp (c.n+1) c.n k) ((c.n:Int)+1+k) (by omega)) rfl rfl rfl rfl ?_)|refine .inr (vProc.grow 2 5 (by decide) (za6 ((c.n:Int)+1+k) 0 [1] B (zbp (c.n+1) c.n k) (zbp (c.n+1) c.n k) (by omega)) rfl rfl rfl rfl ?_)|refine .inr (vProc.grow 2 6 (by decide) (za6 ((c.n:Int)+1+1) 0 [1] (c.A++[ArcD.mk 0 c.n eB (mkB 51)]) c.n ((c.n:Int)+1) (by simp;omega)) rfl rfl rfl rfl ?_)|refine .inr (vProc.grow 2 7 (by decide) (za6 ((c.n:Int)+1+1) 0 [1] (c.A++[ArcD.mk 0 c.n eB (mkB 51)]++zcd c.n ((c.n:Int)+1) 26) ((c.n:Int)+1) ((c.n:Int)+1) (by simp[zbN];omega)) rfl rfl rfl rfl ?_)|(refine st ?_;try simp only[encX,zaa,zab,zac,encF,encR,bS,zcq])|fail)
   all_goals
   refine rD 14 [2,5,7,8,66,67,68] (fun P GD S K=>XvLoad P 81 (M S.hp S.nx) (S.get 5) (fun r0 ef0=>XvLoad P 81 (M S.hp S.nx) (S.get 5) (fun r1 ef1=>XvFieldAddr P 66 0 (S.get 12) (fun r3 ef3=>XvLoad P 9 (M S.hp S.nx) r3 (fun r4 ef4=>XvFnDV P (M S.hp S.nx) (.fn 34 []) [r1,(S.get 13),r4] (fun r5 ef5=>XvFieldAddr P 66 1 (S.get 12) (fun r7 ef7=>XvLoad P 9 (M (Eff.hp ef5 S.nx S.hp) (S.nx+ef5.add.length)) r7 (fun r8 ef8=>XvBinOV P .add 9 (.const (.string { data := #[47] })) r8 (.atom (.string { data := #[47] })) (fun r9 ef9=>XvFieldAddr P 66 2 (S.get 12) (fun r10 ef10=>XvLoad P 9 (M (Eff.hp ef5 S.nx S.hp) (S.nx+ef5.add.length)) r10 (fun r11 ef11=>XvBinOV P .add 9 (.tmp 112) r9 r11 (fun r12 ef12=>XvFnDV P (M (Eff.hp ef5 S.nx S.hp) (S.nx+ef5.add.length)) (.fn 33 []) [r0,r5,(S.get 7),r12] (fun r13 ef13=>(trOk S.nx GD [⟨S.nx,0,ef0.rd,[],[]⟩,⟨S.nx,0,ef1.rd,[],[]⟩,⟨S.nx,0,[],[],[]⟩,⟨S.nx,0,ef3.rd,[],[]⟩,⟨S.nx,0,ef4.rd,[],[]⟩,(Eff.tr ef5 S.nx),⟨(S.nx+ef5.add.length),0,[],[],[]⟩,⟨(S.nx+ef5.add.length),0,ef7.rd,[],[]⟩,⟨(S.nx+ef5.add.length),0,ef8.rd,[],[]⟩,⟨(S.nx+ef5.add.length),0,ef9.rd,[],[]⟩,⟨(S.nx+ef5.add.length),0,ef10.rd,[],[]⟩,⟨(S.nx+ef5.add.length),0,ef11.rd,[],[]⟩,⟨(S.nx+ef5.add.length),0,ef12.rd,[],[]⟩,(Eff.tr ef13 (S.nx+ef5.add.length))]=true∧K ⟨[(2,S.get 2),(5,S.get 5),(7,S.get 7),(8,S.get 8),(66,S.get 66),(67,S.get 67),(68,S.get 68)],(Eff.hp ef13 (S.nx+ef5.add.length) (Eff.hp ef5 S.nx S.hp)),((S.nx+ef5.add.length)+ef13.add.length),S.gh⟩)))))))))))))) fun K hK=>?_
   repeat' (first|(refine hK _ ?_;clear hK K)|(refine(?_:trOk _ _ _=true);kernel_rfl)|refine And.intro ?_ ?_|exact cl|refine .inr (vProcD.grow 2 7 (by decide) (zfa (c.n+1+k) 0 [1] (B++zcd (zbp (c.n+1) c.n k) (zbp (c.n+1) c.n k) 26) (zbp (c.n+1) c.n k) (fR x.rules j).suf (by simp[zbN];omega) (by omega) (by omega)) rfl rfl rfl rfl rfl ?_)|refine .inr (vProcD.grow 2 8 (by decide) (zeH (c.n+1+k+(fR x.rules j).suf.size) 0 [1] (B++zcd (zbp (c.n+1) c.n k) (zbp (c.n+1) c.n k) 26++zcW (c.n+1+k) (zbp (c.n+1) c.n k) (fR x.rules j).suf (fR x.rules j).suf.size) (zbp (c.n+1+k) (zbp (c.n+1) c.n k) (fR x.rules j).suf.size) 1 (rulT (fR x.rules j)) 1 (by simp[zdP,zbN];omega) (by omega) (by omega) (by omega)) rfl rfl rfl rfl rfl ?_)|(refine st ?_;try simp only[encX,zaa,zab,zac,encF,encR,bS,zcq])|fail)
   all_goals try simp (disch:=omega) only[zae,zaf]
   all_goals
   refine rY [2,5,7,8,66,67,68] (fun P S K=>XvBinOV P .add 3 (.const (.int .i64 1)) (S.get 68) (.atom (.int .i64 1)) (fun r0 _=>K ⟨[(2,S.get 2),(5,S.get 5),(7,S.get 7),(8,S.get 8),(66,S.get 66),(67,S.get 67),(68,r0)],S.hp,S.nx,S.gh⟩)) ?_
   all_goals try simp (disch:=omega) only[zae,zaf]
   all_goals
   have hrb:zc6 c (fR x.rules j)=⟨c.n+1+k+(fR x.rules j).suf.size+zdD 1 (rulT (fR x.rules j)),B++zcd (zbp (c.n+1) c.n k) (zbp (c.n+1) c.n k) 26++zcW (c.n+1+k) (zbp (c.n+1) c.n k) (fR x.rules j).suf (fR x.rules j).suf.size++zd5 1 (c.n+1+k+(fR x.rules j).suf.size) (zbp (c.n+1+k) (zbp (c.n+1) c.n k) (fR x.rules j).suf.size) 1 (rulT (fR x.rules j))⟩:=by unfold zc6;rw[hkl,hB]
   rw[hrb] at hm1 hm2
   refine⟨⟨⟨c.n+1+k+(fR x.rules j).suf.size+zdD 1 (rulT (fR x.rules j)),B++zcd (zbp (c.n+1) c.n k) (zbp (c.n+1) c.n k) 26++zcW (c.n+1+k) (zbp (c.n+1) c.n k) (fR x.rules j).suf (fR x.rules j).suf.size++zd5 1 (c.n+1+k+(fR x.rules j).suf.size) (zbp (c.n+1+k) (zbp (c.n+1) c.n k) (fR x.rules j).suf.size) 1 (rulT (fR x.rules j))⟩,j+1,by omega,by rw[zcn,zhH _ _ hjl,←zmt hjl,←zcn,←hc,hrb],by omega,by omega⟩,[0,1,2,3,4,9],by dsimp only;omega,?_⟩
   exact zfY
  try (cases h69;done)
  all_goals (try simp only[CQ] at h69)
  all_goals
  refine Tri.exit ?_
  have hcf2:c=zcn (zbD x.forms) x.rules:=by rw[hc,hbf,List.take_of_length_le (by omega)]
  refine sD 6 [2,5,7,16,17] (fun P GD S K=>XvFnDV P (M S.hp S.nx) (S.get 8) [(.atom (.string { data := #[51] }))] (fun r1 ef1=>XvLoad P 81 (M (Eff.hp ef1 S.nx S.hp) (S.nx+ef1.add.length)) (S.get 5) (fun r2 ef2=>XvFnDV P (M (Eff.hp ef1 S.nx S.hp) (S.nx+ef1.add.length)) (.fn 30 []) [r2] (fun r3 ef3=>(trOk S.nx GD [⟨S.nx,0,[],[],[]⟩,(Eff.tr ef1 S.nx),⟨(S.nx+ef1.add.length),0,ef2.rd,[],[]⟩,(Eff.tr ef3 (S.nx+ef1.add.length)),⟨((S.nx+ef1.add.length)+ef3.add.length),0,[],[],[]⟩,⟨((S.nx+ef1.add.length)+ef3.add.length),0,[],[],[]⟩]=true∧K ⟨[(2,S.get 2),(5,S.get 5),(7,S.get 7),(16,r1),(17,r3)],(Eff.hp ef3 (S.nx+ef1.add.length) (Eff.hp ef1 S.nx S.hp)),((S.nx+ef1.add.length)+ef3.add.length),S.gh⟩))))) fun K hK=>?_
  repeat' (first|(refine hK _ ?_;clear hK K)|(refine(?_:trOk _ _ _=true);kernel_rfl)|refine And.intro ?_ ?_|exact cl|refine .inr (vProcD.enter 2 5 3 4 (by decide) (zds (b.n:Int) 0 [1] b.A (mkB 49) (by omega) (by omega) (by omega)) rfl rfl rfl rfl rfl rfl rfl ?_)|refine .inr (vProcD.grow 2 7 (by decide) (zfa (b.n+1) 0 [1] (b.A++[⟨0,b.n,eB,mkB 49⟩]) (b.n:Int) (fF x.forms i).word (by simp;omega) (by omega) (by omega)) rfl rfl rfl rfl rfl ?_)|refine .inr (vProcD.grow 2 8 (by decide) (zeH (b.n+1+(fF x.forms i).word.size) 0 [1] (b.A++[⟨0,b.n,eB,mkB 49⟩]++zcW (b.n+1) b.n (fF x.forms i).word (fF x.forms i).word.size) (zbp (b.n+1) b.n (fF x.forms i).word.size) 1 (zcs (fF x.forms i)) 1 (by simp[zdP];omega) (by omega) (by omega) (by omega)) rfl rfl rfl rfl rfl ?_)|refine .inr (vProcD.enter 2 5 3 4 (by decide) (zds (c.n:Int) 0 [1] c.A (mkB 51) (by omega) (by omega) (by omega)) rfl rfl rfl rfl rfl rfl rfl ?_)|refine .inr (vProcD.grow0 2 6 (by decide) (zb0 ((c.n:Int)+1) 0 [1] (c.A++[ArcD.mk 0 c.n eB (mkB 51)]) (by omega) (by omega)) rfl rfl rfl rfl rfl ?_)|(refine st ?_;try simp only[encX,zaa,zab,zac,encF,encR,bS,zcq])|fail)
  all_goals
  refine sZ [2,5,7,17] (fun P S K=>XvLoad P 81 (M S.hp S.nx) (S.get 5) (fun r0 _=>XvFnIV P (M S.hp S.nx) (.fn 35 []) [r0,(S.get 16),(S.get 17)] (fun r3 ef3=>K ⟨[(2,S.get 2),(5,S.get 5),(7,S.get 7),(17,S.get 17)],(Eff.hp ef3 S.nx S.hp),(S.nx+ef3.add.length),S.gh⟩))) fun K hK=>?_
  repeat' (first|(refine hK _ ?_;clear hK K)|refine .inr (vProc.grow 2 5 (by decide) (za6 ((c.n:Int)+1+k+1) 0 [1] B (zbp (c.n+1) c.n k) ((c.n:Int)+1+k) (by omega)) rfl rfl rfl rfl ?_)|refine .inr (vProc.grow 2 5 (by decide) (za6 ((c.n:Int)+1+k) 0 [1] B (zbp (c.n+1) c.n k) (zbp (c.n+1) c.n k) (by omega)) rfl rfl rfl rfl ?_)|refine .inr (vProc.grow 2 6 (by decide) (za6 ((c.n:Int)+1+1) 0 [1] (c.A++[ArcD.mk 0 c.n eB (mkB 51)]) c.n ((c.n:Int)+1) (by simp;omega)) rfl rfl rfl rfl ?_)|refine .inr (vProc.grow 2 7 (by decide) (za6 ((c.n:Int)+1+1) 0 [1] (c.A++[ArcD.mk 0 c.n eB (mkB 51)]++zcd c.n ((c.n:Int)+1) 26) ((c.n:Int)+1) ((c.n:Int)+1) (by simp[zbN];omega)) rfl rfl rfl rfl ?_)|(refine st ?_;try simp only[encX,zaa,zab,zac,encF,encR,bS,zcq])|fail)
  all_goals
  refine sZ [2,5,7,17] (fun P S K=>XvLoad P 81 (M S.hp S.nx) (S.get 5) (fun r0 _=>XvFnIV P (M S.hp S.nx) (.fn 35 []) [r0,(S.get 17),(S.get 17)] (fun r3 ef3=>K ⟨[(2,S.get 2),(5,S.get 5),(7,S.get 7),(17,S.get 17)],(Eff.hp ef3 S.nx S.hp),(S.nx+ef3.add.length),S.gh⟩))) fun K hK=>?_
  repeat' (first|(refine hK _ ?_;clear hK K)|refine .inr (vProc.grow 2 5 (by decide) (za6 ((c.n:Int)+1+k+1) 0 [1] B (zbp (c.n+1) c.n k) ((c.n:Int)+1+k) (by omega)) rfl rfl rfl rfl ?_)|refine .inr (vProc.grow 2 5 (by decide) (za6 ((c.n:Int)+1+k) 0 [1] B (zbp (c.n+1) c.n k) (zbp (c.n+1) c.n k) (by omega)) rfl rfl rfl rfl ?_)|refine .inr (vProc.grow 2 6 (by decide) (za6 ((c.n:Int)+1+1) 0 [1] (c.A++[ArcD.mk 0 c.n eB (mkB 51)]) c.n ((c.n:Int)+1) (by simp;omega)) rfl rfl rfl rfl ?_)|refine .inr (vProc.grow 2 7 (by decide) (za6 ((c.n:Int)+1+1) 0 [1] (c.A++[ArcD.mk 0 c.n eB (mkB 51)]++zcd c.n ((c.n:Int)+1) 26) ((c.n:Int)+1) ((c.n:Int)+1) (by simp[zbN];omega)) rfl rfl rfl rfl ?_)|(refine st ?_;try simp only[encX,zaa,zab,zac,encF,encR,bS,zcq])|fail)
  all_goals
  refine sZ [2,5] (fun P S K=>XvLoad P 81 (M S.hp S.nx) (S.get 5) (fun r0 _=>XvFnIV P (M S.hp S.nx) (.fn 32 []) [r0,(S.get 17),(S.get 7),(.atom (.string { data := #[] })),(.atom (.string { data := #[47] }))] (fun r3 ef3=>K ⟨[(2,S.get 2),(5,S.get 5)],(Eff.hp ef3 S.nx S.hp),(S.nx+ef3.add.length),S.gh⟩))) fun K hK=>?_
  repeat' (first|(refine hK _ ?_;clear hK K)|refine .inr (vProc.grow 2 8 (by decide) (zd4 ((c.n:Int)+1+1) 0 [1] (c.A++[ArcD.mk 0 c.n eB (mkB 51)]++zcd c.n ((c.n:Int)+1) 26++zcd ((c.n:Int)+1) ((c.n:Int)+1) 26) ((c.n:Int)+1) 1 ⟨#[]⟩ slB (by simp[zbN];omega)) rfl rfl rfl rfl ?_)|(refine st ?_;try simp only[encX,zaa,zab,zac,encF,encR,bS,zcq])|fail)
  all_goals
  refine sZ [2,3] (fun P S K=>XvLoad P 81 (M S.hp S.nx) (S.get 5) (fun r0 _=>XvNil r0 (fun r1 _=>XvFieldAddr P 83 0 r1 (fun r2 _=>XvLoad P 58 (M S.hp S.nx) r2 (fun r3 _=>XvStore P 58 (M S.hp S.nx) (S.get 2) r3 (fun r4 ef4=>K ⟨[(2,S.get 2),(3,(.atom (.int .i64 0)))],(Eff.hp ef4 S.nx S.hp),(S.nx+ef4.add.length),S.gh⟩)))))) fun K hK=>?_
  repeat' (first|(refine hK _ ?_;clear hK K)|refine And.intro ?_ ?_|exact cl|(refine st ?_;try simp only[encX,zaa,zab,zac,encF,encR,bS,zcq])|fail)
  all_goals
  refine Tri.ret ?_
  show ResR _ _ _ _ _
  unfold machR
  rw[if_pos hV]
  refine ResR.cells _ (encI 0) [] rfl ?_ (by simp[PV.pure,zaw,zaI,encI])
  have hm:zbH x=⟨(zee c).n,0,[1],(zee c).A⟩:=by unfold zbH;rw[←hcf2]
  rw[hm]
  refine zqm (n:=((zee c).n:Int)) (st:=0) (fin:=[1]) (A:=(zee c).A) (ri:=9) ?_ ?_
  · rfl
  · simp[zee];omega
theorem zmk (x:LexD) (hx:HeldX x) (hv:zbc x=0):Pure Try.prog 16 [encX x] (.tup [encM (zbH x),encI 0]) []:=by
  have:=znM x hx
  unfold machR at this
  rwa [if_pos hv] at this
end Go.Proofs.Ytehoglapajkabaa
