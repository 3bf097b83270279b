/-
  The builder of lexicons' machines: its calls where the order of a statement's parts is open;the function that enters.
-/
import Derived.Test.YtehoglapajkabaaGreatJM0
import Derived.Test.YtehoglapajkabaaGreatJM38
import Derived.Test.YtehoglapajkabaaGreatJM12
set_option linter.all false
namespace Go.Proofs.YtehoglapajkabaaGreat
open Go Go.RowKit
set_option maxRecDepth 20000
set_option maxHeartbeats 1000000
mutual
theorem zmg{m:Nat}:∀p:PV,p.pure=true→p.lowB m=true
  | .junk,_ | .atom _,_ | .amp,_=>rfl
  | .agg l,h | .tup l,h | .sl _ l,h | .fptr _ l _ _,h | .fn _ l,h | .fmp l,h=>by
    simp only[PV.pure] at h
    simp only[PV.lowB]
    exact zgN l h
  | .own _ _,h | .ob _ _ _ _,h | .ptr _ _ _ _,h | .mp _,h | .it _,h | .mark _,h | .is _ _,h=>by simp[PV.pure] at h
theorem zgN{m:Nat}:∀l:List PV,zaE l=true→lowL m l=true
  | [],_=>rfl
  | p :: l,h=>by
    simp only[zaE,Bool.and_eq_true] at h
    simp only[lowL,Bool.and_eq_true]
    exact⟨zmg p h.1,zgN l h.2⟩
end
theorem zqW{m:Nat}{l:List PV}(h:zaE l=true):l.all (PV.lowB m)=true:=by rw[←zcA];exact zgN l h
section
variable {P:Program} {S:St} {n n' st:Int} {fin:List Int} {A A':List ArcD} {r:PV} {f:FuncId} {vals args:List PV} {K:PV→Eff→Prop}
theorem low_bS{m ri len:Nat}(h:ri<m):(bS n st fin ri len).lowB m=true:=by
  have h1:(ints fin).lowB m=true:=zmg _ (zah fin)
  simp[bS,PV.lowB,lowL,h1,h,encI]
theorem vProcD.of{hp:List AO}{hp':List (Option AO)}{os:List AO}(L:List Nat) (set':List (Nat×AO)) (hpr:Proc P f args hp r hp' os) (hn:L.Nodup) (hlen:L.length=hp.length)
    (hv:vals=args.map (PV.ren (rmap L S.nx))) (ho:∀i o,hp[i]? = some o→S.obj (rmap L S.nx i)=some (o.ren (rmap L S.nx)))
    (hs:∀i,lk set' i=lk (za3 (pmap L S.nx) L hp') i∨(lk set' i=none∧i∈L∧i∉zbl L hp'∧∃o,lk (za3 (pmap L S.nx) L hp') i=some o∧S.obj i=some o))
    (ha:args.all (PV.lowB hp.length)=true) (hb:hp.all (fun o=>o.els.all (PV.lowB hp.length))=true)
    (hk:K (r.ren (pmap L S.nx)) ⟨os.map (AO.ren (pmap L S.nx)),zbl L hp',set',L⟩):vProcD P S f vals K:=by
  have h0:∀l:List PV,l.map (sealed S.obj (fun i=>L.contains i) 0)=l:=fun l=>by
    rw[show sealed S.obj (fun i=>L.contains i) 0=id from funext fun p=>rfl];simp
  exact⟨L,args,hp,r,hp',os,set',hpr,⟨hn,hlen,by rw[h0];exact hv,fun i o hi=>⟨_,ho i o hi,rfl,by rw[h0];rfl⟩⟩,hs,⟨ha,hb⟩,hk⟩
theorem zqY:(bHp n st fin A).all (fun o=>o.els.all (PV.lowB 2))=true:=by
  have h1:=zqW (m:=2) (zbi A)
  have h2:(bS n st fin 1 A.length).lowB 2=true:=low_bS (by decide)
  simp only[bHp,List.all_cons,List.all_nil,h1,h2];rfl
theorem vProcD.grow (i j:Nat) (hij:i≠j) (hpr:Proc P f args (bHp n st fin A) r (bHp' n' st fin A') (bOs A')) (hr:r.pure=true) (hv:vals=args.map (PV.ren (rmap [i,j] S.nx))) (ha:args.all (PV.lowB 2)=true) {len:Nat}(h0:S.obj i=some ⟨4,[bS n st fin j len]⟩) (h1:S.obj j=some ⟨4,A.map encC⟩)
    (hk:K r ⟨[⟨4,A'.map encC⟩],[j],[(i,⟨4,[bS n' st fin S.nx A'.length]⟩)],[i,j]⟩) (hlen:len=A.length:=by first|rfl|(simp;done)|(simp;omega)):vProcD P S f vals K:=by
  subst hlen
  have e2:za3 (pmap [i,j] S.nx) [i,j] (bHp' n' st fin A')=[(i,⟨4,[bS n' st fin S.nx A'.length]⟩)]:=by
    simp only[bHp',za3,AO.ren,List.map_cons,List.map_nil,zc6];rfl
  refine vProcD.of [i,j] [(i,⟨4,[bS n' st fin S.nx A'.length]⟩)] hpr (by simp[hij]) rfl hv (fun a o ho=>?_) (fun x=>.inl (by rw[e2])) ha zqY ?_
  · match a,ho with
    | 0,ho=>
      cases ho
      rw[show rmap [i,j] S.nx 0=i from rfl,h0]
      simp only[AO.ren,List.map_cons,List.map_nil,zc6];rfl
    | 1,ho=>
      cases ho
      rw[show rmap [i,j] S.nx 1=j from rfl,h1]
      simp only[AO.ren,zaI]
  · rw[zbc _ _ hr]
    have e1:(bOs A').map (AO.ren (pmap [i,j] S.nx))=[⟨4,A'.map encC⟩]:=by simp only[bOs,List.map_cons,List.map_nil,AO.ren,zaI]
    rw[e1]
    exact hk
theorem vProcD.grow0 (i j:Nat) (hij:i≠j) (hpr:Proc P f args (bHp n st fin A) r ((bHp n' st fin A).map some) []) (hr:r.pure=true) (hv:vals=args.map (PV.ren (rmap [i,j] S.nx))) (ha:args.all (PV.lowB 2)=true) {len:Nat}(h0:S.obj i=some ⟨4,[bS n st fin j len]⟩) (h1:S.obj j=some ⟨4,A.map encC⟩)
    (hk:K r ⟨[],[],[(i,⟨4,[bS n' st fin j A.length]⟩)],[i,j]⟩) (hlen:len=A.length:=by first|rfl|(simp;done)|(simp;omega)):vProcD P S f vals K:=by
  subst hlen
  have e2:za3 (pmap [i,j] S.nx) [i,j] ((bHp n' st fin A).map some)=[(i,⟨4,[bS n' st fin j A.length]⟩),(j,⟨4,A.map encC⟩)]:=by
    simp only[bHp,za3,AO.ren,List.map_cons,List.map_nil,zc6,zaI]<;>rfl
  refine vProcD.of [i,j] [(i,⟨4,[bS n' st fin j A.length]⟩)] hpr (by simp[hij]) rfl hv (fun a o ho=>?_) (fun x=>?_) ha zqY ?_
  · match a,ho with
    | 0,ho=>
      cases ho
      rw[show rmap [i,j] S.nx 0=i from rfl,h0]
      simp only[AO.ren,List.map_cons,List.map_nil,zc6];rfl
    | 1,ho=>
      cases ho
      rw[show rmap [i,j] S.nx 1=j from rfl,h1]
      simp only[AO.ren,zaI]
  · rw[e2]
    by_cases hx:x=j
    · subst hx
      exact .inr ⟨by simp[lk,hij],by simp,by simp[bHp,zbl],_,by simp[lk,hij],h1⟩
    · refine .inl ?_
      simp only[lk]
      split
      · rfl
      · rw[if_neg (fun e=>hx e.symm)]
  · rw[zbc _ _ hr]
    exact hk
def eHp (n st:Int) (fin:List Int) (A:List ArcD):List AO:=[⟨4,[bS n st fin 1 A.length]⟩,⟨4,A.map encC⟩,⟨1,[.ptr 0 4 0 0]⟩,⟨1,[encI st]⟩]
def eHp' (n st:Int) (fin:List Int) (A:List ArcD):List (Option AO):=[some ⟨4,[bS n st fin 4 A.length]⟩,none,some ⟨1,[.ptr 0 4 0 0]⟩,some ⟨1,[encI st]⟩]
theorem low_eHp:(eHp n st fin A).all (fun o=>o.els.all (PV.lowB 4))=true:=by
  have h1:=zqW (m:=4) (zbi A)
  have h2:(bS n st fin 1 A.length).lowB 4=true:=low_bS (by decide)
  simp only[eHp,List.all_cons,List.all_nil,h1,h2];rfl
theorem lk_enter{i j c d:Nat}{a u v:AO}(hn:[i,j,c,d].Nodup) (hc:S.obj c=some u) (hd:S.obj d=some v) (L:List (Nat×AO)) (hL:L=[(i,a),(c,u),(d,v)]) (x:Nat):lk [(i,a)] x=lk L x∨(lk [(i,a)] x=none∧x∈[i,j,c,d]∧x∉[j]∧∃o,lk L x=some o∧S.obj x=some o):=by
  subst hL
  simp only[List.nodup_cons,List.mem_cons,List.not_mem_nil,or_false,not_or,List.nodup_nil,and_true] at hn
  obtain⟨⟨h1,h2,h3⟩,⟨h4,h5⟩,h6⟩:=hn
  by_cases hxc:x=c
  · subst hxc
    exact .inr ⟨by simp[lk,h2],by simp,by simpa using fun e=>h4 e.symm,u,by simp[lk,h2],hc⟩
  · by_cases hxd:x=d
    · subst hxd
      exact .inr ⟨by simp[lk,h3],by simp,by simpa using fun e=>h5 e.symm,v,by simp[lk,h3,h6],hd⟩
    · refine .inl ?_
      simp only[lk]
      split
      · rfl
      · rw[if_neg (fun e=>hxc e.symm),if_neg (fun e=>hxd e.symm)]
theorem eHp_ok{i j c d:Nat}(h0:S.obj i=some ⟨4,[bS n st fin j A.length]⟩) (h1:S.obj j=some ⟨4,A.map encC⟩) (h2:S.obj c=some ⟨1,[.ptr i 4 0 0]⟩) (h3:S.obj d=some ⟨1,[encI st]⟩):∀a o,(eHp n st fin A)[a]? = some o→S.obj (rmap [i,j,c,d] S.nx a)=some (o.ren (rmap [i,j,c,d] S.nx)):=fun a o ho=>by
  match a,ho with
  | 0,ho=>
    cases ho
    rw[show rmap [i,j,c,d] S.nx 0=i from rfl,h0]
    simp only[AO.ren,List.map_cons,List.map_nil,zc6];rfl
  | 1,ho=>
    cases ho
    rw[show rmap [i,j,c,d] S.nx 1=j from rfl,h1]
    simp only[AO.ren,zaI]
  | 2,ho=>cases ho;exact h2
  | 3,ho=>cases ho;exact h3
theorem eHp'_set{i j c d:Nat}:za3 (pmap [i,j,c,d] S.nx) [i,j,c,d] (eHp' n' st fin A')=[(i,⟨4,[bS n' st fin S.nx A'.length]⟩),(c,⟨1,[.ptr i 4 0 0]⟩),(d,⟨1,[encI st]⟩)]:=by
  simp only[eHp',za3,AO.ren,List.map_cons,List.map_nil,zc6];rfl
theorem vProcD.enter (i j c d:Nat) (hn:[i,j,c,d].Nodup) (hpr:Proc P f args (eHp n st fin A) r (eHp' n' st fin A') (bOs A')) (hr:r.pure=true) (hv:vals=args.map (PV.ren (rmap [i,j,c,d] S.nx))) (ha:args.all (PV.lowB 4)=true) {len:Nat}(h0:S.obj i=some ⟨4,[bS n st fin j len]⟩) (h1:S.obj j=some ⟨4,A.map encC⟩) (h2:S.obj c=some ⟨1,[.ptr i 4 0 0]⟩) (h3:S.obj d=some ⟨1,[encI st]⟩)
    (hk:K r ⟨[⟨4,A'.map encC⟩],[j],[(i,⟨4,[bS n' st fin S.nx A'.length]⟩)],[i,j,c,d]⟩) (hlen:len=A.length:=by first|rfl|(simp;done)|(simp;omega)):vProcD P S f vals K:=by
  subst hlen
  refine vProcD.of [i,j,c,d] [(i,⟨4,[bS n' st fin S.nx A'.length]⟩)] hpr hn rfl hv (eHp_ok h0 h1 h2 h3) (fun x=>lk_enter hn h2 h3 _ eHp'_set x) ha low_eHp ?_
  rw[zbc _ _ hr]
  have e1:(bOs A').map (AO.ren (pmap [i,j,c,d] S.nx))=[⟨4,A'.map encC⟩]:=by simp only[bOs,List.map_cons,List.map_nil,AO.ren,zaI]
  rw[e1]
  exact hk
theorem vProc.enter (i j c d:Nat) (hn:[i,j,c,d].Nodup) (hpr:Proc P f args (eHp n st fin A) r (eHp' n' st fin A') (bOs A')) (hr:r.pure=true) (hv:vals=args.map (PV.ren (rmap [i,j,c,d] S.nx))) {len:Nat}(h0:S.obj i=some ⟨4,[bS n st fin j len]⟩) (h1:S.obj j=some ⟨4,A.map encC⟩) (h2:S.obj c=some ⟨1,[.ptr i 4 0 0]⟩) (h3:S.obj d=some ⟨1,[encI st]⟩)
    (hk:K r ⟨[⟨4,A'.map encC⟩],[j],[(i,⟨4,[bS n' st fin S.nx A'.length]⟩),(c,⟨1,[.ptr i 4 0 0]⟩),(d,⟨1,[encI st]⟩)],[]⟩) (hlen:len=A.length:=by first|rfl|(simp;done)|(simp;omega)):vProc P S f vals K:=by
  subst hlen
  refine vProc.of [i,j,c,d] hpr hn rfl hv (eHp_ok h0 h1 h2 h3) ?_
  rw[zbc _ _ hr]
  have e1:(bOs A').map (AO.ren (pmap [i,j,c,d] S.nx))=[⟨4,A'.map encC⟩]:=by simp only[bOs,List.map_cons,List.map_nil,AO.ren,zaI]
  rw[e1,eHp'_set]
  exact hk
theorem ResP.enter{ts:List Nat}(hr:retV S ts=r) (hp:r.pure=true) (hg:S.gh=[.mark 0,.mark 1,.mark 2,.mark 3]) (k:Nat) (hk:4≤k) {n2:Int}{len:Nat}{els:List PV}(h0:S.obj 0=some ⟨4,[bS n2 st fin k len]⟩) (h2:S.obj k=some ⟨4,els⟩) (h3:S.obj 2=some ⟨1,[.ptr 0 4 0 0]⟩) (h4:S.obj 3=some ⟨1,[encI st]⟩)
    (hn2:n2=n':=by first|rfl|(simp;done)|(simp;omega)|omega) (hl2:len=A'.length:=by first|rfl|(simp;done)|(simp;omega)) (he2:els=A'.map encC:=by first|rfl|(simp[encC,encI,encS];done)):ResP S ts r (eHp n st fin A) (eHp' n' st fin A') (bOs A'):=by
  subst hn2 hl2 he2
  refine ResP.of [0,1,2,3,k] (by rw[hr];exact sp hp) rfl (by simp;omega) hg rfl (fun i hi=>?_) (fun i o ho=>?_)
  · match i,hi with
    | 0,_|1,_|2,_|3,_=>rfl
  · match i,ho with
    | 0,ho=>
      cases ho
      refine⟨_,h0,rfl,?_⟩
      rw[List.map_cons,List.map_cons,zfI (by simp),zc6];rfl
    | 1,ho=>cases ho
    | 2,ho=>cases ho;exact⟨_,h3,rfl,by simp[sealed,PV.ren,rmap]⟩
    | 3,ho=>cases ho;exact⟨_,h4,rfl,rfl⟩
    | 4,ho=>
      cases ho
      refine⟨_,h2,rfl,?_⟩
      rw[zaP,zaI]
end
theorem zdt (n sta:Int) (fin:List Int) (A:List ArcD) (mk:ByteArray) (hA:A.length≤100000) (hn0:0≤n) (hn:n≤100000):Proc Tryz.prog 49 [encS mk,.ptr 2 1 0 0,.ptr 3 1 0 0] (eHp n sta fin A) (encI n) (eHp' (n+1) sta fin (A++[⟨sta,n,⟨#[]⟩,mk⟩])) (bOs (A++[⟨sta,n,⟨#[]⟩,mk⟩])):=by
  unfold eHp
  refine Proc.intro (ts:=[4]) Tryz.func49 (by kernel_rfl) rfl rfl rfl (Nat.le_of_ble_eq_true rfl) rfl ?_
  simp only[zbe,zbv,List.map_cons,List.map_nil,List.length_cons,List.length_nil,Nat.zero_add,Nat.reduceAdd]
  refine sY [0,1,2] (fun P S K=>K ⟨[(0,S.get 0),(1,S.get 1),(2,S.get 2)],S.hp,S.nx,S.gh⟩) ?_
  all_goals
  refine sZ [0,1,2,5] (fun P S K=>XvLoad P 98 (M S.hp S.nx) (S.get 1) (fun r0 _=>XvFnIV P (M S.hp S.nx) (.fn 48 []) [r0] (fun r1 ef1=>K ⟨[(0,S.get 0),(1,S.get 1),(2,S.get 2),(5,r1)],(Eff.hp ef1 S.nx S.hp),(S.nx+ef1.add.length),S.gh⟩))) fun K hK=>?_
  repeat' (first|(refine hK _ ?_;clear hK K)|refine .inr (vProc.grow0 0 1 (by decide) (zb5 n sta fin A (by omega) (by omega)) rfl rfl rfl rfl ?_)|(refine st ?_;try simp only[bS])|fail)
  all_goals
  refine sZ [5] (fun P S K=>XvLoad P 98 (M S.hp S.nx) (S.get 1) (fun r0 _=>XvLoad P 3 (M S.hp S.nx) (S.get 2) (fun r1 _=>XvFnIV P (M S.hp S.nx) (.fn 50 []) [r0,r1,(S.get 5),(.atom (.string { data := #[] })),(S.get 0)] (fun r4 ef4=>K ⟨[(5,S.get 5)],(Eff.hp ef4 S.nx S.hp),(S.nx+ef4.add.length),S.gh⟩)))) fun K hK=>?_
  repeat' (first|(refine hK _ ?_;clear hK K)|refine .inr (vProc.grow 0 1 (by decide) (zd4 (n+1) sta fin A sta n ⟨#[]⟩ mk (by omega)) rfl rfl rfl rfl ?_)|(refine st ?_;try simp only[bS])|fail)
  all_goals
  refine sY [4] (fun P S K=>K ⟨[(4,(S.get 5))],S.hp,S.nx,S.gh⟩) ?_
  all_goals
  refine Tri.ret ?_
  show ResP _ _ _ _ _ _
  exact ResP.enter rfl rfl rfl 4 (by omega) rfl rfl rfl rfl
theorem zf1{p:Prop}(h:p:=by(refine⟨4,?_,?_,rfl,by simp,rfl,fun _ h _=>absurd h (Nat.not_lt_zero _)⟩<;>(simp only[List.forall_mem_cons];repeat' (first|refine And.intro ?_ ?_|(intro p hp;exact absurd hp List.not_mem_nil)|rfl|exact sp (zaF _)|exact sp (zaH _)|exact sp (zaY _)|exact bsEq1|exact(zau _ _ _ (zah _)).trans (zbE _ _).symm|exact(zau _ _ _ (zag _)).trans (zbD _ _).symm|exact sp (by assumption)|(intro o ho;cases ho;refine⟨by decide,?_⟩;first|(refine LeqS.row rfl ?_ ?_;(next=>(first|rfl|(simp only[List.map_append,List.map_cons,List.map_nil,List.append_nil,List.nil_append,List.append_assoc,List.cons_append,encI,encS,ints,strs];done)|(simp[encI,encS,ints,strs,encC,bS];done)));(next=>(first|rfl|exact zao _|exact zaq _|exact zas _|exact zar _|exact zbi _|exact zaz _|exact zaK _|exact zaL _|(simp[zap,zao,zaq,zas,zar,zaE,PV.pure,zah,zag,zaF,zbi,zaz,zaK,zaL,zaH,encF,encS,encR,zaY];done)));done)|refine⟨_,rfl,rfl,?_⟩)|(simp[St.born,St.known,retV,St.get,St.obj,lk,sealed,PV.ren,renL,rmap,AO.ren,ints,strs,encI,encS,zan,zam,zal,zak,zaD,zaC,zaB,zaA,zaW,zaV,zaU,zaT,bS,zbd,zaP,zaI,encC,zaG,zbB,encF,encR,zaa,zab,zac,encX,zad,zai,zaj,zat,zaJ,zav,zaQ,zaw,zaR]<;>omega))));first|done|fail):p:=h
structure BSt where
  n:Nat
  A:List ArcD
def slB:ByteArray:=⟨#[47]⟩
def mkB (c:UInt8):ByteArray:=⟨#[c]⟩
def zct (f:FormD):ByteArray:=f.lem++slB++f.cls
def zdd (b:BSt) (f:FormD):BSt:=
  ⟨b.n+1+f.word.size+zdG 1 (zct f),b.A++[⟨0,b.n,eB,mkB 49⟩]++zc0 (b.n+1) b.n f.word f.word.size++zd6 1 (b.n+1+f.word.size) (zbq (b.n+1) b.n f.word.size) 1 (zct f)⟩
def zcP (r:RuleD):Int:=if r.put=⟨#[]⟩∨r.suf=⟨#[]⟩ then max r.least 1 else r.least
def rulT (r:RuleD):ByteArray:=r.put++slB++r.cls
def copA (n:Nat) (s:Int):Nat→List ArcD
  | 0=>[]
  | k+1=>copA n s k++zcg (zbq n s k) ((n:Int)+k) 26
theorem zmy (n:Nat) (s:Int):∀k,(copA n s k).length=26 * k
  | 0=>rfl
  | k+1=>by rw[copA,List.length_append,zmy n s k,zb2];omega
def zc9 (b:BSt) (r:RuleD):BSt:=
  ⟨b.n+1+(zcP r).toNat+r.suf.size+zdG 1 (rulT r),b.A++[⟨0,b.n,eB,mkB 50⟩]++copA (b.n+1) b.n (zcP r).toNat++zcg (zbq (b.n+1) b.n (zcP r).toNat) (zbq (b.n+1) b.n (zcP r).toNat) 26++
    zc0 (b.n+1+(zcP r).toNat) (zbq (b.n+1) b.n (zcP r).toNat) r.suf r.suf.size++zd6 1 (b.n+1+(zcP r).toNat+r.suf.size) (zbq (b.n+1+(zcP r).toNat) (zbq (b.n+1) b.n (zcP r).toNat) r.suf.size) 1 (rulT r)⟩
def zew (b:BSt):BSt:=⟨b.n+2,b.A++[⟨0,b.n,eB,mkB 51⟩]++zcg b.n ((b.n:Int)+1) 26++zcg ((b.n:Int)+1) ((b.n:Int)+1) 26++[⟨(b.n:Int)+1,1,eB,slB⟩]⟩
def zbG (l:List FormD):BSt:=l.foldl zdd ⟨2,[]⟩
def zcw (b:BSt) (l:List RuleD):BSt:=l.foldl zc9 b
def zcs (x:LexD):MachD:=⟨(zew (zcw (zbG x.forms) x.rules)).n,0,[1],(zew (zcw (zbG x.forms) x.rules)).A⟩
theorem zhO{α β:Type}(f:β→α→β) (b:β) {l:List α}{k:Nat}(h:k<l.length):(l.take (k+1)).foldl f b=f ((l.take k).foldl f b) l[k]:=by
  rw[List.take_succ_eq_append_getElem h,List.foldl_append];rfl
theorem zcC{x:LexD}(h:za7 x=0):(∀f,f∈x.forms→zdu f=true)∧(∀r,r∈x.rules→zde r=true)∧x.forms.length≤64∧x.rules.length≤32:=by
  unfold za7 at h
  split at h
  · omega
  · split at h
    · rename_i h1 h2
      unfold zfz at h2
      simp only[Bool.and_eq_true,List.all_eq_true] at h2
      exact⟨h2.1.1,h2.1.2,by omega,by omega⟩
    · omega
theorem zgi{f:FormD}(h:zdu f=true) (b:BSt):(zdd b f).n≤b.n+26∧(zdd b f).A.length≤b.A.length+27∧f.word.size≤24∧(zct f).size≤33∧f.lem.size≤24∧f.cls.size≤8∧(f.lem++(⟨#[47]⟩:ByteArray)).size=f.lem.size+1:=by
  unfold zdu at h
  simp only[Bool.and_eq_true,letS_iff] at h
  have h1:=h.1.1.2.2
  have h2:=h.1.2.2.2
  have h3:=h.2.2.2
  have e:(zct f).size=f.lem.size+1+f.cls.size:=by simp[zct,ByteArray.size_append,slB];rfl
  have:=zhX 1 (zct f)
  refine⟨?_,?_,by omega,by omega,by omega,by omega,by rw[ByteArray.size_append];rfl⟩
  · simp only[zdd];omega
  · simp only[zdd,List.length_append,zdR,zfc,List.length_cons,List.length_nil];omega
theorem zd9{r:RuleD}(h:zde r=true) (b:BSt):(zc9 b r).n≤b.n+18∧(zc9 b r).A.length≤b.A.length+245∧r.suf.size≤8∧(rulT r).size≤17∧0≤zcP r∧zcP r≤8∧0≤r.least∧r.least≤8∧r.put.size≤8∧r.cls.size≤8∧(r.put++(⟨#[47]⟩:ByteArray)).size=r.put.size+1:=by
  unfold zde at h
  simp only[Bool.and_eq_true,letS_iff,decide_eq_true_eq] at h
  have h1:=h.1.1.1.1.2.2
  have h2:=h.1.1.1.2.2.2
  have h3:=h.1.1.2.2.2
  have h4:=h.1.2
  have h5:=h.2
  have e:(rulT r).size=r.put.size+1+r.cls.size:=by simp[rulT,ByteArray.size_append,slB];rfl
  have hL:0≤zcP r∧zcP r≤8:=by unfold zcP;split<;>omega
  have hw0:zdG 1 (rulT r)=0:=by rw[zdG,if_neg (by omega)]
  refine⟨?_,?_,by omega,by omega,hL.1,hL.2,h4,h5,by omega,by omega,by rw[ByteArray.size_append];rfl⟩
  · simp only[zc9];omega
  · simp only[zc9,List.length_append,zdR,zfc,zmy,zb2,List.length_cons,List.length_nil];omega
def zbx:PV:=.agg [encI 0,encI 0,.atom (.slice none 0 0),.atom (.slice none 0 0)]
def zqS (x:LexD):PV:=if za7 x=0 then .tup [encM (zcs x),encI 0] else .tup [zbx,encI (za7 x)]
theorem bsEq{H:Nat→Option AO}{keep:Nat→Bool}{ρ:Nat→Nat}{n n' st:Int}{fin:List Int}{ri rj len len':Nat}(hk:keep ri=true:=by rfl) (hr:ρ rj=ri:=by rfl) (hn:n=n':=by first|rfl|(simp;done)|(simp;omega)) (hl:len=len':=by first|rfl|(simp;done)|(simp;omega)):
    [bS n st fin ri len].map (sealed H keep 4)=[bS n' st fin rj len'].map (PV.ren ρ):=by
  subst hn hl
  rw[List.map_cons,List.map_cons,zfI hk,zc6,hr];rfl
theorem bsEq1{H:Nat→Option AO}{keep:Nat→Bool}{ρ:Nat→Nat}{n n':Int}{ri rj len len':Nat}(hk:keep ri=true:=by rfl) (hr:ρ rj=ri:=by rfl) (hn:n=n':=by first|rfl|(simp;done)|(simp;omega)) (hl:len=len':=by first|rfl|(simp;done)|(simp[zdd,zc9,zew];done)|(simp[zdd,zc9,zew];omega)):
    [bS n 0 [1] ri len].map (sealed H keep 4)=[bS n' 0 [1] rj len'].map (PV.ren ρ):=bsEq hk hr hn hl
theorem zqr{H:Nat→Option AO}{n st:Int}{fin:List Int}{A:List ArcD}{ri len:Nat}(hH:H ri=some ⟨4,A.map encC⟩) (hl:len=A.length):sealed H (fun _=>false) 6 (.tup [bS n st fin ri len,encI 0])=.tup [encM ⟨n,st,fin,A⟩,encI 0]:=by
  subst hl
  have h1:∀k,sealed H (fun _=>false) (k+1) (ints fin)=ints fin:=fun k=>by simp[ints,sealed,zay H (fun _=>false) _ (zbn encI (fun _=>rfl) fin)]
  simp[-List.map_map,sealed,bS,hH,encM,zaN,zaP,zaG,h1,encI]
theorem zhI (x:LexD) (hx:HeldX x):Pure Tryz.prog 21 [encX x] (zqS x) []:=by
  have hnf:=hx.nforms
  have hnr:=hx.nrules
  have hnp:=hx.nprefs
  have hcf:=zcC (x:=x)
  obtain⟨V,hV⟩:∃V,za7 x=V:=⟨_,rfl⟩
  rw[hV] at hcf
  have hval:=zef x hx
  rw[hV] at hval
  refine Pure.introR (rv:=[.cell 2 54,.tmp 3]) Tryz.func21 (by kernel_rfl) rfl rfl rfl (Nat.le_of_ble_eq_true rfl) ?_ ?_
  · simp[zaF]
  refine sZ [1,2] (fun P S K=>XvBox S.nx (S.get 0) (fun r0 ef0=>XvAlloc P 54 (S.nx+ef0.add.length) (fun r1 ef1=>K ⟨[(1,r0),(2,r1)],(Eff.hp ef1 (S.nx+ef0.add.length) (Eff.hp ef0 S.nx S.hp)),((S.nx+ef0.add.length)+ef1.add.length),S.gh⟩))) fun K hK=>?_
  repeat' (first|(refine hK _ ?_;clear hK K)|refine And.intro ?_ ?_|exact cl|(refine st ?_;try simp only[encX,zaa,zab,zac,encF,encR,bS,zbx])|fail)
  all_goals
  refine Tri.seq ?_
  refine sZ [1,2,4] (fun P S K=>XvLoad P 27 (M S.hp S.nx) (S.get 1) (fun r0 _=>XvFnIV P (M S.hp S.nx) (.fn 13 []) [r0] (fun r1 ef1=>K ⟨[(1,S.get 1),(2,S.get 2),(4,r1)],(Eff.hp ef1 S.nx S.hp),(S.nx+ef1.add.length),S.gh⟩))) fun K hK=>?_
  repeat' (first|(refine hK _ ?_;clear hK K)|refine .inl ⟨_,_,hval,?_⟩|(refine st ?_;try simp only[encX,zaa,zab,zac,encF,encR,bS,zbx])|fail)
  all_goals
  refine sY [1,2,4,21] (fun P S K=>XvBinOV P .neq 40 (.const (.int .i64 0)) (S.get 4) (.atom (.int .i64 0)) (fun r1 _=>K ⟨[(1,S.get 1),(2,S.get 2),(4,S.get 4),(21,r1)],S.hp,S.nx,S.gh⟩)) ?_
  all_goals
  refine Tri.cond rfl (fun h21=>?_) (fun h21=>?_)
  ·try (cases h21;done)
   all_goals (try simp only[CQ] at h21)
   all_goals
   refine sZ [2,3] (fun P S K=>XvBuild P 54 [] (fun r0 _=>XvStore P 54 (M S.hp S.nx) (S.get 2) r0 (fun r2 ef2=>K ⟨[(2,S.get 2),(3,(S.get 4))],(Eff.hp ef2 S.nx S.hp),(S.nx+ef2.add.length),S.gh⟩))) fun K hK=>?_
   repeat' (first|(refine hK _ ?_;clear hK K)|refine And.intro ?_ ?_|exact cl|(refine st ?_;try simp only[encX,zaa,zab,zac,encF,encR,bS,zbx])|fail)
   all_goals
   refine Tri.ret ?_
   show ResR _ _ _ _ _
   unfold zqS
   rw[if_neg (by omega),hV]
   refine ResR.cells zbx (encI V) [] rfl rfl rfl
  try (cases h21;done)
  all_goals (try simp only[CQ] at h21)
  all_goals
  refine Tri.skip ?_
  refine sZ [1,2,5] (fun P S K=>XvBuild P 100 [] (fun r0 _=>XvBox S.nx r0 (fun r1 ef1=>XvAlloc P 98 (S.nx+ef1.add.length) (fun r2 ef2=>XvStore P 98 (M (Eff.hp ef2 (S.nx+ef1.add.length) (Eff.hp ef1 S.nx S.hp)) ((S.nx+ef1.add.length)+ef2.add.length)) r2 r1 (fun r3 ef3=>K ⟨[(1,S.get 1),(2,S.get 2),(5,r2)],(Eff.hp ef3 ((S.nx+ef1.add.length)+ef2.add.length) (Eff.hp ef2 (S.nx+ef1.add.length) (Eff.hp ef1 S.nx S.hp))),(((S.nx+ef1.add.length)+ef2.add.length)+ef3.add.length),S.gh⟩))))) fun K hK=>?_
  repeat' (first|(refine hK _ ?_;clear hK K)|refine And.intro ?_ ?_|exact cl|(refine st ?_;try simp only[encX,zaa,zab,zac,encF,encR,bS,zbx])|fail)
  obtain rfl:V=0:=by omega
  obtain⟨hff,hrr,hfl,hrl⟩:=hcf rfl
  refine Tri.bornF 2 3 4 4 [encI 0,encI 0,.atom (.slice none 0 0),.atom (.slice none 0 0)] rfl rfl ?_
  refine Tri.nilF 2 2 1 4 [encI 0,encI 0,.atom (.slice none 0 0),.ob 4 4 0 0] rfl rfl ?_
  all_goals
  refine sD 5 [1,2,5,6,7] (fun P GD S K=>XvLoad P 98 (M S.hp S.nx) (S.get 5) (fun r0 ef0=>XvFnDV P (M S.hp S.nx) (.fn 48 []) [r0] (fun r1 ef1=>XvLoad P 98 (M (Eff.hp ef1 S.nx S.hp) (S.nx+ef1.add.length)) (S.get 5) (fun r2 ef2=>XvFnDV P (M (Eff.hp ef1 S.nx S.hp) (S.nx+ef1.add.length)) (.fn 48 []) [r2] (fun r3 ef3=>XvAlloc P 3 ((S.nx+ef1.add.length)+ef3.add.length) (fun r4 ef4=>(trOk S.nx GD [⟨S.nx,0,ef0.rd,[],[]⟩,(Eff.tr ef1 S.nx),⟨(S.nx+ef1.add.length),0,ef2.rd,[],[]⟩,(Eff.tr ef3 (S.nx+ef1.add.length)),(Eff.tr ef4 ((S.nx+ef1.add.length)+ef3.add.length))]=true∧XvStore P 3 (M (Eff.hp ef4 ((S.nx+ef1.add.length)+ef3.add.length) (Eff.hp ef3 (S.nx+ef1.add.length) (Eff.hp ef1 S.nx S.hp))) (((S.nx+ef1.add.length)+ef3.add.length)+ef4.add.length)) r4 r1 (fun r5 ef5=>K ⟨[(1,S.get 1),(2,S.get 2),(5,S.get 5),(6,r4),(7,r3)],(Eff.hp ef5 (((S.nx+ef1.add.length)+ef3.add.length)+ef4.add.length) (Eff.hp ef4 ((S.nx+ef1.add.length)+ef3.add.length) (Eff.hp ef3 (S.nx+ef1.add.length) (Eff.hp ef1 S.nx S.hp)))),((((S.nx+ef1.add.length)+ef3.add.length)+ef4.add.length)+ef5.add.length),S.gh⟩)))))))) fun K hK=>?_
  repeat' (first|(refine hK _ ?_;clear hK K)|(refine(?_:trOk _ _ _=true);kernel_rfl)|refine And.intro ?_ ?_|exact cl|refine .inr (vProcD.grow0 2 4 (by decide) (zb5 0 0 [] [] (by omega) (by omega)) rfl rfl rfl rfl rfl ?_)|refine .inr (vProcD.grow0 2 4 (by decide) (zb5 (0+1) 0 [] [] (by omega) (by omega)) rfl rfl rfl rfl rfl ?_)|(refine st ?_;try simp only[encX,zaa,zab,zac,encF,encR,bS,zbx])|fail)
  all_goals
  refine sD 13 [1,2,5,6,7] (fun P GD S K=>XvLoad P 98 (M S.hp S.nx) (S.get 5) (fun r0 ef0=>XvLoad P 98 (M S.hp S.nx) (S.get 5) (fun r1 ef1=>XvLoad P 3 (M S.hp S.nx) (S.get 6) (fun r2 ef2=>XvBuildS P 22 1 S.nx [(0,(S.get 7))] (fun r4 ef4=>XvNil r0 (fun r5 ef5=>XvFieldAddr P 100 0 r5 (fun r6 ef6=>XvFieldAddr P 54 1 r6 (fun r7 ef7=>XvStore P 3 (M (Eff.hp ef4 S.nx S.hp) (S.nx+ef4.add.length)) r7 r2 (fun r8 ef8=>XvNil r1 (fun r9 ef9=>XvFieldAddr P 100 0 r9 (fun r10 ef10=>XvFieldAddr P 54 2 r10 (fun r11 ef11=>XvStore P 22 (M (Eff.hp ef8 (S.nx+ef4.add.length) (Eff.hp ef4 S.nx S.hp)) ((S.nx+ef4.add.length)+ef8.add.length)) r11 r4 (fun r12 ef12=>(trOk S.nx GD [⟨S.nx,0,ef0.rd,[],[]⟩,⟨S.nx,0,ef1.rd,[],[]⟩,⟨S.nx,0,ef2.rd,[],[]⟩,⟨S.nx,0,[],[],[]⟩,(Eff.tr ef4 S.nx),⟨(S.nx+ef4.add.length),0,ef5.rd,[],[]⟩,⟨(S.nx+ef4.add.length),0,ef6.rd,[],[]⟩,⟨(S.nx+ef4.add.length),0,ef7.rd,[],[]⟩,(Eff.tr ef8 (S.nx+ef4.add.length)),⟨((S.nx+ef4.add.length)+ef8.add.length),0,ef9.rd,[],[]⟩,⟨((S.nx+ef4.add.length)+ef8.add.length),0,ef10.rd,[],[]⟩,⟨((S.nx+ef4.add.length)+ef8.add.length),0,ef11.rd,[],[]⟩,(Eff.tr ef12 ((S.nx+ef4.add.length)+ef8.add.length))]=true∧K ⟨[(1,S.get 1),(2,S.get 2),(5,S.get 5),(6,S.get 6),(7,S.get 7)],(Eff.hp ef12 ((S.nx+ef4.add.length)+ef8.add.length) (Eff.hp ef8 (S.nx+ef4.add.length) (Eff.hp ef4 S.nx S.hp))),(((S.nx+ef4.add.length)+ef8.add.length)+ef12.add.length),S.gh⟩)))))))))))))) fun K hK=>?_
  repeat' (first|(refine hK _ ?_;clear hK K)|(refine(?_:trOk _ _ _=true);kernel_rfl)|refine And.intro ?_ ?_|(refine st ?_;try simp only[encX,zaa,zab,zac,encF,encR,bS,zbx])|fail)
  all_goals
  refine sZ [1,2,5,7,8] (fun P S K=>XvMakeFV (.func 49) [] [(S.get 5),(S.get 6)] (fun r0 _=>K ⟨[(1,S.get 1),(2,S.get 2),(5,S.get 5),(7,S.get 7),(8,r0)],S.hp,S.nx,S.gh⟩)) fun K hK=>?_
  repeat' (first|(refine hK _ ?_;clear hK K)|((first|refine zax (fun hg=>?_) (fun hg=>?_)|refine fun(hg:(_:Prop))=>?_)<;>((try simp only[BQ] at hg);try (exfalso;omega)))|(refine st ?_;try simp only[encX,zaa,zab,zac,encF,encR,bS,zbx])|fail)
  all_goals
  refine Tri.seq ?_
  refine sZ [1,2,5,7,8,43,44,45] (fun P S K=>XvFieldAddr P 27 0 (S.get 1) (fun r0 _=>XvLoad P 23 (M S.hp S.nx) r0 (fun r1 _=>XvLen P 23 (M S.hp S.nx) r1 (fun r2 _=>K ⟨[(1,S.get 1),(2,S.get 2),(5,S.get 5),(7,S.get 7),(8,S.get 8),(43,r1),(44,r2),(45,(.atom (.int .i64 0)))],S.hp,S.nx,S.gh⟩)))) fun K hK=>?_
  repeat' (first|(refine hK _ ?_;clear hK K)|refine And.intro ?_ ?_|exact cl|(refine st ?_;try simp only[encX,zaa,zab,zac,encF,encR,bS,zbx])|fail)
  all_goals
  refine Tri.block ?_
  refine Tri.loop (α:=(b:BSt) ×' (i:Nat) ×' (i≤x.forms.length∧b=zbG (x.forms.take i)∧b.n≤2+26 * i∧b.A.length≤27 * i)) (fun z=>(fun(b:BSt) (i:Nat)=>(⟨[(1,.ptr 0 3 0 0),(2,.ptr 1 4 0 0),(5,.ptr 3 1 0 0),(7,encI 1),(8,.fn 49 [.ptr 3 1 0 0,.ptr 4 1 0 0]),(43,zaa x.forms),(44,encI x.forms.length),(45,encI i)],[(0,some ⟨3,[encX x]⟩),(1,some ⟨4,[.agg [encI 0,encI 0,.atom (.slice none 0 0),.atom (.slice none 0 0)]]⟩),(2,some ⟨4,[bS b.n 0 [1] 5 b.A.length]⟩),(3,some ⟨1,[.ptr 2 4 0 0]⟩),(4,some ⟨1,[encI 0]⟩),(5,some ⟨4,b.A.map encC⟩)],6,[]⟩:St)) z.1 z.2.1) (fun z=>(fun(b:BSt) (i:Nat)=>x.forms.length - i) z.1 z.2.1) ⟨⟨2,[]⟩,0,⟨Nat.zero_le _,rfl,by decide,by decide⟩⟩ [0,1,2,3,5,4] ?_ ?_
  ·exact zf1
  rintro⟨b,i,⟨hi,hb,hbn,hbA⟩⟩
  refine sY [1,2,5,7,8,43,44,45,46] (fun P S K=>XvBinOV P .lss 3 (.tmp 44) (S.get 45) (S.get 44) (fun r0 _=>K ⟨[(1,S.get 1),(2,S.get 2),(5,S.get 5),(7,S.get 7),(8,S.get 8),(43,S.get 43),(44,S.get 44),(45,S.get 45),(46,r0)],S.hp,S.nx,S.gh⟩)) ?_
  all_goals
  refine Tri.seq ?_
  refine Tri.cond rfl (fun h46=>?_) (fun h46=>?_)
  ·try (cases h46;done)
   all_goals (try simp only[CQ] at h46)
   all_goals
   refine Tri.skip ?_
   refine Tri.seq ?_
   refine Tri.block ?_
   have hil:i<x.forms.length:=by omega
   obtain⟨hl1,hl2,hl3,hl4,hl5,hl6,hl7⟩:=zgi (hff _ (zb0 hil)) b
   have hsl:(⟨#[47]⟩:ByteArray).size=1:=rfl
   refine sZ [1,2,5,7,8,10,43,44,45] (fun P S K=>XvIndexAddr P 23 (S.get 43) (S.get 45) (fun r0 _=>XvLoad P 73 (M S.hp S.nx) r0 (fun r1 _=>XvAlloc P 73 S.nx (fun r2 ef2=>XvStore P 73 (M (Eff.hp ef2 S.nx S.hp) (S.nx+ef2.add.length)) r2 r1 (fun r3 ef3=>K ⟨[(1,S.get 1),(2,S.get 2),(5,S.get 5),(7,S.get 7),(8,S.get 8),(10,r2),(43,S.get 43),(44,S.get 44),(45,S.get 45)],(Eff.hp ef3 (S.nx+ef2.add.length) (Eff.hp ef2 S.nx S.hp)),((S.nx+ef2.add.length)+ef3.add.length),S.gh⟩))))) fun K hK=>?_
   repeat' (first|(refine hK _ ?_;clear hK K)|refine And.intro ?_ ?_|exact cl|(refine st ?_;try simp only[encX,zaa,zab,zac,encF,encR,bS,zbx,zaS hil])|fail)
   all_goals
   refine rD 15 [1,2,5,7,8,43,44,45] (fun P GD S K=>XvLoad P 98 (M S.hp S.nx) (S.get 5) (fun r0 ef0=>XvLoad P 98 (M S.hp S.nx) (S.get 5) (fun r1 ef1=>XvFnDV P (M S.hp S.nx) (S.get 8) [(.atom (.string { data := #[49] }))] (fun r3 ef3=>XvFieldAddr P 73 0 (S.get 10) (fun r4 ef4=>XvLoad P 9 (M (Eff.hp ef3 S.nx S.hp) (S.nx+ef3.add.length)) r4 (fun r5 ef5=>XvFnDV P (M (Eff.hp ef3 S.nx S.hp) (S.nx+ef3.add.length)) (.fn 52 []) [r1,r3,r5] (fun r6 ef6=>XvFieldAddr P 73 1 (S.get 10) (fun r8 ef8=>XvLoad P 9 (M (Eff.hp ef6 (S.nx+ef3.add.length) (Eff.hp ef3 S.nx S.hp)) ((S.nx+ef3.add.length)+ef6.add.length)) r8 (fun r9 ef9=>XvBinOV P .add 9 (.const (.string { data := #[47] })) r9 (.atom (.string { data := #[47] })) (fun r10 ef10=>XvFieldAddr P 73 2 (S.get 10) (fun r11 ef11=>XvLoad P 9 (M (Eff.hp ef6 (S.nx+ef3.add.length) (Eff.hp ef3 S.nx S.hp)) ((S.nx+ef3.add.length)+ef6.add.length)) r11 (fun r12 ef12=>XvBinOV P .add 9 (.tmp 61) r10 r12 (fun r13 ef13=>XvFnDV P (M (Eff.hp ef6 (S.nx+ef3.add.length) (Eff.hp ef3 S.nx S.hp)) ((S.nx+ef3.add.length)+ef6.add.length)) (.fn 51 []) [r0,r6,(S.get 7),r13] (fun r14 ef14=>(trOk S.nx GD [⟨S.nx,0,ef0.rd,[],[]⟩,⟨S.nx,0,ef1.rd,[],[]⟩,⟨S.nx,0,[],[],[]⟩,(Eff.tr ef3 S.nx),⟨(S.nx+ef3.add.length),0,ef4.rd,[],[]⟩,⟨(S.nx+ef3.add.length),0,ef5.rd,[],[]⟩,(Eff.tr ef6 (S.nx+ef3.add.length)),⟨((S.nx+ef3.add.length)+ef6.add.length),0,[],[],[]⟩,⟨((S.nx+ef3.add.length)+ef6.add.length),0,ef8.rd,[],[]⟩,⟨((S.nx+ef3.add.length)+ef6.add.length),0,ef9.rd,[],[]⟩,⟨((S.nx+ef3.add.length)+ef6.add.length),0,ef10.rd,[],[]⟩,⟨((S.nx+ef3.add.length)+ef6.add.length),0,ef11.rd,[],[]⟩,⟨((S.nx+ef3.add.length)+ef6.add.length),0,ef12.rd,[],[]⟩,⟨((S.nx+ef3.add.length)+ef6.add.length),0,ef13.rd,[],[]⟩,(Eff.tr ef14 ((S.nx+ef3.add.length)+ef6.add.length))]=true∧K ⟨[(1,S.get 1),(2,S.get 2),(5,S.get 5),(7,S.get 7),(8,S.get 8),(43,S.get 43),(44,S.get 44),(45,S.get 45)],(Eff.hp ef14 ((S.nx+ef3.add.length)+ef6.add.length) (Eff.hp ef6 (S.nx+ef3.add.length) (Eff.hp ef3 S.nx S.hp))),(((S.nx+ef3.add.length)+ef6.add.length)+ef14.add.length),S.gh⟩))))))))))))))) fun K hK=>?_
   repeat' (first|(refine hK _ ?_;clear hK K)|(refine(?_:trOk _ _ _=true);kernel_rfl)|refine And.intro ?_ ?_|exact cl|refine .inr (vProcD.enter 2 5 3 4 (by decide) (zdt (b.n:Int) 0 [1] b.A (mkB 49) (by omega) (by omega) (by omega)) rfl rfl rfl rfl rfl rfl rfl ?_)|refine .inr (vProcD.grow 2 7 (by decide) (zfb (b.n+1) 0 [1] (b.A++[⟨0,b.n,eB,mkB 49⟩]) (b.n:Int) (fF x.forms i).word (by simp;omega) (by omega) (by omega)) rfl rfl rfl rfl rfl ?_)|refine .inr (vProcD.grow 2 8 (by decide) (zeF (b.n+1+(fF x.forms i).word.size) 0 [1] (b.A++[⟨0,b.n,eB,mkB 49⟩]++zc0 (b.n+1) b.n (fF x.forms i).word (fF x.forms i).word.size) (zbq (b.n+1) b.n (fF x.forms i).word.size) 1 (zct (fF x.forms i)) 1 (by simp[zdR];omega) (by omega) (by omega) (by omega)) rfl rfl rfl rfl rfl ?_)|refine .inr (vProcD.enter 2 5 3 4 (by decide) (zdt (c.n:Int) 0 [1] c.A (mkB 51) (by omega) (by omega) (by omega)) rfl rfl rfl rfl rfl rfl rfl ?_)|refine .inr (vProcD.grow0 2 6 (by decide) (zb5 ((c.n:Int)+1) 0 [1] (c.A++[ArcD.mk 0 c.n eB (mkB 51)]) (by omega) (by omega)) rfl rfl rfl rfl rfl ?_)|(refine st ?_;try simp only[encX,zaa,zab,zac,encF,encR,bS,zbx])|fail)
   all_goals try simp (disch:=omega) only[zaf,zae]
   all_goals
   refine rY [1,2,5,7,8,43,44,45] (fun P S K=>XvBinOV P .add 3 (.const (.int .i64 1)) (S.get 45) (.atom (.int .i64 1)) (fun r0 _=>K ⟨[(1,S.get 1),(2,S.get 2),(5,S.get 5),(7,S.get 7),(8,S.get 8),(43,S.get 43),(44,S.get 44),(45,r0)],S.hp,S.nx,S.gh⟩)) ?_
   all_goals try simp (disch:=omega) only[zaf,zae]
   all_goals
   refine⟨⟨zdd b (fF x.forms i),i+1,by omega,by rw[hb,zbG,zbG,zhO _ _ hil,zek hil],by omega,by omega⟩,[0,1,2,3,4,9],by dsimp only;omega,?_⟩
   exact zf1
  try (cases h46;done)
  all_goals (try simp only[CQ] at h46)
  all_goals
  refine Tri.exit ?_
  refine Tri.seq ?_
  have hbf:b=zbG x.forms:=by rw[hb,List.take_of_length_le (by omega)]
  refine sZ [2,5,7,8,66,67,68] (fun P S K=>XvFieldAddr P 27 1 (S.get 1) (fun r0 _=>XvLoad P 24 (M S.hp S.nx) r0 (fun r1 _=>XvLen P 24 (M S.hp S.nx) r1 (fun r2 _=>K ⟨[(2,S.get 2),(5,S.get 5),(7,S.get 7),(8,S.get 8),(66,r1),(67,r2),(68,(.atom (.int .i64 0)))],S.hp,S.nx,S.gh⟩)))) fun K hK=>?_
  repeat' (first|(refine hK _ ?_;clear hK K)|refine And.intro ?_ ?_|exact cl|(refine st ?_;try simp only[encX,zaa,zab,zac,encF,encR,bS,zbx])|fail)
  all_goals
  refine Tri.block ?_
  refine Tri.loop (α:=(c:BSt) ×' (j:Nat) ×' (j≤x.rules.length∧c=zcw b (x.rules.take j)∧c.n≤1666+18 * j∧c.A.length≤1728+245 * j)) (fun z=>(fun(c:BSt) (j:Nat)=>(⟨[(2,.ptr 1 4 0 0),(5,.ptr 3 1 0 0),(7,encI 1),(8,.fn 49 [.ptr 3 1 0 0,.ptr 4 1 0 0]),(66,zab x.rules),(67,encI x.rules.length),(68,encI j)],[(0,some ⟨3,[encX x]⟩),(1,some ⟨4,[zbx]⟩),(2,some ⟨4,[bS c.n 0 [1] 5 c.A.length]⟩),(3,some ⟨1,[.ptr 2 4 0 0]⟩),(4,some ⟨1,[encI 0]⟩),(5,some ⟨4,c.A.map encC⟩)],6,[]⟩:St)) z.1 z.2.1) (fun z=>(fun(c:BSt) (j:Nat)=>x.rules.length - j) z.1 z.2.1) ⟨b,0,⟨Nat.zero_le _,rfl,by omega,by omega⟩⟩ [0,1,2,3,4,5] ?_ ?_
  ·exact zf1
  rintro⟨c,j,⟨hj,hc,hcn,hcA⟩⟩
  refine sY [2,5,7,8,66,67,68,69] (fun P S K=>XvBinOV P .lss 3 (.tmp 67) (S.get 68) (S.get 67) (fun r0 _=>K ⟨[(2,S.get 2),(5,S.get 5),(7,S.get 7),(8,S.get 8),(66,S.get 66),(67,S.get 67),(68,S.get 68),(69,r0)],S.hp,S.nx,S.gh⟩)) ?_
  all_goals
  refine Tri.seq ?_
  refine Tri.cond rfl (fun h69=>?_) (fun h69=>?_)
  ·try (cases h69;done)
   all_goals (try simp only[CQ] at h69)
   all_goals
   refine Tri.skip ?_
   refine Tri.seq ?_
   refine Tri.block ?_
   have hjl:j<x.rules.length:=by omega
   obtain⟨hm1,hm2,hm3,hm4,hm5,hm6,hm7,hm8,hm9,hm10,hm11⟩:=zd9 (hrr _ (zcD hjl)) c
   have hsl:(⟨#[47]⟩:ByteArray).size=1:=rfl
   refine sZ [2,5,7,8,12,66,67,68] (fun P S K=>XvIndexAddr P 24 (S.get 66) (S.get 68) (fun r0 _=>XvLoad P 90 (M S.hp S.nx) r0 (fun r1 _=>XvAlloc P 90 S.nx (fun r2 ef2=>XvStore P 90 (M (Eff.hp ef2 S.nx S.hp) (S.nx+ef2.add.length)) r2 r1 (fun r3 ef3=>K ⟨[(2,S.get 2),(5,S.get 5),(7,S.get 7),(8,S.get 8),(12,r2),(66,S.get 66),(67,S.get 67),(68,S.get 68)],(Eff.hp ef3 (S.nx+ef2.add.length) (Eff.hp ef2 S.nx S.hp)),((S.nx+ef2.add.length)+ef3.add.length),S.gh⟩))))) fun K hK=>?_
   repeat' (first|(refine hK _ ?_;clear hK K)|refine And.intro ?_ ?_|exact cl|(refine st ?_;try simp only[encX,zaa,zab,zac,encF,encR,bS,zbx,zcf hjl])|fail)
   all_goals
   refine sZ [2,5,7,8,12,13,66,67,68] (fun P S K=>XvFnIV P (M S.hp S.nx) (S.get 8) [(.atom (.string { data := #[50] }))] (fun r1 ef1=>K ⟨[(2,S.get 2),(5,S.get 5),(7,S.get 7),(8,S.get 8),(12,S.get 12),(13,r1),(66,S.get 66),(67,S.get 67),(68,S.get 68)],(Eff.hp ef1 S.nx S.hp),(S.nx+ef1.add.length),S.gh⟩)) fun K hK=>?_
   repeat' (first|(refine hK _ ?_;clear hK K)|refine .inr (vProc.enter 2 5 3 4 (by decide) (zdt (c.n:Int) 0 [1] c.A (mkB 50) (by omega) (by omega) (by omega)) rfl rfl rfl rfl rfl rfl ?_)|(refine st ?_;try simp only[encX,zaa,zab,zac,encF,encR,bS,zbx])|fail)
   all_goals
   refine sZ [2,5,7,8,12,13,14,66,67,68] (fun P S K=>XvFieldAddr P 90 3 (S.get 12) (fun r0 _=>XvLoad P 3 (M S.hp S.nx) r0 (fun r1 _=>K ⟨[(2,S.get 2),(5,S.get 5),(7,S.get 7),(8,S.get 8),(12,S.get 12),(13,S.get 13),(14,r1),(66,S.get 66),(67,S.get 67),(68,S.get 68)],S.hp,S.nx,S.gh⟩))) fun K hK=>?_
   repeat' (first|(refine hK _ ?_;clear hK K)|refine And.intro ?_ ?_|exact cl|(refine st ?_;try simp only[encX,zaa,zab,zac,encF,encR,bS,zbx])|fail)
   all_goals
   refine Tri.cut (α:=(lst:Int) ×' (lst=zcP (fR x.rules j))) (fun⟨lst,hlst⟩=>⟨[(2,.ptr 1 4 0 0),(5,.ptr 3 1 0 0),(7,encI 1),(8,.fn 49 [.ptr 3 1 0 0,.ptr 4 1 0 0]),(12,.ptr 6 4 0 0),(13,encI c.n),(14,encI lst),(66,zab x.rules),(67,encI x.rules.length),(68,encI j)],[(0,some ⟨3,[encX x]⟩),(1,some ⟨4,[zbx]⟩),(2,some ⟨4,[bS ((c.n:Int)+1) 0 [1] 5 (c.A.length+1)]⟩),(3,some ⟨1,[.ptr 2 4 0 0]⟩),(4,some ⟨1,[encI 0]⟩),(5,some ⟨4,(c.A++[ArcD.mk 0 c.n eB (mkB 50)]).map encC⟩),(6,some ⟨4,[encR (fR x.rules j)]⟩)],7,[]⟩) ?_ ?_
   ·skip
    refine sZ [2,5,7,8,12,13,14,66,67,68,83] (fun P S K=>XvFieldAddr P 90 1 (S.get 12) (fun r0 _=>XvLoad P 9 (M S.hp S.nx) r0 (fun r1 _=>XvBinOV P .eql 9 (.const (.string { data := #[] })) r1 (.atom (.string { data := #[] })) (fun r2 _=>Xgq r2 false (fun k=>XvFieldAddr P 90 0 (S.get 12) (fun r4 _=>k r4)) (fun g4 r4=>Xgq g4 false (fun k=>XvLoad P 9 (M S.hp S.nx) r4 (fun r5 _=>k r5)) (fun g5 r5=>Xgq g5 false (fun k=>XvBinOV P .eql 9 (.const (.string { data := #[] })) r5 (.atom (.string { data := #[] })) (fun r6 _=>k r6)) (fun g6 r6=>XvPick g6 (.atom (.bool true)) r6 (fun r7 _=>K ⟨[(2,S.get 2),(5,S.get 5),(7,S.get 7),(8,S.get 8),(12,S.get 12),(13,S.get 13),(14,S.get 14),(66,S.get 66),(67,S.get 67),(68,S.get 68),(83,r7)],S.hp,S.nx,S.gh⟩)))))))) fun K hK=>?_
    repeat' (first|(refine hK _ ?_;clear hK K)|((first|refine zax (fun hg=>?_) (fun hg=>?_)|refine fun(hg:(_:Prop))=>?_)<;>((try simp only[BQ] at hg);try (exfalso;omega)))|(refine st ?_;try simp only[encX,zaa,zab,zac,encF,encR,bS,zbx])|fail)
    all_goals
    refine Tri.cond rfl (fun h83=>?_) (fun h83=>?_)
    ·try (cases h83;done)
     all_goals (try simp only[CQ] at h83)
     all_goals
     refine rZ [2,5,7,8,12,13,14,66,67,68] (fun P S K=>XvMinMax true (S.get 14) (.atom (.int .i64 1)) (fun r1 _=>K ⟨[(2,S.get 2),(5,S.get 5),(7,S.get 7),(8,S.get 8),(12,S.get 12),(13,S.get 13),(14,r1),(66,S.get 66),(67,S.get 67),(68,S.get 68)],S.hp,S.nx,S.gh⟩)) fun K hK=>?_
     repeat' (first|(refine hK _ ?_;clear hK K)|((first|refine zax (fun hg=>?_) (fun hg=>?_)|refine fun(hg:(_:Prop))=>?_)<;>((try simp only[BQ] at hg);try (exfalso;omega)))|(refine st ?_;try simp only[encX,zaa,zab,zac,encF,encR,bS,zbx])|fail)
     all_goals
     refine⟨(by first|exact⟨(fR x.rules j).least,(if_neg (not_or.2 ⟨hg,h83⟩)).symm⟩|exact⟨max (fR x.rules j).least 1,(if_pos (Or.inl hg)).symm⟩|exact⟨max (fR x.rules j).least 1,(if_pos (Or.inr h83)).symm⟩),[0,1,2,3,4,7,6],?_⟩
     exact zf1
    try (cases h83;done)
    all_goals (try simp only[CQ] at h83)
    all_goals
    refine Tri.skip ?_
    refine⟨(by first|exact⟨(fR x.rules j).least,(if_neg (not_or.2 ⟨hg,h83⟩)).symm⟩|exact⟨max (fR x.rules j).least 1,(if_pos (Or.inl hg)).symm⟩|exact⟨max (fR x.rules j).least 1,(if_pos (Or.inr h83)).symm⟩),[0,1,2,3,4,7,6],?_⟩
    exact zf1
   rintro⟨lst,hlst⟩
   refine Tri.seq ?_
   refine sY [2,5,7,8,12,13,66,67,68,86,87] (fun P S K=>K ⟨[(2,S.get 2),(5,S.get 5),(7,S.get 7),(8,S.get 8),(12,S.get 12),(13,S.get 13),(66,S.get 66),(67,S.get 67),(68,S.get 68),(86,(S.get 14)),(87,(.atom (.int .i64 0)))],S.hp,S.nx,S.gh⟩) ?_
   all_goals
   refine Tri.block ?_
   refine Tri.loop (α:=(B:List ArcD) ×' (k:Nat) ×' ((k:Int)≤lst∧B.length≤c.A.length+1+26 * k∧B=c.A++[ArcD.mk 0 c.n eB (mkB 50)]++copA (c.n+1) c.n k)) (fun z=>(fun(B:List ArcD) (k:Nat)=>(⟨[(2,.ptr 1 4 0 0),(5,.ptr 3 1 0 0),(7,encI 1),(8,.fn 49 [.ptr 3 1 0 0,.ptr 4 1 0 0]),(12,.ptr 6 4 0 0),(13,encI (zbq (c.n+1) c.n k)),(66,zab x.rules),(67,encI x.rules.length),(68,encI j),(86,encI lst),(87,encI k)],[(0,some ⟨3,[encX x]⟩),(1,some ⟨4,[zbx]⟩),(2,some ⟨4,[bS ((c.n:Int)+1+k) 0 [1] 5 B.length]⟩),(3,some ⟨1,[.ptr 2 4 0 0]⟩),(4,some ⟨1,[encI 0]⟩),(5,some ⟨4,B.map encC⟩),(6,some ⟨4,[encR (fR x.rules j)]⟩)],7,[]⟩:St)) z.1 z.2.1) (fun z=>(fun(B:List ArcD) (k:Nat)=>lst.toNat - k) z.1 z.2.1) ⟨c.A++[ArcD.mk 0 c.n eB (mkB 50)],0,⟨by omega,by simp,by simp[copA]⟩⟩ [0,1,2,3,4,5,6] ?_ ?_
   ·exact zf1
   rintro⟨B,k,⟨hk,hBl,hB⟩⟩
   refine sY [2,5,7,8,12,13,66,67,68,86,87,88] (fun P S K=>XvBinOV P .lss 3 (.tmp 86) (S.get 87) (S.get 86) (fun r0 _=>K ⟨[(2,S.get 2),(5,S.get 5),(7,S.get 7),(8,S.get 8),(12,S.get 12),(13,S.get 13),(66,S.get 66),(67,S.get 67),(68,S.get 68),(86,S.get 86),(87,S.get 87),(88,r0)],S.hp,S.nx,S.gh⟩)) ?_
   all_goals
   refine Tri.seq ?_
   refine Tri.cond rfl (fun h88=>?_) (fun h88=>?_)
   ·try (cases h88;done)
    all_goals (try simp only[CQ] at h88)
    all_goals
    refine Tri.skip ?_
    refine Tri.seq ?_
    refine Tri.block ?_
    refine sZ [2,5,7,8,12,13,15,66,67,68,86,87] (fun P S K=>XvLoad P 98 (M S.hp S.nx) (S.get 5) (fun r0 _=>XvFnIV P (M S.hp S.nx) (.fn 48 []) [r0] (fun r1 ef1=>K ⟨[(2,S.get 2),(5,S.get 5),(7,S.get 7),(8,S.get 8),(12,S.get 12),(13,S.get 13),(15,r1),(66,S.get 66),(67,S.get 67),(68,S.get 68),(86,S.get 86),(87,S.get 87)],(Eff.hp ef1 S.nx S.hp),(S.nx+ef1.add.length),S.gh⟩))) fun K hK=>?_
    repeat' (first|(refine hK _ ?_;clear hK K)|refine .inr (vProc.grow0 2 5 (by decide) (zb5 ((c.n:Int)+1+k) 0 [1] B (by omega) (by omega)) rfl rfl rfl rfl ?_)|(refine st ?_;try simp only[encX,zaa,zab,zac,encF,encR,bS,zbx])|fail)
    all_goals
    refine sZ [2,5,7,8,12,15,66,67,68,86,87] (fun P S K=>XvLoad P 98 (M S.hp S.nx) (S.get 5) (fun r0 _=>XvFnIV P (M S.hp S.nx) (.fn 53 []) [r0,(S.get 13),(S.get 15)] (fun r3 ef3=>K ⟨[(2,S.get 2),(5,S.get 5),(7,S.get 7),(8,S.get 8),(12,S.get 12),(15,S.get 15),(66,S.get 66),(67,S.get 67),(68,S.get 68),(86,S.get 86),(87,S.get 87)],(Eff.hp ef3 S.nx S.hp),(S.nx+ef3.add.length),S.gh⟩))) fun K hK=>?_
    repeat' (first|(refine hK _ ?_;clear hK K)|refine .inr (vProc.grow 2 5 (by decide) (zbb ((c.n:Int)+1+k+1) 0 [1] B (zbq (c.n+1) c.n k) ((c.n:Int)+1+k) (by omega)) rfl rfl rfl rfl ?_)|refine .inr (vProc.grow 2 5 (by decide) (zbb ((c.n:Int)+1+k) 0 [1] B (zbq (c.n+1) c.n k) (zbq (c.n+1) c.n k) (by omega)) rfl rfl rfl rfl ?_)|refine .inr (vProc.grow 2 6 (by decide) (zbb ((c.n:Int)+1+1) 0 [1] (c.A++[ArcD.mk 0 c.n eB (mkB 51)]) c.n ((c.n:Int)+1) (by simp;omega)) rfl rfl rfl rfl ?_)|refine .inr (vProc.grow 2 7 (by decide) (zbb ((c.n:Int)+1+1) 0 [1] (c.A++[ArcD.mk 0 c.n eB (mkB 51)]++zcg c.n ((c.n:Int)+1) 26) ((c.n:Int)+1) ((c.n:Int)+1) (by simp[zb2];omega)) rfl rfl rfl rfl ?_)|(refine st ?_;try simp only[encX,zaa,zab,zac,encF,encR,bS,zbx])|fail)
    all_goals
    refine rY [2,5,7,8,12,13,66,67,68,86,87] (fun P S K=>K ⟨[(2,S.get 2),(5,S.get 5),(7,S.get 7),(8,S.get 8),(12,S.get 12),(13,(S.get 15)),(66,S.get 66),(67,S.get 67),(68,S.get 68),(86,S.get 86),(87,S.get 87)],S.hp,S.nx,S.gh⟩) ?_
    all_goals
    refine rY [2,5,7,8,12,13,66,67,68,86,87] (fun P S K=>XvBinOV P .add 3 (.const (.int .i64 1)) (S.get 87) (.atom (.int .i64 1)) (fun r0 _=>K ⟨[(2,S.get 2),(5,S.get 5),(7,S.get 7),(8,S.get 8),(12,S.get 12),(13,S.get 13),(66,S.get 66),(67,S.get 67),(68,S.get 68),(86,S.get 86),(87,r0)],S.hp,S.nx,S.gh⟩)) ?_
    all_goals try simp (disch:=omega) only[zaf,zae]
    all_goals
    have hre:zbq (c.n+1) c.n (k+1)=(c.n:Int)+1+k:=by unfold zbq;rw[if_neg (by omega)];omega
    refine⟨⟨B++zcg (zbq (c.n+1) c.n k) ((c.n:Int)+1+k) 26,k+1,by omega,by simp[zb2];omega,by rw[copA,hB];simp only[List.append_assoc];rfl⟩,[0,1,2,3,4,7,6],by dsimp only;omega,?_⟩
    dsimp only
    rw[hre]
    exact zf1
   try (cases h88;done)
   all_goals (try simp only[CQ] at h88)
   all_goals
   refine Tri.exit ?_
   obtain rfl:lst=(k:Int):=by omega
   have hkl:(zcP (fR x.rules j)).toNat=k:=by omega
   refine sZ [2,5,7,8,12,13,66,67,68] (fun P S K=>XvLoad P 98 (M S.hp S.nx) (S.get 5) (fun r0 _=>XvFnIV P (M S.hp S.nx) (.fn 53 []) [r0,(S.get 13),(S.get 13)] (fun r3 ef3=>K ⟨[(2,S.get 2),(5,S.get 5),(7,S.get 7),(8,S.get 8),(12,S.get 12),(13,S.get 13),(66,S.get 66),(67,S.get 67),(68,S.get 68)],(Eff.hp ef3 S.nx S.hp),(S.nx+ef3.add.length),S.gh⟩))) fun K hK=>?_
   repeat' (first|(refine hK _ ?_;clear hK K)|refine .inr (vProc.grow 2 5 (by decide) (zbb ((c.n:Int)+1+k+1) 0 [1] B (zbq (c.n+1) c.n k) ((c.n:Int)+1+k) (by omega)) rfl rfl rfl rfl ?_)|refine .inr (vProc.grow 2 5 (by decide) (zbb ((c.n:Int)+1+k) 0 [1] B (zbq (c.n+1) c.n k) (zbq (c.n+1) c.n k) (by omega)) rfl rfl rfl rfl ?_)|refine .inr (vProc.grow 2 6 (by decide) (zbb ((c.n:Int)+1+1) 0 [1] (c.A++[ArcD.mk 0 c.n eB (mkB 51)]) c.n ((c.n:Int)+1) (by simp;omega)) rfl rfl rfl rfl ?_)|refine .inr (vProc.grow 2 7 (by decide) (zbb ((c.n:Int)+1+1) 0 [1] (c.A++[ArcD.mk 0 c.n eB (mkB 51)]++zcg c.n ((c.n:Int)+1) 26) ((c.n:Int)+1) ((c.n:Int)+1) (by simp[zb2];omega)) rfl rfl rfl rfl ?_)|(refine st ?_;try simp only[encX,zaa,zab,zac,encF,encR,bS,zbx])|fail)
   all_goals
   refine rD 14 [2,5,7,8,66,67,68] (fun P GD S K=>XvLoad P 98 (M S.hp S.nx) (S.get 5) (fun r0 ef0=>XvLoad P 98 (M S.hp S.nx) (S.get 5) (fun r1 ef1=>XvFieldAddr P 90 0 (S.get 12) (fun r3 ef3=>XvLoad P 9 (M S.hp S.nx) r3 (fun r4 ef4=>XvFnDV P (M S.hp S.nx) (.fn 52 []) [r1,(S.get 13),r4] (fun r5 ef5=>XvFieldAddr P 90 1 (S.get 12) (fun r7 ef7=>XvLoad P 9 (M (Eff.hp ef5 S.nx S.hp) (S.nx+ef5.add.length)) r7 (fun r8 ef8=>XvBinOV P .add 9 (.const (.string { data := #[47] })) r8 (.atom (.string { data := #[47] })) (fun r9 ef9=>XvFieldAddr P 90 2 (S.get 12) (fun r10 ef10=>XvLoad P 9 (M (Eff.hp ef5 S.nx S.hp) (S.nx+ef5.add.length)) r10 (fun r11 ef11=>XvBinOV P .add 9 (.tmp 112) r9 r11 (fun r12 ef12=>XvFnDV P (M (Eff.hp ef5 S.nx S.hp) (S.nx+ef5.add.length)) (.fn 51 []) [r0,r5,(S.get 7),r12] (fun r13 ef13=>(trOk S.nx GD [⟨S.nx,0,ef0.rd,[],[]⟩,⟨S.nx,0,ef1.rd,[],[]⟩,⟨S.nx,0,[],[],[]⟩,⟨S.nx,0,ef3.rd,[],[]⟩,⟨S.nx,0,ef4.rd,[],[]⟩,(Eff.tr ef5 S.nx),⟨(S.nx+ef5.add.length),0,[],[],[]⟩,⟨(S.nx+ef5.add.length),0,ef7.rd,[],[]⟩,⟨(S.nx+ef5.add.length),0,ef8.rd,[],[]⟩,⟨(S.nx+ef5.add.length),0,ef9.rd,[],[]⟩,⟨(S.nx+ef5.add.length),0,ef10.rd,[],[]⟩,⟨(S.nx+ef5.add.length),0,ef11.rd,[],[]⟩,⟨(S.nx+ef5.add.length),0,ef12.rd,[],[]⟩,(Eff.tr ef13 (S.nx+ef5.add.length))]=true∧K ⟨[(2,S.get 2),(5,S.get 5),(7,S.get 7),(8,S.get 8),(66,S.get 66),(67,S.get 67),(68,S.get 68)],(Eff.hp ef13 (S.nx+ef5.add.length) (Eff.hp ef5 S.nx S.hp)),((S.nx+ef5.add.length)+ef13.add.length),S.gh⟩)))))))))))))) fun K hK=>?_
   repeat' (first|(refine hK _ ?_;clear hK K)|(refine(?_:trOk _ _ _=true);kernel_rfl)|refine And.intro ?_ ?_|exact cl|refine .inr (vProcD.grow 2 7 (by decide) (zfb (c.n+1+k) 0 [1] (B++zcg (zbq (c.n+1) c.n k) (zbq (c.n+1) c.n k) 26) (zbq (c.n+1) c.n k) (fR x.rules j).suf (by simp[zb2];omega) (by omega) (by omega)) rfl rfl rfl rfl rfl ?_)|refine .inr (vProcD.grow 2 8 (by decide) (zeF (c.n+1+k+(fR x.rules j).suf.size) 0 [1] (B++zcg (zbq (c.n+1) c.n k) (zbq (c.n+1) c.n k) 26++zc0 (c.n+1+k) (zbq (c.n+1) c.n k) (fR x.rules j).suf (fR x.rules j).suf.size) (zbq (c.n+1+k) (zbq (c.n+1) c.n k) (fR x.rules j).suf.size) 1 (rulT (fR x.rules j)) 1 (by simp[zdR,zb2];omega) (by omega) (by omega) (by omega)) rfl rfl rfl rfl rfl ?_)|(refine st ?_;try simp only[encX,zaa,zab,zac,encF,encR,bS,zbx])|fail)
   all_goals try simp (disch:=omega) only[zaf,zae]
   all_goals
   refine rY [2,5,7,8,66,67,68] (fun P S K=>XvBinOV P .add 3 (.const (.int .i64 1)) (S.get 68) (.atom (.int .i64 1)) (fun r0 _=>K ⟨[(2,S.get 2),(5,S.get 5),(7,S.get 7),(8,S.get 8),(66,S.get 66),(67,S.get 67),(68,r0)],S.hp,S.nx,S.gh⟩)) ?_
   all_goals try simp (disch:=omega) only[zaf,zae]
   all_goals
   have hrb:zc9 c (fR x.rules j)=⟨c.n+1+k+(fR x.rules j).suf.size+zdG 1 (rulT (fR x.rules j)),B++zcg (zbq (c.n+1) c.n k) (zbq (c.n+1) c.n k) 26++zc0 (c.n+1+k) (zbq (c.n+1) c.n k) (fR x.rules j).suf (fR x.rules j).suf.size++zd6 1 (c.n+1+k+(fR x.rules j).suf.size) (zbq (c.n+1+k) (zbq (c.n+1) c.n k) (fR x.rules j).suf.size) 1 (rulT (fR x.rules j))⟩:=by unfold zc9;rw[hkl,hB]
   rw[hrb] at hm1 hm2
   refine⟨⟨⟨c.n+1+k+(fR x.rules j).suf.size+zdG 1 (rulT (fR x.rules j)),B++zcg (zbq (c.n+1) c.n k) (zbq (c.n+1) c.n k) 26++zc0 (c.n+1+k) (zbq (c.n+1) c.n k) (fR x.rules j).suf (fR x.rules j).suf.size++zd6 1 (c.n+1+k+(fR x.rules j).suf.size) (zbq (c.n+1+k) (zbq (c.n+1) c.n k) (fR x.rules j).suf.size) 1 (rulT (fR x.rules j))⟩,j+1,by omega,by rw[zcw,zhO _ _ hjl,←zmt hjl,←zcw,←hc,hrb],by omega,by omega⟩,[0,1,2,3,4,9],by dsimp only;omega,?_⟩
   exact zf1
  try (cases h69;done)
  all_goals (try simp only[CQ] at h69)
  all_goals
  refine Tri.exit ?_
  have hcf2:c=zcw (zbG x.forms) x.rules:=by rw[hc,hbf,List.take_of_length_le (by omega)]
  refine sD 6 [2,5,7,16,17] (fun P GD S K=>XvFnDV P (M S.hp S.nx) (S.get 8) [(.atom (.string { data := #[51] }))] (fun r1 ef1=>XvLoad P 98 (M (Eff.hp ef1 S.nx S.hp) (S.nx+ef1.add.length)) (S.get 5) (fun r2 ef2=>XvFnDV P (M (Eff.hp ef1 S.nx S.hp) (S.nx+ef1.add.length)) (.fn 48 []) [r2] (fun r3 ef3=>(trOk S.nx GD [⟨S.nx,0,[],[],[]⟩,(Eff.tr ef1 S.nx),⟨(S.nx+ef1.add.length),0,ef2.rd,[],[]⟩,(Eff.tr ef3 (S.nx+ef1.add.length)),⟨((S.nx+ef1.add.length)+ef3.add.length),0,[],[],[]⟩,⟨((S.nx+ef1.add.length)+ef3.add.length),0,[],[],[]⟩]=true∧K ⟨[(2,S.get 2),(5,S.get 5),(7,S.get 7),(16,r1),(17,r3)],(Eff.hp ef3 (S.nx+ef1.add.length) (Eff.hp ef1 S.nx S.hp)),((S.nx+ef1.add.length)+ef3.add.length),S.gh⟩))))) fun K hK=>?_
  repeat' (first|(refine hK _ ?_;clear hK K)|(refine(?_:trOk _ _ _=true);kernel_rfl)|refine And.intro ?_ ?_|exact cl|refine .inr (vProcD.enter 2 5 3 4 (by decide) (zdt (b.n:Int) 0 [1] b.A (mkB 49) (by omega) (by omega) (by omega)) rfl rfl rfl rfl rfl rfl rfl ?_)|refine .inr (vProcD.grow 2 7 (by decide) (zfb (b.n+1) 0 [1] (b.A++[⟨0,b.n,eB,mkB 49⟩]) (b.n:Int) (fF x.forms i).word (by simp;omega) (by omega) (by omega)) rfl rfl rfl rfl rfl ?_)|refine .inr (vProcD.grow 2 8 (by decide) (zeF (b.n+1+(fF x.forms i).word.size) 0 [1] (b.A++[⟨0,b.n,eB,mkB 49⟩]++zc0 (b.n+1) b.n (fF x.forms i).word (fF x.forms i).word.size) (zbq (b.n+1) b.n (fF x.forms i).word.size) 1 (zct (fF x.forms i)) 1 (by simp[zdR];omega) (by omega) (by omega) (by omega)) rfl rfl rfl rfl rfl ?_)|refine .inr (vProcD.enter 2 5 3 4 (by decide) (zdt (c.n:Int) 0 [1] c.A (mkB 51) (by omega) (by omega) (by omega)) rfl rfl rfl rfl rfl rfl rfl ?_)|refine .inr (vProcD.grow0 2 6 (by decide) (zb5 ((c.n:Int)+1) 0 [1] (c.A++[ArcD.mk 0 c.n eB (mkB 51)]) (by omega) (by omega)) rfl rfl rfl rfl rfl ?_)|(refine st ?_;try simp only[encX,zaa,zab,zac,encF,encR,bS,zbx])|fail)
  all_goals
  refine sZ [2,5,7,17] (fun P S K=>XvLoad P 98 (M S.hp S.nx) (S.get 5) (fun r0 _=>XvFnIV P (M S.hp S.nx) (.fn 53 []) [r0,(S.get 16),(S.get 17)] (fun r3 ef3=>K ⟨[(2,S.get 2),(5,S.get 5),(7,S.get 7),(17,S.get 17)],(Eff.hp ef3 S.nx S.hp),(S.nx+ef3.add.length),S.gh⟩))) fun K hK=>?_
  repeat' (first|(refine hK _ ?_;clear hK K)|refine .inr (vProc.grow 2 5 (by decide) (zbb ((c.n:Int)+1+k+1) 0 [1] B (zbq (c.n+1) c.n k) ((c.n:Int)+1+k) (by omega)) rfl rfl rfl rfl ?_)|refine .inr (vProc.grow 2 5 (by decide) (zbb ((c.n:Int)+1+k) 0 [1] B (zbq (c.n+1) c.n k) (zbq (c.n+1) c.n k) (by omega)) rfl rfl rfl rfl ?_)|refine .inr (vProc.grow 2 6 (by decide) (zbb ((c.n:Int)+1+1) 0 [1] (c.A++[ArcD.mk 0 c.n eB (mkB 51)]) c.n ((c.n:Int)+1) (by simp;omega)) rfl rfl rfl rfl ?_)|refine .inr (vProc.grow 2 7 (by decide) (zbb ((c.n:Int)+1+1) 0 [1] (c.A++[ArcD.mk 0 c.n eB (mkB 51)]++zcg c.n ((c.n:Int)+1) 26) ((c.n:Int)+1) ((c.n:Int)+1) (by simp[zb2];omega)) rfl rfl rfl rfl ?_)|(refine st ?_;try simp only[encX,zaa,zab,zac,encF,encR,bS,zbx])|fail)
  all_goals
  refine sZ [2,5,7,17] (fun P S K=>XvLoad P 98 (M S.hp S.nx) (S.get 5) (fun r0 _=>XvFnIV P (M S.hp S.nx) (.fn 53 []) [r0,(S.get 17),(S.get 17)] (fun r3 ef3=>K ⟨[(2,S.get 2),(5,S.get 5),(7,S.get 7),(17,S.get 17)],(Eff.hp ef3 S.nx S.hp),(S.nx+ef3.add.length),S.gh⟩))) fun K hK=>?_
  repeat' (first|(refine hK _ ?_;clear hK K)|refine .inr (vProc.grow 2 5 (by decide) (zbb ((c.n:Int)+1+k+1) 0 [1] B (zbq (c.n+1) c.n k) ((c.n:Int)+1+k) (by omega)) rfl rfl rfl rfl ?_)|refine .inr (vProc.grow 2 5 (by decide) (zbb ((c.n:Int)+1+k) 0 [1] B (zbq (c.n+1) c.n k) (zbq (c.n+1) c.n k) (by omega)) rfl rfl rfl rfl ?_)|refine .inr (vProc.grow 2 6 (by decide) (zbb ((c.n:Int)+1+1) 0 [1] (c.A++[ArcD.mk 0 c.n eB (mkB 51)]) c.n ((c.n:Int)+1) (by simp;omega)) rfl rfl rfl rfl ?_)|refine .inr (vProc.grow 2 7 (by decide) (zbb ((c.n:Int)+1+1) 0 [1] (c.A++[ArcD.mk 0 c.n eB (mkB 51)]++zcg c.n ((c.n:Int)+1) 26) ((c.n:Int)+1) ((c.n:Int)+1) (by simp[zb2];omega)) rfl rfl rfl rfl ?_)|(refine st ?_;try simp only[encX,zaa,zab,zac,encF,encR,bS,zbx])|fail)
  all_goals
  refine sZ [2,5] (fun P S K=>XvLoad P 98 (M S.hp S.nx) (S.get 5) (fun r0 _=>XvFnIV P (M S.hp S.nx) (.fn 50 []) [r0,(S.get 17),(S.get 7),(.atom (.string { data := #[] })),(.atom (.string { data := #[47] }))] (fun r3 ef3=>K ⟨[(2,S.get 2),(5,S.get 5)],(Eff.hp ef3 S.nx S.hp),(S.nx+ef3.add.length),S.gh⟩))) fun K hK=>?_
  repeat' (first|(refine hK _ ?_;clear hK K)|refine .inr (vProc.grow 2 8 (by decide) (zd4 ((c.n:Int)+1+1) 0 [1] (c.A++[ArcD.mk 0 c.n eB (mkB 51)]++zcg c.n ((c.n:Int)+1) 26++zcg ((c.n:Int)+1) ((c.n:Int)+1) 26) ((c.n:Int)+1) 1 ⟨#[]⟩ slB (by simp[zb2];omega)) rfl rfl rfl rfl ?_)|(refine st ?_;try simp only[encX,zaa,zab,zac,encF,encR,bS,zbx])|fail)
  all_goals
  refine sZ [2,3] (fun P S K=>XvLoad P 98 (M S.hp S.nx) (S.get 5) (fun r0 _=>XvNil r0 (fun r1 _=>XvFieldAddr P 100 0 r1 (fun r2 _=>XvLoad P 54 (M S.hp S.nx) r2 (fun r3 _=>XvStore P 54 (M S.hp S.nx) (S.get 2) r3 (fun r4 ef4=>K ⟨[(2,S.get 2),(3,(.atom (.int .i64 0)))],(Eff.hp ef4 S.nx S.hp),(S.nx+ef4.add.length),S.gh⟩)))))) fun K hK=>?_
  repeat' (first|(refine hK _ ?_;clear hK K)|refine And.intro ?_ ?_|exact cl|(refine st ?_;try simp only[encX,zaa,zab,zac,encF,encR,bS,zbx])|fail)
  all_goals
  refine Tri.ret ?_
  show ResR _ _ _ _ _
  unfold zqS
  rw[if_pos hV]
  refine ResR.cells _ (encI 0) [] rfl ?_ (by simp[PV.pure,zaE,zaY,encI])
  have hm:zcs x=⟨(zew c).n,0,[1],(zew c).A⟩:=by unfold zcs;rw[←hcf2]
  rw[hm]
  refine zqr (n:=((zew c).n:Int)) (st:=0) (fin:=[1]) (A:=(zew c).A) (ri:=9) ?_ ?_
  · rfl
  · simp[zew];omega
theorem zmk (x:LexD) (hx:HeldX x) (hv:za7 x=0):Pure Tryz.prog 21 [encX x] (.tup [encM (zcs x),encI 0]) []:=by
  have:=zhI x hx
  unfold zqS at this
  rwa [if_pos hv] at this
theorem zq3 (x:LexD) (hx:HeldX x) (hv:¬za7 x=0):Pure Tryz.prog 21 [encX x] (.tup [zbx,encI (za7 x)]) []:=by
  have:=zhI x hx
  unfold zqS at this
  rwa [if_neg hv] at this
end Go.Proofs.YtehoglapajkabaaGreat
