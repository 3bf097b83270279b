/-
  Walks: Made and Spoilt of the reference model.
-/
import Derived.Test.YtehoglapajkabaaGreatTM0
import Derived.Test.YtehoglapajkabaaGreatTM28
set_option linter.all false
namespace Go.Proofs.YtehoglapajkabaaGreat
open Go Go.RowKit
set_option maxRecDepth 20000
set_option maxHeartbeats 1000000
theorem zeQ{l:List Int}{i m:Int}(hm:0<m):0≤atI l i m:=by
  unfold atI;split
  · exact Int.le_refl _
  · exact zex hm
theorem zdP{l:List Int}{i m:Int}(hm:0<m):atI l i m<m:=by
  unfold atI;split
  · exact hm
  · exact zey hm
theorem zc4{n k m:Int}(h0:0≤n) (hm:n<m) (hk:0<k):0≤n.tdiv k∧n.tdiv k<m:=by
  have a:=Int.tdiv_nonneg h0 (Int.le_of_lt hk)
  have b:=Int.tdiv_le_self k h0
  omega
theorem zee{n k:Int}(h0:0≤n) (hk:0<k):0≤n.tmod k∧n.tmod k<k:=⟨Int.tmod_nonneg _ h0,Int.tmod_lt_of_pos _ hk⟩
def zjL:List ByteArray:=[⟨#[115]⟩,⟨#[101,115]⟩,⟨#[101]⟩,⟨#[]⟩,⟨#[115]⟩,⟨#[97]⟩,⟨#[97,115]⟩,⟨#[121,114,101]⟩]
def zj1:List ByteArray:=[⟨#[]⟩,⟨#[]⟩,⟨#[101]⟩,⟨#[105,115]⟩]
def madF (n:Int):FormD:=⟨zk4 n,zk4 (n.tdiv 14),zaF (n.tdiv 196)⟩
def madR (n:Int):RuleD:=⟨ls zjL (n.tmod 8).toNat,ls zj1 ((n.tdiv 8).tmod 4).toNat,zaF (n.tdiv 32),(n.tdiv 96).tmod 5⟩
def madA (n:Int):PrefD:=⟨if 1<(n.tdiv 9).tmod 3 then ⟨#[]⟩ else zaF n,if 0<(n.tdiv 9).tmod 3 then zaF (n.tdiv 27) else ⟨#[]⟩,zaF (n.tdiv 3)⟩
def mkF (l:List Int):Nat→List FormD
  | 0=>[]
  | i+1=>mkF l i++[madF (atI l (3+(i:Int)) 4096)]
def mkR (l:List Int):Nat→List RuleD
  | 0=>[]
  | i+1=>mkR l i++[madR (atI l (9+(i:Int)) 4096)]
def mkA (l:List Int):Nat→List PrefD
  | 0=>[]
  | i+1=>mkA l i++[madA (atI l (14+(i:Int)) 4096)]
def zgQ (l:List Int):LexD:=⟨mkF l (atI l 0 6).toNat,mkR l (atI l 1 5).toNat,mkA l (atI l 2 4).toNat⟩
theorem zr9 (l:List Int):∀i,(mkF l i).length=i
  | 0=>rfl
  | i+1=>by rw[mkF,List.length_append,zr9 l i];rfl
theorem zr8 (l:List Int):∀i,(mkR l i).length=i
  | 0=>rfl
  | i+1=>by rw[mkR,List.length_append,zr8 l i];rfl
theorem zsa (l:List Int):∀i,(mkA l i).length=i
  | 0=>rfl
  | i+1=>by rw[mkA,List.length_append,zsa l i];rfl
theorem made_eta{l:List Int}{o:List FormD}{p:List RuleD}{q:List PrefD}{i j k:Nat}(ho:o=mkF l i) (hi:(i:Int)=atI l 0 6) (hp:p=mkR l j) (hj:(j:Int)=atI l 1 5) (hq:q=mkA l k) (hk:(k:Int)=atI l 2 4):zgQ l=⟨o,p,q⟩:=by
  unfold zgQ;rw[←hi,←hj,←hk,ho,hp,hq];rfl
theorem ztg (l:List Int) (hl:Fits l):Pure Tryz.prog 7 [ints l] (encX (zgQ l)) []:=by
  have h6:=zeQ (l:=l) (i:=0) (m:=6) (by decide)
  have h6':=zdP (l:=l) (i:=0) (m:=6) (by decide)
  have h5:=zeQ (l:=l) (i:=1) (m:=5) (by decide)
  have h5':=zdP (l:=l) (i:=1) (m:=5) (by decide)
  have h4:=zeQ (l:=l) (i:=2) (m:=4) (by decide)
  have h4':=zdP (l:=l) (i:=2) (m:=4) (by decide)
  refine Pure.introR (rv:=[.cell 2 32]) Tryz.func7 (by kernel_rfl) rfl rfl rfl (Nat.le_of_ble_eq_true rfl) ?_ ?_
  · simp[zah,zag,encI,encS,PV.pure,zax]
  refine sZ [0,2] (fun P S K=>XvAlloc P 32 S.nx (fun r0 ef0=>K ⟨[(0,S.get 0),(2,r0)],(Eff.hp ef0 S.nx S.hp),(S.nx+ef0.add.length),S.gh⟩)) fun K hK=>?_
  repeat' (first|(refine hK _ ?_;clear hK K)|refine And.intro ?_ ?_|exact cl|(refine st ?_;try simp only[encX,zaa,zac,zad,encF,encR,encA])|refine sx ?_ (by simp only[encX,zaa,zac,zad,encF,encR,encA];exact rfl)|fail)
  all_goals
  refine sZ [0,2,3] (fun P S K=>XvAlloc P 32 S.nx (fun r0 ef0=>K ⟨[(0,S.get 0),(2,S.get 2),(3,r0)],(Eff.hp ef0 S.nx S.hp),(S.nx+ef0.add.length),S.gh⟩)) fun K hK=>?_
  repeat' (first|(refine hK _ ?_;clear hK K)|refine And.intro ?_ ?_|exact cl|(refine st ?_;try simp only[encX,zaa,zac,zad,encF,encR,encA])|refine sx ?_ (by simp only[encX,zaa,zac,zad,encF,encR,encA];exact rfl)|fail)
  refine Tri.bornF 1 0 3 3 [nilV,nilV,nilV] rfl rfl ?_
  refine Tri.bornF 1 1 4 3 [.ob 2 3 0 0,nilV,nilV] rfl rfl ?_
  refine Tri.bornF 1 2 3 3 [.ob 2 3 0 0,.ob 3 4 0 0,nilV] rfl rfl ?_
  all_goals
  refine Tri.seq ?_
  refine sY [0,2,3,4] (fun P S K=>K ⟨[(0,S.get 0),(2,S.get 2),(3,S.get 3),(4,(.atom (.int .i64 0)))],S.hp,S.nx,S.gh⟩) ?_
  all_goals
  refine Tri.block ?_
  refine Tri.loop (α:=(o:List FormD) ×' (i:Nat) ×' ((i:Int)≤atI l 0 6∧o.length=i∧o=mkF l i)) (fun z=>(fun(o:List FormD) (i:Nat)=>(⟨[(0,ints l),(2,.ptr 0 3 0 0),(3,.ptr 1 3 0 0),(4,encI i)],[(0,some ⟨3,[.agg [nilV,nilV,nilV]]⟩),(1,some ⟨3,[.agg [.ob 2 3 0 o.length,.ob 3 4 0 0,.ob 4 3 0 0]]⟩),(2,some ⟨3,o.map encF⟩),(3,some ⟨4,[]⟩),(4,some ⟨3,[]⟩)],5,[]⟩:St)) z.1 z.2.1) (fun z=>(fun(o:List FormD) (i:Nat)=>6 - i) z.1 z.2.1) ⟨[],0,⟨by omega,rfl,rfl⟩⟩ [0,1,2,3,4] ?_ ?_
  ·exact zbh
  rintro⟨o,i,⟨hi,hol,ho⟩⟩
  refine Tri.seq ?_
  refine sZ [0,2,3,4,14] (fun P S K=>XvFnIV P (M S.hp S.nx) (.fn 38 []) [(S.get 0),(.atom (.int .i64 0)),(.atom (.int .i64 6))] (fun r2 ef2=>XvBinOV P .lss 3 (.tmp 13) (S.get 4) r2 (fun r3 _=>K ⟨[(0,S.get 0),(2,S.get 2),(3,S.get 3),(4,S.get 4),(14,r3)],(Eff.hp ef2 S.nx S.hp),(S.nx+ef2.add.length),S.gh⟩))) fun K hK=>?_
  repeat' (first|(refine hK _ ?_;clear hK K)|refine .inl ⟨_,_,zcz l 0 6 hl (by unfold I64;omega) (by decide),?_⟩|refine .inl ⟨_,_,zcz l 1 5 hl (by unfold I64;omega) (by decide),?_⟩|refine .inl ⟨_,_,zcz l 2 4 hl (by unfold I64;omega) (by decide),?_⟩|(refine st ?_;try simp only[encX,zaa,zac,zad,encF,encR,encA])|fail)
  all_goals
  refine Tri.cond rfl (fun h14=>?_) (fun h14=>?_)
  ·try (cases h14;done)
   all_goals (try simp only[CQ] at h14)
   all_goals
   refine Tri.skip ?_
   refine Tri.seq ?_
   refine Tri.block ?_
   refine sZ [0,2,3,4,5] (fun P S K=>XvBinOV P .add 3 (.tmp 18) (.atom (.int .i64 3)) (S.get 4) (fun r2 _=>XvFnIV P (M S.hp S.nx) (.fn 38 []) [(S.get 0),r2,(.atom (.int .i64 4096))] (fun r3 ef3=>K ⟨[(0,S.get 0),(2,S.get 2),(3,S.get 3),(4,S.get 4),(5,r3)],(Eff.hp ef3 S.nx S.hp),(S.nx+ef3.add.length),S.gh⟩))) fun K hK=>?_
   repeat' (first|(refine hK _ ?_;clear hK K)|refine .inl ⟨_,_,zcz l (3+(i:Int)) 4096 hl (by unfold I64;omega) (by decide),?_⟩|(refine st ?_;try simp only[encX,zaa,zac,zad,encF,encR,encA,zae (x:=3+(i:Int)) (by omega) (by omega)])|fail)
   all_goals try simp (disch:=omega) only[zae,zaf]
   all_goals
   generalize hn:atI l (3+(i:Int)) 4096=n
   have hn0:0≤n:=hn▸zeQ (by decide)
   have hn1:n<4096:=hn▸zdP (by decide)
   have hqa:=zc4 (k:=14) hn0 hn1 (by decide)
   have hqb:=zc4 (k:=196) hn0 hn1 (by decide)
   refine rD 14 [0,2,3,4] (fun P GD S K=>XvFieldAddr P 32 0 (S.get 3) (fun r0 ef0=>XvLoad P 28 (M S.hp S.nx) r0 (fun r1 ef1=>XvFnDV P (M S.hp S.nx) (.fn 39 []) [(S.get 5)] (fun r3 ef3=>XvBinOV P .quo 3 (.const (.int .i64 14)) (S.get 5) (.atom (.int .i64 14)) (fun r5 ef5=>XvFnDV P (M (Eff.hp ef3 S.nx S.hp) (S.nx+ef3.add.length)) (.fn 39 []) [r5] (fun r6 ef6=>XvBinOV P .quo 3 (.const (.int .i64 196)) (S.get 5) (.atom (.int .i64 196)) (fun r8 ef8=>XvFnDV P (M (Eff.hp ef6 (S.nx+ef3.add.length) (Eff.hp ef3 S.nx S.hp)) ((S.nx+ef3.add.length)+ef6.add.length)) (.fn 40 []) [r8] (fun r9 ef9=>XvBuild P 76 [(0,r3),(1,r6),(2,r9)] (fun r10 ef10=>XvBuildS P 28 1 (((S.nx+ef3.add.length)+ef6.add.length)+ef9.add.length) [(0,r10)] (fun r11 ef11=>(28=28∧XvAppend P 28 (M (Eff.hp ef11 (((S.nx+ef3.add.length)+ef6.add.length)+ef9.add.length) (Eff.hp ef9 ((S.nx+ef3.add.length)+ef6.add.length) (Eff.hp ef6 (S.nx+ef3.add.length) (Eff.hp ef3 S.nx S.hp)))) ((((S.nx+ef3.add.length)+ef6.add.length)+ef9.add.length)+ef11.add.length)) r1 r11 (fun r12 ef12=>XvFieldAddr P 32 0 (S.get 3) (fun r13 ef13=>(trOk S.nx GD [⟨S.nx,0,ef0.rd,[],[]⟩,⟨S.nx,0,ef1.rd,[],[]⟩,⟨S.nx,0,[],[],[]⟩,(Eff.tr ef3 S.nx),⟨(S.nx+ef3.add.length),0,[],[],[]⟩,⟨(S.nx+ef3.add.length),0,ef5.rd,[],[]⟩,(Eff.tr ef6 (S.nx+ef3.add.length)),⟨((S.nx+ef3.add.length)+ef6.add.length),0,[],[],[]⟩,⟨((S.nx+ef3.add.length)+ef6.add.length),0,ef8.rd,[],[]⟩,(Eff.tr ef9 ((S.nx+ef3.add.length)+ef6.add.length)),⟨(((S.nx+ef3.add.length)+ef6.add.length)+ef9.add.length),0,ef10.rd,[],[]⟩,(Eff.tr ef11 (((S.nx+ef3.add.length)+ef6.add.length)+ef9.add.length)),(Eff.tr ef12 ((((S.nx+ef3.add.length)+ef6.add.length)+ef9.add.length)+ef11.add.length)),⟨(((((S.nx+ef3.add.length)+ef6.add.length)+ef9.add.length)+ef11.add.length)+ef12.add.length),0,ef13.rd,[],[]⟩]=true∧XvStore P 28 (M (Eff.hp ef12 ((((S.nx+ef3.add.length)+ef6.add.length)+ef9.add.length)+ef11.add.length) (Eff.hp ef11 (((S.nx+ef3.add.length)+ef6.add.length)+ef9.add.length) (Eff.hp ef9 ((S.nx+ef3.add.length)+ef6.add.length) (Eff.hp ef6 (S.nx+ef3.add.length) (Eff.hp ef3 S.nx S.hp))))) (((((S.nx+ef3.add.length)+ef6.add.length)+ef9.add.length)+ef11.add.length)+ef12.add.length)) r13 r12 (fun r14 ef14=>K ⟨[(0,S.get 0),(2,S.get 2),(3,S.get 3),(4,S.get 4)],(Eff.hp ef14 (((((S.nx+ef3.add.length)+ef6.add.length)+ef9.add.length)+ef11.add.length)+ef12.add.length) (Eff.hp ef12 ((((S.nx+ef3.add.length)+ef6.add.length)+ef9.add.length)+ef11.add.length) (Eff.hp ef11 (((S.nx+ef3.add.length)+ef6.add.length)+ef9.add.length) (Eff.hp ef9 ((S.nx+ef3.add.length)+ef6.add.length) (Eff.hp ef6 (S.nx+ef3.add.length) (Eff.hp ef3 S.nx S.hp)))))),((((((S.nx+ef3.add.length)+ef6.add.length)+ef9.add.length)+ef11.add.length)+ef12.add.length)+ef14.add.length),S.gh⟩))))))))))))))) fun K hK=>?_
   repeat' (first|(refine hK _ ?_;clear hK K)|(refine(?_:trOk _ _ _=true);(try simp only[zae (x:=n.tdiv 14) (by omega) (by omega),zae (x:=n.tdiv 196) (by omega) (by omega)]);kernel_rfl)|((first|refine zaw (fun hg=>?_) (fun hg=>?_)|refine fun(hg:(_:Prop))=>?_)<;>((try simp only[BQ] at hg);try (exfalso;omega)))|refine And.intro ?_ ?_|exact cl|refine .inl ⟨_,_,zoK _ (by unfold I64;omega),?_⟩|refine .inl ⟨_,_,zdS _ (by unfold I64;omega),?_⟩|(refine st ?_;try simp only[encX,zaa,zac,zad,encF,encR,encA,zae (x:=n.tdiv 14) (by omega) (by omega),zae (x:=n.tdiv 196) (by omega) (by omega)])|fail)
   all_goals try simp (disch:=omega) only[zae,zaf]
   all_goals
   refine rY [0,2,3,4] (fun P S K=>XvBinOV P .add 3 (.const (.int .i64 1)) (S.get 4) (.atom (.int .i64 1)) (fun r1 _=>K ⟨[(0,S.get 0),(2,S.get 2),(3,S.get 3),(4,r1)],S.hp,S.nx,S.gh⟩)) ?_
   all_goals try simp (disch:=omega) only[zae,zaf]
   all_goals
   refine⟨⟨o++[⟨zk4 n,zk4 (n.tdiv 14),zaF (n.tdiv 196)⟩],i+1,by omega,by simp[hol],by rw[mkF,hn,←ho];rfl⟩,[0,1,6,3,4],by dsimp only;omega,?_⟩
   exact zbh
  try (cases h14;done)
  all_goals (try simp only[CQ] at h14)
  all_goals
  refine Tri.exit ?_
  refine Tri.seq ?_
  refine sY [0,2,3,6] (fun P S K=>K ⟨[(0,S.get 0),(2,S.get 2),(3,S.get 3),(6,(.atom (.int .i64 0)))],S.hp,S.nx,S.gh⟩) ?_
  all_goals
  refine Tri.block ?_
  refine Tri.loop (α:=(p:List RuleD) ×' (j:Nat) ×' ((j:Int)≤atI l 1 5∧p.length=j∧p=mkR l j)) (fun z=>(fun(p:List RuleD) (j:Nat)=>(⟨[(0,ints l),(2,.ptr 0 3 0 0),(3,.ptr 1 3 0 0),(6,encI j)],[(0,some ⟨3,[.agg [nilV,nilV,nilV]]⟩),(1,some ⟨3,[.agg [.ob 2 3 0 o.length,.ob 3 4 0 p.length,.ob 4 3 0 0]]⟩),(2,some ⟨3,o.map encF⟩),(3,some ⟨4,p.map encR⟩),(4,some ⟨3,[]⟩)],5,[]⟩:St)) z.1 z.2.1) (fun z=>(fun(p:List RuleD) (j:Nat)=>5 - j) z.1 z.2.1) ⟨[],0,⟨by omega,rfl,rfl⟩⟩ [0,1,2,3,4] ?_ ?_
  ·exact zbh
  rintro⟨p,j,⟨hj,hpl,hp⟩⟩
  refine Tri.seq ?_
  refine sZ [0,2,3,6,38] (fun P S K=>XvFnIV P (M S.hp S.nx) (.fn 38 []) [(S.get 0),(.atom (.int .i64 1)),(.atom (.int .i64 5))] (fun r2 ef2=>XvBinOV P .lss 3 (.tmp 37) (S.get 6) r2 (fun r3 _=>K ⟨[(0,S.get 0),(2,S.get 2),(3,S.get 3),(6,S.get 6),(38,r3)],(Eff.hp ef2 S.nx S.hp),(S.nx+ef2.add.length),S.gh⟩))) fun K hK=>?_
  repeat' (first|(refine hK _ ?_;clear hK K)|refine .inl ⟨_,_,zcz l 0 6 hl (by unfold I64;omega) (by decide),?_⟩|refine .inl ⟨_,_,zcz l 1 5 hl (by unfold I64;omega) (by decide),?_⟩|refine .inl ⟨_,_,zcz l 2 4 hl (by unfold I64;omega) (by decide),?_⟩|(refine st ?_;try simp only[encX,zaa,zac,zad,encF,encR,encA])|fail)
  all_goals
  refine Tri.cond rfl (fun h38=>?_) (fun h38=>?_)
  ·try (cases h38;done)
   all_goals (try simp only[CQ] at h38)
   all_goals
   refine Tri.skip ?_
   refine Tri.seq ?_
   refine Tri.block ?_
   refine sZ [0,2,3,6,7] (fun P S K=>XvBinOV P .add 3 (.tmp 42) (.atom (.int .i64 9)) (S.get 6) (fun r2 _=>XvFnIV P (M S.hp S.nx) (.fn 38 []) [(S.get 0),r2,(.atom (.int .i64 4096))] (fun r3 ef3=>K ⟨[(0,S.get 0),(2,S.get 2),(3,S.get 3),(6,S.get 6),(7,r3)],(Eff.hp ef3 S.nx S.hp),(S.nx+ef3.add.length),S.gh⟩))) fun K hK=>?_
   repeat' (first|(refine hK _ ?_;clear hK K)|refine .inl ⟨_,_,zcz l (9+(j:Int)) 4096 hl (by unfold I64;omega) (by decide),?_⟩|(refine st ?_;try simp only[encX,zaa,zac,zad,encF,encR,encA,zae (x:=9+(j:Int)) (by omega) (by omega)])|fail)
   all_goals try simp (disch:=omega) only[zae,zaf]
   all_goals
   generalize hn:atI l (9+(j:Int)) 4096=n
   have hn0:0≤n:=hn▸zeQ (by decide)
   have hn1:n<4096:=hn▸zdP (by decide)
   have hqa:=zc4 (k:=8) hn0 hn1 (by decide)
   have hqb:=zc4 (k:=32) hn0 hn1 (by decide)
   have hqc:=zc4 (k:=96) hn0 hn1 (by decide)
   have hra:=zee (k:=8) hn0 (by decide)
   have hrb:=zee (k:=4) hqa.1 (by decide)
   have hrc:=zee (k:=5) hqc.1 (by decide)
   have hga:([.atom (.string ⟨#[115]⟩),.atom (.string ⟨#[101,115]⟩),.atom (.string ⟨#[101]⟩),.atom (.string ⟨#[]⟩),.atom (.string ⟨#[115]⟩),.atom (.string ⟨#[97]⟩),.atom (.string ⟨#[97,115]⟩),.atom (.string ⟨#[121,114,101]⟩)]:List PV).getD (n.tmod 8).toNat .junk=.atom (.string (ls zjL (n.tmod 8).toNat)):=zbn (l:=zjL) (k:=(n.tmod 8).toNat) (by show _<8;omega)
   have hgb:([.atom (.string ⟨#[]⟩),.atom (.string ⟨#[]⟩),.atom (.string ⟨#[101]⟩),.atom (.string ⟨#[105,115]⟩)]:List PV).getD ((n.tdiv 8).tmod 4).toNat .junk=.atom (.string (ls zj1 ((n.tdiv 8).tmod 4).toNat)):=zbn (l:=zj1) (k:=((n.tdiv 8).tmod 4).toNat) (by show _<4;omega)
   refine rD 23 [0,2,3,6] (fun P GD S K=>XvFieldAddr P 32 1 (S.get 3) (fun r0 ef0=>XvLoad P 29 (M S.hp S.nx) r0 (fun r1 ef1=>XvBuildS P 37 8 S.nx [(0,(.atom (.string { data := #[115] }))),(1,(.atom (.string { data := #[101,115] }))),(2,(.atom (.string { data := #[101] }))),(3,(.atom (.string { data := #[] }))),(4,(.atom (.string { data := #[115] }))),(5,(.atom (.string { data := #[97] }))),(6,(.atom (.string { data := #[97,115] }))),(7,(.atom (.string { data := #[121,114,101] })))] (fun r2 ef2=>XvBinOV P .rem 3 (.const (.int .i64 8)) (S.get 7) (.atom (.int .i64 8)) (fun r4 ef4=>XvIndexAddr P 37 r2 r4 (fun r5 ef5=>XvLoad P 9 (M (Eff.hp ef2 S.nx S.hp) (S.nx+ef2.add.length)) r5 (fun r6 ef6=>XvBuildS P 37 4 (S.nx+ef2.add.length) [(0,(.atom (.string { data := #[] }))),(1,(.atom (.string { data := #[] }))),(2,(.atom (.string { data := #[101] }))),(3,(.atom (.string { data := #[105,115] })))] (fun r7 ef7=>XvBinOV P .quo 3 (.const (.int .i64 8)) (S.get 7) (.atom (.int .i64 8)) (fun r9 ef9=>XvBinOV P .rem 3 (.const (.int .i64 4)) r9 (.atom (.int .i64 4)) (fun r10 ef10=>XvIndexAddr P 37 r7 r10 (fun r11 ef11=>XvLoad P 9 (M (Eff.hp ef7 (S.nx+ef2.add.length) (Eff.hp ef2 S.nx S.hp)) ((S.nx+ef2.add.length)+ef7.add.length)) r11 (fun r12 ef12=>XvBinOV P .quo 3 (.const (.int .i64 32)) (S.get 7) (.atom (.int .i64 32)) (fun r14 ef14=>XvFnDV P (M (Eff.hp ef7 (S.nx+ef2.add.length) (Eff.hp ef2 S.nx S.hp)) ((S.nx+ef2.add.length)+ef7.add.length)) (.fn 40 []) [r14] (fun r15 ef15=>XvBinOV P .quo 3 (.const (.int .i64 96)) (S.get 7) (.atom (.int .i64 96)) (fun r17 ef17=>XvBinOV P .rem 3 (.const (.int .i64 5)) r17 (.atom (.int .i64 5)) (fun r18 ef18=>XvBuild P 87 [(0,r6),(1,r12),(2,r15),(3,r18)] (fun r19 ef19=>XvBuildS P 29 1 (((S.nx+ef2.add.length)+ef7.add.length)+ef15.add.length) [(0,r19)] (fun r20 ef20=>(29=29∧XvAppend P 29 (M (Eff.hp ef20 (((S.nx+ef2.add.length)+ef7.add.length)+ef15.add.length) (Eff.hp ef15 ((S.nx+ef2.add.length)+ef7.add.length) (Eff.hp ef7 (S.nx+ef2.add.length) (Eff.hp ef2 S.nx S.hp)))) ((((S.nx+ef2.add.length)+ef7.add.length)+ef15.add.length)+ef20.add.length)) r1 r20 (fun r21 ef21=>XvFieldAddr P 32 1 (S.get 3) (fun r22 ef22=>(trOk S.nx GD [⟨S.nx,0,ef0.rd,[],[]⟩,⟨S.nx,0,ef1.rd,[],[]⟩,(Eff.tr ef2 S.nx),⟨(S.nx+ef2.add.length),0,[],[],[]⟩,⟨(S.nx+ef2.add.length),0,ef4.rd,[],[]⟩,⟨(S.nx+ef2.add.length),0,ef5.rd,[],[]⟩,⟨(S.nx+ef2.add.length),0,ef6.rd,[],[]⟩,(Eff.tr ef7 (S.nx+ef2.add.length)),⟨((S.nx+ef2.add.length)+ef7.add.length),0,[],[],[]⟩,⟨((S.nx+ef2.add.length)+ef7.add.length),0,ef9.rd,[],[]⟩,⟨((S.nx+ef2.add.length)+ef7.add.length),0,ef10.rd,[],[]⟩,⟨((S.nx+ef2.add.length)+ef7.add.length),0,ef11.rd,[],[]⟩,⟨((S.nx+ef2.add.length)+ef7.add.length),0,ef12.rd,[],[]⟩,⟨((S.nx+ef2.add.length)+ef7.add.length),0,[],[],[]⟩,⟨((S.nx+ef2.add.length)+ef7.add.length),0,ef14.rd,[],[]⟩,(Eff.tr ef15 ((S.nx+ef2.add.length)+ef7.add.length)),⟨(((S.nx+ef2.add.length)+ef7.add.length)+ef15.add.length),0,[],[],[]⟩,⟨(((S.nx+ef2.add.length)+ef7.add.length)+ef15.add.length),0,ef17.rd,[],[]⟩,⟨(((S.nx+ef2.add.length)+ef7.add.length)+ef15.add.length),0,ef18.rd,[],[]⟩,⟨(((S.nx+ef2.add.length)+ef7.add.length)+ef15.add.length),0,ef19.rd,[],[]⟩,(Eff.tr ef20 (((S.nx+ef2.add.length)+ef7.add.length)+ef15.add.length)),(Eff.tr ef21 ((((S.nx+ef2.add.length)+ef7.add.length)+ef15.add.length)+ef20.add.length)),⟨(((((S.nx+ef2.add.length)+ef7.add.length)+ef15.add.length)+ef20.add.length)+ef21.add.length),0,ef22.rd,[],[]⟩]=true∧XvStore P 29 (M (Eff.hp ef21 ((((S.nx+ef2.add.length)+ef7.add.length)+ef15.add.length)+ef20.add.length) (Eff.hp ef20 (((S.nx+ef2.add.length)+ef7.add.length)+ef15.add.length) (Eff.hp ef15 ((S.nx+ef2.add.length)+ef7.add.length) (Eff.hp ef7 (S.nx+ef2.add.length) (Eff.hp ef2 S.nx S.hp))))) (((((S.nx+ef2.add.length)+ef7.add.length)+ef15.add.length)+ef20.add.length)+ef21.add.length)) r22 r21 (fun r23 ef23=>K ⟨[(0,S.get 0),(2,S.get 2),(3,S.get 3),(6,S.get 6)],(Eff.hp ef23 (((((S.nx+ef2.add.length)+ef7.add.length)+ef15.add.length)+ef20.add.length)+ef21.add.length) (Eff.hp ef21 ((((S.nx+ef2.add.length)+ef7.add.length)+ef15.add.length)+ef20.add.length) (Eff.hp ef20 (((S.nx+ef2.add.length)+ef7.add.length)+ef15.add.length) (Eff.hp ef15 ((S.nx+ef2.add.length)+ef7.add.length) (Eff.hp ef7 (S.nx+ef2.add.length) (Eff.hp ef2 S.nx S.hp)))))),((((((S.nx+ef2.add.length)+ef7.add.length)+ef15.add.length)+ef20.add.length)+ef21.add.length)+ef23.add.length),S.gh⟩))))))))))))))))))))))) fun K hK=>?_
   repeat' (first|(refine hK _ ?_;clear hK K)|(refine(?_:trOk _ _ _=true);(try simp only[zae (x:=n.tdiv 8) (by omega) (by omega),zae (x:=n.tdiv 32) (by omega) (by omega),zae (x:=n.tdiv 96) (by omega) (by omega),hga,hgb]);kernel_rfl)|((first|refine zaw (fun hg=>?_) (fun hg=>?_)|refine fun(hg:(_:Prop))=>?_)<;>((try simp only[BQ] at hg);try (exfalso;omega)))|refine And.intro ?_ ?_|exact cl|refine .inl ⟨_,_,zdS _ (by unfold I64;omega),?_⟩|(refine st ?_;try simp only[encX,zaa,zac,zad,encF,encR,encA,zae (x:=n.tdiv 8) (by omega) (by omega),zae (x:=n.tdiv 32) (by omega) (by omega),zae (x:=n.tdiv 96) (by omega) (by omega),hga,hgb])|fail)
   all_goals try simp (disch:=omega) only[zae,zaf]
   all_goals
   refine rY [0,2,3,6] (fun P S K=>XvBinOV P .add 3 (.const (.int .i64 1)) (S.get 6) (.atom (.int .i64 1)) (fun r1 _=>K ⟨[(0,S.get 0),(2,S.get 2),(3,S.get 3),(6,r1)],S.hp,S.nx,S.gh⟩)) ?_
   all_goals try simp (disch:=omega) only[zae,zaf]
   all_goals
   refine⟨⟨p++[⟨ls zjL (n.tmod 8).toNat,ls zj1 ((n.tdiv 8).tmod 4).toNat,zaF (n.tdiv 32),(n.tdiv 96).tmod 5⟩],j+1,by omega,by simp[hpl],by rw[mkR,hn,←hp];rfl⟩,[0,1,2,8,4],by dsimp only;omega,?_⟩
   exact zbh
  try (cases h38;done)
  all_goals (try simp only[CQ] at h38)
  all_goals
  refine Tri.exit ?_
  refine Tri.seq ?_
  refine sY [0,2,3,8] (fun P S K=>K ⟨[(0,S.get 0),(2,S.get 2),(3,S.get 3),(8,(.atom (.int .i64 0)))],S.hp,S.nx,S.gh⟩) ?_
  all_goals
  refine Tri.block ?_
  refine Tri.loop (α:=(q:List PrefD) ×' (k:Nat) ×' ((k:Int)≤atI l 2 4∧q.length=k∧q=mkA l k)) (fun z=>(fun(q:List PrefD) (k:Nat)=>(⟨[(0,ints l),(2,.ptr 0 3 0 0),(3,.ptr 1 3 0 0),(8,encI k)],[(0,some ⟨3,[.agg [nilV,nilV,nilV]]⟩),(1,some ⟨3,[.agg [.ob 2 3 0 o.length,.ob 3 4 0 p.length,.ob 4 3 0 q.length]]⟩),(2,some ⟨3,o.map encF⟩),(3,some ⟨4,p.map encR⟩),(4,some ⟨3,q.map encA⟩)],5,[]⟩:St)) z.1 z.2.1) (fun z=>(fun(q:List PrefD) (k:Nat)=>4 - k) z.1 z.2.1) ⟨[],0,⟨by omega,rfl,rfl⟩⟩ [0,1,2,3,4] ?_ ?_
  ·exact zbh
  rintro⟨q,k,⟨hk,hql,hq⟩⟩
  refine Tri.seq ?_
  refine sZ [0,2,3,8,71] (fun P S K=>XvFnIV P (M S.hp S.nx) (.fn 38 []) [(S.get 0),(.atom (.int .i64 2)),(.atom (.int .i64 4))] (fun r2 ef2=>XvBinOV P .lss 3 (.tmp 70) (S.get 8) r2 (fun r3 _=>K ⟨[(0,S.get 0),(2,S.get 2),(3,S.get 3),(8,S.get 8),(71,r3)],(Eff.hp ef2 S.nx S.hp),(S.nx+ef2.add.length),S.gh⟩))) fun K hK=>?_
  repeat' (first|(refine hK _ ?_;clear hK K)|refine .inl ⟨_,_,zcz l 0 6 hl (by unfold I64;omega) (by decide),?_⟩|refine .inl ⟨_,_,zcz l 1 5 hl (by unfold I64;omega) (by decide),?_⟩|refine .inl ⟨_,_,zcz l 2 4 hl (by unfold I64;omega) (by decide),?_⟩|(refine st ?_;try simp only[encX,zaa,zac,zad,encF,encR,encA])|fail)
  all_goals
  refine Tri.cond rfl (fun h71=>?_) (fun h71=>?_)
  ·try (cases h71;done)
   all_goals (try simp only[CQ] at h71)
   all_goals
   refine Tri.skip ?_
   refine Tri.seq ?_
   refine Tri.block ?_
   refine sZ [0,2,3,8,9] (fun P S K=>XvBinOV P .add 3 (.tmp 75) (.atom (.int .i64 14)) (S.get 8) (fun r2 _=>XvFnIV P (M S.hp S.nx) (.fn 38 []) [(S.get 0),r2,(.atom (.int .i64 4096))] (fun r3 ef3=>K ⟨[(0,S.get 0),(2,S.get 2),(3,S.get 3),(8,S.get 8),(9,r3)],(Eff.hp ef3 S.nx S.hp),(S.nx+ef3.add.length),S.gh⟩))) fun K hK=>?_
   repeat' (first|(refine hK _ ?_;clear hK K)|refine .inl ⟨_,_,zcz l (14+(k:Int)) 4096 hl (by unfold I64;omega) (by decide),?_⟩|(refine st ?_;try simp only[encX,zaa,zac,zad,encF,encR,encA,zae (x:=14+(k:Int)) (by omega) (by omega)])|fail)
   all_goals try simp (disch:=omega) only[zae,zaf]
   all_goals
   generalize hn:atI l (14+(k:Int)) 4096=n
   have hn0:0≤n:=hn▸zeQ (by decide)
   have hn1:n<4096:=hn▸zdP (by decide)
   have hqa:=zc4 (k:=3) hn0 hn1 (by decide)
   have hqb:=zc4 (k:=9) hn0 hn1 (by decide)
   have hqc:=zc4 (k:=27) hn0 hn1 (by decide)
   have hra:=zee (k:=3) hqb.1 (by decide)
   refine sZ [0,2,3,8,9,10] (fun P S K=>XvFnIV P (M S.hp S.nx) (.fn 40 []) [(S.get 9)] (fun r1 ef1=>XvBinOV P .quo 3 (.const (.int .i64 3)) (S.get 9) (.atom (.int .i64 3)) (fun r3 _=>XvFnIV P (M (Eff.hp ef1 S.nx S.hp) (S.nx+ef1.add.length)) (.fn 40 []) [r3] (fun r4 ef4=>XvBuild P 89 [(0,r1),(2,r4)] (fun r5 _=>XvAlloc P 89 ((S.nx+ef1.add.length)+ef4.add.length) (fun r6 ef6=>XvStore P 89 (M (Eff.hp ef6 ((S.nx+ef1.add.length)+ef4.add.length) (Eff.hp ef4 (S.nx+ef1.add.length) (Eff.hp ef1 S.nx S.hp))) (((S.nx+ef1.add.length)+ef4.add.length)+ef6.add.length)) r6 r5 (fun r7 ef7=>K ⟨[(0,S.get 0),(2,S.get 2),(3,S.get 3),(8,S.get 8),(9,S.get 9),(10,r6)],(Eff.hp ef7 (((S.nx+ef1.add.length)+ef4.add.length)+ef6.add.length) (Eff.hp ef6 ((S.nx+ef1.add.length)+ef4.add.length) (Eff.hp ef4 (S.nx+ef1.add.length) (Eff.hp ef1 S.nx S.hp)))),((((S.nx+ef1.add.length)+ef4.add.length)+ef6.add.length)+ef7.add.length),S.gh⟩))))))) fun K hK=>?_
   repeat' (first|(refine hK _ ?_;clear hK K)|((first|refine zaw (fun hg=>?_) (fun hg=>?_)|refine fun(hg:(_:Prop))=>?_)<;>((try simp only[BQ] at hg);try (exfalso;omega)))|refine And.intro ?_ ?_|exact cl|refine .inl ⟨_,_,zdS _ (by unfold I64;omega),?_⟩|(refine st ?_;try simp only[encX,zaa,zac,zad,encF,encR,encA,zae (x:=n.tdiv 3) (by omega) (by omega)])|fail)
   all_goals try simp (disch:=omega) only[zae,zaf]
   all_goals
   refine Tri.seq ?_
   refine sZ [0,2,3,8,9,10,87] (fun P S K=>XvBinOV P .quo 3 (.const (.int .i64 9)) (S.get 9) (.atom (.int .i64 9)) (fun r1 _=>XvBinOV P .rem 3 (.const (.int .i64 3)) r1 (.atom (.int .i64 3)) (fun r2 _=>XvBinOV P .gtr 3 (.const (.int .i64 0)) r2 (.atom (.int .i64 0)) (fun r3 _=>K ⟨[(0,S.get 0),(2,S.get 2),(3,S.get 3),(8,S.get 8),(9,S.get 9),(10,S.get 10),(87,r3)],S.hp,S.nx,S.gh⟩)))) fun K hK=>?_
   repeat' (first|(refine hK _ ?_;clear hK K)|((first|refine zaw (fun hg=>?_) (fun hg=>?_)|refine fun(hg:(_:Prop))=>?_)<;>((try simp only[BQ] at hg);try (exfalso;omega)))|refine And.intro ?_ ?_|(refine st ?_;try simp only[encX,zaa,zac,zad,encF,encR,encA,zae (x:=n.tdiv 9) (by omega) (by omega)])|fail)
   all_goals try simp (disch:=omega) only[zae,zaf]
   all_goals
   refine Tri.cond rfl (fun h87=>?_) (fun h87=>?_)
   ·try (cases h87;done)
    all_goals (try simp only[CQ] at h87)
    all_goals
    refine rZ [0,2,3,8,9,10] (fun P S K=>XvBinOV P .quo 3 (.const (.int .i64 27)) (S.get 9) (.atom (.int .i64 27)) (fun r1 _=>XvFnIV P (M S.hp S.nx) (.fn 40 []) [r1] (fun r2 ef2=>XvFieldAddr P 89 1 (S.get 10) (fun r3 _=>XvStore P 9 (M (Eff.hp ef2 S.nx S.hp) (S.nx+ef2.add.length)) r3 r2 (fun r4 ef4=>K ⟨[(0,S.get 0),(2,S.get 2),(3,S.get 3),(8,S.get 8),(9,S.get 9),(10,S.get 10)],(Eff.hp ef4 (S.nx+ef2.add.length) (Eff.hp ef2 S.nx S.hp)),((S.nx+ef2.add.length)+ef4.add.length),S.gh⟩))))) fun K hK=>?_
    repeat' (first|(refine hK _ ?_;clear hK K)|((first|refine zaw (fun hg=>?_) (fun hg=>?_)|refine fun(hg:(_:Prop))=>?_)<;>((try simp only[BQ] at hg);try (exfalso;omega)))|refine And.intro ?_ ?_|exact cl|refine .inl ⟨_,_,zdS _ (by unfold I64;omega),?_⟩|(refine st ?_;try simp only[encX,zaa,zac,zad,encF,encR,encA,zae (x:=n.tdiv 27) (by omega) (by omega)])|fail)
    all_goals try simp (disch:=omega) only[zae,zaf]
    all_goals
    refine Tri.seq ?_
    refine sZ [0,2,3,8,10,95] (fun P S K=>XvBinOV P .quo 3 (.const (.int .i64 9)) (S.get 9) (.atom (.int .i64 9)) (fun r1 _=>XvBinOV P .rem 3 (.const (.int .i64 3)) r1 (.atom (.int .i64 3)) (fun r2 _=>XvBinOV P .gtr 3 (.const (.int .i64 1)) r2 (.atom (.int .i64 1)) (fun r3 _=>K ⟨[(0,S.get 0),(2,S.get 2),(3,S.get 3),(8,S.get 8),(10,S.get 10),(95,r3)],S.hp,S.nx,S.gh⟩)))) fun K hK=>?_
    repeat' (first|(refine hK _ ?_;clear hK K)|((first|refine zaw (fun hg=>?_) (fun hg=>?_)|refine fun(hg:(_:Prop))=>?_)<;>((try simp only[BQ] at hg);try (exfalso;omega)))|refine And.intro ?_ ?_|(refine st ?_;try simp only[encX,zaa,zac,zad,encF,encR,encA,zae (x:=n.tdiv 9) (by omega) (by omega)])|fail)
    all_goals try simp (disch:=omega) only[zae,zaf]
    all_goals
    refine Tri.cond rfl (fun h95=>?_) (fun h95=>?_)
    ·try (cases h95;done)
     all_goals (try simp only[CQ] at h95)
     all_goals
     refine rZ [0,2,3,8,10] (fun P S K=>XvFieldAddr P 89 0 (S.get 10) (fun r0 _=>XvStore P 9 (M S.hp S.nx) r0 (.atom (.string { data := #[] })) (fun r1 ef1=>K ⟨[(0,S.get 0),(2,S.get 2),(3,S.get 3),(8,S.get 8),(10,S.get 10)],(Eff.hp ef1 S.nx S.hp),(S.nx+ef1.add.length),S.gh⟩))) fun K hK=>?_
     repeat' (first|(refine hK _ ?_;clear hK K)|refine And.intro ?_ ?_|exact cl|(refine st ?_;try simp only[encX,zaa,zac,zad,encF,encR,encA])|refine sx ?_ (by simp only[encX,zaa,zac,zad,encF,encR,encA];exact rfl)|fail)
     all_goals
     refine rZ [0,2,3,8] (fun P S K=>XvFieldAddr P 32 2 (S.get 3) (fun r0 _=>XvLoad P 30 (M S.hp S.nx) r0 (fun r1 _=>XvLoad P 89 (M S.hp S.nx) (S.get 10) (fun r2 _=>XvBuildS P 30 1 S.nx [(0,r2)] (fun r3 ef3=>(30=30∧XvAppend P 30 (M (Eff.hp ef3 S.nx S.hp) (S.nx+ef3.add.length)) r1 r3 (fun r4 ef4=>XvFieldAddr P 32 2 (S.get 3) (fun r5 _=>XvStore P 30 (M (Eff.hp ef4 (S.nx+ef3.add.length) (Eff.hp ef3 S.nx S.hp)) ((S.nx+ef3.add.length)+ef4.add.length)) r5 r4 (fun r6 ef6=>K ⟨[(0,S.get 0),(2,S.get 2),(3,S.get 3),(8,S.get 8)],(Eff.hp ef6 ((S.nx+ef3.add.length)+ef4.add.length) (Eff.hp ef4 (S.nx+ef3.add.length) (Eff.hp ef3 S.nx S.hp))),(((S.nx+ef3.add.length)+ef4.add.length)+ef6.add.length),S.gh⟩))))))))) fun K hK=>?_
     repeat' (first|(refine hK _ ?_;clear hK K)|((first|refine zaw (fun hg=>?_) (fun hg=>?_)|refine fun(hg:(_:Prop))=>?_)<;>((try simp only[BQ] at hg);try (exfalso;omega)))|refine And.intro ?_ ?_|exact cl|(refine st ?_;try simp only[encX,zaa,zac,zad,encF,encR,encA])|fail)
     all_goals
     refine rY [0,2,3,8] (fun P S K=>XvBinOV P .add 3 (.const (.int .i64 1)) (S.get 8) (.atom (.int .i64 1)) (fun r1 _=>K ⟨[(0,S.get 0),(2,S.get 2),(3,S.get 3),(8,r1)],S.hp,S.nx,S.gh⟩)) ?_
     all_goals try simp (disch:=omega) only[zae,zaf]
     all_goals
     generalize ht:(n.tdiv 9).tmod 3=t at *
     first
       | (have em:madA n=⟨⟨#[]⟩,zaF (n.tdiv 27),zaF (n.tdiv 3)⟩:=by unfold madA;rw[ht,if_pos (by omega),if_pos (by omega)]
          refine⟨⟨q++[⟨⟨#[]⟩,zaF (n.tdiv 27),zaF (n.tdiv 3)⟩],k+1,by omega,by simp[hql],by rw[mkA,hn,←hq,em]⟩,[0,1,2,3,7],by dsimp only;omega,?_⟩
          exact zbh)
       | (have em:madA n=⟨zaF n,zaF (n.tdiv 27),zaF (n.tdiv 3)⟩:=by unfold madA;rw[ht,if_neg (by omega),if_pos (by omega)]
          refine⟨⟨q++[⟨zaF n,zaF (n.tdiv 27),zaF (n.tdiv 3)⟩],k+1,by omega,by simp[hql],by rw[mkA,hn,←hq,em]⟩,[0,1,2,3,7],by dsimp only;omega,?_⟩
          exact zbh)
       | (have em:madA n=⟨zaF n,⟨#[]⟩,zaF (n.tdiv 3)⟩:=by unfold madA;rw[ht,if_neg (by omega),if_neg (by omega)]
          refine⟨⟨q++[⟨zaF n,⟨#[]⟩,zaF (n.tdiv 3)⟩],k+1,by omega,by simp[hql],by rw[mkA,hn,←hq,em]⟩,[0,1,2,3,7],by dsimp only;omega,?_⟩
          exact zbh)
       | (exfalso;omega)
    try (cases h95;done)
    all_goals (try simp only[CQ] at h95)
    all_goals
    refine Tri.skip ?_
    refine rZ [0,2,3,8] (fun P S K=>XvFieldAddr P 32 2 (S.get 3) (fun r0 _=>XvLoad P 30 (M S.hp S.nx) r0 (fun r1 _=>XvLoad P 89 (M S.hp S.nx) (S.get 10) (fun r2 _=>XvBuildS P 30 1 S.nx [(0,r2)] (fun r3 ef3=>(30=30∧XvAppend P 30 (M (Eff.hp ef3 S.nx S.hp) (S.nx+ef3.add.length)) r1 r3 (fun r4 ef4=>XvFieldAddr P 32 2 (S.get 3) (fun r5 _=>XvStore P 30 (M (Eff.hp ef4 (S.nx+ef3.add.length) (Eff.hp ef3 S.nx S.hp)) ((S.nx+ef3.add.length)+ef4.add.length)) r5 r4 (fun r6 ef6=>K ⟨[(0,S.get 0),(2,S.get 2),(3,S.get 3),(8,S.get 8)],(Eff.hp ef6 ((S.nx+ef3.add.length)+ef4.add.length) (Eff.hp ef4 (S.nx+ef3.add.length) (Eff.hp ef3 S.nx S.hp))),(((S.nx+ef3.add.length)+ef4.add.length)+ef6.add.length),S.gh⟩))))))))) fun K hK=>?_
    repeat' (first|(refine hK _ ?_;clear hK K)|((first|refine zaw (fun hg=>?_) (fun hg=>?_)|refine fun(hg:(_:Prop))=>?_)<;>((try simp only[BQ] at hg);try (exfalso;omega)))|refine And.intro ?_ ?_|exact cl|(refine st ?_;try simp only[encX,zaa,zac,zad,encF,encR,encA])|fail)
    all_goals
    refine rY [0,2,3,8] (fun P S K=>XvBinOV P .add 3 (.const (.int .i64 1)) (S.get 8) (.atom (.int .i64 1)) (fun r1 _=>K ⟨[(0,S.get 0),(2,S.get 2),(3,S.get 3),(8,r1)],S.hp,S.nx,S.gh⟩)) ?_
    all_goals try simp (disch:=omega) only[zae,zaf]
    all_goals
    generalize ht:(n.tdiv 9).tmod 3=t at *
    first
      | (have em:madA n=⟨⟨#[]⟩,zaF (n.tdiv 27),zaF (n.tdiv 3)⟩:=by unfold madA;rw[ht,if_pos (by omega),if_pos (by omega)]
         refine⟨⟨q++[⟨⟨#[]⟩,zaF (n.tdiv 27),zaF (n.tdiv 3)⟩],k+1,by omega,by simp[hql],by rw[mkA,hn,←hq,em]⟩,[0,1,2,3,7],by dsimp only;omega,?_⟩
         exact zbh)
      | (have em:madA n=⟨zaF n,zaF (n.tdiv 27),zaF (n.tdiv 3)⟩:=by unfold madA;rw[ht,if_neg (by omega),if_pos (by omega)]
         refine⟨⟨q++[⟨zaF n,zaF (n.tdiv 27),zaF (n.tdiv 3)⟩],k+1,by omega,by simp[hql],by rw[mkA,hn,←hq,em]⟩,[0,1,2,3,7],by dsimp only;omega,?_⟩
         exact zbh)
      | (have em:madA n=⟨zaF n,⟨#[]⟩,zaF (n.tdiv 3)⟩:=by unfold madA;rw[ht,if_neg (by omega),if_neg (by omega)]
         refine⟨⟨q++[⟨zaF n,⟨#[]⟩,zaF (n.tdiv 3)⟩],k+1,by omega,by simp[hql],by rw[mkA,hn,←hq,em]⟩,[0,1,2,3,7],by dsimp only;omega,?_⟩
         exact zbh)
      | (exfalso;omega)
   try (cases h87;done)
   all_goals (try simp only[CQ] at h87)
   all_goals
   refine Tri.skip ?_
   refine Tri.seq ?_
   refine sZ [0,2,3,8,10,95] (fun P S K=>XvBinOV P .quo 3 (.const (.int .i64 9)) (S.get 9) (.atom (.int .i64 9)) (fun r1 _=>XvBinOV P .rem 3 (.const (.int .i64 3)) r1 (.atom (.int .i64 3)) (fun r2 _=>XvBinOV P .gtr 3 (.const (.int .i64 1)) r2 (.atom (.int .i64 1)) (fun r3 _=>K ⟨[(0,S.get 0),(2,S.get 2),(3,S.get 3),(8,S.get 8),(10,S.get 10),(95,r3)],S.hp,S.nx,S.gh⟩)))) fun K hK=>?_
   repeat' (first|(refine hK _ ?_;clear hK K)|((first|refine zaw (fun hg=>?_) (fun hg=>?_)|refine fun(hg:(_:Prop))=>?_)<;>((try simp only[BQ] at hg);try (exfalso;omega)))|refine And.intro ?_ ?_|(refine st ?_;try simp only[encX,zaa,zac,zad,encF,encR,encA,zae (x:=n.tdiv 9) (by omega) (by omega)])|fail)
   all_goals try simp (disch:=omega) only[zae,zaf]
   all_goals
   refine Tri.cond rfl (fun h95=>?_) (fun h95=>?_)
   ·try (cases h95;done)
    all_goals (try simp only[CQ] at h95)
    all_goals
    refine rZ [0,2,3,8,10] (fun P S K=>XvFieldAddr P 89 0 (S.get 10) (fun r0 _=>XvStore P 9 (M S.hp S.nx) r0 (.atom (.string { data := #[] })) (fun r1 ef1=>K ⟨[(0,S.get 0),(2,S.get 2),(3,S.get 3),(8,S.get 8),(10,S.get 10)],(Eff.hp ef1 S.nx S.hp),(S.nx+ef1.add.length),S.gh⟩))) fun K hK=>?_
    repeat' (first|(refine hK _ ?_;clear hK K)|refine And.intro ?_ ?_|exact cl|(refine st ?_;try simp only[encX,zaa,zac,zad,encF,encR,encA])|refine sx ?_ (by simp only[encX,zaa,zac,zad,encF,encR,encA];exact rfl)|fail)
    all_goals
    refine rZ [0,2,3,8] (fun P S K=>XvFieldAddr P 32 2 (S.get 3) (fun r0 _=>XvLoad P 30 (M S.hp S.nx) r0 (fun r1 _=>XvLoad P 89 (M S.hp S.nx) (S.get 10) (fun r2 _=>XvBuildS P 30 1 S.nx [(0,r2)] (fun r3 ef3=>(30=30∧XvAppend P 30 (M (Eff.hp ef3 S.nx S.hp) (S.nx+ef3.add.length)) r1 r3 (fun r4 ef4=>XvFieldAddr P 32 2 (S.get 3) (fun r5 _=>XvStore P 30 (M (Eff.hp ef4 (S.nx+ef3.add.length) (Eff.hp ef3 S.nx S.hp)) ((S.nx+ef3.add.length)+ef4.add.length)) r5 r4 (fun r6 ef6=>K ⟨[(0,S.get 0),(2,S.get 2),(3,S.get 3),(8,S.get 8)],(Eff.hp ef6 ((S.nx+ef3.add.length)+ef4.add.length) (Eff.hp ef4 (S.nx+ef3.add.length) (Eff.hp ef3 S.nx S.hp))),(((S.nx+ef3.add.length)+ef4.add.length)+ef6.add.length),S.gh⟩))))))))) fun K hK=>?_
    repeat' (first|(refine hK _ ?_;clear hK K)|((first|refine zaw (fun hg=>?_) (fun hg=>?_)|refine fun(hg:(_:Prop))=>?_)<;>((try simp only[BQ] at hg);try (exfalso;omega)))|refine And.intro ?_ ?_|exact cl|(refine st ?_;try simp only[encX,zaa,zac,zad,encF,encR,encA])|fail)
    all_goals
    refine rY [0,2,3,8] (fun P S K=>XvBinOV P .add 3 (.const (.int .i64 1)) (S.get 8) (.atom (.int .i64 1)) (fun r1 _=>K ⟨[(0,S.get 0),(2,S.get 2),(3,S.get 3),(8,r1)],S.hp,S.nx,S.gh⟩)) ?_
    all_goals try simp (disch:=omega) only[zae,zaf]
    all_goals
    generalize ht:(n.tdiv 9).tmod 3=t at *
    first
      | (have em:madA n=⟨⟨#[]⟩,zaF (n.tdiv 27),zaF (n.tdiv 3)⟩:=by unfold madA;rw[ht,if_pos (by omega),if_pos (by omega)]
         refine⟨⟨q++[⟨⟨#[]⟩,zaF (n.tdiv 27),zaF (n.tdiv 3)⟩],k+1,by omega,by simp[hql],by rw[mkA,hn,←hq,em]⟩,[0,1,2,3,7],by dsimp only;omega,?_⟩
         exact zbh)
      | (have em:madA n=⟨zaF n,zaF (n.tdiv 27),zaF (n.tdiv 3)⟩:=by unfold madA;rw[ht,if_neg (by omega),if_pos (by omega)]
         refine⟨⟨q++[⟨zaF n,zaF (n.tdiv 27),zaF (n.tdiv 3)⟩],k+1,by omega,by simp[hql],by rw[mkA,hn,←hq,em]⟩,[0,1,2,3,7],by dsimp only;omega,?_⟩
         exact zbh)
      | (have em:madA n=⟨zaF n,⟨#[]⟩,zaF (n.tdiv 3)⟩:=by unfold madA;rw[ht,if_neg (by omega),if_neg (by omega)]
         refine⟨⟨q++[⟨zaF n,⟨#[]⟩,zaF (n.tdiv 3)⟩],k+1,by omega,by simp[hql],by rw[mkA,hn,←hq,em]⟩,[0,1,2,3,7],by dsimp only;omega,?_⟩
         exact zbh)
      | (exfalso;omega)
   try (cases h95;done)
   all_goals (try simp only[CQ] at h95)
   all_goals
   refine Tri.skip ?_
   refine rZ [0,2,3,8] (fun P S K=>XvFieldAddr P 32 2 (S.get 3) (fun r0 _=>XvLoad P 30 (M S.hp S.nx) r0 (fun r1 _=>XvLoad P 89 (M S.hp S.nx) (S.get 10) (fun r2 _=>XvBuildS P 30 1 S.nx [(0,r2)] (fun r3 ef3=>(30=30∧XvAppend P 30 (M (Eff.hp ef3 S.nx S.hp) (S.nx+ef3.add.length)) r1 r3 (fun r4 ef4=>XvFieldAddr P 32 2 (S.get 3) (fun r5 _=>XvStore P 30 (M (Eff.hp ef4 (S.nx+ef3.add.length) (Eff.hp ef3 S.nx S.hp)) ((S.nx+ef3.add.length)+ef4.add.length)) r5 r4 (fun r6 ef6=>K ⟨[(0,S.get 0),(2,S.get 2),(3,S.get 3),(8,S.get 8)],(Eff.hp ef6 ((S.nx+ef3.add.length)+ef4.add.length) (Eff.hp ef4 (S.nx+ef3.add.length) (Eff.hp ef3 S.nx S.hp))),(((S.nx+ef3.add.length)+ef4.add.length)+ef6.add.length),S.gh⟩))))))))) fun K hK=>?_
   repeat' (first|(refine hK _ ?_;clear hK K)|((first|refine zaw (fun hg=>?_) (fun hg=>?_)|refine fun(hg:(_:Prop))=>?_)<;>((try simp only[BQ] at hg);try (exfalso;omega)))|refine And.intro ?_ ?_|exact cl|(refine st ?_;try simp only[encX,zaa,zac,zad,encF,encR,encA])|fail)
   all_goals
   refine rY [0,2,3,8] (fun P S K=>XvBinOV P .add 3 (.const (.int .i64 1)) (S.get 8) (.atom (.int .i64 1)) (fun r1 _=>K ⟨[(0,S.get 0),(2,S.get 2),(3,S.get 3),(8,r1)],S.hp,S.nx,S.gh⟩)) ?_
   all_goals try simp (disch:=omega) only[zae,zaf]
   all_goals
   generalize ht:(n.tdiv 9).tmod 3=t at *
   first
     | (have em:madA n=⟨⟨#[]⟩,zaF (n.tdiv 27),zaF (n.tdiv 3)⟩:=by unfold madA;rw[ht,if_pos (by omega),if_pos (by omega)]
        refine⟨⟨q++[⟨⟨#[]⟩,zaF (n.tdiv 27),zaF (n.tdiv 3)⟩],k+1,by omega,by simp[hql],by rw[mkA,hn,←hq,em]⟩,[0,1,2,3,7],by dsimp only;omega,?_⟩
        exact zbh)
     | (have em:madA n=⟨zaF n,zaF (n.tdiv 27),zaF (n.tdiv 3)⟩:=by unfold madA;rw[ht,if_neg (by omega),if_pos (by omega)]
        refine⟨⟨q++[⟨zaF n,zaF (n.tdiv 27),zaF (n.tdiv 3)⟩],k+1,by omega,by simp[hql],by rw[mkA,hn,←hq,em]⟩,[0,1,2,3,7],by dsimp only;omega,?_⟩
        exact zbh)
     | (have em:madA n=⟨zaF n,⟨#[]⟩,zaF (n.tdiv 3)⟩:=by unfold madA;rw[ht,if_neg (by omega),if_neg (by omega)]
        refine⟨⟨q++[⟨zaF n,⟨#[]⟩,zaF (n.tdiv 3)⟩],k+1,by omega,by simp[hql],by rw[mkA,hn,←hq,em]⟩,[0,1,2,3,7],by dsimp only;omega,?_⟩
        exact zbh)
     | (exfalso;omega)
  try (cases h71;done)
  all_goals (try simp only[CQ] at h71)
  all_goals
  refine Tri.exit ?_
  refine sZ [2] (fun P S K=>XvLoad P 32 (M S.hp S.nx) (S.get 3) (fun r0 _=>XvStore P 32 (M S.hp S.nx) (S.get 2) r0 (fun r1 ef1=>K ⟨[(2,S.get 2)],(Eff.hp ef1 S.nx S.hp),(S.nx+ef1.add.length),S.gh⟩))) fun K hK=>?_
  repeat' (first|(refine hK _ ?_;clear hK K)|refine And.intro ?_ ?_|exact cl|(refine st ?_;try simp only[encX,zaa,zac,zad,encF,encR,encA])|refine sx ?_ (by simp only[encX,zaa,zac,zad,encF,encR,encA];exact rfl)|fail)
  all_goals
  refine Tri.ret ?_
  show ResR _ _ _ _ _
  rw[made_eta ho (by omega) hp (by omega) hq (by omega)]
  refine ResR.cell1 (PV.agg [_,_,_]) rfl ?_ (zaQ _)
  simp[-List.map_map,sealed,St.obj,lk,encX,zaa,zac,zad,zaE,zaH,zaI,zap]
theorem zhG (n:Int):letS (zk4 n) 1 24=true:=by
  have h:∀k:Fin 14,letS (ls zk3 k.val) 1 24=true:=by decide
  have h0:=zex (n:=n) (most:=14) (by decide)
  have h1:=zey (n:=n) (most:=14) (by decide)
  exact h ⟨(zdp n 14).toNat,by omega⟩
theorem zdc (n:Int):letS (zaF n) 1 8=true:=by
  have h:∀k:Fin 3,letS (ls zjc k.val) 1 8=true:=by decide
  have h0:=zex (n:=n) (most:=3) (by decide)
  have h1:=zey (n:=n) (most:=3) (by decide)
  exact h ⟨(zdp n 3).toNat,by omega⟩
theorem let_mono{s:ByteArray}{a b c d:Int}(h:letS s a b=true) (h1:c≤a) (h2:b≤d):letS s c d=true:=letS_iff.2 ⟨(letS_iff.1 h).1,by have:=(letS_iff.1 h).2.1;omega,by have:=(letS_iff.1 h).2.2;omega⟩
theorem zse (n:Int):zg2 (madF n)=true:=by
  unfold zg2 madF;rw[zhG,zhG,zdc];rfl
theorem zsd{n:Int}(h0:0≤n) (h1:n<4096):zg1 (madR n)=true:=by
  have hqa:=zc4 (k:=8) h0 h1 (by decide)
  have hqc:=zc4 (k:=96) h0 h1 (by decide)
  have hra:=zee (k:=8) h0 (by decide)
  have hrb:=zee (k:=4) hqa.1 (by decide)
  have hrc:=zee (k:=5) hqc.1 (by decide)
  have e1:∀k:Fin 8,letS (ls zjL k.val) 0 8=true:=by decide
  have e2:∀k:Fin 4,letS (ls zj1 k.val) 0 8=true:=by decide
  unfold zg1 madR
  rw[e1 ⟨(n.tmod 8).toNat,by omega⟩,e2 ⟨((n.tdiv 8).tmod 4).toNat,by omega⟩,zdc,decide_eq_true (show 0≤(n.tdiv 96).tmod 5 from hrc.1),decide_eq_true (show(n.tdiv 96).tmod 5≤8 by omega)];rfl
theorem zsf (n:Int):zg3 (madA n)=true:=by
  have hc:∀m:Int,letS (zaF m) 0 8=true:=fun m=>let_mono (zdc m) (by decide) (by decide)
  have hp:∀m:Int,0<(zaF m).size:=fun m=>by have:=(letS_iff.1 (zdc m)).2.1;omega
  unfold zg3 madA
  have he:letS ⟨#[]⟩ 0 8=true:=by decide
  simp only[zdc]
  have h1:=hp n
  have h2:=hp (n.tdiv 27)
  by_cases ha:1<(n.tdiv 9).tmod 3
  · rw[if_pos ha,if_pos (by omega),he,hc,decide_eq_true (by omega)];rfl
  · by_cases hb:0<(n.tdiv 9).tmod 3
    · rw[if_neg ha,if_pos hb,hc,hc,decide_eq_true (by omega)];rfl
    · rw[if_neg ha,if_neg hb,hc,he,decide_eq_true (by omega)];rfl
theorem znc (l:List Int):∀i,(mkF l i).all zg2=true
  | 0=>rfl
  | i+1=>by rw[mkF,List.all_append,znc l i];simp[zse]
theorem znb (l:List Int):∀i,(mkR l i).all zg1=true
  | 0=>rfl
  | i+1=>by rw[mkR,List.all_append,znb l i];simp[zsd (zeQ (l:=l) (i:=9+(i:Int)) (m:=4096) (by decide)) (zdP (by decide))]
theorem znd (l:List Int):∀i,(mkA l i).all zg3=true
  | 0=>rfl
  | i+1=>by rw[mkA,List.all_append,znd l i];simp[zsf]
theorem zkh (l:List Int):(zgQ l).forms.length≤5∧(zgQ l).rules.length≤4∧(zgQ l).prefs.length≤3:=by
  have h6:=zdP (l:=l) (i:=0) (m:=6) (by decide)
  have h5:=zdP (l:=l) (i:=1) (m:=5) (by decide)
  have h4:=zdP (l:=l) (i:=2) (m:=4) (by decide)
  unfold zgQ
  simp only[zr9,zr8,zsa]
  omega
theorem zh0 (l:List Int):zb0 (zgQ l)=0:=by
  have h:=zkh l
  unfold zb0
  rw[if_neg (by omega),if_pos]
  unfold zi6
  show((mkF l _).all zg2 && (mkR l _).all zg1 && (mkA l _).all zg3)=true
  rw[znc,znb,znd];rfl
theorem zsu{x:LexD}(h:zi6 x=true) (h1:x.forms.length≤1000000) (h2:x.rules.length≤1000000) (h3:x.prefs.length≤1000000):HeldX x:=by
  unfold zi6 at h
  rw[Bool.and_eq_true,Bool.and_eq_true] at h
  refine⟨h1,h2,h3,fun f hf=>?_,fun r hr=>?_,fun p hp=>?_⟩
  · have:=List.all_eq_true.1 h.1.1 f hf
    unfold zg2 at this
    simp only[Bool.and_eq_true] at this
    exact⟨by have:=zcF this.1.1;omega,by have:=zcF this.1.2;omega,by have:=zcF this.2;omega⟩
  · have:=List.all_eq_true.1 h.1.2 r hr
    unfold zg1 at this
    simp only[Bool.and_eq_true,decide_eq_true_eq] at this
    exact⟨by have:=zcF this.1.1.1.1;omega,by have:=zcF this.1.1.1.2;omega,by have:=zcF this.1.1.2;omega,by unfold I64;omega⟩
  · have:=List.all_eq_true.1 h.2 p hp
    unfold zg3 at this
    simp only[Bool.and_eq_true] at this
    exact⟨by have:=zcF this.1.1.1;omega,by have:=zcF this.1.1.2;omega,by have:=zcF this.1.2;omega⟩
theorem zsc (l:List Int):HeldX (zgQ l):=by
  have h:=zkh l
  have hv:=zh0 l
  refine zsu ?_ (by omega) (by omega) (by omega)
  unfold zb0 at hv
  rw[if_neg (by omega)] at hv
  cases hf:zi6 (zgQ l) with
  | true=>rfl
  | false=>rw[hf] at hv;exact absurd hv (by decide)
end Go.Proofs.YtehoglapajkabaaGreat
