/-
  Walks: Spoilt of the reference model;what the machine can hold.
-/
import Derived.Test.YtehoglapajkabaaGreatJM0
import Derived.Test.YtehoglapajkabaaGreatJM29
set_option linter.all false
namespace Go.Proofs.YtehoglapajkabaaGreat
open Go Go.RowKit
set_option maxRecDepth 20000
set_option maxHeartbeats 1000000
def spTab:List ByteArray:=[⟨#[]⟩,⟨#[65,110,110,97]⟩,⟨#[97,110,32,97]⟩,⟨#[97,98,99,100,101,102,103,104,105]⟩,⟨#[97,98,99,100,101,102,103,104]⟩,⟨#[97,98,99,100,101,102,103,104,105,106,107,108,109,110,111,112,113,114,115,116,117,118,119,120,121]⟩,⟨#[97,98,99,100,101,102,103,104,105,106,107,108,109,110,111,112,113,114,115,116,117,118,119,120]⟩,⟨#[97,57]⟩]
def spS (b:Int):ByteArray:=ls spTab (zaM b 8).toNat
def odeB:ByteArray:=⟨#[111,100,101]⟩
def znN:ByteArray:=⟨#[110,111,117,110]⟩
def verbB:ByteArray:=⟨#[118,101,114,98]⟩
def esB:ByteArray:=⟨#[115]⟩
def emB:ByteArray:=⟨#[]⟩
def spF (k:Int) (s:ByteArray):FormD:=⟨if k=0 then s else odeB,if k=1 then s else odeB,if k=2 then s else znN⟩
def spR (k:Int) (s:ByteArray) (n:Int):RuleD:=⟨if k=3 then s else esB,if k=4 then s else emB,if k=5 then s else znN,n⟩
def spA (k:Int) (s:ByteArray):PrefD:=⟨if k=6 then s else znN,if k=7 then s else emB,if k=8 then s else verbB⟩
def zbM (x:LexD) (how b:Int):LexD:=
  ⟨x.forms++(if zaM how 12=9 then List.replicate (62+zaM b 4).toNat (spF (zaM how 12) (spS b)) else [])++[spF (zaM how 12) (spS b)],
   x.rules++(if zaM how 12=10 then List.replicate (30+zaM b 4).toNat (spR (zaM how 12) (spS b) (zaM b 11 - 1)) else [])++[spR (zaM how 12) (spS b) (zaM b 11 - 1)],
   x.prefs++(if 10<zaM how 12 then List.replicate (30+zaM b 4).toNat (spA (zaM how 12) (spS b)) else [])++[spA (zaM how 12) (spS b)]⟩
theorem zej{x:LexD}{how b:Int}{k:Int}(h:zaM how 12=k) (hk:0≤k∧k≤8):zbM x how b=⟨x.forms++[spF k (spS b)],x.rules++[spR k (spS b) (zaM b 11 - 1)],x.prefs++[spA k (spS b)]⟩:=by
  unfold zbM;rw[h,if_neg (by omega),if_neg (by omega),if_neg (by omega)];simp
theorem sp_9{x:LexD}{how b:Int}{j:Nat}(h:zaM how 12=9) (hj:(j:Int)=62+zaM b 4):zbM x how b=⟨x.forms++List.replicate j (spF 9 (spS b))++[spF 9 (spS b)],x.rules++[spR 9 (spS b) (zaM b 11 - 1)],x.prefs++[spA 9 (spS b)]⟩:=by
  unfold zbM;rw[h,if_pos rfl,if_neg (by omega),if_neg (by omega),show(62+zaM b 4).toNat=j by omega];simp
theorem zga{x:LexD}{how b:Int}{j:Nat}(h:zaM how 12=10) (hj:(j:Int)=30+zaM b 4):zbM x how b=⟨x.forms++[spF 10 (spS b)],x.rules++List.replicate j (spR 10 (spS b) (zaM b 11 - 1))++[spR 10 (spS b) (zaM b 11 - 1)],x.prefs++[spA 10 (spS b)]⟩:=by
  unfold zbM;rw[h,if_pos rfl,if_neg (by omega),if_neg (by omega),show(30+zaM b 4).toNat=j by omega];simp
theorem zf9{x:LexD}{how b:Int}{j:Nat}(h:zaM how 12=11) (hj:(j:Int)=30+zaM b 4):zbM x how b=⟨x.forms++[spF 11 (spS b)],x.rules++[spR 11 (spS b) (zaM b 11 - 1)],x.prefs++List.replicate j (spA 11 (spS b))++[spA 11 (spS b)]⟩:=by
  unfold zbM;rw[h,if_neg (by omega),if_neg (by omega),if_pos (by omega),show(30+zaM b 4).toNat=j by omega];simp
def spF0:FormD:=⟨odeB,odeB,znN⟩
def spR0 (n:Int):RuleD:=⟨esB,emB,znN,n⟩
def spA0:PrefD:=⟨znN,emB,verbB⟩
theorem zlE (x:LexD) (how b:Int) (hx:HeldX x) (h1:x.forms.length≤1000) (h2:x.rules.length≤1000) (h3:x.prefs.length≤1000) (hh:I64 how) (hb:I64 b):Pure Tryz.prog 8 [encX x,encI how,encI b] (encX (zbM x how b)) []:=by
  have h80:=zbH (n:=b) (most:=8) (by decide)
  have h81:=zbI (n:=b) (most:=8) (by decide)
  have h40:=zbH (n:=b) (most:=4) (by decide)
  have h41:=zbI (n:=b) (most:=4) (by decide)
  have hB0:=zbH (n:=b) (most:=11) (by decide)
  have hB1:=zbI (n:=b) (most:=11) (by decide)
  have hC0:=zbH (n:=how) (most:=12) (by decide)
  have hC1:=zbI (n:=how) (most:=12) (by decide)
  have hg:([.atom (.string ⟨#[]⟩),.atom (.string ⟨#[65,110,110,97]⟩),.atom (.string ⟨#[97,110,32,97]⟩),.atom (.string ⟨#[97,98,99,100,101,102,103,104,105]⟩),.atom (.string ⟨#[97,98,99,100,101,102,103,104]⟩),.atom (.string ⟨#[97,98,99,100,101,102,103,104,105,106,107,108,109,110,111,112,113,114,115,116,117,118,119,120,121]⟩),.atom (.string ⟨#[97,98,99,100,101,102,103,104,105,106,107,108,109,110,111,112,113,114,115,116,117,118,119,120]⟩),.atom (.string ⟨#[97,57]⟩)]:List PV).getD (zaM b 8).toNat .junk=.atom (.string (spS b)):=zbf (l:=spTab) (k:=(zaM b 8).toNat) (by show _<8;omega)
  refine Pure.introR (rv:=[.cell 6 32]) Tryz.func8 (by kernel_rfl) rfl rfl rfl (Nat.le_of_ble_eq_true rfl) ?_ ?_
  · simp[zaF,encI,PV.pure,zaE]
  refine sZ [1,2,3,6] (fun P S K=>XvBox S.nx (S.get 0) (fun r0 ef0=>XvAlloc P 32 (S.nx+ef0.add.length) (fun r1 ef1=>K ⟨[(1,S.get 1),(2,S.get 2),(3,r0),(6,r1)],(Eff.hp ef1 (S.nx+ef0.add.length) (Eff.hp ef0 S.nx S.hp)),((S.nx+ef0.add.length)+ef1.add.length),S.gh⟩))) fun K hK=>?_
  repeat' (first|(refine hK _ ?_;clear hK K)|refine And.intro ?_ ?_|exact cl|(refine st ?_;try simp only[encX,zaa,zab,zac,encF,encR,encA])|fail)
  all_goals
  refine Tri.cut (α:=Unit) (fun⟨⟩=>⟨[(1,encI how),(2,encI b),(6,.ptr 0 3 0 0),(7,.ptr 1 3 0 0)],[(0,some ⟨3,[.agg [nilV,nilV,nilV]]⟩),(1,some ⟨3,[.agg [.ob 2 3 0 x.forms.length,.ob 3 4 0 x.rules.length,.ob 4 3 0 x.prefs.length]]⟩),(2,some ⟨3,x.forms.map encF⟩),(3,some ⟨4,x.rules.map encR⟩),(4,some ⟨3,x.prefs.map encA⟩)],5,[]⟩) ?_ ?_
  ·skip
   refine rD 14 [1,2,6,7] (fun P GD S K=>XvBuildS P 28 0 S.nx [] (fun r0 ef0=>XvFieldAddr P 32 0 (S.get 3) (fun r1 ef1=>XvLoad P 28 (M (Eff.hp ef0 S.nx S.hp) (S.nx+ef0.add.length)) r1 (fun r2 ef2=>(28=28∧XvAppend P 28 (M (Eff.hp ef0 S.nx S.hp) (S.nx+ef0.add.length)) r0 r2 (fun r3 ef3=>XvBuildS P 29 0 ((S.nx+ef0.add.length)+ef3.add.length) [] (fun r4 ef4=>XvFieldAddr P 32 1 (S.get 3) (fun r5 ef5=>XvLoad P 29 (M (Eff.hp ef4 ((S.nx+ef0.add.length)+ef3.add.length) (Eff.hp ef3 (S.nx+ef0.add.length) (Eff.hp ef0 S.nx S.hp))) (((S.nx+ef0.add.length)+ef3.add.length)+ef4.add.length)) r5 (fun r6 ef6=>(29=29∧XvAppend P 29 (M (Eff.hp ef4 ((S.nx+ef0.add.length)+ef3.add.length) (Eff.hp ef3 (S.nx+ef0.add.length) (Eff.hp ef0 S.nx S.hp))) (((S.nx+ef0.add.length)+ef3.add.length)+ef4.add.length)) r4 r6 (fun r7 ef7=>XvBuildS P 30 0 ((((S.nx+ef0.add.length)+ef3.add.length)+ef4.add.length)+ef7.add.length) [] (fun r8 ef8=>XvFieldAddr P 32 2 (S.get 3) (fun r9 ef9=>XvLoad P 30 (M (Eff.hp ef8 ((((S.nx+ef0.add.length)+ef3.add.length)+ef4.add.length)+ef7.add.length) (Eff.hp ef7 (((S.nx+ef0.add.length)+ef3.add.length)+ef4.add.length) (Eff.hp ef4 ((S.nx+ef0.add.length)+ef3.add.length) (Eff.hp ef3 (S.nx+ef0.add.length) (Eff.hp ef0 S.nx S.hp))))) (((((S.nx+ef0.add.length)+ef3.add.length)+ef4.add.length)+ef7.add.length)+ef8.add.length)) r9 (fun r10 ef10=>(30=30∧XvAppend P 30 (M (Eff.hp ef8 ((((S.nx+ef0.add.length)+ef3.add.length)+ef4.add.length)+ef7.add.length) (Eff.hp ef7 (((S.nx+ef0.add.length)+ef3.add.length)+ef4.add.length) (Eff.hp ef4 ((S.nx+ef0.add.length)+ef3.add.length) (Eff.hp ef3 (S.nx+ef0.add.length) (Eff.hp ef0 S.nx S.hp))))) (((((S.nx+ef0.add.length)+ef3.add.length)+ef4.add.length)+ef7.add.length)+ef8.add.length)) r8 r10 (fun r11 ef11=>XvBuild P 32 [(0,r3),(1,r7),(2,r11)] (fun r12 ef12=>XvAlloc P 32 ((((((S.nx+ef0.add.length)+ef3.add.length)+ef4.add.length)+ef7.add.length)+ef8.add.length)+ef11.add.length) (fun r13 ef13=>(trOk S.nx GD [(Eff.tr ef0 S.nx),⟨(S.nx+ef0.add.length),0,ef1.rd,[],[]⟩,⟨(S.nx+ef0.add.length),0,ef2.rd,[],[]⟩,(Eff.tr ef3 (S.nx+ef0.add.length)),(Eff.tr ef4 ((S.nx+ef0.add.length)+ef3.add.length)),⟨(((S.nx+ef0.add.length)+ef3.add.length)+ef4.add.length),0,ef5.rd,[],[]⟩,⟨(((S.nx+ef0.add.length)+ef3.add.length)+ef4.add.length),0,ef6.rd,[],[]⟩,(Eff.tr ef7 (((S.nx+ef0.add.length)+ef3.add.length)+ef4.add.length)),(Eff.tr ef8 ((((S.nx+ef0.add.length)+ef3.add.length)+ef4.add.length)+ef7.add.length)),⟨(((((S.nx+ef0.add.length)+ef3.add.length)+ef4.add.length)+ef7.add.length)+ef8.add.length),0,ef9.rd,[],[]⟩,⟨(((((S.nx+ef0.add.length)+ef3.add.length)+ef4.add.length)+ef7.add.length)+ef8.add.length),0,ef10.rd,[],[]⟩,(Eff.tr ef11 (((((S.nx+ef0.add.length)+ef3.add.length)+ef4.add.length)+ef7.add.length)+ef8.add.length)),⟨((((((S.nx+ef0.add.length)+ef3.add.length)+ef4.add.length)+ef7.add.length)+ef8.add.length)+ef11.add.length),0,ef12.rd,[],[]⟩,(Eff.tr ef13 ((((((S.nx+ef0.add.length)+ef3.add.length)+ef4.add.length)+ef7.add.length)+ef8.add.length)+ef11.add.length))]=true∧XvStore P 32 (M (Eff.hp ef13 ((((((S.nx+ef0.add.length)+ef3.add.length)+ef4.add.length)+ef7.add.length)+ef8.add.length)+ef11.add.length) (Eff.hp ef11 (((((S.nx+ef0.add.length)+ef3.add.length)+ef4.add.length)+ef7.add.length)+ef8.add.length) (Eff.hp ef8 ((((S.nx+ef0.add.length)+ef3.add.length)+ef4.add.length)+ef7.add.length) (Eff.hp ef7 (((S.nx+ef0.add.length)+ef3.add.length)+ef4.add.length) (Eff.hp ef4 ((S.nx+ef0.add.length)+ef3.add.length) (Eff.hp ef3 (S.nx+ef0.add.length) (Eff.hp ef0 S.nx S.hp))))))) (((((((S.nx+ef0.add.length)+ef3.add.length)+ef4.add.length)+ef7.add.length)+ef8.add.length)+ef11.add.length)+ef13.add.length)) r13 r12 (fun r14 ef14=>K ⟨[(1,S.get 1),(2,S.get 2),(6,S.get 6),(7,r13)],(Eff.hp ef14 (((((((S.nx+ef0.add.length)+ef3.add.length)+ef4.add.length)+ef7.add.length)+ef8.add.length)+ef11.add.length)+ef13.add.length) (Eff.hp ef13 ((((((S.nx+ef0.add.length)+ef3.add.length)+ef4.add.length)+ef7.add.length)+ef8.add.length)+ef11.add.length) (Eff.hp ef11 (((((S.nx+ef0.add.length)+ef3.add.length)+ef4.add.length)+ef7.add.length)+ef8.add.length) (Eff.hp ef8 ((((S.nx+ef0.add.length)+ef3.add.length)+ef4.add.length)+ef7.add.length) (Eff.hp ef7 (((S.nx+ef0.add.length)+ef3.add.length)+ef4.add.length) (Eff.hp ef4 ((S.nx+ef0.add.length)+ef3.add.length) (Eff.hp ef3 (S.nx+ef0.add.length) (Eff.hp ef0 S.nx S.hp)))))))),((((((((S.nx+ef0.add.length)+ef3.add.length)+ef4.add.length)+ef7.add.length)+ef8.add.length)+ef11.add.length)+ef13.add.length)+ef14.add.length),S.gh⟩)))))))))))))))))))) fun K hK=>?_
   repeat' (first|(refine hK _ ?_;clear hK K)|(refine(?_:trOk _ _ _=true);kernel_rfl)|refine And.intro ?_ ?_|exact cl|exact one_encF _|exact one_encR _|exact one_encA _|(refine st ?_;try simp only[encX,zaa,zab,zac,encF,encR,encA])|fail)
   all_goals
   refine⟨(),[1,8,3,5,7],?_⟩
   exact za0
  rintro⟨⟩
  refine sZ [1,2,6,7,8] (fun P S K=>XvBuildS P 37 8 S.nx [(0,(.atom (.string { data := #[] }))),(1,(.atom (.string { data := #[65,110,110,97] }))),(2,(.atom (.string { data := #[97,110,32,97] }))),(3,(.atom (.string { data := #[97,98,99,100,101,102,103,104,105] }))),(4,(.atom (.string { data := #[97,98,99,100,101,102,103,104] }))),(5,(.atom (.string { data := #[97,98,99,100,101,102,103,104,105,106,107,108,109,110,111,112,113,114,115,116,117,118,119,120,121] }))),(6,(.atom (.string { data := #[97,98,99,100,101,102,103,104,105,106,107,108,109,110,111,112,113,114,115,116,117,118,119,120] }))),(7,(.atom (.string { data := #[97,57] })))] (fun r0 ef0=>XvFnIV P (M (Eff.hp ef0 S.nx S.hp) (S.nx+ef0.add.length)) (.fn 31 []) [(S.get 2),(.atom (.int .i64 8))] (fun r2 ef2=>XvIndexAddr P 37 r0 r2 (fun r3 _=>XvLoad P 9 (M (Eff.hp ef2 (S.nx+ef0.add.length) (Eff.hp ef0 S.nx S.hp)) ((S.nx+ef0.add.length)+ef2.add.length)) r3 (fun r4 _=>K ⟨[(1,S.get 1),(2,S.get 2),(6,S.get 6),(7,S.get 7),(8,r4)],(Eff.hp ef2 (S.nx+ef0.add.length) (Eff.hp ef0 S.nx S.hp)),((S.nx+ef0.add.length)+ef2.add.length),S.gh⟩))))) fun K hK=>?_
  repeat' (first|(refine hK _ ?_;clear hK K)|refine And.intro ?_ ?_|exact cl|refine .inl ⟨_,_,za8 b 8 hb (by decide),?_⟩|(refine st ?_;try simp only[encX,zaa,zab,zac,encF,encR,encA,hg])|fail)
  all_goals
  refine sZ [1,2,6,7,8,9] (fun P S K=>XvBuild P 76 [(0,(.atom (.string { data := #[111,100,101] }))),(1,(.atom (.string { data := #[111,100,101] }))),(2,(.atom (.string { data := #[110,111,117,110] })))] (fun r0 _=>XvAlloc P 76 S.nx (fun r1 ef1=>XvStore P 76 (M (Eff.hp ef1 S.nx S.hp) (S.nx+ef1.add.length)) r1 r0 (fun r2 ef2=>K ⟨[(1,S.get 1),(2,S.get 2),(6,S.get 6),(7,S.get 7),(8,S.get 8),(9,r1)],(Eff.hp ef2 (S.nx+ef1.add.length) (Eff.hp ef1 S.nx S.hp)),((S.nx+ef1.add.length)+ef2.add.length),S.gh⟩)))) fun K hK=>?_
  repeat' (first|(refine hK _ ?_;clear hK K)|refine And.intro ?_ ?_|exact cl|(refine st ?_;try simp only[encX,zaa,zab,zac,encF,encR,encA])|fail)
  all_goals
  refine sZ [1,2,6,7,8,9,10] (fun P S K=>XvFnIV P (M S.hp S.nx) (.fn 31 []) [(S.get 2),(.atom (.int .i64 11))] (fun r1 ef1=>XvBinOV P .sub 3 (.const (.int .i64 1)) r1 (.atom (.int .i64 1)) (fun r2 _=>XvBuild P 87 [(0,(.atom (.string { data := #[115] }))),(2,(.atom (.string { data := #[110,111,117,110] }))),(3,r2)] (fun r3 _=>XvAlloc P 87 (S.nx+ef1.add.length) (fun r4 ef4=>XvStore P 87 (M (Eff.hp ef4 (S.nx+ef1.add.length) (Eff.hp ef1 S.nx S.hp)) ((S.nx+ef1.add.length)+ef4.add.length)) r4 r3 (fun r5 ef5=>K ⟨[(1,S.get 1),(2,S.get 2),(6,S.get 6),(7,S.get 7),(8,S.get 8),(9,S.get 9),(10,r4)],(Eff.hp ef5 ((S.nx+ef1.add.length)+ef4.add.length) (Eff.hp ef4 (S.nx+ef1.add.length) (Eff.hp ef1 S.nx S.hp))),(((S.nx+ef1.add.length)+ef4.add.length)+ef5.add.length),S.gh⟩)))))) fun K hK=>?_
  repeat' (first|(refine hK _ ?_;clear hK K)|refine And.intro ?_ ?_|exact cl|refine .inl ⟨_,_,za8 how 12 hh (by decide),?_⟩|refine .inl ⟨_,_,za8 b 11 hb (by decide),?_⟩|refine .inl ⟨_,_,za8 b 4 hb (by decide),?_⟩|(refine st ?_;try simp only[encX,zaa,zab,zac,encF,encR,encA])|fail)
  all_goals try simp (disch:=omega) only[zaf,zae]
  all_goals
  refine Tri.cut (α:=Unit) (fun⟨⟩=>⟨[(1,encI how),(2,encI b),(6,.ptr 0 3 0 0),(7,.ptr 1 3 0 0),(8,encS (spS b)),(9,.ptr 5 3 0 0),(10,.ptr 6 4 0 0),(11,.ptr 7 3 0 0)],[(0,some ⟨3,[.agg [nilV,nilV,nilV]]⟩),(1,some ⟨3,[.agg [.ob 2 3 0 x.forms.length,.ob 3 4 0 x.rules.length,.ob 4 3 0 x.prefs.length]]⟩),(2,some ⟨3,x.forms.map encF⟩),(3,some ⟨4,x.rules.map encR⟩),(4,some ⟨3,x.prefs.map encA⟩),(5,some ⟨3,[encF spF0]⟩),(6,some ⟨4,[encR (spR0 (zaM b 11 - 1))]⟩),(7,some ⟨3,[encA spA0]⟩)],8,[]⟩) ?_ ?_
  ·skip
   refine rZ [1,2,6,7,8,9,10,11] (fun P S K=>XvBuild P 89 [(0,(.atom (.string { data := #[110,111,117,110] }))),(2,(.atom (.string { data := #[118,101,114,98] })))] (fun r0 _=>XvAlloc P 89 S.nx (fun r1 ef1=>XvStore P 89 (M (Eff.hp ef1 S.nx S.hp) (S.nx+ef1.add.length)) r1 r0 (fun r2 ef2=>K ⟨[(1,S.get 1),(2,S.get 2),(6,S.get 6),(7,S.get 7),(8,S.get 8),(9,S.get 9),(10,S.get 10),(11,r1)],(Eff.hp ef2 (S.nx+ef1.add.length) (Eff.hp ef1 S.nx S.hp)),((S.nx+ef1.add.length)+ef2.add.length),S.gh⟩)))) fun K hK=>?_
   repeat' (first|(refine hK _ ?_;clear hK K)|refine And.intro ?_ ?_|exact cl|(refine st ?_;try simp only[encX,zaa,zab,zac,encF,encR,encA])|fail)
   all_goals
   refine⟨(),[0,1,2,3,4,6,7,8],?_⟩
   exact za0
  rintro⟨⟩
  refine Tri.cut (α:=(F:List FormD) ×' (R:List RuleD) ×' (A:List PrefD) ×' (f:FormD) ×' (r:RuleD) ×' (p:PrefD) ×' (F.length≤2000∧R.length≤2000∧A.length≤2000∧zbM x how b=⟨F++[f],R++[r],A++[p]⟩)) (fun⟨F,R,A,f,r,p,hF,hR,hA,hsp⟩=>⟨[(6,.ptr 0 3 0 0),(7,.ptr 1 3 0 0),(9,.ptr 5 3 0 0),(10,.ptr 6 4 0 0),(11,.ptr 7 3 0 0)],[(0,some ⟨3,[.agg [nilV,nilV,nilV]]⟩),(1,some ⟨3,[.agg [.ob 2 3 0 F.length,.ob 3 4 0 R.length,.ob 4 3 0 A.length]]⟩),(2,some ⟨3,F.map encF⟩),(3,some ⟨4,R.map encR⟩),(4,some ⟨3,A.map encA⟩),(5,some ⟨3,[encF f]⟩),(6,some ⟨4,[encR r]⟩),(7,some ⟨3,[encA p]⟩)],8,[]⟩) ?_ ?_
  ·skip
   refine sZ [2,6,7,8,9,10,11,40] (fun P S K=>XvFnIV P (M S.hp S.nx) (.fn 31 []) [(S.get 1),(.atom (.int .i64 12))] (fun r1 ef1=>K ⟨[(2,S.get 2),(6,S.get 6),(7,S.get 7),(8,S.get 8),(9,S.get 9),(10,S.get 10),(11,S.get 11),(40,r1)],(Eff.hp ef1 S.nx S.hp),(S.nx+ef1.add.length),S.gh⟩)) fun K hK=>?_
   repeat' (first|(refine hK _ ?_;clear hK K)|refine And.intro ?_ ?_|exact cl|refine .inl ⟨_,_,za8 how 12 hh (by decide),?_⟩|refine .inl ⟨_,_,za8 b 11 hb (by decide),?_⟩|refine .inl ⟨_,_,za8 b 4 hb (by decide),?_⟩|(refine st ?_;try simp only[encX,zaa,zab,zac,encF,encR,encA])|fail)
   all_goals
   refine Tri.block ?_
   refine sZ [2,6,7,8,9,10,11,40,54] (fun P S K=>XvBinOV P .eql 3 (.const (.int .i64 0)) (S.get 40) (.atom (.int .i64 0)) (fun r0 _=>K ⟨[(2,S.get 2),(6,S.get 6),(7,S.get 7),(8,S.get 8),(9,S.get 9),(10,S.get 10),(11,S.get 11),(40,S.get 40),(54,r0)],S.hp,S.nx,S.gh⟩)) fun K hK=>?_
   repeat' (first|(refine hK _ ?_;clear hK K)|refine And.intro ?_ ?_|exact cl|(refine st ?_;try simp only[encX,zaa,zab,zac,encF,encR,encA])|fail)
   all_goals
   refine Tri.cond rfl (fun h54=>?_) (fun h54=>?_)
   ·try (cases h54;done)
    all_goals (try simp only[CQ] at h54)
    all_goals
    refine rZ [6,7,9,10,11] (fun P S K=>XvFieldAddr P 76 0 (S.get 9) (fun r1 _=>XvStore P 9 (M S.hp S.nx) r1 (S.get 8) (fun r2 ef2=>K ⟨[(6,S.get 6),(7,S.get 7),(9,S.get 9),(10,S.get 10),(11,S.get 11)],(Eff.hp ef2 S.nx S.hp),(S.nx+ef2.add.length),S.gh⟩))) fun K hK=>?_
    repeat' (first|(refine hK _ ?_;clear hK K)|refine And.intro ?_ ?_|exact cl|(refine st ?_;try simp only[encX,zaa,zab,zac,encF,encR,encA])|fail)
    all_goals
    refine⟨(by first|exact⟨x.forms,x.rules,x.prefs,_,_,_,by omega,by omega,by omega,zej (by assumption) (by decide)⟩|exact⟨x.forms++List.replicate j spF0,x.rules,x.prefs,_,_,_,by simp;omega,by omega,by omega,sp_9 (j:=j) (by assumption) (by omega)⟩|exact⟨x.forms,x.rules++List.replicate j (spR0 (zaM b 11 - 1)),x.prefs,_,_,_,by omega,by simp;omega,by omega,zga (j:=j) (by assumption) (by omega)⟩|exact⟨x.forms,x.rules,x.prefs++List.replicate j spA0,_,_,_,by omega,by omega,by simp;omega,zf9 (j:=j) (by omega) (by omega)⟩),[0,1,2,3,4,5,6,7],?_⟩
    exact za0
   try (cases h54;done)
   all_goals (try simp only[CQ] at h54)
   all_goals
   refine sZ [2,6,7,8,9,10,11,40,58] (fun P S K=>XvBinOV P .eql 3 (.const (.int .i64 1)) (S.get 40) (.atom (.int .i64 1)) (fun r0 _=>K ⟨[(2,S.get 2),(6,S.get 6),(7,S.get 7),(8,S.get 8),(9,S.get 9),(10,S.get 10),(11,S.get 11),(40,S.get 40),(58,r0)],S.hp,S.nx,S.gh⟩)) fun K hK=>?_
   repeat' (first|(refine hK _ ?_;clear hK K)|refine And.intro ?_ ?_|exact cl|(refine st ?_;try simp only[encX,zaa,zab,zac,encF,encR,encA])|fail)
   all_goals
   refine Tri.cond rfl (fun h58=>?_) (fun h58=>?_)
   ·try (cases h58;done)
    all_goals (try simp only[CQ] at h58)
    all_goals
    refine rZ [6,7,9,10,11] (fun P S K=>XvFieldAddr P 76 1 (S.get 9) (fun r1 _=>XvStore P 9 (M S.hp S.nx) r1 (S.get 8) (fun r2 ef2=>K ⟨[(6,S.get 6),(7,S.get 7),(9,S.get 9),(10,S.get 10),(11,S.get 11)],(Eff.hp ef2 S.nx S.hp),(S.nx+ef2.add.length),S.gh⟩))) fun K hK=>?_
    repeat' (first|(refine hK _ ?_;clear hK K)|refine And.intro ?_ ?_|exact cl|(refine st ?_;try simp only[encX,zaa,zab,zac,encF,encR,encA])|fail)
    all_goals
    refine⟨(by first|exact⟨x.forms,x.rules,x.prefs,_,_,_,by omega,by omega,by omega,zej (by assumption) (by decide)⟩|exact⟨x.forms++List.replicate j spF0,x.rules,x.prefs,_,_,_,by simp;omega,by omega,by omega,sp_9 (j:=j) (by assumption) (by omega)⟩|exact⟨x.forms,x.rules++List.replicate j (spR0 (zaM b 11 - 1)),x.prefs,_,_,_,by omega,by simp;omega,by omega,zga (j:=j) (by assumption) (by omega)⟩|exact⟨x.forms,x.rules,x.prefs++List.replicate j spA0,_,_,_,by omega,by omega,by simp;omega,zf9 (j:=j) (by omega) (by omega)⟩),[0,1,2,3,4,5,6,7],?_⟩
    exact za0
   try (cases h58;done)
   all_goals (try simp only[CQ] at h58)
   all_goals
   refine sZ [2,6,7,8,9,10,11,40,62] (fun P S K=>XvBinOV P .eql 3 (.const (.int .i64 2)) (S.get 40) (.atom (.int .i64 2)) (fun r0 _=>K ⟨[(2,S.get 2),(6,S.get 6),(7,S.get 7),(8,S.get 8),(9,S.get 9),(10,S.get 10),(11,S.get 11),(40,S.get 40),(62,r0)],S.hp,S.nx,S.gh⟩)) fun K hK=>?_
   repeat' (first|(refine hK _ ?_;clear hK K)|refine And.intro ?_ ?_|exact cl|(refine st ?_;try simp only[encX,zaa,zab,zac,encF,encR,encA])|fail)
   all_goals
   refine Tri.cond rfl (fun h62=>?_) (fun h62=>?_)
   ·try (cases h62;done)
    all_goals (try simp only[CQ] at h62)
    all_goals
    refine rZ [6,7,9,10,11] (fun P S K=>XvFieldAddr P 76 2 (S.get 9) (fun r1 _=>XvStore P 9 (M S.hp S.nx) r1 (S.get 8) (fun r2 ef2=>K ⟨[(6,S.get 6),(7,S.get 7),(9,S.get 9),(10,S.get 10),(11,S.get 11)],(Eff.hp ef2 S.nx S.hp),(S.nx+ef2.add.length),S.gh⟩))) fun K hK=>?_
    repeat' (first|(refine hK _ ?_;clear hK K)|refine And.intro ?_ ?_|exact cl|(refine st ?_;try simp only[encX,zaa,zab,zac,encF,encR,encA])|fail)
    all_goals
    refine⟨(by first|exact⟨x.forms,x.rules,x.prefs,_,_,_,by omega,by omega,by omega,zej (by assumption) (by decide)⟩|exact⟨x.forms++List.replicate j spF0,x.rules,x.prefs,_,_,_,by simp;omega,by omega,by omega,sp_9 (j:=j) (by assumption) (by omega)⟩|exact⟨x.forms,x.rules++List.replicate j (spR0 (zaM b 11 - 1)),x.prefs,_,_,_,by omega,by simp;omega,by omega,zga (j:=j) (by assumption) (by omega)⟩|exact⟨x.forms,x.rules,x.prefs++List.replicate j spA0,_,_,_,by omega,by omega,by simp;omega,zf9 (j:=j) (by omega) (by omega)⟩),[0,1,2,3,4,5,6,7],?_⟩
    exact za0
   try (cases h62;done)
   all_goals (try simp only[CQ] at h62)
   all_goals
   refine sZ [2,6,7,8,9,10,11,40,66] (fun P S K=>XvBinOV P .eql 3 (.const (.int .i64 3)) (S.get 40) (.atom (.int .i64 3)) (fun r0 _=>K ⟨[(2,S.get 2),(6,S.get 6),(7,S.get 7),(8,S.get 8),(9,S.get 9),(10,S.get 10),(11,S.get 11),(40,S.get 40),(66,r0)],S.hp,S.nx,S.gh⟩)) fun K hK=>?_
   repeat' (first|(refine hK _ ?_;clear hK K)|refine And.intro ?_ ?_|exact cl|(refine st ?_;try simp only[encX,zaa,zab,zac,encF,encR,encA])|fail)
   all_goals
   refine Tri.cond rfl (fun h66=>?_) (fun h66=>?_)
   ·try (cases h66;done)
    all_goals (try simp only[CQ] at h66)
    all_goals
    refine rZ [6,7,9,10,11] (fun P S K=>XvFieldAddr P 87 0 (S.get 10) (fun r1 _=>XvStore P 9 (M S.hp S.nx) r1 (S.get 8) (fun r2 ef2=>K ⟨[(6,S.get 6),(7,S.get 7),(9,S.get 9),(10,S.get 10),(11,S.get 11)],(Eff.hp ef2 S.nx S.hp),(S.nx+ef2.add.length),S.gh⟩))) fun K hK=>?_
    repeat' (first|(refine hK _ ?_;clear hK K)|refine And.intro ?_ ?_|exact cl|(refine st ?_;try simp only[encX,zaa,zab,zac,encF,encR,encA])|fail)
    all_goals
    refine⟨(by first|exact⟨x.forms,x.rules,x.prefs,_,_,_,by omega,by omega,by omega,zej (by assumption) (by decide)⟩|exact⟨x.forms++List.replicate j spF0,x.rules,x.prefs,_,_,_,by simp;omega,by omega,by omega,sp_9 (j:=j) (by assumption) (by omega)⟩|exact⟨x.forms,x.rules++List.replicate j (spR0 (zaM b 11 - 1)),x.prefs,_,_,_,by omega,by simp;omega,by omega,zga (j:=j) (by assumption) (by omega)⟩|exact⟨x.forms,x.rules,x.prefs++List.replicate j spA0,_,_,_,by omega,by omega,by simp;omega,zf9 (j:=j) (by omega) (by omega)⟩),[0,1,2,3,4,5,6,7],?_⟩
    exact za0
   try (cases h66;done)
   all_goals (try simp only[CQ] at h66)
   all_goals
   refine sZ [2,6,7,8,9,10,11,40,70] (fun P S K=>XvBinOV P .eql 3 (.const (.int .i64 4)) (S.get 40) (.atom (.int .i64 4)) (fun r0 _=>K ⟨[(2,S.get 2),(6,S.get 6),(7,S.get 7),(8,S.get 8),(9,S.get 9),(10,S.get 10),(11,S.get 11),(40,S.get 40),(70,r0)],S.hp,S.nx,S.gh⟩)) fun K hK=>?_
   repeat' (first|(refine hK _ ?_;clear hK K)|refine And.intro ?_ ?_|exact cl|(refine st ?_;try simp only[encX,zaa,zab,zac,encF,encR,encA])|fail)
   all_goals
   refine Tri.cond rfl (fun h70=>?_) (fun h70=>?_)
   ·try (cases h70;done)
    all_goals (try simp only[CQ] at h70)
    all_goals
    refine rZ [6,7,9,10,11] (fun P S K=>XvFieldAddr P 87 1 (S.get 10) (fun r1 _=>XvStore P 9 (M S.hp S.nx) r1 (S.get 8) (fun r2 ef2=>K ⟨[(6,S.get 6),(7,S.get 7),(9,S.get 9),(10,S.get 10),(11,S.get 11)],(Eff.hp ef2 S.nx S.hp),(S.nx+ef2.add.length),S.gh⟩))) fun K hK=>?_
    repeat' (first|(refine hK _ ?_;clear hK K)|refine And.intro ?_ ?_|exact cl|(refine st ?_;try simp only[encX,zaa,zab,zac,encF,encR,encA])|fail)
    all_goals
    refine⟨(by first|exact⟨x.forms,x.rules,x.prefs,_,_,_,by omega,by omega,by omega,zej (by assumption) (by decide)⟩|exact⟨x.forms++List.replicate j spF0,x.rules,x.prefs,_,_,_,by simp;omega,by omega,by omega,sp_9 (j:=j) (by assumption) (by omega)⟩|exact⟨x.forms,x.rules++List.replicate j (spR0 (zaM b 11 - 1)),x.prefs,_,_,_,by omega,by simp;omega,by omega,zga (j:=j) (by assumption) (by omega)⟩|exact⟨x.forms,x.rules,x.prefs++List.replicate j spA0,_,_,_,by omega,by omega,by simp;omega,zf9 (j:=j) (by omega) (by omega)⟩),[0,1,2,3,4,5,6,7],?_⟩
    exact za0
   try (cases h70;done)
   all_goals (try simp only[CQ] at h70)
   all_goals
   refine sZ [2,6,7,8,9,10,11,40,74] (fun P S K=>XvBinOV P .eql 3 (.const (.int .i64 5)) (S.get 40) (.atom (.int .i64 5)) (fun r0 _=>K ⟨[(2,S.get 2),(6,S.get 6),(7,S.get 7),(8,S.get 8),(9,S.get 9),(10,S.get 10),(11,S.get 11),(40,S.get 40),(74,r0)],S.hp,S.nx,S.gh⟩)) fun K hK=>?_
   repeat' (first|(refine hK _ ?_;clear hK K)|refine And.intro ?_ ?_|exact cl|(refine st ?_;try simp only[encX,zaa,zab,zac,encF,encR,encA])|fail)
   all_goals
   refine Tri.cond rfl (fun h74=>?_) (fun h74=>?_)
   ·try (cases h74;done)
    all_goals (try simp only[CQ] at h74)
    all_goals
    refine rZ [6,7,9,10,11] (fun P S K=>XvFieldAddr P 87 2 (S.get 10) (fun r1 _=>XvStore P 9 (M S.hp S.nx) r1 (S.get 8) (fun r2 ef2=>K ⟨[(6,S.get 6),(7,S.get 7),(9,S.get 9),(10,S.get 10),(11,S.get 11)],(Eff.hp ef2 S.nx S.hp),(S.nx+ef2.add.length),S.gh⟩))) fun K hK=>?_
    repeat' (first|(refine hK _ ?_;clear hK K)|refine And.intro ?_ ?_|exact cl|(refine st ?_;try simp only[encX,zaa,zab,zac,encF,encR,encA])|fail)
    all_goals
    refine⟨(by first|exact⟨x.forms,x.rules,x.prefs,_,_,_,by omega,by omega,by omega,zej (by assumption) (by decide)⟩|exact⟨x.forms++List.replicate j spF0,x.rules,x.prefs,_,_,_,by simp;omega,by omega,by omega,sp_9 (j:=j) (by assumption) (by omega)⟩|exact⟨x.forms,x.rules++List.replicate j (spR0 (zaM b 11 - 1)),x.prefs,_,_,_,by omega,by simp;omega,by omega,zga (j:=j) (by assumption) (by omega)⟩|exact⟨x.forms,x.rules,x.prefs++List.replicate j spA0,_,_,_,by omega,by omega,by simp;omega,zf9 (j:=j) (by omega) (by omega)⟩),[0,1,2,3,4,5,6,7],?_⟩
    exact za0
   try (cases h74;done)
   all_goals (try simp only[CQ] at h74)
   all_goals
   refine sZ [2,6,7,8,9,10,11,40,78] (fun P S K=>XvBinOV P .eql 3 (.const (.int .i64 6)) (S.get 40) (.atom (.int .i64 6)) (fun r0 _=>K ⟨[(2,S.get 2),(6,S.get 6),(7,S.get 7),(8,S.get 8),(9,S.get 9),(10,S.get 10),(11,S.get 11),(40,S.get 40),(78,r0)],S.hp,S.nx,S.gh⟩)) fun K hK=>?_
   repeat' (first|(refine hK _ ?_;clear hK K)|refine And.intro ?_ ?_|exact cl|(refine st ?_;try simp only[encX,zaa,zab,zac,encF,encR,encA])|fail)
   all_goals
   refine Tri.cond rfl (fun h78=>?_) (fun h78=>?_)
   ·try (cases h78;done)
    all_goals (try simp only[CQ] at h78)
    all_goals
    refine rZ [6,7,9,10,11] (fun P S K=>XvFieldAddr P 89 0 (S.get 11) (fun r1 _=>XvStore P 9 (M S.hp S.nx) r1 (S.get 8) (fun r2 ef2=>K ⟨[(6,S.get 6),(7,S.get 7),(9,S.get 9),(10,S.get 10),(11,S.get 11)],(Eff.hp ef2 S.nx S.hp),(S.nx+ef2.add.length),S.gh⟩))) fun K hK=>?_
    repeat' (first|(refine hK _ ?_;clear hK K)|refine And.intro ?_ ?_|exact cl|(refine st ?_;try simp only[encX,zaa,zab,zac,encF,encR,encA])|fail)
    all_goals
    refine⟨(by first|exact⟨x.forms,x.rules,x.prefs,_,_,_,by omega,by omega,by omega,zej (by assumption) (by decide)⟩|exact⟨x.forms++List.replicate j spF0,x.rules,x.prefs,_,_,_,by simp;omega,by omega,by omega,sp_9 (j:=j) (by assumption) (by omega)⟩|exact⟨x.forms,x.rules++List.replicate j (spR0 (zaM b 11 - 1)),x.prefs,_,_,_,by omega,by simp;omega,by omega,zga (j:=j) (by assumption) (by omega)⟩|exact⟨x.forms,x.rules,x.prefs++List.replicate j spA0,_,_,_,by omega,by omega,by simp;omega,zf9 (j:=j) (by omega) (by omega)⟩),[0,1,2,3,4,5,6,7],?_⟩
    exact za0
   try (cases h78;done)
   all_goals (try simp only[CQ] at h78)
   all_goals
   refine sZ [2,6,7,8,9,10,11,40,82] (fun P S K=>XvBinOV P .eql 3 (.const (.int .i64 7)) (S.get 40) (.atom (.int .i64 7)) (fun r0 _=>K ⟨[(2,S.get 2),(6,S.get 6),(7,S.get 7),(8,S.get 8),(9,S.get 9),(10,S.get 10),(11,S.get 11),(40,S.get 40),(82,r0)],S.hp,S.nx,S.gh⟩)) fun K hK=>?_
   repeat' (first|(refine hK _ ?_;clear hK K)|refine And.intro ?_ ?_|exact cl|(refine st ?_;try simp only[encX,zaa,zab,zac,encF,encR,encA])|fail)
   all_goals
   refine Tri.cond rfl (fun h82=>?_) (fun h82=>?_)
   ·try (cases h82;done)
    all_goals (try simp only[CQ] at h82)
    all_goals
    refine rZ [6,7,9,10,11] (fun P S K=>XvFieldAddr P 89 1 (S.get 11) (fun r1 _=>XvStore P 9 (M S.hp S.nx) r1 (S.get 8) (fun r2 ef2=>K ⟨[(6,S.get 6),(7,S.get 7),(9,S.get 9),(10,S.get 10),(11,S.get 11)],(Eff.hp ef2 S.nx S.hp),(S.nx+ef2.add.length),S.gh⟩))) fun K hK=>?_
    repeat' (first|(refine hK _ ?_;clear hK K)|refine And.intro ?_ ?_|exact cl|(refine st ?_;try simp only[encX,zaa,zab,zac,encF,encR,encA])|fail)
    all_goals
    refine⟨(by first|exact⟨x.forms,x.rules,x.prefs,_,_,_,by omega,by omega,by omega,zej (by assumption) (by decide)⟩|exact⟨x.forms++List.replicate j spF0,x.rules,x.prefs,_,_,_,by simp;omega,by omega,by omega,sp_9 (j:=j) (by assumption) (by omega)⟩|exact⟨x.forms,x.rules++List.replicate j (spR0 (zaM b 11 - 1)),x.prefs,_,_,_,by omega,by simp;omega,by omega,zga (j:=j) (by assumption) (by omega)⟩|exact⟨x.forms,x.rules,x.prefs++List.replicate j spA0,_,_,_,by omega,by omega,by simp;omega,zf9 (j:=j) (by omega) (by omega)⟩),[0,1,2,3,4,5,6,7],?_⟩
    exact za0
   try (cases h82;done)
   all_goals (try simp only[CQ] at h82)
   all_goals
   refine sZ [2,6,7,8,9,10,11,40,86] (fun P S K=>XvBinOV P .eql 3 (.const (.int .i64 8)) (S.get 40) (.atom (.int .i64 8)) (fun r0 _=>K ⟨[(2,S.get 2),(6,S.get 6),(7,S.get 7),(8,S.get 8),(9,S.get 9),(10,S.get 10),(11,S.get 11),(40,S.get 40),(86,r0)],S.hp,S.nx,S.gh⟩)) fun K hK=>?_
   repeat' (first|(refine hK _ ?_;clear hK K)|refine And.intro ?_ ?_|exact cl|(refine st ?_;try simp only[encX,zaa,zab,zac,encF,encR,encA])|fail)
   all_goals
   refine Tri.cond rfl (fun h86=>?_) (fun h86=>?_)
   ·try (cases h86;done)
    all_goals (try simp only[CQ] at h86)
    all_goals
    refine rZ [6,7,9,10,11] (fun P S K=>XvFieldAddr P 89 2 (S.get 11) (fun r1 _=>XvStore P 9 (M S.hp S.nx) r1 (S.get 8) (fun r2 ef2=>K ⟨[(6,S.get 6),(7,S.get 7),(9,S.get 9),(10,S.get 10),(11,S.get 11)],(Eff.hp ef2 S.nx S.hp),(S.nx+ef2.add.length),S.gh⟩))) fun K hK=>?_
    repeat' (first|(refine hK _ ?_;clear hK K)|refine And.intro ?_ ?_|exact cl|(refine st ?_;try simp only[encX,zaa,zab,zac,encF,encR,encA])|fail)
    all_goals
    refine⟨(by first|exact⟨x.forms,x.rules,x.prefs,_,_,_,by omega,by omega,by omega,zej (by assumption) (by decide)⟩|exact⟨x.forms++List.replicate j spF0,x.rules,x.prefs,_,_,_,by simp;omega,by omega,by omega,sp_9 (j:=j) (by assumption) (by omega)⟩|exact⟨x.forms,x.rules++List.replicate j (spR0 (zaM b 11 - 1)),x.prefs,_,_,_,by omega,by simp;omega,by omega,zga (j:=j) (by assumption) (by omega)⟩|exact⟨x.forms,x.rules,x.prefs++List.replicate j spA0,_,_,_,by omega,by omega,by simp;omega,zf9 (j:=j) (by omega) (by omega)⟩),[0,1,2,3,4,5,6,7],?_⟩
    exact za0
   try (cases h86;done)
   all_goals (try simp only[CQ] at h86)
   all_goals
   refine sZ [2,6,7,9,10,11,40,90] (fun P S K=>XvBinOV P .eql 3 (.const (.int .i64 9)) (S.get 40) (.atom (.int .i64 9)) (fun r0 _=>K ⟨[(2,S.get 2),(6,S.get 6),(7,S.get 7),(9,S.get 9),(10,S.get 10),(11,S.get 11),(40,S.get 40),(90,r0)],S.hp,S.nx,S.gh⟩)) fun K hK=>?_
   repeat' (first|(refine hK _ ?_;clear hK K)|refine And.intro ?_ ?_|exact cl|(refine st ?_;try simp only[encX,zaa,zab,zac,encF,encR,encA])|fail)
   all_goals
   refine Tri.cond rfl (fun h90=>?_) (fun h90=>?_)
   ·try (cases h90;done)
    all_goals (try simp only[CQ] at h90)
    all_goals
    refine sZ [2,6,7,9,10,11,12] (fun P S K=>K ⟨[(2,S.get 2),(6,S.get 6),(7,S.get 7),(9,S.get 9),(10,S.get 10),(11,S.get 11),(12,(.atom (.int .i64 0)))],S.hp,S.nx,S.gh⟩) fun K hK=>?_
    repeat' (first|(refine hK _ ?_;clear hK K)|refine And.intro ?_ ?_|exact cl|(refine st ?_;try simp only[encX,zaa,zab,zac,encF,encR,encA])|fail)
    all_goals
    refine Tri.block ?_
    refine Tri.loop (α:=(j:Nat) ×' ((j:Int)≤62+zaM b 4)) (fun z=>(fun(j:Nat)=>(⟨[(2,encI b),(6,.ptr 0 3 0 0),(7,.ptr 1 3 0 0),(9,.ptr 5 3 0 0),(10,.ptr 6 4 0 0),(11,.ptr 7 3 0 0),(12,encI j)],[(0,some ⟨3,[.agg [nilV,nilV,nilV]]⟩),(1,some ⟨3,[.agg [.ob 2 3 0 (x.forms.length+j),.ob 3 4 0 x.rules.length,.ob 4 3 0 x.prefs.length]]⟩),(2,some ⟨3,(x.forms++List.replicate j spF0).map encF⟩),(3,some ⟨4,x.rules.map encR⟩),(4,some ⟨3,x.prefs.map encA⟩),(5,some ⟨3,[encF spF0]⟩),(6,some ⟨4,[encR (spR0 (zaM b 11 - 1))]⟩),(7,some ⟨3,[encA spA0]⟩)],8,[]⟩:St)) z.1) (fun z=>(fun(j:Nat)=>70 - j) z.1) ⟨0,by omega⟩ [0,1,2,3,4,5,6,7] ?_ ?_
    ·exact za0
    rintro⟨j,hj⟩
    refine Tri.seq ?_
    refine sZ [2,6,7,9,10,11,12,96] (fun P S K=>XvFnIV P (M S.hp S.nx) (.fn 31 []) [(S.get 2),(.atom (.int .i64 4))] (fun r2 ef2=>XvBinOV P .add 3 (.tmp 94) (.atom (.int .i64 62)) r2 (fun r3 _=>XvBinOV P .lss 3 (.tmp 95) (S.get 12) r3 (fun r4 _=>K ⟨[(2,S.get 2),(6,S.get 6),(7,S.get 7),(9,S.get 9),(10,S.get 10),(11,S.get 11),(12,S.get 12),(96,r4)],(Eff.hp ef2 S.nx S.hp),(S.nx+ef2.add.length),S.gh⟩)))) fun K hK=>?_
    repeat' (first|(refine hK _ ?_;clear hK K)|refine And.intro ?_ ?_|exact cl|refine .inl ⟨_,_,za8 how 12 hh (by decide),?_⟩|refine .inl ⟨_,_,za8 b 11 hb (by decide),?_⟩|refine .inl ⟨_,_,za8 b 4 hb (by decide),?_⟩|(refine st ?_;try simp only[encX,zaa,zab,zac,encF,encR,encA])|fail)
    all_goals try simp (disch:=omega) only[zaf,zae]
    all_goals
    refine Tri.cond rfl (fun h96=>?_) (fun h96=>?_)
    ·try (cases h96;done)
     all_goals (try simp only[CQ] at h96)
     all_goals
     refine Tri.skip ?_
     refine Tri.seq ?_
     refine Tri.block ?_
     refine rZ [2,6,7,9,10,11,12] (fun P S K=>XvFieldAddr P 32 0 (S.get 7) (fun r0 _=>XvLoad P 28 (M S.hp S.nx) r0 (fun r1 _=>XvLoad P 76 (M S.hp S.nx) (S.get 9) (fun r2 _=>XvBuildS P 28 1 S.nx [(0,r2)] (fun r3 ef3=>(28=28∧XvAppend P 28 (M (Eff.hp ef3 S.nx S.hp) (S.nx+ef3.add.length)) r1 r3 (fun r4 ef4=>XvFieldAddr P 32 0 (S.get 7) (fun r5 _=>XvStore P 28 (M (Eff.hp ef4 (S.nx+ef3.add.length) (Eff.hp ef3 S.nx S.hp)) ((S.nx+ef3.add.length)+ef4.add.length)) r5 r4 (fun r6 ef6=>K ⟨[(2,S.get 2),(6,S.get 6),(7,S.get 7),(9,S.get 9),(10,S.get 10),(11,S.get 11),(12,S.get 12)],(Eff.hp ef6 ((S.nx+ef3.add.length)+ef4.add.length) (Eff.hp ef4 (S.nx+ef3.add.length) (Eff.hp ef3 S.nx S.hp))),(((S.nx+ef3.add.length)+ef4.add.length)+ef6.add.length),S.gh⟩))))))))) fun K hK=>?_
     repeat' (first|(refine hK _ ?_;clear hK K)|refine And.intro ?_ ?_|exact cl|(refine st ?_;try simp only[encX,zaa,zab,zac,encF,encR,encA])|fail)
     all_goals
     refine rZ [2,6,7,9,10,11,12] (fun P S K=>XvBinOV P .add 3 (.const (.int .i64 1)) (S.get 12) (.atom (.int .i64 1)) (fun r1 _=>K ⟨[(2,S.get 2),(6,S.get 6),(7,S.get 7),(9,S.get 9),(10,S.get 10),(11,S.get 11),(12,r1)],S.hp,S.nx,S.gh⟩)) fun K hK=>?_
     repeat' (first|(refine hK _ ?_;clear hK K)|refine And.intro ?_ ?_|exact cl|(refine st ?_;try simp only[encX,zaa,zab,zac,encF,encR,encA])|fail)
     all_goals try simp (disch:=omega) only[zaf,zae]
     all_goals
     refine⟨⟨j+1,by omega⟩,[0,1,9,3,4,5,6,7],by dsimp only;omega,?_⟩
     dsimp only
     rw[show x.forms.length+(j+1)=x.forms.length+j+1 from rfl,List.replicate_succ',←List.append_assoc]
     exact za0
    try (cases h96;done)
    all_goals (try simp only[CQ] at h96)
    all_goals
    refine Tri.exit ?_
    refine⟨(by first|exact⟨x.forms,x.rules,x.prefs,_,_,_,by omega,by omega,by omega,zej (by assumption) (by decide)⟩|exact⟨x.forms++List.replicate j spF0,x.rules,x.prefs,_,_,_,by simp;omega,by omega,by omega,sp_9 (j:=j) (by assumption) (by omega)⟩|exact⟨x.forms,x.rules++List.replicate j (spR0 (zaM b 11 - 1)),x.prefs,_,_,_,by omega,by simp;omega,by omega,zga (j:=j) (by assumption) (by omega)⟩|exact⟨x.forms,x.rules,x.prefs++List.replicate j spA0,_,_,_,by omega,by omega,by simp;omega,zf9 (j:=j) (by omega) (by omega)⟩),[0,1,2,3,4,5,6,7],?_⟩
    exact za0
   try (cases h90;done)
   all_goals (try simp only[CQ] at h90)
   all_goals
   refine sZ [2,6,7,9,10,11,105] (fun P S K=>XvBinOV P .eql 3 (.const (.int .i64 10)) (S.get 40) (.atom (.int .i64 10)) (fun r0 _=>K ⟨[(2,S.get 2),(6,S.get 6),(7,S.get 7),(9,S.get 9),(10,S.get 10),(11,S.get 11),(105,r0)],S.hp,S.nx,S.gh⟩)) fun K hK=>?_
   repeat' (first|(refine hK _ ?_;clear hK K)|refine And.intro ?_ ?_|exact cl|(refine st ?_;try simp only[encX,zaa,zab,zac,encF,encR,encA])|fail)
   all_goals
   refine Tri.cond rfl (fun h105=>?_) (fun h105=>?_)
   ·try (cases h105;done)
    all_goals (try simp only[CQ] at h105)
    all_goals
    refine sZ [2,6,7,9,10,11,13] (fun P S K=>K ⟨[(2,S.get 2),(6,S.get 6),(7,S.get 7),(9,S.get 9),(10,S.get 10),(11,S.get 11),(13,(.atom (.int .i64 0)))],S.hp,S.nx,S.gh⟩) fun K hK=>?_
    repeat' (first|(refine hK _ ?_;clear hK K)|refine And.intro ?_ ?_|exact cl|(refine st ?_;try simp only[encX,zaa,zab,zac,encF,encR,encA])|fail)
    all_goals
    refine Tri.block ?_
    refine Tri.loop (α:=(j:Nat) ×' ((j:Int)≤30+zaM b 4)) (fun z=>(fun(j:Nat)=>(⟨[(2,encI b),(6,.ptr 0 3 0 0),(7,.ptr 1 3 0 0),(9,.ptr 5 3 0 0),(10,.ptr 6 4 0 0),(11,.ptr 7 3 0 0),(13,encI j)],[(0,some ⟨3,[.agg [nilV,nilV,nilV]]⟩),(1,some ⟨3,[.agg [.ob 2 3 0 x.forms.length,.ob 3 4 0 (x.rules.length+j),.ob 4 3 0 x.prefs.length]]⟩),(2,some ⟨3,x.forms.map encF⟩),(3,some ⟨4,(x.rules++List.replicate j (spR0 (zaM b 11 - 1))).map encR⟩),(4,some ⟨3,x.prefs.map encA⟩),(5,some ⟨3,[encF spF0]⟩),(6,some ⟨4,[encR (spR0 (zaM b 11 - 1))]⟩),(7,some ⟨3,[encA spA0]⟩)],8,[]⟩:St)) z.1) (fun z=>(fun(j:Nat)=>70 - j) z.1) ⟨0,by omega⟩ [0,1,2,3,4,5,6,7] ?_ ?_
    ·exact za0
    rintro⟨j,hj⟩
    refine Tri.seq ?_
    refine sZ [2,6,7,9,10,11,13,111] (fun P S K=>XvFnIV P (M S.hp S.nx) (.fn 31 []) [(S.get 2),(.atom (.int .i64 4))] (fun r2 ef2=>XvBinOV P .add 3 (.tmp 109) (.atom (.int .i64 30)) r2 (fun r3 _=>XvBinOV P .lss 3 (.tmp 110) (S.get 13) r3 (fun r4 _=>K ⟨[(2,S.get 2),(6,S.get 6),(7,S.get 7),(9,S.get 9),(10,S.get 10),(11,S.get 11),(13,S.get 13),(111,r4)],(Eff.hp ef2 S.nx S.hp),(S.nx+ef2.add.length),S.gh⟩)))) fun K hK=>?_
    repeat' (first|(refine hK _ ?_;clear hK K)|refine And.intro ?_ ?_|exact cl|refine .inl ⟨_,_,za8 how 12 hh (by decide),?_⟩|refine .inl ⟨_,_,za8 b 11 hb (by decide),?_⟩|refine .inl ⟨_,_,za8 b 4 hb (by decide),?_⟩|(refine st ?_;try simp only[encX,zaa,zab,zac,encF,encR,encA])|fail)
    all_goals try simp (disch:=omega) only[zaf,zae]
    all_goals
    refine Tri.cond rfl (fun h111=>?_) (fun h111=>?_)
    ·try (cases h111;done)
     all_goals (try simp only[CQ] at h111)
     all_goals
     refine Tri.skip ?_
     refine Tri.seq ?_
     refine Tri.block ?_
     refine rZ [2,6,7,9,10,11,13] (fun P S K=>XvFieldAddr P 32 1 (S.get 7) (fun r0 _=>XvLoad P 29 (M S.hp S.nx) r0 (fun r1 _=>XvLoad P 87 (M S.hp S.nx) (S.get 10) (fun r2 _=>XvBuildS P 29 1 S.nx [(0,r2)] (fun r3 ef3=>(29=29∧XvAppend P 29 (M (Eff.hp ef3 S.nx S.hp) (S.nx+ef3.add.length)) r1 r3 (fun r4 ef4=>XvFieldAddr P 32 1 (S.get 7) (fun r5 _=>XvStore P 29 (M (Eff.hp ef4 (S.nx+ef3.add.length) (Eff.hp ef3 S.nx S.hp)) ((S.nx+ef3.add.length)+ef4.add.length)) r5 r4 (fun r6 ef6=>K ⟨[(2,S.get 2),(6,S.get 6),(7,S.get 7),(9,S.get 9),(10,S.get 10),(11,S.get 11),(13,S.get 13)],(Eff.hp ef6 ((S.nx+ef3.add.length)+ef4.add.length) (Eff.hp ef4 (S.nx+ef3.add.length) (Eff.hp ef3 S.nx S.hp))),(((S.nx+ef3.add.length)+ef4.add.length)+ef6.add.length),S.gh⟩))))))))) fun K hK=>?_
     repeat' (first|(refine hK _ ?_;clear hK K)|refine And.intro ?_ ?_|exact cl|(refine st ?_;try simp only[encX,zaa,zab,zac,encF,encR,encA])|fail)
     all_goals
     refine rZ [2,6,7,9,10,11,13] (fun P S K=>XvBinOV P .add 3 (.const (.int .i64 1)) (S.get 13) (.atom (.int .i64 1)) (fun r1 _=>K ⟨[(2,S.get 2),(6,S.get 6),(7,S.get 7),(9,S.get 9),(10,S.get 10),(11,S.get 11),(13,r1)],S.hp,S.nx,S.gh⟩)) fun K hK=>?_
     repeat' (first|(refine hK _ ?_;clear hK K)|refine And.intro ?_ ?_|exact cl|(refine st ?_;try simp only[encX,zaa,zab,zac,encF,encR,encA])|fail)
     all_goals try simp (disch:=omega) only[zaf,zae]
     all_goals
     refine⟨⟨j+1,by omega⟩,[0,1,2,9,4,5,6,7],by dsimp only;omega,?_⟩
     dsimp only
     rw[show x.rules.length+(j+1)=x.rules.length+j+1 from rfl,List.replicate_succ',←List.append_assoc]
     exact za0
    try (cases h111;done)
    all_goals (try simp only[CQ] at h111)
    all_goals
    refine Tri.exit ?_
    refine⟨(by first|exact⟨x.forms,x.rules,x.prefs,_,_,_,by omega,by omega,by omega,zej (by assumption) (by decide)⟩|exact⟨x.forms++List.replicate j spF0,x.rules,x.prefs,_,_,_,by simp;omega,by omega,by omega,sp_9 (j:=j) (by assumption) (by omega)⟩|exact⟨x.forms,x.rules++List.replicate j (spR0 (zaM b 11 - 1)),x.prefs,_,_,_,by omega,by simp;omega,by omega,zga (j:=j) (by assumption) (by omega)⟩|exact⟨x.forms,x.rules,x.prefs++List.replicate j spA0,_,_,_,by omega,by omega,by simp;omega,zf9 (j:=j) (by omega) (by omega)⟩),[0,1,2,3,4,5,6,7],?_⟩
    exact za0
   try (cases h105;done)
   all_goals (try simp only[CQ] at h105)
   all_goals
   refine sZ [2,6,7,9,10,11,14] (fun P S K=>K ⟨[(2,S.get 2),(6,S.get 6),(7,S.get 7),(9,S.get 9),(10,S.get 10),(11,S.get 11),(14,(.atom (.int .i64 0)))],S.hp,S.nx,S.gh⟩) fun K hK=>?_
   repeat' (first|(refine hK _ ?_;clear hK K)|refine And.intro ?_ ?_|exact cl|(refine st ?_;try simp only[encX,zaa,zab,zac,encF,encR,encA])|fail)
   all_goals
   refine Tri.block ?_
   refine Tri.loop (α:=(j:Nat) ×' ((j:Int)≤30+zaM b 4)) (fun z=>(fun(j:Nat)=>(⟨[(2,encI b),(6,.ptr 0 3 0 0),(7,.ptr 1 3 0 0),(9,.ptr 5 3 0 0),(10,.ptr 6 4 0 0),(11,.ptr 7 3 0 0),(14,encI j)],[(0,some ⟨3,[.agg [nilV,nilV,nilV]]⟩),(1,some ⟨3,[.agg [.ob 2 3 0 x.forms.length,.ob 3 4 0 x.rules.length,.ob 4 3 0 (x.prefs.length+j)]]⟩),(2,some ⟨3,x.forms.map encF⟩),(3,some ⟨4,x.rules.map encR⟩),(4,some ⟨3,(x.prefs++List.replicate j spA0).map encA⟩),(5,some ⟨3,[encF spF0]⟩),(6,some ⟨4,[encR (spR0 (zaM b 11 - 1))]⟩),(7,some ⟨3,[encA spA0]⟩)],8,[]⟩:St)) z.1) (fun z=>(fun(j:Nat)=>70 - j) z.1) ⟨0,by omega⟩ [0,1,2,3,4,5,6,7] ?_ ?_
   ·exact za0
   rintro⟨j,hj⟩
   refine Tri.seq ?_
   refine sZ [2,6,7,9,10,11,14,45] (fun P S K=>XvFnIV P (M S.hp S.nx) (.fn 31 []) [(S.get 2),(.atom (.int .i64 4))] (fun r2 ef2=>XvBinOV P .add 3 (.tmp 43) (.atom (.int .i64 30)) r2 (fun r3 _=>XvBinOV P .lss 3 (.tmp 44) (S.get 14) r3 (fun r4 _=>K ⟨[(2,S.get 2),(6,S.get 6),(7,S.get 7),(9,S.get 9),(10,S.get 10),(11,S.get 11),(14,S.get 14),(45,r4)],(Eff.hp ef2 S.nx S.hp),(S.nx+ef2.add.length),S.gh⟩)))) fun K hK=>?_
   repeat' (first|(refine hK _ ?_;clear hK K)|refine And.intro ?_ ?_|exact cl|refine .inl ⟨_,_,za8 how 12 hh (by decide),?_⟩|refine .inl ⟨_,_,za8 b 11 hb (by decide),?_⟩|refine .inl ⟨_,_,za8 b 4 hb (by decide),?_⟩|(refine st ?_;try simp only[encX,zaa,zab,zac,encF,encR,encA])|fail)
   all_goals try simp (disch:=omega) only[zaf,zae]
   all_goals
   refine Tri.cond rfl (fun h45=>?_) (fun h45=>?_)
   ·try (cases h45;done)
    all_goals (try simp only[CQ] at h45)
    all_goals
    refine Tri.skip ?_
    refine Tri.seq ?_
    refine Tri.block ?_
    refine rZ [2,6,7,9,10,11,14] (fun P S K=>XvFieldAddr P 32 2 (S.get 7) (fun r0 _=>XvLoad P 30 (M S.hp S.nx) r0 (fun r1 _=>XvLoad P 89 (M S.hp S.nx) (S.get 11) (fun r2 _=>XvBuildS P 30 1 S.nx [(0,r2)] (fun r3 ef3=>(30=30∧XvAppend P 30 (M (Eff.hp ef3 S.nx S.hp) (S.nx+ef3.add.length)) r1 r3 (fun r4 ef4=>XvFieldAddr P 32 2 (S.get 7) (fun r5 _=>XvStore P 30 (M (Eff.hp ef4 (S.nx+ef3.add.length) (Eff.hp ef3 S.nx S.hp)) ((S.nx+ef3.add.length)+ef4.add.length)) r5 r4 (fun r6 ef6=>K ⟨[(2,S.get 2),(6,S.get 6),(7,S.get 7),(9,S.get 9),(10,S.get 10),(11,S.get 11),(14,S.get 14)],(Eff.hp ef6 ((S.nx+ef3.add.length)+ef4.add.length) (Eff.hp ef4 (S.nx+ef3.add.length) (Eff.hp ef3 S.nx S.hp))),(((S.nx+ef3.add.length)+ef4.add.length)+ef6.add.length),S.gh⟩))))))))) fun K hK=>?_
    repeat' (first|(refine hK _ ?_;clear hK K)|refine And.intro ?_ ?_|exact cl|(refine st ?_;try simp only[encX,zaa,zab,zac,encF,encR,encA])|fail)
    all_goals
    refine rZ [2,6,7,9,10,11,14] (fun P S K=>XvBinOV P .add 3 (.const (.int .i64 1)) (S.get 14) (.atom (.int .i64 1)) (fun r1 _=>K ⟨[(2,S.get 2),(6,S.get 6),(7,S.get 7),(9,S.get 9),(10,S.get 10),(11,S.get 11),(14,r1)],S.hp,S.nx,S.gh⟩)) fun K hK=>?_
    repeat' (first|(refine hK _ ?_;clear hK K)|refine And.intro ?_ ?_|exact cl|(refine st ?_;try simp only[encX,zaa,zab,zac,encF,encR,encA])|fail)
    all_goals try simp (disch:=omega) only[zaf,zae]
    all_goals
    refine⟨⟨j+1,by omega⟩,[0,1,2,3,9,5,6,7],by dsimp only;omega,?_⟩
    dsimp only
    rw[show x.prefs.length+(j+1)=x.prefs.length+j+1 from rfl,List.replicate_succ',←List.append_assoc]
    exact za0
   try (cases h45;done)
   all_goals (try simp only[CQ] at h45)
   all_goals
   refine Tri.exit ?_
   refine⟨(by first|exact⟨x.forms,x.rules,x.prefs,_,_,_,by omega,by omega,by omega,zej (by assumption) (by decide)⟩|exact⟨x.forms++List.replicate j spF0,x.rules,x.prefs,_,_,_,by simp;omega,by omega,by omega,sp_9 (j:=j) (by assumption) (by omega)⟩|exact⟨x.forms,x.rules++List.replicate j (spR0 (zaM b 11 - 1)),x.prefs,_,_,_,by omega,by simp;omega,by omega,zga (j:=j) (by assumption) (by omega)⟩|exact⟨x.forms,x.rules,x.prefs++List.replicate j spA0,_,_,_,by omega,by omega,by simp;omega,zf9 (j:=j) (by omega) (by omega)⟩),[0,1,2,3,4,5,6,7],?_⟩
   exact za0
  rintro⟨F,R,A,f,r,p,hF,hR,hA,hsp⟩
  refine sZ [6,7,10,11] (fun P S K=>XvFieldAddr P 32 0 (S.get 7) (fun r0 _=>XvLoad P 28 (M S.hp S.nx) r0 (fun r1 _=>XvLoad P 76 (M S.hp S.nx) (S.get 9) (fun r2 _=>XvBuildS P 28 1 S.nx [(0,r2)] (fun r3 ef3=>(28=28∧XvAppend P 28 (M (Eff.hp ef3 S.nx S.hp) (S.nx+ef3.add.length)) r1 r3 (fun r4 ef4=>XvFieldAddr P 32 0 (S.get 7) (fun r5 _=>XvStore P 28 (M (Eff.hp ef4 (S.nx+ef3.add.length) (Eff.hp ef3 S.nx S.hp)) ((S.nx+ef3.add.length)+ef4.add.length)) r5 r4 (fun r6 ef6=>K ⟨[(6,S.get 6),(7,S.get 7),(10,S.get 10),(11,S.get 11)],(Eff.hp ef6 ((S.nx+ef3.add.length)+ef4.add.length) (Eff.hp ef4 (S.nx+ef3.add.length) (Eff.hp ef3 S.nx S.hp))),(((S.nx+ef3.add.length)+ef4.add.length)+ef6.add.length),S.gh⟩))))))))) fun K hK=>?_
  repeat' (first|(refine hK _ ?_;clear hK K)|refine And.intro ?_ ?_|exact cl|(refine st ?_;try simp only[encX,zaa,zab,zac,encF,encR,encA])|fail)
  all_goals
  refine sZ [6,7,11] (fun P S K=>XvFieldAddr P 32 1 (S.get 7) (fun r0 _=>XvLoad P 29 (M S.hp S.nx) r0 (fun r1 _=>XvLoad P 87 (M S.hp S.nx) (S.get 10) (fun r2 _=>XvBuildS P 29 1 S.nx [(0,r2)] (fun r3 ef3=>(29=29∧XvAppend P 29 (M (Eff.hp ef3 S.nx S.hp) (S.nx+ef3.add.length)) r1 r3 (fun r4 ef4=>XvFieldAddr P 32 1 (S.get 7) (fun r5 _=>XvStore P 29 (M (Eff.hp ef4 (S.nx+ef3.add.length) (Eff.hp ef3 S.nx S.hp)) ((S.nx+ef3.add.length)+ef4.add.length)) r5 r4 (fun r6 ef6=>K ⟨[(6,S.get 6),(7,S.get 7),(11,S.get 11)],(Eff.hp ef6 ((S.nx+ef3.add.length)+ef4.add.length) (Eff.hp ef4 (S.nx+ef3.add.length) (Eff.hp ef3 S.nx S.hp))),(((S.nx+ef3.add.length)+ef4.add.length)+ef6.add.length),S.gh⟩))))))))) fun K hK=>?_
  repeat' (first|(refine hK _ ?_;clear hK K)|refine And.intro ?_ ?_|exact cl|(refine st ?_;try simp only[encX,zaa,zab,zac,encF,encR,encA])|fail)
  all_goals
  refine sZ [6,7] (fun P S K=>XvFieldAddr P 32 2 (S.get 7) (fun r0 _=>XvLoad P 30 (M S.hp S.nx) r0 (fun r1 _=>XvLoad P 89 (M S.hp S.nx) (S.get 11) (fun r2 _=>XvBuildS P 30 1 S.nx [(0,r2)] (fun r3 ef3=>(30=30∧XvAppend P 30 (M (Eff.hp ef3 S.nx S.hp) (S.nx+ef3.add.length)) r1 r3 (fun r4 ef4=>XvFieldAddr P 32 2 (S.get 7) (fun r5 _=>XvStore P 30 (M (Eff.hp ef4 (S.nx+ef3.add.length) (Eff.hp ef3 S.nx S.hp)) ((S.nx+ef3.add.length)+ef4.add.length)) r5 r4 (fun r6 ef6=>K ⟨[(6,S.get 6),(7,S.get 7)],(Eff.hp ef6 ((S.nx+ef3.add.length)+ef4.add.length) (Eff.hp ef4 (S.nx+ef3.add.length) (Eff.hp ef3 S.nx S.hp))),(((S.nx+ef3.add.length)+ef4.add.length)+ef6.add.length),S.gh⟩))))))))) fun K hK=>?_
  repeat' (first|(refine hK _ ?_;clear hK K)|refine And.intro ?_ ?_|exact cl|(refine st ?_;try simp only[encX,zaa,zab,zac,encF,encR,encA])|fail)
  all_goals
  refine sZ [6] (fun P S K=>XvLoad P 32 (M S.hp S.nx) (S.get 7) (fun r0 _=>XvStore P 32 (M S.hp S.nx) (S.get 6) r0 (fun r1 ef1=>K ⟨[(6,S.get 6)],(Eff.hp ef1 S.nx S.hp),(S.nx+ef1.add.length),S.gh⟩))) fun K hK=>?_
  repeat' (first|(refine hK _ ?_;clear hK K)|(refine st ?_;try simp only[encX,zaa,zab,zac,encF,encR,encA])|fail)
  all_goals
  refine Tri.ret ?_
  show ResR _ _ _ _ _
  rw[hsp]
  refine ResR.cell1 (PV.agg [_,_,_]) rfl ?_ (zaF _)
  simp[-List.map_map,sealed,St.obj,lk,encX,zaa,zab,zac,zat,zav,zaw,zaG,List.take_of_length_le,encF,encR,encA,encS,encI]
theorem size25{k:Int}(h0:0≤k) (h8:k<8):(ls spTab k.toNat).size≤25:=by
  obtain⟨n,rfl⟩:=Int.eq_ofNat_of_zero_le h0
  have h:∀n:Fin 8,(ls spTab n.val).size≤25:=by decide
  exact h ⟨n,by omega⟩
theorem spS_size (b:Int):(spS b).size≤25:=size25 (zbH (by decide)) (zbI (by decide))
theorem zdc{c:Prop} [Decidable c] {s t:ByteArray}(h:s.size≤25) (h2:t.size≤25):(if c then s else t).size≤140737488355328:=by split<;>omega
theorem zns{x:LexD}{how b:Int}(hx:HeldX x) (h1:x.forms.length≤1000) (h2:x.rules.length≤1000) (h3:x.prefs.length≤1000):HeldX (zbM x how b):=by
  have h40:=zbH (n:=b) (most:=4) (by decide)
  have h41:=zbI (n:=b) (most:=4) (by decide)
  have hB0:=zbH (n:=b) (most:=11) (by decide)
  have hB1:=zbI (n:=b) (most:=11) (by decide)
  have hs:=spS_size b
  have hF:HeldF (spF (zaM how 12) (spS b)):=⟨zdc hs (by decide),zdc hs (by decide),zdc hs (by decide)⟩
  have hR:HeldR (spR (zaM how 12) (spS b) (zaM b 11 - 1)):=⟨zdc hs (by decide),zdc hs (by decide),zdc hs (by decide),by show I64 (zaM b 11 - 1);unfold I64;omega⟩
  have hA:HeldA (spA (zaM how 12) (spS b)):=⟨zdc hs (by decide),zdc hs (by decide),zdc hs (by decide)⟩
  refine⟨?_,?_,?_,fun f hf=>?_,fun r hr=>?_,fun p hp=>?_⟩
  · simp only[zbM,List.length_append,List.length_singleton];split<;>simp<;>omega
  · simp only[zbM,List.length_append,List.length_singleton];split<;>simp<;>omega
  · simp only[zbM,List.length_append,List.length_singleton];split<;>simp<;>omega
  · simp only[zbM,List.mem_append,List.mem_singleton] at hf
    rcases hf with (hf|hf)|rfl
    · exact hx.forms f hf
    · split at hf
      · rw[List.eq_of_mem_replicate hf];exact hF
      · cases hf
    · exact hF
  · simp only[zbM,List.mem_append,List.mem_singleton] at hr
    rcases hr with (hr|hr)|rfl
    · exact hx.rules r hr
    · split at hr
      · rw[List.eq_of_mem_replicate hr];exact hR
      · cases hr
    · exact hR
  · simp only[zbM,List.mem_append,List.mem_singleton] at hp
    rcases hp with (hp|hp)|rfl
    · exact hx.prefs p hp
    · split at hp
      · rw[List.eq_of_mem_replicate hp];exact hA
      · cases hp
    · exact hA
theorem znr (x:LexD) (how b:Int):(zbM x how b).forms.length≤x.forms.length+66∧(zbM x how b).rules.length≤x.rules.length+66∧(zbM x how b).prefs.length≤x.prefs.length+66:=by
  have h40:=zbH (n:=b) (most:=4) (by decide)
  have h41:=zbI (n:=b) (most:=4) (by decide)
  refine⟨?_,?_,?_⟩<;>(simp only[zbM,List.length_append,List.length_singleton];split<;>simp<;>omega)
theorem zfF (n:Int):letS (zg8 n) 1 24=true:=by
  have h:∀k:Fin 14,letS (ls zkm k.val) 1 24=true:=by decide
  have h0:=zbH (n:=n) (most:=14) (by decide)
  have h1:=zbI (n:=n) (most:=14) (by decide)
  exact h ⟨(zaM n 14).toNat,by omega⟩
theorem zds (n:Int):letS (zaO n) 1 8=true:=by
  have h:∀k:Fin 3,letS (ls zir k.val) 1 8=true:=by decide
  have h0:=zbH (n:=n) (most:=3) (by decide)
  have h1:=zbI (n:=n) (most:=3) (by decide)
  exact h ⟨(zaM n 3).toNat,by omega⟩
theorem let_mono{s:ByteArray}{a b c d:Int}(h:letS s a b=true) (h1:c≤a) (h2:b≤d):letS s c d=true:=letS_iff.2 ⟨(letS_iff.1 h).1,by have:=(letS_iff.1 h).2.1;omega,by have:=(letS_iff.1 h).2.2;omega⟩
theorem zqQ (n:Int):zdu (madF n)=true:=by
  unfold zdu madF;rw[zfF,zfF,zds];rfl
theorem zqP{n:Int}(h0:0≤n) (h1:n<4096):zde (madR n)=true:=by
  have hqa:=zdK (k:=8) h0 h1 (by decide)
  have hqc:=zdK (k:=96) h0 h1 (by decide)
  have hra:=ze5 (k:=8) h0 (by decide)
  have hrb:=ze5 (k:=4) hqa.1 (by decide)
  have hrc:=ze5 (k:=5) hqc.1 (by decide)
  have e1:∀k:Fin 8,letS (ls ziU k.val) 0 8=true:=by decide
  have e2:∀k:Fin 4,letS (ls zjf k.val) 0 8=true:=by decide
  unfold zde madR
  rw[e1 ⟨(n.tmod 8).toNat,by omega⟩,e2 ⟨((n.tdiv 8).tmod 4).toNat,by omega⟩,zds,decide_eq_true (show 0≤(n.tdiv 96).tmod 5 from hrc.1),decide_eq_true (show(n.tdiv 96).tmod 5≤8 by omega)];rfl
theorem zqR (n:Int):zfA (madA n)=true:=by
  have hc:∀m:Int,letS (zaO m) 0 8=true:=fun m=>let_mono (zds m) (by decide) (by decide)
  have hp:∀m:Int,0<(zaO m).size:=fun m=>by have:=(letS_iff.1 (zds m)).2.1;omega
  unfold zfA madA
  have he:letS ⟨#[]⟩ 0 8=true:=by decide
  simp only[zds]
  have h1:=hp n
  have h2:=hp (n.tdiv 27)
  by_cases ha:1<(n.tdiv 9).tmod 3
  · rw[if_pos ha,if_pos (by omega),he,hc,decide_eq_true (by omega)];rfl
  · by_cases hb:0<(n.tdiv 9).tmod 3
    · rw[if_neg ha,if_pos hb,hc,hc,decide_eq_true (by omega)];rfl
    · rw[if_neg ha,if_neg hb,hc,he,decide_eq_true (by omega)];rfl
theorem zl8 (l:List Int):∀i,(mkF l i).all zdu=true
  | 0=>rfl
  | i+1=>by rw[mkF,List.all_append,zl8 l i];simp[zqQ]
theorem zl7 (l:List Int):∀i,(mkR l i).all zde=true
  | 0=>rfl
  | i+1=>by rw[mkR,List.all_append,zl7 l i];simp[zqP (zg3 (l:=l) (i:=9+(i:Int)) (m:=4096) (by decide)) (ze1 (by decide))]
theorem zl9 (l:List Int):∀i,(mkA l i).all zfA=true
  | 0=>rfl
  | i+1=>by rw[mkA,List.all_append,zl9 l i];simp[zqR]
theorem zgJ (l:List Int):(zdX l).forms.length≤5∧(zdX l).rules.length≤4∧(zdX l).prefs.length≤3:=by
  have h6:=ze1 (l:=l) (i:=0) (m:=6) (by decide)
  have h5:=ze1 (l:=l) (i:=1) (m:=5) (by decide)
  have h4:=ze1 (l:=l) (i:=2) (m:=4) (by decide)
  unfold zdX
  simp only[zqL,zqK,zqM]
  omega
theorem znO (l:List Int):za7 (zdX l)=0:=by
  have h:=zgJ l
  unfold za7
  rw[if_neg (by omega),if_pos]
  unfold zfz
  show((mkF l _).all zdu && (mkR l _).all zde && (mkA l _).all zfA)=true
  rw[zl8,zl7,zl9];rfl
theorem zra{x:LexD}(h:zfz x=true) (h1:x.forms.length≤1000000) (h2:x.rules.length≤1000000) (h3:x.prefs.length≤1000000):HeldX x:=by
  unfold zfz at h
  rw[Bool.and_eq_true,Bool.and_eq_true] at h
  refine⟨h1,h2,h3,fun f hf=>?_,fun r hr=>?_,fun p hp=>?_⟩
  · have:=List.all_eq_true.1 h.1.1 f hf
    unfold zdu at this
    simp only[Bool.and_eq_true] at this
    exact⟨by have:=zcN this.1.1;omega,by have:=zcN this.1.2;omega,by have:=zcN this.2;omega⟩
  · have:=List.all_eq_true.1 h.1.2 r hr
    unfold zde at this
    simp only[Bool.and_eq_true,decide_eq_true_eq] at this
    exact⟨by have:=zcN this.1.1.1.1;omega,by have:=zcN this.1.1.1.2;omega,by have:=zcN this.1.1.2;omega,by unfold I64;omega⟩
  · have:=List.all_eq_true.1 h.2 p hp
    unfold zfA at this
    simp only[Bool.and_eq_true] at this
    exact⟨by have:=zcN this.1.1.1;omega,by have:=zcN this.1.1.2;omega,by have:=zcN this.1.2;omega⟩
theorem zqO (l:List Int):HeldX (zdX l):=by
  have h:=zgJ l
  have hv:=znO l
  refine zra ?_ (by omega) (by omega) (by omega)
  unfold za7 at hv
  rw[if_neg (by omega)] at hv
  cases hf:zfz (zdX l) with
  | true=>rfl
  | false=>rw[hf] at hv;exact absurd hv (by decide)
end Go.Proofs.YtehoglapajkabaaGreat
