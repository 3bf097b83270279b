/-
  Walks: the laws' own,plain,back.
-/
import Derived.Test.YtehoglapajkabaaIM0
import Derived.Test.YtehoglapajkabaaIM12
set_option linter.all false
namespace Go.Proofs.Ytehoglapajkabaa
open Go Go.RowKit
set_option maxRecDepth 20000
set_option maxHeartbeats 1000000
def nilV:PV:=.atom (.slice none 0 0)
theorem lex_eta{x:LexD}{o:List FormD}{p:List RuleD}{q:List PrefD}{i j k:Nat}(ho:o=x.forms.take i) (hi:x.forms.length≤i) (hp:p=x.rules.take j) (hj:x.rules.length≤j) (hq:q=x.prefs.take k) (hk:x.prefs.length≤k):x=⟨o,p,q⟩:=by
  rw[ho,hp,hq,List.take_of_length_le hi,List.take_of_length_le hj,List.take_of_length_le hk]
theorem own_pure (x:LexD) (hx:HeldX x):Pure Try.prog 6 [encX x] (encX x) []:=by
  have hnf:=hx.nforms
  have hnr:=hx.nrules
  have hnp:=hx.nprefs
  refine Pure.introR (rv:=[.cell 2 27]) Try.func6 (by kernel_rfl) rfl rfl rfl (Nat.le_of_ble_eq_true rfl) ?_ ?_
  · simp[zaR]
  refine sZ [1,2] (fun P S K=>XvBox S.nx (S.get 0) (fun r0 ef0=>XvAlloc P 27 (S.nx+ef0.add.length) (fun r1 ef1=>K ⟨[(1,r0),(2,r1)],(Eff.hp ef1 (S.nx+ef0.add.length) (Eff.hp ef0 S.nx S.hp)),((S.nx+ef0.add.length)+ef1.add.length),S.gh⟩))) fun K hK=>?_
  repeat' (first|(refine hK _ ?_;clear hK K)|refine And.intro ?_ ?_|exact cl|(refine st ?_;try simp only[encX,zaa,zab,zac,encF,encR,encA])|refine sx ?_ (by simp only[encX,zaa,zab,zac,encF,encR,encA];exact rfl)|fail)
  all_goals
  refine sZ [1,2,3] (fun P S K=>XvAlloc P 27 S.nx (fun r0 ef0=>K ⟨[(1,S.get 1),(2,S.get 2),(3,r0)],(Eff.hp ef0 S.nx S.hp),(S.nx+ef0.add.length),S.gh⟩)) fun K hK=>?_
  repeat' (first|(refine hK _ ?_;clear hK K)|refine And.intro ?_ ?_|exact cl|(refine st ?_;try simp only[encX,zaa,zab,zac,encF,encR,encA])|refine sx ?_ (by simp only[encX,zaa,zab,zac,encF,encR,encA];exact rfl)|fail)
  refine Tri.bornF 2 0 3 3 [nilV,nilV,nilV] rfl rfl ?_
  refine Tri.bornF 2 1 4 3 [.ob 3 3 0 0,nilV,nilV] rfl rfl ?_
  refine Tri.bornF 2 2 3 3 [.ob 3 3 0 0,.ob 4 4 0 0,nilV] rfl rfl ?_
  all_goals
  refine Tri.seq ?_
  refine sY [1,2,3,4] (fun P S K=>K ⟨[(1,S.get 1),(2,S.get 2),(3,S.get 3),(4,(.atom (.int .i64 0)))],S.hp,S.nx,S.gh⟩) ?_
  all_goals
  refine Tri.block ?_
  refine Tri.loop (α:=(o:List FormD) ×' (i:Nat) ×' (i≤x.forms.length∧o.length=i∧o=x.forms.take i)) (fun z=>(fun(o:List FormD) (i:Nat)=>(⟨[(1,.ptr 0 3 0 0),(2,.ptr 1 3 0 0),(3,.ptr 2 3 0 0),(4,encI i)],[(0,some ⟨3,[encX x]⟩),(1,some ⟨3,[.agg [nilV,nilV,nilV]]⟩),(2,some ⟨3,[.agg [.ob 3 3 0 o.length,.ob 4 4 0 0,.ob 5 3 0 0]]⟩),(3,some ⟨3,o.map encF⟩),(4,some ⟨4,[]⟩),(5,some ⟨3,[]⟩)],6,[]⟩:St)) z.1 z.2.1) (fun z=>(fun(o:List FormD) (i:Nat)=>x.forms.length - i) z.1 z.2.1) ⟨[],0,⟨Nat.zero_le _,rfl,rfl⟩⟩ [0,1,2,3,4,5] ?_ ?_
  ·exact zbm
  rintro⟨o,i,⟨hi,hol,ho⟩⟩
  refine Tri.seq ?_
  refine sZ [1,2,3,4,14] (fun P S K=>XvFieldAddr P 33 0 (S.get 1) (fun r1 _=>XvLoad P 29 (M S.hp S.nx) r1 (fun r2 _=>XvLen P 29 (M S.hp S.nx) r2 (fun r3 _=>XvBinOV P .lss 3 (.tmp 13) (S.get 4) r3 (fun r4 _=>K ⟨[(1,S.get 1),(2,S.get 2),(3,S.get 3),(4,S.get 4),(14,r4)],S.hp,S.nx,S.gh⟩))))) fun K hK=>?_
  repeat' (first|(refine hK _ ?_;clear hK K)|refine And.intro ?_ ?_|exact cl|(refine st ?_;try simp only[encX,zaa,zab,zac,encF,encR,encA])|refine sx ?_ (by simp only[encX,zaa,zab,zac,encF,encR,encA];exact rfl)|fail)
  all_goals
  refine Tri.cond rfl (fun h14=>?_) (fun h14=>?_)
  ·try (cases h14;done)
   all_goals (try simp only[CQ] at h14)
   all_goals
   refine Tri.skip ?_
   refine Tri.seq ?_
   refine Tri.block ?_
   have hil:i<x.forms.length:=by omega
   refine sZ [1,2,3,4,5] (fun P S K=>XvFieldAddr P 33 0 (S.get 1) (fun r0 _=>XvLoad P 29 (M S.hp S.nx) r0 (fun r1 _=>XvIndexAddr P 29 r1 (S.get 4) (fun r3 _=>XvLoad P 50 (M S.hp S.nx) r3 (fun r4 _=>XvAlloc P 50 S.nx (fun r5 ef5=>XvStore P 50 (M (Eff.hp ef5 S.nx S.hp) (S.nx+ef5.add.length)) r5 r4 (fun r6 ef6=>K ⟨[(1,S.get 1),(2,S.get 2),(3,S.get 3),(4,S.get 4),(5,r5)],(Eff.hp ef6 (S.nx+ef5.add.length) (Eff.hp ef5 S.nx S.hp)),((S.nx+ef5.add.length)+ef6.add.length),S.gh⟩))))))) fun K hK=>?_
   repeat' (first|(refine hK _ ?_;clear hK K)|refine And.intro ?_ ?_|exact cl|(refine st ?_;try simp only[encX,zaa,zab,zac,encF,encR,encA,zba hil])|fail)
   all_goals
   refine rZ [1,2,3,4] (fun P S K=>XvFieldAddr P 27 0 (S.get 3) (fun r0 _=>XvLoad P 23 (M S.hp S.nx) r0 (fun r1 _=>XvFieldAddr P 50 0 (S.get 5) (fun r2 _=>XvLoad P 9 (M S.hp S.nx) r2 (fun r3 _=>XvFieldAddr P 50 1 (S.get 5) (fun r4 _=>XvLoad P 9 (M S.hp S.nx) r4 (fun r5 _=>XvFieldAddr P 50 2 (S.get 5) (fun r6 _=>XvLoad P 9 (M S.hp S.nx) r6 (fun r7 _=>XvBuild P 40 [(0,r3),(1,r5),(2,r7)] (fun r8 _=>XvBuildS P 23 1 S.nx [(0,r8)] (fun r9 ef9=>(23=23∧XvAppend P 23 (M (Eff.hp ef9 S.nx S.hp) (S.nx+ef9.add.length)) r1 r9 (fun r10 ef10=>XvFieldAddr P 27 0 (S.get 3) (fun r11 _=>XvStore P 23 (M (Eff.hp ef10 (S.nx+ef9.add.length) (Eff.hp ef9 S.nx S.hp)) ((S.nx+ef9.add.length)+ef10.add.length)) r11 r10 (fun r12 ef12=>K ⟨[(1,S.get 1),(2,S.get 2),(3,S.get 3),(4,S.get 4)],(Eff.hp ef12 ((S.nx+ef9.add.length)+ef10.add.length) (Eff.hp ef10 (S.nx+ef9.add.length) (Eff.hp ef9 S.nx S.hp))),(((S.nx+ef9.add.length)+ef10.add.length)+ef12.add.length),S.gh⟩))))))))))))))) fun K hK=>?_
   repeat' (first|(refine hK _ ?_;clear hK K)|refine And.intro ?_ ?_|exact cl|(refine st ?_;try simp only[encX,zaa,zab,zac,encF,encR,encA,zba hil])|fail)
   all_goals
   refine rY [1,2,3,4] (fun P S K=>XvBinOV P .add 3 (.const (.int .i64 1)) (S.get 4) (.atom (.int .i64 1)) (fun r1 _=>K ⟨[(1,S.get 1),(2,S.get 2),(3,S.get 3),(4,r1)],S.hp,S.nx,S.gh⟩)) ?_
   all_goals try simp (disch:=omega) only[zae,zaf]
   all_goals
   refine⟨⟨o++[fF x.forms i],i+1,by omega,by simp[hol],by rw[zhW hil,←ho]⟩,[0,1,2,8,4,5],by dsimp only;omega,?_⟩
   exact zbm
  try (cases h14;done)
  all_goals (try simp only[CQ] at h14)
  all_goals
  refine Tri.exit ?_
  refine Tri.seq ?_
  refine sY [1,2,3,6] (fun P S K=>K ⟨[(1,S.get 1),(2,S.get 2),(3,S.get 3),(6,(.atom (.int .i64 0)))],S.hp,S.nx,S.gh⟩) ?_
  all_goals
  refine Tri.block ?_
  refine Tri.loop (α:=(p:List RuleD) ×' (j:Nat) ×' (j≤x.rules.length∧p.length=j∧p=x.rules.take j)) (fun z=>(fun(p:List RuleD) (j:Nat)=>(⟨[(1,.ptr 0 3 0 0),(2,.ptr 1 3 0 0),(3,.ptr 2 3 0 0),(6,encI j)],[(0,some ⟨3,[encX x]⟩),(1,some ⟨3,[.agg [nilV,nilV,nilV]]⟩),(2,some ⟨3,[.agg [.ob 3 3 0 o.length,.ob 4 4 0 p.length,.ob 5 3 0 0]]⟩),(3,some ⟨3,o.map encF⟩),(4,some ⟨4,p.map encR⟩),(5,some ⟨3,[]⟩)],6,[]⟩:St)) z.1 z.2.1) (fun z=>(fun(p:List RuleD) (j:Nat)=>x.rules.length - j) z.1 z.2.1) ⟨[],0,⟨Nat.zero_le _,rfl,rfl⟩⟩ [0,1,2,3,4,5] ?_ ?_
  ·exact zbm
  rintro⟨p,j,⟨hj,hpl,hp⟩⟩
  refine Tri.seq ?_
  refine sZ [1,2,3,6,38] (fun P S K=>XvFieldAddr P 33 1 (S.get 1) (fun r1 _=>XvLoad P 30 (M S.hp S.nx) r1 (fun r2 _=>XvLen P 30 (M S.hp S.nx) r2 (fun r3 _=>XvBinOV P .lss 3 (.tmp 37) (S.get 6) r3 (fun r4 _=>K ⟨[(1,S.get 1),(2,S.get 2),(3,S.get 3),(6,S.get 6),(38,r4)],S.hp,S.nx,S.gh⟩))))) fun K hK=>?_
  repeat' (first|(refine hK _ ?_;clear hK K)|refine And.intro ?_ ?_|exact cl|(refine st ?_;try simp only[encX,zaa,zab,zac,encF,encR,encA])|refine sx ?_ (by simp only[encX,zaa,zab,zac,encF,encR,encA];exact rfl)|fail)
  all_goals
  refine Tri.cond rfl (fun h38=>?_) (fun h38=>?_)
  ·try (cases h38;done)
   all_goals (try simp only[CQ] at h38)
   all_goals
   refine Tri.skip ?_
   refine Tri.seq ?_
   refine Tri.block ?_
   have hjl:j<x.rules.length:=by omega
   refine sZ [1,2,3,6,7] (fun P S K=>XvFieldAddr P 33 1 (S.get 1) (fun r0 _=>XvLoad P 30 (M S.hp S.nx) r0 (fun r1 _=>XvIndexAddr P 30 r1 (S.get 6) (fun r3 _=>XvLoad P 48 (M S.hp S.nx) r3 (fun r4 _=>XvAlloc P 48 S.nx (fun r5 ef5=>XvStore P 48 (M (Eff.hp ef5 S.nx S.hp) (S.nx+ef5.add.length)) r5 r4 (fun r6 ef6=>K ⟨[(1,S.get 1),(2,S.get 2),(3,S.get 3),(6,S.get 6),(7,r5)],(Eff.hp ef6 (S.nx+ef5.add.length) (Eff.hp ef5 S.nx S.hp)),((S.nx+ef5.add.length)+ef6.add.length),S.gh⟩))))))) fun K hK=>?_
   repeat' (first|(refine hK _ ?_;clear hK K)|refine And.intro ?_ ?_|exact cl|(refine st ?_;try simp only[encX,zaa,zab,zac,encF,encR,encA,zdo hjl])|fail)
   all_goals
   refine rZ [1,2,3,6] (fun P S K=>XvFieldAddr P 27 1 (S.get 3) (fun r0 _=>XvLoad P 24 (M S.hp S.nx) r0 (fun r1 _=>XvFieldAddr P 48 0 (S.get 7) (fun r2 _=>XvLoad P 9 (M S.hp S.nx) r2 (fun r3 _=>XvFieldAddr P 48 1 (S.get 7) (fun r4 _=>XvLoad P 9 (M S.hp S.nx) r4 (fun r5 _=>XvFieldAddr P 48 2 (S.get 7) (fun r6 _=>XvLoad P 9 (M S.hp S.nx) r6 (fun r7 _=>XvFieldAddr P 48 3 (S.get 7) (fun r8 _=>XvLoad P 3 (M S.hp S.nx) r8 (fun r9 _=>XvBuild P 66 [(0,r3),(1,r5),(2,r7),(3,r9)] (fun r10 _=>XvBuildS P 24 1 S.nx [(0,r10)] (fun r11 ef11=>(24=24∧XvAppend P 24 (M (Eff.hp ef11 S.nx S.hp) (S.nx+ef11.add.length)) r1 r11 (fun r12 ef12=>XvFieldAddr P 27 1 (S.get 3) (fun r13 _=>XvStore P 24 (M (Eff.hp ef12 (S.nx+ef11.add.length) (Eff.hp ef11 S.nx S.hp)) ((S.nx+ef11.add.length)+ef12.add.length)) r13 r12 (fun r14 ef14=>K ⟨[(1,S.get 1),(2,S.get 2),(3,S.get 3),(6,S.get 6)],(Eff.hp ef14 ((S.nx+ef11.add.length)+ef12.add.length) (Eff.hp ef12 (S.nx+ef11.add.length) (Eff.hp ef11 S.nx S.hp))),(((S.nx+ef11.add.length)+ef12.add.length)+ef14.add.length),S.gh⟩))))))))))))))))) fun K hK=>?_
   repeat' (first|(refine hK _ ?_;clear hK K)|refine And.intro ?_ ?_|exact cl|(refine st ?_;try simp only[encX,zaa,zab,zac,encF,encR,encA,zdo hjl])|fail)
   all_goals
   refine rY [1,2,3,6] (fun P S K=>XvBinOV P .add 3 (.const (.int .i64 1)) (S.get 6) (.atom (.int .i64 1)) (fun r1 _=>K ⟨[(1,S.get 1),(2,S.get 2),(3,S.get 3),(6,r1)],S.hp,S.nx,S.gh⟩)) ?_
   all_goals try simp (disch:=omega) only[zae,zaf]
   all_goals
   refine⟨⟨p++[fR x.rules j],j+1,by omega,by simp[hpl],by rw[zoA hjl,←hp]⟩,[0,1,2,3,8,5],by dsimp only;omega,?_⟩
   exact zbm
  try (cases h38;done)
  all_goals (try simp only[CQ] at h38)
  all_goals
  refine Tri.exit ?_
  refine Tri.seq ?_
  refine sY [1,2,3,8] (fun P S K=>K ⟨[(1,S.get 1),(2,S.get 2),(3,S.get 3),(8,(.atom (.int .i64 0)))],S.hp,S.nx,S.gh⟩) ?_
  all_goals
  refine Tri.block ?_
  refine Tri.loop (α:=(q:List PrefD) ×' (k:Nat) ×' (k≤x.prefs.length∧q.length=k∧q=x.prefs.take k)) (fun z=>(fun(q:List PrefD) (k:Nat)=>(⟨[(1,.ptr 0 3 0 0),(2,.ptr 1 3 0 0),(3,.ptr 2 3 0 0),(8,encI k)],[(0,some ⟨3,[encX x]⟩),(1,some ⟨3,[.agg [nilV,nilV,nilV]]⟩),(2,some ⟨3,[.agg [.ob 3 3 0 o.length,.ob 4 4 0 p.length,.ob 5 3 0 q.length]]⟩),(3,some ⟨3,o.map encF⟩),(4,some ⟨4,p.map encR⟩),(5,some ⟨3,q.map encA⟩)],6,[]⟩:St)) z.1 z.2.1) (fun z=>(fun(q:List PrefD) (k:Nat)=>x.prefs.length - k) z.1 z.2.1) ⟨[],0,⟨Nat.zero_le _,rfl,rfl⟩⟩ [0,1,2,3,4,5] ?_ ?_
  ·exact zbm
  rintro⟨q,k,⟨hk,hql,hq⟩⟩
  refine Tri.seq ?_
  refine sZ [1,2,3,8,64] (fun P S K=>XvFieldAddr P 33 2 (S.get 1) (fun r1 _=>XvLoad P 31 (M S.hp S.nx) r1 (fun r2 _=>XvLen P 31 (M S.hp S.nx) r2 (fun r3 _=>XvBinOV P .lss 3 (.tmp 63) (S.get 8) r3 (fun r4 _=>K ⟨[(1,S.get 1),(2,S.get 2),(3,S.get 3),(8,S.get 8),(64,r4)],S.hp,S.nx,S.gh⟩))))) fun K hK=>?_
  repeat' (first|(refine hK _ ?_;clear hK K)|refine And.intro ?_ ?_|exact cl|(refine st ?_;try simp only[encX,zaa,zab,zac,encF,encR,encA])|refine sx ?_ (by simp only[encX,zaa,zab,zac,encF,encR,encA];exact rfl)|fail)
  all_goals
  refine Tri.cond rfl (fun h64=>?_) (fun h64=>?_)
  ·try (cases h64;done)
   all_goals (try simp only[CQ] at h64)
   all_goals
   refine Tri.skip ?_
   refine Tri.seq ?_
   refine Tri.block ?_
   have hkl:k<x.prefs.length:=by omega
   refine sZ [1,2,3,8,9] (fun P S K=>XvFieldAddr P 33 2 (S.get 1) (fun r0 _=>XvLoad P 31 (M S.hp S.nx) r0 (fun r1 _=>XvIndexAddr P 31 r1 (S.get 8) (fun r3 _=>XvLoad P 52 (M S.hp S.nx) r3 (fun r4 _=>XvAlloc P 52 S.nx (fun r5 ef5=>XvStore P 52 (M (Eff.hp ef5 S.nx S.hp) (S.nx+ef5.add.length)) r5 r4 (fun r6 ef6=>K ⟨[(1,S.get 1),(2,S.get 2),(3,S.get 3),(8,S.get 8),(9,r5)],(Eff.hp ef6 (S.nx+ef5.add.length) (Eff.hp ef5 S.nx S.hp)),((S.nx+ef5.add.length)+ef6.add.length),S.gh⟩))))))) fun K hK=>?_
   repeat' (first|(refine hK _ ?_;clear hK K)|refine And.intro ?_ ?_|exact cl|(refine st ?_;try simp only[encX,zaa,zab,zac,encF,encR,encA,zft hkl])|fail)
   all_goals
   refine rZ [1,2,3,8] (fun P S K=>XvFieldAddr P 27 2 (S.get 3) (fun r0 _=>XvLoad P 25 (M S.hp S.nx) r0 (fun r1 _=>XvFieldAddr P 52 0 (S.get 9) (fun r2 _=>XvLoad P 9 (M S.hp S.nx) r2 (fun r3 _=>XvFieldAddr P 52 1 (S.get 9) (fun r4 _=>XvLoad P 9 (M S.hp S.nx) r4 (fun r5 _=>XvFieldAddr P 52 2 (S.get 9) (fun r6 _=>XvLoad P 9 (M S.hp S.nx) r6 (fun r7 _=>XvBuild P 67 [(0,r3),(1,r5),(2,r7)] (fun r8 _=>XvBuildS P 25 1 S.nx [(0,r8)] (fun r9 ef9=>(25=25∧XvAppend P 25 (M (Eff.hp ef9 S.nx S.hp) (S.nx+ef9.add.length)) r1 r9 (fun r10 ef10=>XvFieldAddr P 27 2 (S.get 3) (fun r11 _=>XvStore P 25 (M (Eff.hp ef10 (S.nx+ef9.add.length) (Eff.hp ef9 S.nx S.hp)) ((S.nx+ef9.add.length)+ef10.add.length)) r11 r10 (fun r12 ef12=>K ⟨[(1,S.get 1),(2,S.get 2),(3,S.get 3),(8,S.get 8)],(Eff.hp ef12 ((S.nx+ef9.add.length)+ef10.add.length) (Eff.hp ef10 (S.nx+ef9.add.length) (Eff.hp ef9 S.nx S.hp))),(((S.nx+ef9.add.length)+ef10.add.length)+ef12.add.length),S.gh⟩))))))))))))))) fun K hK=>?_
   repeat' (first|(refine hK _ ?_;clear hK K)|refine And.intro ?_ ?_|exact cl|(refine st ?_;try simp only[encX,zaa,zab,zac,encF,encR,encA,zft hkl])|fail)
   all_goals
   refine rY [1,2,3,8] (fun P S K=>XvBinOV P .add 3 (.const (.int .i64 1)) (S.get 8) (.atom (.int .i64 1)) (fun r1 _=>K ⟨[(1,S.get 1),(2,S.get 2),(3,S.get 3),(8,r1)],S.hp,S.nx,S.gh⟩)) ?_
   all_goals try simp (disch:=omega) only[zae,zaf]
   all_goals
   refine⟨⟨q++[fA x.prefs k],k+1,by omega,by simp[hql],by rw[take_fA hkl,←hq]⟩,[0,1,2,3,4,8],by dsimp only;omega,?_⟩
   exact zbm
  try (cases h64;done)
  all_goals (try simp only[CQ] at h64)
  all_goals
  refine Tri.exit ?_
  refine sZ [2] (fun P S K=>XvLoad P 27 (M S.hp S.nx) (S.get 3) (fun r0 _=>XvStore P 27 (M S.hp S.nx) (S.get 2) r0 (fun r1 ef1=>K ⟨[(2,S.get 2)],(Eff.hp ef1 S.nx S.hp),(S.nx+ef1.add.length),S.gh⟩))) fun K hK=>?_
  repeat' (first|(refine hK _ ?_;clear hK K)|refine And.intro ?_ ?_|exact cl|(refine st ?_;try simp only[encX,zaa,zab,zac,encF,encR,encA])|refine sx ?_ (by simp only[encX,zaa,zab,zac,encF,encR,encA];exact rfl)|fail)
  all_goals
  refine Tri.ret ?_
  show ResR _ _ _ _ _
  rw[lex_eta ho (by omega) hp (by omega) hq (by omega)]
  refine ResR.cell1 (PV.agg [_,_,_]) rfl ?_ (zaR _)
  simp[-List.map_map,sealed,St.obj,lk,encX,zaa,zab,zac,zaD,zaE,zaG,zaL]
theorem zgZ{l:List Int}{i m:Int}(hm:0<m):0≤atI l i m:=by
  unfold atI;split
  · exact Int.le_refl _
  · exact zeI hm
theorem ze2{l:List Int}{i m:Int}(hm:0<m):atI l i m<m:=by
  unfold atI;split
  · exact hm
  · exact zeJ hm
theorem zdH{n k m:Int}(h0:0≤n) (hm:n<m) (hk:0<k):0≤n.tdiv k∧n.tdiv k<m:=by
  have a:=Int.tdiv_nonneg h0 (Int.le_of_lt hk)
  have b:=Int.tdiv_le_self k h0
  omega
theorem ze4{n k:Int}(h0:0≤n) (hk:0<k):0≤n.tmod k∧n.tmod k<k:=⟨Int.tmod_nonneg _ h0,Int.tmod_lt_of_pos _ hk⟩
def ziO:List ByteArray:=[⟨#[115]⟩,⟨#[101,115]⟩,⟨#[101]⟩,⟨#[]⟩,⟨#[115]⟩,⟨#[97]⟩,⟨#[97,115]⟩,⟨#[121,114,101]⟩]
def zi6:List ByteArray:=[⟨#[]⟩,⟨#[]⟩,⟨#[101]⟩,⟨#[105,115]⟩]
def madF (n:Int):FormD:=⟨zgj n,zgj (n.tdiv 14),zaJ (n.tdiv 196)⟩
def madR (n:Int):RuleD:=⟨ls ziO (n.tmod 8).toNat,ls zi6 ((n.tdiv 8).tmod 4).toNat,zaJ (n.tdiv 32),(n.tdiv 96).tmod 5⟩
def madA (n:Int):PrefD:=⟨if 1<(n.tdiv 9).tmod 3 then ⟨#[]⟩ else zaJ n,if 0<(n.tdiv 9).tmod 3 then zaJ (n.tdiv 27) else ⟨#[]⟩,zaJ (n.tdiv 3)⟩
def mkF (l:List Int):Nat→List FormD
  | 0=>[]
  | i+1=>mkF l i++[madF (atI l (3+(i:Int)) 4096)]
def mkR (l:List Int):Nat→List RuleD
  | 0=>[]
  | i+1=>mkR l i++[madR (atI l (9+(i:Int)) 4096)]
def mkA (l:List Int):Nat→List PrefD
  | 0=>[]
  | i+1=>mkA l i++[madA (atI l (14+(i:Int)) 4096)]
def zcI (l:List Int):LexD:=⟨mkF l (atI l 0 6).toNat,mkR l (atI l 1 5).toNat,mkA l (atI l 2 4).toNat⟩
theorem zqG (l:List Int):∀i,(mkF l i).length=i
  | 0=>rfl
  | i+1=>by rw[mkF,List.length_append,zqG l i];rfl
theorem zqF (l:List Int):∀i,(mkR l i).length=i
  | 0=>rfl
  | i+1=>by rw[mkR,List.length_append,zqF l i];rfl
theorem zqH (l:List Int):∀i,(mkA l i).length=i
  | 0=>rfl
  | i+1=>by rw[mkA,List.length_append,zqH l i];rfl
theorem made_eta{l:List Int}{o:List FormD}{p:List RuleD}{q:List PrefD}{i j k:Nat}(ho:o=mkF l i) (hi:(i:Int)=atI l 0 6) (hp:p=mkR l j) (hj:(j:Int)=atI l 1 5) (hq:q=mkA l k) (hk:(k:Int)=atI l 2 4):zcI l=⟨o,p,q⟩:=by
  unfold zcI;rw[←hi,←hj,←hk,ho,hp,hq];rfl
theorem zrI (l:List Int) (hl:Fits l):Pure Try.prog 7 [ints l] (encX (zcI l)) []:=by
  have h6:=zgZ (l:=l) (i:=0) (m:=6) (by decide)
  have h6':=ze2 (l:=l) (i:=0) (m:=6) (by decide)
  have h5:=zgZ (l:=l) (i:=1) (m:=5) (by decide)
  have h5':=ze2 (l:=l) (i:=1) (m:=5) (by decide)
  have h4:=zgZ (l:=l) (i:=2) (m:=4) (by decide)
  have h4':=ze2 (l:=l) (i:=2) (m:=4) (by decide)
  refine Pure.introR (rv:=[.cell 2 33]) Try.func7 (by kernel_rfl) rfl rfl rfl (Nat.le_of_ble_eq_true rfl) ?_ ?_
  · simp[zah,zag,encI,encS,PV.pure,zaw]
  refine sZ [0,2] (fun P S K=>XvAlloc P 33 S.nx (fun r0 ef0=>K ⟨[(0,S.get 0),(2,r0)],(Eff.hp ef0 S.nx S.hp),(S.nx+ef0.add.length),S.gh⟩)) fun K hK=>?_
  repeat' (first|(refine hK _ ?_;clear hK K)|refine And.intro ?_ ?_|exact cl|(refine st ?_;try simp only[encX,zaa,zab,zac,encF,encR,encA])|refine sx ?_ (by simp only[encX,zaa,zab,zac,encF,encR,encA];exact rfl)|fail)
  all_goals
  refine sZ [0,2,3] (fun P S K=>XvAlloc P 33 S.nx (fun r0 ef0=>K ⟨[(0,S.get 0),(2,S.get 2),(3,r0)],(Eff.hp ef0 S.nx S.hp),(S.nx+ef0.add.length),S.gh⟩)) fun K hK=>?_
  repeat' (first|(refine hK _ ?_;clear hK K)|refine And.intro ?_ ?_|exact cl|(refine st ?_;try simp only[encX,zaa,zab,zac,encF,encR,encA])|refine sx ?_ (by simp only[encX,zaa,zab,zac,encF,encR,encA];exact rfl)|fail)
  refine Tri.bornF 1 0 3 3 [nilV,nilV,nilV] rfl rfl ?_
  refine Tri.bornF 1 1 4 3 [.ob 2 3 0 0,nilV,nilV] rfl rfl ?_
  refine Tri.bornF 1 2 3 3 [.ob 2 3 0 0,.ob 3 4 0 0,nilV] rfl rfl ?_
  all_goals
  refine Tri.seq ?_
  refine sY [0,2,3,4] (fun P S K=>K ⟨[(0,S.get 0),(2,S.get 2),(3,S.get 3),(4,(.atom (.int .i64 0)))],S.hp,S.nx,S.gh⟩) ?_
  all_goals
  refine Tri.block ?_
  refine Tri.loop (α:=(o:List FormD) ×' (i:Nat) ×' ((i:Int)≤atI l 0 6∧o.length=i∧o=mkF l i)) (fun z=>(fun(o:List FormD) (i:Nat)=>(⟨[(0,ints l),(2,.ptr 0 3 0 0),(3,.ptr 1 3 0 0),(4,encI i)],[(0,some ⟨3,[.agg [nilV,nilV,nilV]]⟩),(1,some ⟨3,[.agg [.ob 2 3 0 o.length,.ob 3 4 0 0,.ob 4 3 0 0]]⟩),(2,some ⟨3,o.map encF⟩),(3,some ⟨4,[]⟩),(4,some ⟨3,[]⟩)],5,[]⟩:St)) z.1 z.2.1) (fun z=>(fun(o:List FormD) (i:Nat)=>6 - i) z.1 z.2.1) ⟨[],0,⟨by omega,rfl,rfl⟩⟩ [0,1,2,3,4] ?_ ?_
  ·exact zbm
  rintro⟨o,i,⟨hi,hol,ho⟩⟩
  refine Tri.seq ?_
  refine sZ [0,2,3,4,14] (fun P S K=>XvFnIV P (M S.hp S.nx) (.fn 19 []) [(S.get 0),(.atom (.int .i64 0)),(.atom (.int .i64 6))] (fun r2 ef2=>XvBinOV P .lss 3 (.tmp 13) (S.get 4) r2 (fun r3 _=>K ⟨[(0,S.get 0),(2,S.get 2),(3,S.get 3),(4,S.get 4),(14,r3)],(Eff.hp ef2 S.nx S.hp),(S.nx+ef2.add.length),S.gh⟩))) fun K hK=>?_
  repeat' (first|(refine hK _ ?_;clear hK K)|refine .inl ⟨_,_,zc1 l 0 6 hl (by unfold I64;omega) (by decide),?_⟩|refine .inl ⟨_,_,zc1 l 1 5 hl (by unfold I64;omega) (by decide),?_⟩|refine .inl ⟨_,_,zc1 l 2 4 hl (by unfold I64;omega) (by decide),?_⟩|(refine st ?_;try simp only[encX,zaa,zab,zac,encF,encR,encA])|fail)
  all_goals
  refine Tri.cond rfl (fun h14=>?_) (fun h14=>?_)
  ·try (cases h14;done)
   all_goals (try simp only[CQ] at h14)
   all_goals
   refine Tri.skip ?_
   refine Tri.seq ?_
   refine Tri.block ?_
   refine sZ [0,2,3,4,5] (fun P S K=>XvBinOV P .add 3 (.tmp 18) (.atom (.int .i64 3)) (S.get 4) (fun r2 _=>XvFnIV P (M S.hp S.nx) (.fn 19 []) [(S.get 0),r2,(.atom (.int .i64 4096))] (fun r3 ef3=>K ⟨[(0,S.get 0),(2,S.get 2),(3,S.get 3),(4,S.get 4),(5,r3)],(Eff.hp ef3 S.nx S.hp),(S.nx+ef3.add.length),S.gh⟩))) fun K hK=>?_
   repeat' (first|(refine hK _ ?_;clear hK K)|refine .inl ⟨_,_,zc1 l (3+(i:Int)) 4096 hl (by unfold I64;omega) (by decide),?_⟩|(refine st ?_;try simp only[encX,zaa,zab,zac,encF,encR,encA,zae (x:=3+(i:Int)) (by omega) (by omega)])|fail)
   all_goals try simp (disch:=omega) only[zae,zaf]
   all_goals
   generalize hn:atI l (3+(i:Int)) 4096=n
   have hn0:0≤n:=hn▸zgZ (by decide)
   have hn1:n<4096:=hn▸ze2 (by decide)
   have hqa:=zdH (k:=14) hn0 hn1 (by decide)
   have hqb:=zdH (k:=196) hn0 hn1 (by decide)
   refine rD 14 [0,2,3,4] (fun P GD S K=>XvFieldAddr P 33 0 (S.get 3) (fun r0 ef0=>XvLoad P 29 (M S.hp S.nx) r0 (fun r1 ef1=>XvFnDV P (M S.hp S.nx) (.fn 13 []) [(S.get 5)] (fun r3 ef3=>XvBinOV P .quo 3 (.const (.int .i64 14)) (S.get 5) (.atom (.int .i64 14)) (fun r5 ef5=>XvFnDV P (M (Eff.hp ef3 S.nx S.hp) (S.nx+ef3.add.length)) (.fn 13 []) [r5] (fun r6 ef6=>XvBinOV P .quo 3 (.const (.int .i64 196)) (S.get 5) (.atom (.int .i64 196)) (fun r8 ef8=>XvFnDV P (M (Eff.hp ef6 (S.nx+ef3.add.length) (Eff.hp ef3 S.nx S.hp)) ((S.nx+ef3.add.length)+ef6.add.length)) (.fn 20 []) [r8] (fun r9 ef9=>XvBuild P 50 [(0,r3),(1,r6),(2,r9)] (fun r10 ef10=>XvBuildS P 29 1 (((S.nx+ef3.add.length)+ef6.add.length)+ef9.add.length) [(0,r10)] (fun r11 ef11=>(29=29∧XvAppend P 29 (M (Eff.hp ef11 (((S.nx+ef3.add.length)+ef6.add.length)+ef9.add.length) (Eff.hp ef9 ((S.nx+ef3.add.length)+ef6.add.length) (Eff.hp ef6 (S.nx+ef3.add.length) (Eff.hp ef3 S.nx S.hp)))) ((((S.nx+ef3.add.length)+ef6.add.length)+ef9.add.length)+ef11.add.length)) r1 r11 (fun r12 ef12=>XvFieldAddr P 33 0 (S.get 3) (fun r13 ef13=>(trOk S.nx GD [⟨S.nx,0,ef0.rd,[],[]⟩,⟨S.nx,0,ef1.rd,[],[]⟩,⟨S.nx,0,[],[],[]⟩,(Eff.tr ef3 S.nx),⟨(S.nx+ef3.add.length),0,[],[],[]⟩,⟨(S.nx+ef3.add.length),0,ef5.rd,[],[]⟩,(Eff.tr ef6 (S.nx+ef3.add.length)),⟨((S.nx+ef3.add.length)+ef6.add.length),0,[],[],[]⟩,⟨((S.nx+ef3.add.length)+ef6.add.length),0,ef8.rd,[],[]⟩,(Eff.tr ef9 ((S.nx+ef3.add.length)+ef6.add.length)),⟨(((S.nx+ef3.add.length)+ef6.add.length)+ef9.add.length),0,ef10.rd,[],[]⟩,(Eff.tr ef11 (((S.nx+ef3.add.length)+ef6.add.length)+ef9.add.length)),(Eff.tr ef12 ((((S.nx+ef3.add.length)+ef6.add.length)+ef9.add.length)+ef11.add.length)),⟨(((((S.nx+ef3.add.length)+ef6.add.length)+ef9.add.length)+ef11.add.length)+ef12.add.length),0,ef13.rd,[],[]⟩]=true∧XvStore P 29 (M (Eff.hp ef12 ((((S.nx+ef3.add.length)+ef6.add.length)+ef9.add.length)+ef11.add.length) (Eff.hp ef11 (((S.nx+ef3.add.length)+ef6.add.length)+ef9.add.length) (Eff.hp ef9 ((S.nx+ef3.add.length)+ef6.add.length) (Eff.hp ef6 (S.nx+ef3.add.length) (Eff.hp ef3 S.nx S.hp))))) (((((S.nx+ef3.add.length)+ef6.add.length)+ef9.add.length)+ef11.add.length)+ef12.add.length)) r13 r12 (fun r14 ef14=>K ⟨[(0,S.get 0),(2,S.get 2),(3,S.get 3),(4,S.get 4)],(Eff.hp ef14 (((((S.nx+ef3.add.length)+ef6.add.length)+ef9.add.length)+ef11.add.length)+ef12.add.length) (Eff.hp ef12 ((((S.nx+ef3.add.length)+ef6.add.length)+ef9.add.length)+ef11.add.length) (Eff.hp ef11 (((S.nx+ef3.add.length)+ef6.add.length)+ef9.add.length) (Eff.hp ef9 ((S.nx+ef3.add.length)+ef6.add.length) (Eff.hp ef6 (S.nx+ef3.add.length) (Eff.hp ef3 S.nx S.hp)))))),((((((S.nx+ef3.add.length)+ef6.add.length)+ef9.add.length)+ef11.add.length)+ef12.add.length)+ef14.add.length),S.gh⟩))))))))))))))) fun K hK=>?_
   repeat' (first|(refine hK _ ?_;clear hK K)|(refine(?_:trOk _ _ _=true);(try simp only[zae (x:=n.tdiv 14) (by omega) (by omega),zae (x:=n.tdiv 196) (by omega) (by omega)]);kernel_rfl)|((first|refine zav (fun hg=>?_) (fun hg=>?_)|refine fun(hg:(_:Prop))=>?_)<;>((try simp only[BQ] at hg);try (exfalso;omega)))|refine And.intro ?_ ?_|exact cl|refine .inl ⟨_,_,zhp _ (by unfold I64;omega),?_⟩|refine .inl ⟨_,_,zd9 _ (by unfold I64;omega),?_⟩|(refine st ?_;try simp only[encX,zaa,zab,zac,encF,encR,encA,zae (x:=n.tdiv 14) (by omega) (by omega),zae (x:=n.tdiv 196) (by omega) (by omega)])|fail)
   all_goals try simp (disch:=omega) only[zae,zaf]
   all_goals
   refine rY [0,2,3,4] (fun P S K=>XvBinOV P .add 3 (.const (.int .i64 1)) (S.get 4) (.atom (.int .i64 1)) (fun r1 _=>K ⟨[(0,S.get 0),(2,S.get 2),(3,S.get 3),(4,r1)],S.hp,S.nx,S.gh⟩)) ?_
   all_goals try simp (disch:=omega) only[zae,zaf]
   all_goals
   refine⟨⟨o++[⟨zgj n,zgj (n.tdiv 14),zaJ (n.tdiv 196)⟩],i+1,by omega,by simp[hol],by rw[mkF,hn,←ho];rfl⟩,[0,1,6,3,4],by dsimp only;omega,?_⟩
   exact zbm
  try (cases h14;done)
  all_goals (try simp only[CQ] at h14)
  all_goals
  refine Tri.exit ?_
  refine Tri.seq ?_
  refine sY [0,2,3,6] (fun P S K=>K ⟨[(0,S.get 0),(2,S.get 2),(3,S.get 3),(6,(.atom (.int .i64 0)))],S.hp,S.nx,S.gh⟩) ?_
  all_goals
  refine Tri.block ?_
  refine Tri.loop (α:=(p:List RuleD) ×' (j:Nat) ×' ((j:Int)≤atI l 1 5∧p.length=j∧p=mkR l j)) (fun z=>(fun(p:List RuleD) (j:Nat)=>(⟨[(0,ints l),(2,.ptr 0 3 0 0),(3,.ptr 1 3 0 0),(6,encI j)],[(0,some ⟨3,[.agg [nilV,nilV,nilV]]⟩),(1,some ⟨3,[.agg [.ob 2 3 0 o.length,.ob 3 4 0 p.length,.ob 4 3 0 0]]⟩),(2,some ⟨3,o.map encF⟩),(3,some ⟨4,p.map encR⟩),(4,some ⟨3,[]⟩)],5,[]⟩:St)) z.1 z.2.1) (fun z=>(fun(p:List RuleD) (j:Nat)=>5 - j) z.1 z.2.1) ⟨[],0,⟨by omega,rfl,rfl⟩⟩ [0,1,2,3,4] ?_ ?_
  ·exact zbm
  rintro⟨p,j,⟨hj,hpl,hp⟩⟩
  refine Tri.seq ?_
  refine sZ [0,2,3,6,38] (fun P S K=>XvFnIV P (M S.hp S.nx) (.fn 19 []) [(S.get 0),(.atom (.int .i64 1)),(.atom (.int .i64 5))] (fun r2 ef2=>XvBinOV P .lss 3 (.tmp 37) (S.get 6) r2 (fun r3 _=>K ⟨[(0,S.get 0),(2,S.get 2),(3,S.get 3),(6,S.get 6),(38,r3)],(Eff.hp ef2 S.nx S.hp),(S.nx+ef2.add.length),S.gh⟩))) fun K hK=>?_
  repeat' (first|(refine hK _ ?_;clear hK K)|refine .inl ⟨_,_,zc1 l 0 6 hl (by unfold I64;omega) (by decide),?_⟩|refine .inl ⟨_,_,zc1 l 1 5 hl (by unfold I64;omega) (by decide),?_⟩|refine .inl ⟨_,_,zc1 l 2 4 hl (by unfold I64;omega) (by decide),?_⟩|(refine st ?_;try simp only[encX,zaa,zab,zac,encF,encR,encA])|fail)
  all_goals
  refine Tri.cond rfl (fun h38=>?_) (fun h38=>?_)
  ·try (cases h38;done)
   all_goals (try simp only[CQ] at h38)
   all_goals
   refine Tri.skip ?_
   refine Tri.seq ?_
   refine Tri.block ?_
   refine sZ [0,2,3,6,7] (fun P S K=>XvBinOV P .add 3 (.tmp 42) (.atom (.int .i64 9)) (S.get 6) (fun r2 _=>XvFnIV P (M S.hp S.nx) (.fn 19 []) [(S.get 0),r2,(.atom (.int .i64 4096))] (fun r3 ef3=>K ⟨[(0,S.get 0),(2,S.get 2),(3,S.get 3),(6,S.get 6),(7,r3)],(Eff.hp ef3 S.nx S.hp),(S.nx+ef3.add.length),S.gh⟩))) fun K hK=>?_
   repeat' (first|(refine hK _ ?_;clear hK K)|refine .inl ⟨_,_,zc1 l (9+(j:Int)) 4096 hl (by unfold I64;omega) (by decide),?_⟩|(refine st ?_;try simp only[encX,zaa,zab,zac,encF,encR,encA,zae (x:=9+(j:Int)) (by omega) (by omega)])|fail)
   all_goals try simp (disch:=omega) only[zae,zaf]
   all_goals
   generalize hn:atI l (9+(j:Int)) 4096=n
   have hn0:0≤n:=hn▸zgZ (by decide)
   have hn1:n<4096:=hn▸ze2 (by decide)
   have hqa:=zdH (k:=8) hn0 hn1 (by decide)
   have hqb:=zdH (k:=32) hn0 hn1 (by decide)
   have hqc:=zdH (k:=96) hn0 hn1 (by decide)
   have hra:=ze4 (k:=8) hn0 (by decide)
   have hrb:=ze4 (k:=4) hqa.1 (by decide)
   have hrc:=ze4 (k:=5) hqc.1 (by decide)
   have hga:([.atom (.string ⟨#[115]⟩),.atom (.string ⟨#[101,115]⟩),.atom (.string ⟨#[101]⟩),.atom (.string ⟨#[]⟩),.atom (.string ⟨#[115]⟩),.atom (.string ⟨#[97]⟩),.atom (.string ⟨#[97,115]⟩),.atom (.string ⟨#[121,114,101]⟩)]:List PV).getD (n.tmod 8).toNat .junk=.atom (.string (ls ziO (n.tmod 8).toNat)):=zaM (l:=ziO) (k:=(n.tmod 8).toNat) (by show _<8;omega)
   have hgb:([.atom (.string ⟨#[]⟩),.atom (.string ⟨#[]⟩),.atom (.string ⟨#[101]⟩),.atom (.string ⟨#[105,115]⟩)]:List PV).getD ((n.tdiv 8).tmod 4).toNat .junk=.atom (.string (ls zi6 ((n.tdiv 8).tmod 4).toNat)):=zaM (l:=zi6) (k:=((n.tdiv 8).tmod 4).toNat) (by show _<4;omega)
   refine rD 23 [0,2,3,6] (fun P GD S K=>XvFieldAddr P 33 1 (S.get 3) (fun r0 ef0=>XvLoad P 30 (M S.hp S.nx) r0 (fun r1 ef1=>XvBuildS P 35 8 S.nx [(0,(.atom (.string { data := #[115] }))),(1,(.atom (.string { data := #[101,115] }))),(2,(.atom (.string { data := #[101] }))),(3,(.atom (.string { data := #[] }))),(4,(.atom (.string { data := #[115] }))),(5,(.atom (.string { data := #[97] }))),(6,(.atom (.string { data := #[97,115] }))),(7,(.atom (.string { data := #[121,114,101] })))] (fun r2 ef2=>XvBinOV P .rem 3 (.const (.int .i64 8)) (S.get 7) (.atom (.int .i64 8)) (fun r4 ef4=>XvIndexAddr P 35 r2 r4 (fun r5 ef5=>XvLoad P 9 (M (Eff.hp ef2 S.nx S.hp) (S.nx+ef2.add.length)) r5 (fun r6 ef6=>XvBuildS P 35 4 (S.nx+ef2.add.length) [(0,(.atom (.string { data := #[] }))),(1,(.atom (.string { data := #[] }))),(2,(.atom (.string { data := #[101] }))),(3,(.atom (.string { data := #[105,115] })))] (fun r7 ef7=>XvBinOV P .quo 3 (.const (.int .i64 8)) (S.get 7) (.atom (.int .i64 8)) (fun r9 ef9=>XvBinOV P .rem 3 (.const (.int .i64 4)) r9 (.atom (.int .i64 4)) (fun r10 ef10=>XvIndexAddr P 35 r7 r10 (fun r11 ef11=>XvLoad P 9 (M (Eff.hp ef7 (S.nx+ef2.add.length) (Eff.hp ef2 S.nx S.hp)) ((S.nx+ef2.add.length)+ef7.add.length)) r11 (fun r12 ef12=>XvBinOV P .quo 3 (.const (.int .i64 32)) (S.get 7) (.atom (.int .i64 32)) (fun r14 ef14=>XvFnDV P (M (Eff.hp ef7 (S.nx+ef2.add.length) (Eff.hp ef2 S.nx S.hp)) ((S.nx+ef2.add.length)+ef7.add.length)) (.fn 20 []) [r14] (fun r15 ef15=>XvBinOV P .quo 3 (.const (.int .i64 96)) (S.get 7) (.atom (.int .i64 96)) (fun r17 ef17=>XvBinOV P .rem 3 (.const (.int .i64 5)) r17 (.atom (.int .i64 5)) (fun r18 ef18=>XvBuild P 48 [(0,r6),(1,r12),(2,r15),(3,r18)] (fun r19 ef19=>XvBuildS P 30 1 (((S.nx+ef2.add.length)+ef7.add.length)+ef15.add.length) [(0,r19)] (fun r20 ef20=>(30=30∧XvAppend P 30 (M (Eff.hp ef20 (((S.nx+ef2.add.length)+ef7.add.length)+ef15.add.length) (Eff.hp ef15 ((S.nx+ef2.add.length)+ef7.add.length) (Eff.hp ef7 (S.nx+ef2.add.length) (Eff.hp ef2 S.nx S.hp)))) ((((S.nx+ef2.add.length)+ef7.add.length)+ef15.add.length)+ef20.add.length)) r1 r20 (fun r21 ef21=>XvFieldAddr P 33 1 (S.get 3) (fun r22 ef22=>(trOk S.nx GD [⟨S.nx,0,ef0.rd,[],[]⟩,⟨S.nx,0,ef1.rd,[],[]⟩,(Eff.tr ef2 S.nx),⟨(S.nx+ef2.add.length),0,[],[],[]⟩,⟨(S.nx+ef2.add.length),0,ef4.rd,[],[]⟩,⟨(S.nx+ef2.add.length),0,ef5.rd,[],[]⟩,⟨(S.nx+ef2.add.length),0,ef6.rd,[],[]⟩,(Eff.tr ef7 (S.nx+ef2.add.length)),⟨((S.nx+ef2.add.length)+ef7.add.length),0,[],[],[]⟩,⟨((S.nx+ef2.add.length)+ef7.add.length),0,ef9.rd,[],[]⟩,⟨((S.nx+ef2.add.length)+ef7.add.length),0,ef10.rd,[],[]⟩,⟨((S.nx+ef2.add.length)+ef7.add.length),0,ef11.rd,[],[]⟩,⟨((S.nx+ef2.add.length)+ef7.add.length),0,ef12.rd,[],[]⟩,⟨((S.nx+ef2.add.length)+ef7.add.length),0,[],[],[]⟩,⟨((S.nx+ef2.add.length)+ef7.add.length),0,ef14.rd,[],[]⟩,(Eff.tr ef15 ((S.nx+ef2.add.length)+ef7.add.length)),⟨(((S.nx+ef2.add.length)+ef7.add.length)+ef15.add.length),0,[],[],[]⟩,⟨(((S.nx+ef2.add.length)+ef7.add.length)+ef15.add.length),0,ef17.rd,[],[]⟩,⟨(((S.nx+ef2.add.length)+ef7.add.length)+ef15.add.length),0,ef18.rd,[],[]⟩,⟨(((S.nx+ef2.add.length)+ef7.add.length)+ef15.add.length),0,ef19.rd,[],[]⟩,(Eff.tr ef20 (((S.nx+ef2.add.length)+ef7.add.length)+ef15.add.length)),(Eff.tr ef21 ((((S.nx+ef2.add.length)+ef7.add.length)+ef15.add.length)+ef20.add.length)),⟨(((((S.nx+ef2.add.length)+ef7.add.length)+ef15.add.length)+ef20.add.length)+ef21.add.length),0,ef22.rd,[],[]⟩]=true∧XvStore P 30 (M (Eff.hp ef21 ((((S.nx+ef2.add.length)+ef7.add.length)+ef15.add.length)+ef20.add.length) (Eff.hp ef20 (((S.nx+ef2.add.length)+ef7.add.length)+ef15.add.length) (Eff.hp ef15 ((S.nx+ef2.add.length)+ef7.add.length) (Eff.hp ef7 (S.nx+ef2.add.length) (Eff.hp ef2 S.nx S.hp))))) (((((S.nx+ef2.add.length)+ef7.add.length)+ef15.add.length)+ef20.add.length)+ef21.add.length)) r22 r21 (fun r23 ef23=>K ⟨[(0,S.get 0),(2,S.get 2),(3,S.get 3),(6,S.get 6)],(Eff.hp ef23 (((((S.nx+ef2.add.length)+ef7.add.length)+ef15.add.length)+ef20.add.length)+ef21.add.length) (Eff.hp ef21 ((((S.nx+ef2.add.length)+ef7.add.length)+ef15.add.length)+ef20.add.length) (Eff.hp ef20 (((S.nx+ef2.add.length)+ef7.add.length)+ef15.add.length) (Eff.hp ef15 ((S.nx+ef2.add.length)+ef7.add.length) (Eff.hp ef7 (S.nx+ef2.add.length) (Eff.hp ef2 S.nx S.hp)))))),((((((S.nx+ef2.add.length)+ef7.add.length)+ef15.add.length)+ef20.add.length)+ef21.add.length)+ef23.add.length),S.gh⟩))))))))))))))))))))))) fun K hK=>?_
   repeat' (first|(refine hK _ ?_;clear hK K)|(refine(?_:trOk _ _ _=true);(try simp only[zae (x:=n.tdiv 8) (by omega) (by omega),zae (x:=n.tdiv 32) (by omega) (by omega),zae (x:=n.tdiv 96) (by omega) (by omega),hga,hgb]);kernel_rfl)|((first|refine zav (fun hg=>?_) (fun hg=>?_)|refine fun(hg:(_:Prop))=>?_)<;>((try simp only[BQ] at hg);try (exfalso;omega)))|refine And.intro ?_ ?_|exact cl|refine .inl ⟨_,_,zd9 _ (by unfold I64;omega),?_⟩|(refine st ?_;try simp only[encX,zaa,zab,zac,encF,encR,encA,zae (x:=n.tdiv 8) (by omega) (by omega),zae (x:=n.tdiv 32) (by omega) (by omega),zae (x:=n.tdiv 96) (by omega) (by omega),hga,hgb])|fail)
   all_goals try simp (disch:=omega) only[zae,zaf]
   all_goals
   refine rY [0,2,3,6] (fun P S K=>XvBinOV P .add 3 (.const (.int .i64 1)) (S.get 6) (.atom (.int .i64 1)) (fun r1 _=>K ⟨[(0,S.get 0),(2,S.get 2),(3,S.get 3),(6,r1)],S.hp,S.nx,S.gh⟩)) ?_
   all_goals try simp (disch:=omega) only[zae,zaf]
   all_goals
   refine⟨⟨p++[⟨ls ziO (n.tmod 8).toNat,ls zi6 ((n.tdiv 8).tmod 4).toNat,zaJ (n.tdiv 32),(n.tdiv 96).tmod 5⟩],j+1,by omega,by simp[hpl],by rw[mkR,hn,←hp];rfl⟩,[0,1,2,8,4],by dsimp only;omega,?_⟩
   exact zbm
  try (cases h38;done)
  all_goals (try simp only[CQ] at h38)
  all_goals
  refine Tri.exit ?_
  refine Tri.seq ?_
  refine sY [0,2,3,8] (fun P S K=>K ⟨[(0,S.get 0),(2,S.get 2),(3,S.get 3),(8,(.atom (.int .i64 0)))],S.hp,S.nx,S.gh⟩) ?_
  all_goals
  refine Tri.block ?_
  refine Tri.loop (α:=(q:List PrefD) ×' (k:Nat) ×' ((k:Int)≤atI l 2 4∧q.length=k∧q=mkA l k)) (fun z=>(fun(q:List PrefD) (k:Nat)=>(⟨[(0,ints l),(2,.ptr 0 3 0 0),(3,.ptr 1 3 0 0),(8,encI k)],[(0,some ⟨3,[.agg [nilV,nilV,nilV]]⟩),(1,some ⟨3,[.agg [.ob 2 3 0 o.length,.ob 3 4 0 p.length,.ob 4 3 0 q.length]]⟩),(2,some ⟨3,o.map encF⟩),(3,some ⟨4,p.map encR⟩),(4,some ⟨3,q.map encA⟩)],5,[]⟩:St)) z.1 z.2.1) (fun z=>(fun(q:List PrefD) (k:Nat)=>4 - k) z.1 z.2.1) ⟨[],0,⟨by omega,rfl,rfl⟩⟩ [0,1,2,3,4] ?_ ?_
  ·exact zbm
  rintro⟨q,k,⟨hk,hql,hq⟩⟩
  refine Tri.seq ?_
  refine sZ [0,2,3,8,71] (fun P S K=>XvFnIV P (M S.hp S.nx) (.fn 19 []) [(S.get 0),(.atom (.int .i64 2)),(.atom (.int .i64 4))] (fun r2 ef2=>XvBinOV P .lss 3 (.tmp 70) (S.get 8) r2 (fun r3 _=>K ⟨[(0,S.get 0),(2,S.get 2),(3,S.get 3),(8,S.get 8),(71,r3)],(Eff.hp ef2 S.nx S.hp),(S.nx+ef2.add.length),S.gh⟩))) fun K hK=>?_
  repeat' (first|(refine hK _ ?_;clear hK K)|refine .inl ⟨_,_,zc1 l 0 6 hl (by unfold I64;omega) (by decide),?_⟩|refine .inl ⟨_,_,zc1 l 1 5 hl (by unfold I64;omega) (by decide),?_⟩|refine .inl ⟨_,_,zc1 l 2 4 hl (by unfold I64;omega) (by decide),?_⟩|(refine st ?_;try simp only[encX,zaa,zab,zac,encF,encR,encA])|fail)
  all_goals
  refine Tri.cond rfl (fun h71=>?_) (fun h71=>?_)
  ·try (cases h71;done)
   all_goals (try simp only[CQ] at h71)
   all_goals
   refine Tri.skip ?_
   refine Tri.seq ?_
   refine Tri.block ?_
   refine sZ [0,2,3,8,9] (fun P S K=>XvBinOV P .add 3 (.tmp 75) (.atom (.int .i64 14)) (S.get 8) (fun r2 _=>XvFnIV P (M S.hp S.nx) (.fn 19 []) [(S.get 0),r2,(.atom (.int .i64 4096))] (fun r3 ef3=>K ⟨[(0,S.get 0),(2,S.get 2),(3,S.get 3),(8,S.get 8),(9,r3)],(Eff.hp ef3 S.nx S.hp),(S.nx+ef3.add.length),S.gh⟩))) fun K hK=>?_
   repeat' (first|(refine hK _ ?_;clear hK K)|refine .inl ⟨_,_,zc1 l (14+(k:Int)) 4096 hl (by unfold I64;omega) (by decide),?_⟩|(refine st ?_;try simp only[encX,zaa,zab,zac,encF,encR,encA,zae (x:=14+(k:Int)) (by omega) (by omega)])|fail)
   all_goals try simp (disch:=omega) only[zae,zaf]
   all_goals
   generalize hn:atI l (14+(k:Int)) 4096=n
   have hn0:0≤n:=hn▸zgZ (by decide)
   have hn1:n<4096:=hn▸ze2 (by decide)
   have hqa:=zdH (k:=3) hn0 hn1 (by decide)
   have hqb:=zdH (k:=9) hn0 hn1 (by decide)
   have hqc:=zdH (k:=27) hn0 hn1 (by decide)
   have hra:=ze4 (k:=3) hqb.1 (by decide)
   refine sZ [0,2,3,8,9,10] (fun P S K=>XvFnIV P (M S.hp S.nx) (.fn 20 []) [(S.get 9)] (fun r1 ef1=>XvBinOV P .quo 3 (.const (.int .i64 3)) (S.get 9) (.atom (.int .i64 3)) (fun r3 _=>XvFnIV P (M (Eff.hp ef1 S.nx S.hp) (S.nx+ef1.add.length)) (.fn 20 []) [r3] (fun r4 ef4=>XvBuild P 52 [(0,r1),(2,r4)] (fun r5 _=>XvAlloc P 52 ((S.nx+ef1.add.length)+ef4.add.length) (fun r6 ef6=>XvStore P 52 (M (Eff.hp ef6 ((S.nx+ef1.add.length)+ef4.add.length) (Eff.hp ef4 (S.nx+ef1.add.length) (Eff.hp ef1 S.nx S.hp))) (((S.nx+ef1.add.length)+ef4.add.length)+ef6.add.length)) r6 r5 (fun r7 ef7=>K ⟨[(0,S.get 0),(2,S.get 2),(3,S.get 3),(8,S.get 8),(9,S.get 9),(10,r6)],(Eff.hp ef7 (((S.nx+ef1.add.length)+ef4.add.length)+ef6.add.length) (Eff.hp ef6 ((S.nx+ef1.add.length)+ef4.add.length) (Eff.hp ef4 (S.nx+ef1.add.length) (Eff.hp ef1 S.nx S.hp)))),((((S.nx+ef1.add.length)+ef4.add.length)+ef6.add.length)+ef7.add.length),S.gh⟩))))))) fun K hK=>?_
   repeat' (first|(refine hK _ ?_;clear hK K)|((first|refine zav (fun hg=>?_) (fun hg=>?_)|refine fun(hg:(_:Prop))=>?_)<;>((try simp only[BQ] at hg);try (exfalso;omega)))|refine And.intro ?_ ?_|exact cl|refine .inl ⟨_,_,zd9 _ (by unfold I64;omega),?_⟩|(refine st ?_;try simp only[encX,zaa,zab,zac,encF,encR,encA,zae (x:=n.tdiv 3) (by omega) (by omega)])|fail)
   all_goals try simp (disch:=omega) only[zae,zaf]
   all_goals
   refine Tri.seq ?_
   refine sZ [0,2,3,8,9,10,87] (fun P S K=>XvBinOV P .quo 3 (.const (.int .i64 9)) (S.get 9) (.atom (.int .i64 9)) (fun r1 _=>XvBinOV P .rem 3 (.const (.int .i64 3)) r1 (.atom (.int .i64 3)) (fun r2 _=>XvBinOV P .gtr 3 (.const (.int .i64 0)) r2 (.atom (.int .i64 0)) (fun r3 _=>K ⟨[(0,S.get 0),(2,S.get 2),(3,S.get 3),(8,S.get 8),(9,S.get 9),(10,S.get 10),(87,r3)],S.hp,S.nx,S.gh⟩)))) fun K hK=>?_
   repeat' (first|(refine hK _ ?_;clear hK K)|((first|refine zav (fun hg=>?_) (fun hg=>?_)|refine fun(hg:(_:Prop))=>?_)<;>((try simp only[BQ] at hg);try (exfalso;omega)))|refine And.intro ?_ ?_|(refine st ?_;try simp only[encX,zaa,zab,zac,encF,encR,encA,zae (x:=n.tdiv 9) (by omega) (by omega)])|fail)
   all_goals try simp (disch:=omega) only[zae,zaf]
   all_goals
   refine Tri.cond rfl (fun h87=>?_) (fun h87=>?_)
   ·try (cases h87;done)
    all_goals (try simp only[CQ] at h87)
    all_goals
    refine rZ [0,2,3,8,9,10] (fun P S K=>XvBinOV P .quo 3 (.const (.int .i64 27)) (S.get 9) (.atom (.int .i64 27)) (fun r1 _=>XvFnIV P (M S.hp S.nx) (.fn 20 []) [r1] (fun r2 ef2=>XvFieldAddr P 52 1 (S.get 10) (fun r3 _=>XvStore P 9 (M (Eff.hp ef2 S.nx S.hp) (S.nx+ef2.add.length)) r3 r2 (fun r4 ef4=>K ⟨[(0,S.get 0),(2,S.get 2),(3,S.get 3),(8,S.get 8),(9,S.get 9),(10,S.get 10)],(Eff.hp ef4 (S.nx+ef2.add.length) (Eff.hp ef2 S.nx S.hp)),((S.nx+ef2.add.length)+ef4.add.length),S.gh⟩))))) fun K hK=>?_
    repeat' (first|(refine hK _ ?_;clear hK K)|((first|refine zav (fun hg=>?_) (fun hg=>?_)|refine fun(hg:(_:Prop))=>?_)<;>((try simp only[BQ] at hg);try (exfalso;omega)))|refine And.intro ?_ ?_|exact cl|refine .inl ⟨_,_,zd9 _ (by unfold I64;omega),?_⟩|(refine st ?_;try simp only[encX,zaa,zab,zac,encF,encR,encA,zae (x:=n.tdiv 27) (by omega) (by omega)])|fail)
    all_goals try simp (disch:=omega) only[zae,zaf]
    all_goals
    refine Tri.seq ?_
    refine sZ [0,2,3,8,10,95] (fun P S K=>XvBinOV P .quo 3 (.const (.int .i64 9)) (S.get 9) (.atom (.int .i64 9)) (fun r1 _=>XvBinOV P .rem 3 (.const (.int .i64 3)) r1 (.atom (.int .i64 3)) (fun r2 _=>XvBinOV P .gtr 3 (.const (.int .i64 1)) r2 (.atom (.int .i64 1)) (fun r3 _=>K ⟨[(0,S.get 0),(2,S.get 2),(3,S.get 3),(8,S.get 8),(10,S.get 10),(95,r3)],S.hp,S.nx,S.gh⟩)))) fun K hK=>?_
    repeat' (first|(refine hK _ ?_;clear hK K)|((first|refine zav (fun hg=>?_) (fun hg=>?_)|refine fun(hg:(_:Prop))=>?_)<;>((try simp only[BQ] at hg);try (exfalso;omega)))|refine And.intro ?_ ?_|(refine st ?_;try simp only[encX,zaa,zab,zac,encF,encR,encA,zae (x:=n.tdiv 9) (by omega) (by omega)])|fail)
    all_goals try simp (disch:=omega) only[zae,zaf]
    all_goals
    refine Tri.cond rfl (fun h95=>?_) (fun h95=>?_)
    ·try (cases h95;done)
     all_goals (try simp only[CQ] at h95)
     all_goals
     refine rZ [0,2,3,8,10] (fun P S K=>XvFieldAddr P 52 0 (S.get 10) (fun r0 _=>XvStore P 9 (M S.hp S.nx) r0 (.atom (.string { data := #[] })) (fun r1 ef1=>K ⟨[(0,S.get 0),(2,S.get 2),(3,S.get 3),(8,S.get 8),(10,S.get 10)],(Eff.hp ef1 S.nx S.hp),(S.nx+ef1.add.length),S.gh⟩))) fun K hK=>?_
     repeat' (first|(refine hK _ ?_;clear hK K)|refine And.intro ?_ ?_|exact cl|(refine st ?_;try simp only[encX,zaa,zab,zac,encF,encR,encA])|refine sx ?_ (by simp only[encX,zaa,zab,zac,encF,encR,encA];exact rfl)|fail)
     all_goals
     refine rZ [0,2,3,8] (fun P S K=>XvFieldAddr P 33 2 (S.get 3) (fun r0 _=>XvLoad P 31 (M S.hp S.nx) r0 (fun r1 _=>XvLoad P 52 (M S.hp S.nx) (S.get 10) (fun r2 _=>XvBuildS P 31 1 S.nx [(0,r2)] (fun r3 ef3=>(31=31∧XvAppend P 31 (M (Eff.hp ef3 S.nx S.hp) (S.nx+ef3.add.length)) r1 r3 (fun r4 ef4=>XvFieldAddr P 33 2 (S.get 3) (fun r5 _=>XvStore P 31 (M (Eff.hp ef4 (S.nx+ef3.add.length) (Eff.hp ef3 S.nx S.hp)) ((S.nx+ef3.add.length)+ef4.add.length)) r5 r4 (fun r6 ef6=>K ⟨[(0,S.get 0),(2,S.get 2),(3,S.get 3),(8,S.get 8)],(Eff.hp ef6 ((S.nx+ef3.add.length)+ef4.add.length) (Eff.hp ef4 (S.nx+ef3.add.length) (Eff.hp ef3 S.nx S.hp))),(((S.nx+ef3.add.length)+ef4.add.length)+ef6.add.length),S.gh⟩))))))))) fun K hK=>?_
     repeat' (first|(refine hK _ ?_;clear hK K)|((first|refine zav (fun hg=>?_) (fun hg=>?_)|refine fun(hg:(_:Prop))=>?_)<;>((try simp only[BQ] at hg);try (exfalso;omega)))|refine And.intro ?_ ?_|exact cl|(refine st ?_;try simp only[encX,zaa,zab,zac,encF,encR,encA])|fail)
     all_goals
     refine rY [0,2,3,8] (fun P S K=>XvBinOV P .add 3 (.const (.int .i64 1)) (S.get 8) (.atom (.int .i64 1)) (fun r1 _=>K ⟨[(0,S.get 0),(2,S.get 2),(3,S.get 3),(8,r1)],S.hp,S.nx,S.gh⟩)) ?_
     all_goals try simp (disch:=omega) only[zae,zaf]
     all_goals
     generalize ht:(n.tdiv 9).tmod 3=t at *
     first
       | (have em:madA n=⟨⟨#[]⟩,zaJ (n.tdiv 27),zaJ (n.tdiv 3)⟩:=by unfold madA;rw[ht,if_pos (by omega),if_pos (by omega)]
          refine⟨⟨q++[⟨⟨#[]⟩,zaJ (n.tdiv 27),zaJ (n.tdiv 3)⟩],k+1,by omega,by simp[hql],by rw[mkA,hn,←hq,em]⟩,[0,1,2,3,7],by dsimp only;omega,?_⟩
          exact zbm)
       | (have em:madA n=⟨zaJ n,zaJ (n.tdiv 27),zaJ (n.tdiv 3)⟩:=by unfold madA;rw[ht,if_neg (by omega),if_pos (by omega)]
          refine⟨⟨q++[⟨zaJ n,zaJ (n.tdiv 27),zaJ (n.tdiv 3)⟩],k+1,by omega,by simp[hql],by rw[mkA,hn,←hq,em]⟩,[0,1,2,3,7],by dsimp only;omega,?_⟩
          exact zbm)
       | (have em:madA n=⟨zaJ n,⟨#[]⟩,zaJ (n.tdiv 3)⟩:=by unfold madA;rw[ht,if_neg (by omega),if_neg (by omega)]
          refine⟨⟨q++[⟨zaJ n,⟨#[]⟩,zaJ (n.tdiv 3)⟩],k+1,by omega,by simp[hql],by rw[mkA,hn,←hq,em]⟩,[0,1,2,3,7],by dsimp only;omega,?_⟩
          exact zbm)
       | (exfalso;omega)
    try (cases h95;done)
    all_goals (try simp only[CQ] at h95)
    all_goals
    refine Tri.skip ?_
    refine rZ [0,2,3,8] (fun P S K=>XvFieldAddr P 33 2 (S.get 3) (fun r0 _=>XvLoad P 31 (M S.hp S.nx) r0 (fun r1 _=>XvLoad P 52 (M S.hp S.nx) (S.get 10) (fun r2 _=>XvBuildS P 31 1 S.nx [(0,r2)] (fun r3 ef3=>(31=31∧XvAppend P 31 (M (Eff.hp ef3 S.nx S.hp) (S.nx+ef3.add.length)) r1 r3 (fun r4 ef4=>XvFieldAddr P 33 2 (S.get 3) (fun r5 _=>XvStore P 31 (M (Eff.hp ef4 (S.nx+ef3.add.length) (Eff.hp ef3 S.nx S.hp)) ((S.nx+ef3.add.length)+ef4.add.length)) r5 r4 (fun r6 ef6=>K ⟨[(0,S.get 0),(2,S.get 2),(3,S.get 3),(8,S.get 8)],(Eff.hp ef6 ((S.nx+ef3.add.length)+ef4.add.length) (Eff.hp ef4 (S.nx+ef3.add.length) (Eff.hp ef3 S.nx S.hp))),(((S.nx+ef3.add.length)+ef4.add.length)+ef6.add.length),S.gh⟩))))))))) fun K hK=>?_
    repeat' (first|(refine hK _ ?_;clear hK K)|((first|refine zav (fun hg=>?_) (fun hg=>?_)|refine fun(hg:(_:Prop))=>?_)<;>((try simp only[BQ] at hg);try (exfalso;omega)))|refine And.intro ?_ ?_|exact cl|(refine st ?_;try simp only[encX,zaa,zab,zac,encF,encR,encA])|fail)
    all_goals
    refine rY [0,2,3,8] (fun P S K=>XvBinOV P .add 3 (.const (.int .i64 1)) (S.get 8) (.atom (.int .i64 1)) (fun r1 _=>K ⟨[(0,S.get 0),(2,S.get 2),(3,S.get 3),(8,r1)],S.hp,S.nx,S.gh⟩)) ?_
    all_goals try simp (disch:=omega) only[zae,zaf]
    all_goals
    generalize ht:(n.tdiv 9).tmod 3=t at *
    first
      | (have em:madA n=⟨⟨#[]⟩,zaJ (n.tdiv 27),zaJ (n.tdiv 3)⟩:=by unfold madA;rw[ht,if_pos (by omega),if_pos (by omega)]
         refine⟨⟨q++[⟨⟨#[]⟩,zaJ (n.tdiv 27),zaJ (n.tdiv 3)⟩],k+1,by omega,by simp[hql],by rw[mkA,hn,←hq,em]⟩,[0,1,2,3,7],by dsimp only;omega,?_⟩
         exact zbm)
      | (have em:madA n=⟨zaJ n,zaJ (n.tdiv 27),zaJ (n.tdiv 3)⟩:=by unfold madA;rw[ht,if_neg (by omega),if_pos (by omega)]
         refine⟨⟨q++[⟨zaJ n,zaJ (n.tdiv 27),zaJ (n.tdiv 3)⟩],k+1,by omega,by simp[hql],by rw[mkA,hn,←hq,em]⟩,[0,1,2,3,7],by dsimp only;omega,?_⟩
         exact zbm)
      | (have em:madA n=⟨zaJ n,⟨#[]⟩,zaJ (n.tdiv 3)⟩:=by unfold madA;rw[ht,if_neg (by omega),if_neg (by omega)]
         refine⟨⟨q++[⟨zaJ n,⟨#[]⟩,zaJ (n.tdiv 3)⟩],k+1,by omega,by simp[hql],by rw[mkA,hn,←hq,em]⟩,[0,1,2,3,7],by dsimp only;omega,?_⟩
         exact zbm)
      | (exfalso;omega)
   try (cases h87;done)
   all_goals (try simp only[CQ] at h87)
   all_goals
   refine Tri.skip ?_
   refine Tri.seq ?_
   refine sZ [0,2,3,8,10,95] (fun P S K=>XvBinOV P .quo 3 (.const (.int .i64 9)) (S.get 9) (.atom (.int .i64 9)) (fun r1 _=>XvBinOV P .rem 3 (.const (.int .i64 3)) r1 (.atom (.int .i64 3)) (fun r2 _=>XvBinOV P .gtr 3 (.const (.int .i64 1)) r2 (.atom (.int .i64 1)) (fun r3 _=>K ⟨[(0,S.get 0),(2,S.get 2),(3,S.get 3),(8,S.get 8),(10,S.get 10),(95,r3)],S.hp,S.nx,S.gh⟩)))) fun K hK=>?_
   repeat' (first|(refine hK _ ?_;clear hK K)|((first|refine zav (fun hg=>?_) (fun hg=>?_)|refine fun(hg:(_:Prop))=>?_)<;>((try simp only[BQ] at hg);try (exfalso;omega)))|refine And.intro ?_ ?_|(refine st ?_;try simp only[encX,zaa,zab,zac,encF,encR,encA,zae (x:=n.tdiv 9) (by omega) (by omega)])|fail)
   all_goals try simp (disch:=omega) only[zae,zaf]
   all_goals
   refine Tri.cond rfl (fun h95=>?_) (fun h95=>?_)
   ·try (cases h95;done)
    all_goals (try simp only[CQ] at h95)
    all_goals
    refine rZ [0,2,3,8,10] (fun P S K=>XvFieldAddr P 52 0 (S.get 10) (fun r0 _=>XvStore P 9 (M S.hp S.nx) r0 (.atom (.string { data := #[] })) (fun r1 ef1=>K ⟨[(0,S.get 0),(2,S.get 2),(3,S.get 3),(8,S.get 8),(10,S.get 10)],(Eff.hp ef1 S.nx S.hp),(S.nx+ef1.add.length),S.gh⟩))) fun K hK=>?_
    repeat' (first|(refine hK _ ?_;clear hK K)|refine And.intro ?_ ?_|exact cl|(refine st ?_;try simp only[encX,zaa,zab,zac,encF,encR,encA])|refine sx ?_ (by simp only[encX,zaa,zab,zac,encF,encR,encA];exact rfl)|fail)
    all_goals
    refine rZ [0,2,3,8] (fun P S K=>XvFieldAddr P 33 2 (S.get 3) (fun r0 _=>XvLoad P 31 (M S.hp S.nx) r0 (fun r1 _=>XvLoad P 52 (M S.hp S.nx) (S.get 10) (fun r2 _=>XvBuildS P 31 1 S.nx [(0,r2)] (fun r3 ef3=>(31=31∧XvAppend P 31 (M (Eff.hp ef3 S.nx S.hp) (S.nx+ef3.add.length)) r1 r3 (fun r4 ef4=>XvFieldAddr P 33 2 (S.get 3) (fun r5 _=>XvStore P 31 (M (Eff.hp ef4 (S.nx+ef3.add.length) (Eff.hp ef3 S.nx S.hp)) ((S.nx+ef3.add.length)+ef4.add.length)) r5 r4 (fun r6 ef6=>K ⟨[(0,S.get 0),(2,S.get 2),(3,S.get 3),(8,S.get 8)],(Eff.hp ef6 ((S.nx+ef3.add.length)+ef4.add.length) (Eff.hp ef4 (S.nx+ef3.add.length) (Eff.hp ef3 S.nx S.hp))),(((S.nx+ef3.add.length)+ef4.add.length)+ef6.add.length),S.gh⟩))))))))) fun K hK=>?_
    repeat' (first|(refine hK _ ?_;clear hK K)|((first|refine zav (fun hg=>?_) (fun hg=>?_)|refine fun(hg:(_:Prop))=>?_)<;>((try simp only[BQ] at hg);try (exfalso;omega)))|refine And.intro ?_ ?_|exact cl|(refine st ?_;try simp only[encX,zaa,zab,zac,encF,encR,encA])|fail)
    all_goals
    refine rY [0,2,3,8] (fun P S K=>XvBinOV P .add 3 (.const (.int .i64 1)) (S.get 8) (.atom (.int .i64 1)) (fun r1 _=>K ⟨[(0,S.get 0),(2,S.get 2),(3,S.get 3),(8,r1)],S.hp,S.nx,S.gh⟩)) ?_
    all_goals try simp (disch:=omega) only[zae,zaf]
    all_goals
    generalize ht:(n.tdiv 9).tmod 3=t at *
    first
      | (have em:madA n=⟨⟨#[]⟩,zaJ (n.tdiv 27),zaJ (n.tdiv 3)⟩:=by unfold madA;rw[ht,if_pos (by omega),if_pos (by omega)]
         refine⟨⟨q++[⟨⟨#[]⟩,zaJ (n.tdiv 27),zaJ (n.tdiv 3)⟩],k+1,by omega,by simp[hql],by rw[mkA,hn,←hq,em]⟩,[0,1,2,3,7],by dsimp only;omega,?_⟩
         exact zbm)
      | (have em:madA n=⟨zaJ n,zaJ (n.tdiv 27),zaJ (n.tdiv 3)⟩:=by unfold madA;rw[ht,if_neg (by omega),if_pos (by omega)]
         refine⟨⟨q++[⟨zaJ n,zaJ (n.tdiv 27),zaJ (n.tdiv 3)⟩],k+1,by omega,by simp[hql],by rw[mkA,hn,←hq,em]⟩,[0,1,2,3,7],by dsimp only;omega,?_⟩
         exact zbm)
      | (have em:madA n=⟨zaJ n,⟨#[]⟩,zaJ (n.tdiv 3)⟩:=by unfold madA;rw[ht,if_neg (by omega),if_neg (by omega)]
         refine⟨⟨q++[⟨zaJ n,⟨#[]⟩,zaJ (n.tdiv 3)⟩],k+1,by omega,by simp[hql],by rw[mkA,hn,←hq,em]⟩,[0,1,2,3,7],by dsimp only;omega,?_⟩
         exact zbm)
      | (exfalso;omega)
   try (cases h95;done)
   all_goals (try simp only[CQ] at h95)
   all_goals
   refine Tri.skip ?_
   refine rZ [0,2,3,8] (fun P S K=>XvFieldAddr P 33 2 (S.get 3) (fun r0 _=>XvLoad P 31 (M S.hp S.nx) r0 (fun r1 _=>XvLoad P 52 (M S.hp S.nx) (S.get 10) (fun r2 _=>XvBuildS P 31 1 S.nx [(0,r2)] (fun r3 ef3=>(31=31∧XvAppend P 31 (M (Eff.hp ef3 S.nx S.hp) (S.nx+ef3.add.length)) r1 r3 (fun r4 ef4=>XvFieldAddr P 33 2 (S.get 3) (fun r5 _=>XvStore P 31 (M (Eff.hp ef4 (S.nx+ef3.add.length) (Eff.hp ef3 S.nx S.hp)) ((S.nx+ef3.add.length)+ef4.add.length)) r5 r4 (fun r6 ef6=>K ⟨[(0,S.get 0),(2,S.get 2),(3,S.get 3),(8,S.get 8)],(Eff.hp ef6 ((S.nx+ef3.add.length)+ef4.add.length) (Eff.hp ef4 (S.nx+ef3.add.length) (Eff.hp ef3 S.nx S.hp))),(((S.nx+ef3.add.length)+ef4.add.length)+ef6.add.length),S.gh⟩))))))))) fun K hK=>?_
   repeat' (first|(refine hK _ ?_;clear hK K)|((first|refine zav (fun hg=>?_) (fun hg=>?_)|refine fun(hg:(_:Prop))=>?_)<;>((try simp only[BQ] at hg);try (exfalso;omega)))|refine And.intro ?_ ?_|exact cl|(refine st ?_;try simp only[encX,zaa,zab,zac,encF,encR,encA])|fail)
   all_goals
   refine rY [0,2,3,8] (fun P S K=>XvBinOV P .add 3 (.const (.int .i64 1)) (S.get 8) (.atom (.int .i64 1)) (fun r1 _=>K ⟨[(0,S.get 0),(2,S.get 2),(3,S.get 3),(8,r1)],S.hp,S.nx,S.gh⟩)) ?_
   all_goals try simp (disch:=omega) only[zae,zaf]
   all_goals
   generalize ht:(n.tdiv 9).tmod 3=t at *
   first
     | (have em:madA n=⟨⟨#[]⟩,zaJ (n.tdiv 27),zaJ (n.tdiv 3)⟩:=by unfold madA;rw[ht,if_pos (by omega),if_pos (by omega)]
        refine⟨⟨q++[⟨⟨#[]⟩,zaJ (n.tdiv 27),zaJ (n.tdiv 3)⟩],k+1,by omega,by simp[hql],by rw[mkA,hn,←hq,em]⟩,[0,1,2,3,7],by dsimp only;omega,?_⟩
        exact zbm)
     | (have em:madA n=⟨zaJ n,zaJ (n.tdiv 27),zaJ (n.tdiv 3)⟩:=by unfold madA;rw[ht,if_neg (by omega),if_pos (by omega)]
        refine⟨⟨q++[⟨zaJ n,zaJ (n.tdiv 27),zaJ (n.tdiv 3)⟩],k+1,by omega,by simp[hql],by rw[mkA,hn,←hq,em]⟩,[0,1,2,3,7],by dsimp only;omega,?_⟩
        exact zbm)
     | (have em:madA n=⟨zaJ n,⟨#[]⟩,zaJ (n.tdiv 3)⟩:=by unfold madA;rw[ht,if_neg (by omega),if_neg (by omega)]
        refine⟨⟨q++[⟨zaJ n,⟨#[]⟩,zaJ (n.tdiv 3)⟩],k+1,by omega,by simp[hql],by rw[mkA,hn,←hq,em]⟩,[0,1,2,3,7],by dsimp only;omega,?_⟩
        exact zbm)
     | (exfalso;omega)
  try (cases h71;done)
  all_goals (try simp only[CQ] at h71)
  all_goals
  refine Tri.exit ?_
  refine sZ [2] (fun P S K=>XvLoad P 33 (M S.hp S.nx) (S.get 3) (fun r0 _=>XvStore P 33 (M S.hp S.nx) (S.get 2) r0 (fun r1 ef1=>K ⟨[(2,S.get 2)],(Eff.hp ef1 S.nx S.hp),(S.nx+ef1.add.length),S.gh⟩))) fun K hK=>?_
  repeat' (first|(refine hK _ ?_;clear hK K)|refine And.intro ?_ ?_|exact cl|(refine st ?_;try simp only[encX,zaa,zab,zac,encF,encR,encA])|refine sx ?_ (by simp only[encX,zaa,zab,zac,encF,encR,encA];exact rfl)|fail)
  all_goals
  refine Tri.ret ?_
  show ResR _ _ _ _ _
  rw[made_eta ho (by omega) hp (by omega) hq (by omega)]
  refine ResR.cell1 (PV.agg [_,_,_]) rfl ?_ (zaR _)
  simp[-List.map_map,sealed,St.obj,lk,encX,zaa,zab,zac,zaD,zaE,zaG,zaL]
end Go.Proofs.Ytehoglapajkabaa
