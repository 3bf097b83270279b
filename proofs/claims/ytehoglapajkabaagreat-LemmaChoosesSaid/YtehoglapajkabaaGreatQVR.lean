/-
  Walks: the reference model of lexicons: what is found.
-/
import Derived.Test.YtehoglapajkabaaGreatQM0
import Derived.Test.YtehoglapajkabaaGreatQM2
import Derived.Test.YtehoglapajkabaaGreatQV14
set_option linter.all false
namespace Go.Proofs.YtehoglapajkabaaGreat
open Go Go.RowKit
set_option maxRecDepth 20000
set_option maxHeartbeats 1000000
def zfG (r:RuleD) (w:ByteArray):ByteArray×Bool:=match zeb r w with
  | some s=>(s,true)
  | none=>(.empty,false)
theorem ruleV_T (r:RuleD) (w:ByteArray):zk8 r w=.tup [encS (zfG r w).1,.atom (.bool (zfG r w).2)]:=by
  unfold zk8 zfG;cases zeb r w<;>rfl
theorem zjq (r:RuleD) (w:ByteArray) (hr:HeldR r) (hw:w.size≤140737488355328):Pure Tryz.prog 77 [encR r,encS w] (.tup [encS (zfG r w).1,.atom (.bool (zfG r w).2)]) []:=ruleV_T r w▸zlb r w hr hw
theorem zeK{x:LexD}{w:ByteArray}{i:Nat}(hi:i<x.forms.length):((x.forms.take (i+1)).filter fun f=>decide (f.word=w)).foldl putF []=
    if (fF x.forms i).word=w then putF (((x.forms.take i).filter fun f=>decide (f.word=w)).foldl putF []) (fF x.forms i) else ((x.forms.take i).filter fun f=>decide (f.word=w)).foldl putF []:=by
  rw[zdU hi,List.filter_append,List.foldl_append]
  by_cases h:(fF x.forms i).word=w
  · rw[if_pos h];simp[h]
  · rw[if_neg h];simp[h]
theorem zeF{x:LexD}{w:ByteArray}{i:Nat}(hi:i<x.rules.length):((x.rules.take (i+1)).filterMap fun r=>(zeb r w).map fun s=>(⟨w,s,r.cls⟩:FormD)).foldl putF []=
    if (zfG (fR x.rules i) w).2=true then putF (((x.rules.take i).filterMap fun r=>(zeb r w).map fun s=>(⟨w,s,r.cls⟩:FormD)).foldl putF []) ⟨w,(zfG (fR x.rules i) w).1,(fR x.rules i).cls⟩ else ((x.rules.take i).filterMap fun r=>(zeb r w).map fun s=>(⟨w,s,r.cls⟩:FormD)).foldl putF []:=by
  rw[zib hi,List.filterMap_append,List.foldl_append]
  unfold zfG
  cases h:zeb (fR x.rules i) w<;>simp[h]
theorem zlc (x:LexD) (w:ByteArray) (hx:HeldX x) (hw:w.size≤140737488355328):Pure Tryz.prog 47 [encX x,encS w] (.tup [zaa (zf4 x w),zaa (zfW x w)]) []:=by
  have hnf:=hx.nforms
  have hnr:=hx.nrules
  refine Pure.intro (ts:=[4,5]) Tryz.func47 (by kernel_rfl) rfl rfl rfl (Nat.le_of_ble_eq_true rfl) ?_ ?_
  · simp[zay,encS,PV.pure,zan]
  refine sZ [1,2] (fun P S K=>XvBox S.nx (S.get 0) (fun r0 ef0=>K ⟨[(1,S.get 1),(2,r0)],(Eff.hp ef0 S.nx S.hp),(S.nx+ef0.add.length),S.gh⟩)) fun K hK=>?_
  repeat' (first|(refine hK _ ?_;clear hK K)|refine And.intro ?_ ?_|exact cl|(refine st ?_;try simp only[encX,zaa,zac,zad,encF,encR])|fail)
  all_goals
  refine sY [1,2,6] (fun P S K=>K ⟨[(1,S.get 1),(2,S.get 2),(6,(.atom (.slice none 0 0)))],S.hp,S.nx,S.gh⟩) ?_
  refine Tri.asSl 6 3 rfl ?_
  all_goals
  refine sY [1,2,6,7] (fun P S K=>K ⟨[(1,S.get 1),(2,S.get 2),(6,S.get 6),(7,(.atom (.slice none 0 0)))],S.hp,S.nx,S.gh⟩) ?_
  refine Tri.asSl 7 3 rfl ?_
  all_goals
  refine Tri.seq ?_
  refine sY [1,2,6,7,8] (fun P S K=>K ⟨[(1,S.get 1),(2,S.get 2),(6,S.get 6),(7,S.get 7),(8,(.atom (.int .i64 0)))],S.hp,S.nx,S.gh⟩) ?_
  all_goals
  refine Tri.block ?_
  refine Tri.loop (α:=(o:List FormD) ×' (i:Nat) ×' (i≤x.forms.length∧o.length≤i∧o=((x.forms.take i).filter fun f=>decide (f.word=w)).foldl putF [])) (fun z=>(fun(o:List FormD) (i:Nat)=>(⟨[(1,encS w),(2,.ptr 0 3 0 0),(6,zaa o),(7,zaa []),(8,encI i)],[(0,some ⟨3,[encX x]⟩)],1,[]⟩:St)) z.1 z.2.1) (fun z=>(fun(o:List FormD) (i:Nat)=>x.forms.length - i) z.1 z.2.1) ⟨[],0,⟨Nat.zero_le _,Nat.le_refl _,rfl⟩⟩ [0] ?_ ?_
  ·exact zaD
  rintro⟨o,i,⟨hi,hol,ho⟩⟩
  refine Tri.seq ?_
  refine sZ [1,2,6,7,8,16] (fun P S K=>XvFieldAddr P 32 0 (S.get 2) (fun r1 _=>XvLoad P 28 (M S.hp S.nx) r1 (fun r2 _=>XvLen P 28 (M S.hp S.nx) r2 (fun r3 _=>XvBinOV P .lss 3 (.tmp 15) (S.get 8) r3 (fun r4 _=>K ⟨[(1,S.get 1),(2,S.get 2),(6,S.get 6),(7,S.get 7),(8,S.get 8),(16,r4)],S.hp,S.nx,S.gh⟩))))) fun K hK=>?_
  repeat' (first|(refine hK _ ?_;clear hK K)|refine And.intro ?_ ?_|exact cl|(refine st ?_;try simp only[encX,zaa,zac,zad,encF,encR])|fail)
  all_goals
  refine Tri.cond rfl (fun h16=>?_) (fun h16=>?_)
  ·try (cases h16;done)
   all_goals (try simp only[CQ] at h16)
   all_goals
   refine Tri.skip ?_
   refine Tri.seq ?_
   refine Tri.block ?_
   have hil:i<x.forms.length:=by omega
   refine sZ [1,2,6,7,8,26] (fun P S K=>XvFieldAddr P 32 0 (S.get 2) (fun r0 _=>XvLoad P 28 (M S.hp S.nx) r0 (fun r1 _=>XvIndexAddr P 28 r1 (S.get 8) (fun r3 _=>XvFieldAddr P 76 0 r3 (fun r4 _=>XvLoad P 9 (M S.hp S.nx) r4 (fun r5 _=>XvBinOV P .eql 9 (.tmp 25) r5 (S.get 1) (fun r7 _=>K ⟨[(1,S.get 1),(2,S.get 2),(6,S.get 6),(7,S.get 7),(8,S.get 8),(26,r7)],S.hp,S.nx,S.gh⟩))))))) fun K hK=>?_
   repeat' (first|(refine hK _ ?_;clear hK K)|refine And.intro ?_ ?_|exact cl|(refine st ?_;try simp only[encX,zaa,zac,zad,encF,encR,zaB hil])|fail)
   all_goals
   refine Tri.cond rfl (fun h26=>?_) (fun h26=>?_)
   ·try (cases h26;done)
    all_goals (try simp only[CQ] at h26)
    all_goals
    refine rZ [1,2,6,7,8] (fun P S K=>XvFieldAddr P 32 0 (S.get 2) (fun r1 _=>XvLoad P 28 (M S.hp S.nx) r1 (fun r2 _=>XvIndexAddr P 28 r2 (S.get 8) (fun r4 _=>XvLoad P 76 (M S.hp S.nx) r4 (fun r5 _=>XvFnIV P (M S.hp S.nx) (.fn 76 []) [(S.get 6),r5] (fun r6 ef6=>K ⟨[(1,S.get 1),(2,S.get 2),(6,r6),(7,S.get 7),(8,S.get 8)],(Eff.hp ef6 S.nx S.hp),(S.nx+ef6.add.length),S.gh⟩)))))) fun K hK=>?_
    repeat' (first|(refine hK _ ?_;clear hK K)|refine And.intro ?_ ?_|exact cl|refine .inl ⟨_,_,zjp o (fF x.forms i) (by omega),?_⟩|(refine st ?_;try simp only[encX,zaa,zac,zad,encF,encR,zaB hil])|fail)
    all_goals
    refine rY [1,2,6,7,8] (fun P S K=>XvBinOV P .add 3 (.const (.int .i64 1)) (S.get 8) (.atom (.int .i64 1)) (fun r1 _=>K ⟨[(1,S.get 1),(2,S.get 2),(6,S.get 6),(7,S.get 7),(8,r1)],S.hp,S.nx,S.gh⟩)) ?_
    all_goals try simp (disch:=omega) only[zaf,zae]
    all_goals
    first
    | (refine⟨⟨putF o (fF x.forms i),i+1,by omega,by have:=zfk o (fF x.forms i);omega,by rw[zeK hil,if_pos (by assumption),←ho]⟩,[0],by dsimp only;omega,?_⟩
       exact zaD)
    | (refine⟨⟨o,i+1,by omega,by omega,by rw[zeK hil,if_neg (by assumption),←ho]⟩,[0],by dsimp only;omega,?_⟩
       exact zaD)
   try (cases h26;done)
   all_goals (try simp only[CQ] at h26)
   all_goals
   refine Tri.skip ?_
   refine rY [1,2,6,7,8] (fun P S K=>XvBinOV P .add 3 (.const (.int .i64 1)) (S.get 8) (.atom (.int .i64 1)) (fun r1 _=>K ⟨[(1,S.get 1),(2,S.get 2),(6,S.get 6),(7,S.get 7),(8,r1)],S.hp,S.nx,S.gh⟩)) ?_
   all_goals try simp (disch:=omega) only[zaf,zae]
   all_goals
   first
   | (refine⟨⟨putF o (fF x.forms i),i+1,by omega,by have:=zfk o (fF x.forms i);omega,by rw[zeK hil,if_pos (by assumption),←ho]⟩,[0],by dsimp only;omega,?_⟩
      exact zaD)
   | (refine⟨⟨o,i+1,by omega,by omega,by rw[zeK hil,if_neg (by assumption),←ho]⟩,[0],by dsimp only;omega,?_⟩
      exact zaD)
  try (cases h16;done)
  all_goals (try simp only[CQ] at h16)
  all_goals
  refine Tri.exit ?_
  refine Tri.seq ?_
  refine sY [1,2,6,7,9] (fun P S K=>K ⟨[(1,S.get 1),(2,S.get 2),(6,S.get 6),(7,S.get 7),(9,(.atom (.int .i64 0)))],S.hp,S.nx,S.gh⟩) ?_
  all_goals
  refine Tri.block ?_
  refine Tri.loop (α:=(q:List FormD) ×' (j:Nat) ×' (j≤x.rules.length∧q.length≤j∧q=((x.rules.take j).filterMap fun r=>(zeb r w).map fun s=>(⟨w,s,r.cls⟩:FormD)).foldl putF [])) (fun z=>(fun(q:List FormD) (j:Nat)=>(⟨[(1,encS w),(2,.ptr 0 3 0 0),(6,zaa o),(7,zaa q),(9,encI j)],[(0,some ⟨3,[encX x]⟩)],1,[]⟩:St)) z.1 z.2.1) (fun z=>(fun(q:List FormD) (j:Nat)=>x.rules.length - j) z.1 z.2.1) ⟨[],0,⟨Nat.zero_le _,Nat.le_refl _,rfl⟩⟩ [0] ?_ ?_
  ·exact zaD
  rintro⟨q,j,⟨hj,hql,hq⟩⟩
  refine Tri.seq ?_
  refine sZ [1,2,6,7,9,38] (fun P S K=>XvFieldAddr P 32 1 (S.get 2) (fun r1 _=>XvLoad P 29 (M S.hp S.nx) r1 (fun r2 _=>XvLen P 29 (M S.hp S.nx) r2 (fun r3 _=>XvBinOV P .lss 3 (.tmp 37) (S.get 9) r3 (fun r4 _=>K ⟨[(1,S.get 1),(2,S.get 2),(6,S.get 6),(7,S.get 7),(9,S.get 9),(38,r4)],S.hp,S.nx,S.gh⟩))))) fun K hK=>?_
  repeat' (first|(refine hK _ ?_;clear hK K)|refine And.intro ?_ ?_|exact cl|(refine st ?_;try simp only[encX,zaa,zac,zad,encF,encR])|fail)
  all_goals
  refine Tri.cond rfl (fun h38=>?_) (fun h38=>?_)
  ·try (cases h38;done)
   all_goals (try simp only[CQ] at h38)
   all_goals
   refine Tri.skip ?_
   refine Tri.seq ?_
   refine Tri.block ?_
   have hjl:j<x.rules.length:=by omega
   refine sZ [1,2,6,7,9,10,11] (fun P S K=>XvFieldAddr P 32 1 (S.get 2) (fun r0 _=>XvLoad P 29 (M S.hp S.nx) r0 (fun r1 _=>XvIndexAddr P 29 r1 (S.get 9) (fun r3 _=>XvLoad P 87 (M S.hp S.nx) r3 (fun r4 _=>XvFnIV P (M S.hp S.nx) (.fn 77 []) [r4,(S.get 1)] (fun r6 ef6=>XvExtract r6 0 (fun r8 _=>XvExtract r6 1 (fun r9 _=>K ⟨[(1,S.get 1),(2,S.get 2),(6,S.get 6),(7,S.get 7),(9,S.get 9),(10,r8),(11,r9)],(Eff.hp ef6 S.nx S.hp),(S.nx+ef6.add.length),S.gh⟩)))))))) fun K hK=>?_
   repeat' (first|(refine hK _ ?_;clear hK K)|refine And.intro ?_ ?_|exact cl|refine .inl ⟨_,_,zjq (fR x.rules j) w (hx.rules _ (zcF hjl)) hw,?_⟩|(refine st ?_;try simp only[encX,zaa,zac,zad,encF,encR,zcz hjl])|fail)
   all_goals
   refine sY [1,2,6,7,9,10,51] (fun P S K=>K ⟨[(1,S.get 1),(2,S.get 2),(6,S.get 6),(7,S.get 7),(9,S.get 9),(10,S.get 10),(51,(S.get 11))],S.hp,S.nx,S.gh⟩) ?_
   all_goals
   refine Tri.cond rfl (fun h51=>?_) (fun h51=>?_)
   ·try (cases h51;done)
    all_goals (try simp only[CQ] at h51)
    all_goals
    refine rZ [1,2,6,7,9] (fun P S K=>XvFieldAddr P 32 1 (S.get 2) (fun r3 _=>XvLoad P 29 (M S.hp S.nx) r3 (fun r4 _=>XvIndexAddr P 29 r4 (S.get 9) (fun r6 _=>XvFieldAddr P 87 2 r6 (fun r7 _=>XvLoad P 9 (M S.hp S.nx) r7 (fun r8 _=>XvBuild P 76 [(0,(S.get 1)),(1,(S.get 10)),(2,r8)] (fun r9 _=>XvFnIV P (M S.hp S.nx) (.fn 76 []) [(S.get 7),r9] (fun r10 ef10=>K ⟨[(1,S.get 1),(2,S.get 2),(6,S.get 6),(7,r10),(9,S.get 9)],(Eff.hp ef10 S.nx S.hp),(S.nx+ef10.add.length),S.gh⟩)))))))) fun K hK=>?_
    repeat' (first|(refine hK _ ?_;clear hK K)|refine And.intro ?_ ?_|exact cl|refine .inl ⟨_,_,zjp q ⟨w,(zfG (fR x.rules j) w).1,(fR x.rules j).cls⟩ (by omega),?_⟩|(refine st ?_;try simp only[encX,zaa,zac,zad,encF,encR,zcz hjl])|fail)
    all_goals
    refine rY [1,2,6,7,9] (fun P S K=>XvBinOV P .add 3 (.const (.int .i64 1)) (S.get 9) (.atom (.int .i64 1)) (fun r1 _=>K ⟨[(1,S.get 1),(2,S.get 2),(6,S.get 6),(7,S.get 7),(9,r1)],S.hp,S.nx,S.gh⟩)) ?_
    all_goals try simp (disch:=omega) only[zaf,zae]
    all_goals
    first
    | (refine⟨⟨putF q ⟨w,(zfG (fR x.rules j) w).1,(fR x.rules j).cls⟩,j+1,by omega,by have:=zfk q ⟨w,(zfG (fR x.rules j) w).1,(fR x.rules j).cls⟩;omega,by rw[zeF hjl,if_pos (by assumption),←hq]⟩,[0],by dsimp only;omega,?_⟩
       exact zaD)
    | (refine⟨⟨q,j+1,by omega,by omega,by rw[zeF hjl,if_neg (by simp_all),←hq]⟩,[0],by dsimp only;omega,?_⟩
       exact zaD)
   try (cases h51;done)
   all_goals (try simp only[CQ] at h51)
   all_goals
   refine Tri.skip ?_
   refine rY [1,2,6,7,9] (fun P S K=>XvBinOV P .add 3 (.const (.int .i64 1)) (S.get 9) (.atom (.int .i64 1)) (fun r1 _=>K ⟨[(1,S.get 1),(2,S.get 2),(6,S.get 6),(7,S.get 7),(9,r1)],S.hp,S.nx,S.gh⟩)) ?_
   all_goals try simp (disch:=omega) only[zaf,zae]
   all_goals
   first
   | (refine⟨⟨putF q ⟨w,(zfG (fR x.rules j) w).1,(fR x.rules j).cls⟩,j+1,by omega,by have:=zfk q ⟨w,(zfG (fR x.rules j) w).1,(fR x.rules j).cls⟩;omega,by rw[zeF hjl,if_pos (by assumption),←hq]⟩,[0],by dsimp only;omega,?_⟩
      exact zaD)
   | (refine⟨⟨q,j+1,by omega,by omega,by rw[zeF hjl,if_neg (by simp_all),←hq]⟩,[0],by dsimp only;omega,?_⟩
      exact zaD)
  try (cases h38;done)
  all_goals (try simp only[CQ] at h38)
  all_goals
  refine Tri.exit ?_
  have h1:o=zf4 x w:=by rw[ho,List.take_of_length_le (by omega)];rfl
  have h2:q=zfW x w:=by rw[hq,List.take_of_length_le (by omega)];rfl
  refine sY [4,5] (fun P S K=>K ⟨[(4,(S.get 6)),(5,(S.get 7))],S.hp,S.nx,S.gh⟩) ?_
  all_goals
  refine Tri.ret ?_
  show ResOk _ _ _ _
  rw[←h1,←h2]
  exact ResOk.val zby zbi
theorem zqV{l:List FormD}(h:0<l.length):l≠[]:=fun e=>by rw[e] at h;cases h
theorem zlo{l:List FormD}(h:¬0<l.length):¬l≠[]:=fun e=>h (List.length_pos_iff.2 e)
theorem zjs (x:LexD) (w:ByteArray) (hx:HeldX x) (hw:w.size≤140737488355328):Pure Tryz.prog 19 [encX x,encS w] (zaa (allX x w)) []:=by
  refine Pure.intro (ts:=[4]) Tryz.func19 (by kernel_rfl) rfl rfl rfl (Nat.le_of_ble_eq_true rfl) ?_ ?_
  · simp[zay,encS,PV.pure,zan]
  refine sZ [1,2] (fun P S K=>XvBox S.nx (S.get 0) (fun r0 ef0=>K ⟨[(1,S.get 1),(2,r0)],(Eff.hp ef0 S.nx S.hp),(S.nx+ef0.add.length),S.gh⟩)) fun K hK=>?_
  repeat' (first|(refine hK _ ?_;clear hK K)|refine And.intro ?_ ?_|exact cl|(refine st ?_;try simp only[encX,zaa,zac,zad,encF,zab])|fail)
  all_goals
  refine sZ [1,5,6] (fun P S K=>XvLoad P 32 (M S.hp S.nx) (S.get 2) (fun r0 _=>XvFnIV P (M S.hp S.nx) (.fn 47 []) [r0,(S.get 1)] (fun r2 ef2=>XvExtract r2 0 (fun r4 _=>XvExtract r2 1 (fun r5 _=>K ⟨[(1,S.get 1),(5,r4),(6,r5)],(Eff.hp ef2 S.nx S.hp),(S.nx+ef2.add.length),S.gh⟩))))) fun K hK=>?_
  repeat' (first|(refine hK _ ?_;clear hK K)|refine And.intro ?_ ?_|refine .inl ⟨_,_,zlc x w hx hw,?_⟩|(refine st ?_;try simp only[encX,zaa,zac,zad,encF,zab])|fail)
  all_goals
  refine Tri.seq ?_
  refine sZ [1,5,6,15] (fun P S K=>XvLen P 28 (M S.hp S.nx) (S.get 5) (fun r1 _=>XvBinOV P .gtr 3 (.const (.int .i64 0)) r1 (.atom (.int .i64 0)) (fun r2 _=>K ⟨[(1,S.get 1),(5,S.get 5),(6,S.get 6),(15,r2)],S.hp,S.nx,S.gh⟩))) fun K hK=>?_
  repeat' (first|(refine hK _ ?_;clear hK K)|refine And.intro ?_ ?_|exact cl|(refine st ?_;try simp only[encX,zaa,zac,zad,encF,zab])|fail)
  all_goals
  refine Tri.cond rfl (fun h15=>?_) (fun h15=>?_)
  ·try (cases h15;done)
   all_goals (try simp only[CQ] at h15)
   all_goals
   refine sY [4] (fun P S K=>K ⟨[(4,(S.get 5))],S.hp,S.nx,S.gh⟩) ?_
   all_goals
   refine Tri.ret ?_
   show ResOk _ _ _ _
   rw[show allX x w=zf4 x w from if_pos (zqV (by omega))]
   exact ResOk.val zby zbi
  try (cases h15;done)
  all_goals (try simp only[CQ] at h15)
  all_goals
  refine Tri.skip ?_
  refine Tri.seq ?_
  refine sZ [1,6,19] (fun P S K=>XvLen P 28 (M S.hp S.nx) (S.get 6) (fun r1 _=>XvBinOV P .gtr 3 (.const (.int .i64 0)) r1 (.atom (.int .i64 0)) (fun r2 _=>K ⟨[(1,S.get 1),(6,S.get 6),(19,r2)],S.hp,S.nx,S.gh⟩))) fun K hK=>?_
  repeat' (first|(refine hK _ ?_;clear hK K)|refine And.intro ?_ ?_|exact cl|(refine st ?_;try simp only[encX,zaa,zac,zad,encF,zab])|fail)
  all_goals
  refine Tri.cond rfl (fun h19=>?_) (fun h19=>?_)
  ·try (cases h19;done)
   all_goals (try simp only[CQ] at h19)
   all_goals
   refine sY [4] (fun P S K=>K ⟨[(4,(S.get 6))],S.hp,S.nx,S.gh⟩) ?_
   all_goals
   refine Tri.ret ?_
   show ResOk _ _ _ _
   rw[show allX x w=zfW x w by unfold allX;rw[if_neg (zlo (by omega)),if_pos (zqV (by omega))]]
   exact ResOk.val zby zbi
  try (cases h19;done)
  all_goals (try simp only[CQ] at h19)
  all_goals
  refine Tri.skip ?_
  refine sZ [4] (fun P S K=>XvBuild P 76 [(0,(S.get 1)),(1,(S.get 1))] (fun r2 _=>XvBuildS P 28 1 S.nx [(0,r2)] (fun r3 ef3=>K ⟨[(4,r3)],(Eff.hp ef3 S.nx S.hp),(S.nx+ef3.add.length),S.gh⟩))) fun K hK=>?_
  repeat' (first|(refine hK _ ?_;clear hK K)|refine And.intro ?_ ?_|exact cl|(refine st ?_;try simp only[encX,zaa,zac,zad,encF,zab])|fail)
  all_goals
  refine Tri.ret ?_
  show ResOk _ _ _ _
  rw[show allX x w=[⟨w,w,.empty⟩] by unfold allX;rw[if_neg (zlo (by omega)),if_neg (zlo (by omega))]]
  exact ResOk.frz 5 zgc zbi
theorem znN (a b:List FormD) (ha:a.length≤4294967296) (hb:b.length≤4294967296):Pure Tryz.prog 17 [zaa a,zaa b] (.atom (.bool (decide (a=b)))) []:=by
  refine Pure.intro (ts:=[4]) Tryz.func17 (by kernel_rfl) rfl rfl rfl (Nat.le_of_ble_eq_true rfl) ?_ ?_
  · simp[zaI,PV.pure,zan]
  refine sY [0,1] (fun P S K=>K ⟨[(0,S.get 0),(1,S.get 1)],S.hp,S.nx,S.gh⟩) ?_
  all_goals
  refine Tri.seq ?_
  refine sZ [0,1,10] (fun P S K=>XvLen P 28 (M S.hp S.nx) (S.get 0) (fun r1 _=>XvLen P 28 (M S.hp S.nx) (S.get 1) (fun r3 _=>XvBinOV P .neq 3 (.tmp 9) r1 r3 (fun r4 _=>K ⟨[(0,S.get 0),(1,S.get 1),(10,r4)],S.hp,S.nx,S.gh⟩)))) fun K hK=>?_
  repeat' (first|(refine hK _ ?_;clear hK K)|(refine st ?_;try simp only[zaa,encF])|fail)
  all_goals
  refine Tri.cond rfl (fun h10=>?_) (fun h10=>?_)
  ·try (cases h10;done)
   all_goals (try simp only[CQ] at h10)
   all_goals
   refine sY [4] (fun P S K=>K ⟨[(4,(.atom (.bool false)))],S.hp,S.nx,S.gh⟩) ?_
   all_goals
   refine Tri.ret ?_
   show ResOk _ _ _ _
   rw[show decide (a=b)=false from decide_eq_false (fun e=>by have:=congrArg List.length e;omega)]
   exact ResOk.val zby zbi
  try (cases h10;done)
  all_goals (try simp only[CQ] at h10)
  all_goals
  refine Tri.skip ?_
  refine Tri.seq ?_
  refine sY [0,1,5] (fun P S K=>K ⟨[(0,S.get 0),(1,S.get 1),(5,(.atom (.int .i64 0)))],S.hp,S.nx,S.gh⟩) ?_
  all_goals
  refine Tri.block ?_
  refine Tri.loop (α:=(i:Nat) ×' (i≤a.length∧∀j,j<i→fF a j=fF b j)) (fun z=>(fun(i:Nat)=>(⟨[(0,zaa a),(1,zaa b),(5,encI i)],[],0,[]⟩:St)) z.1) (fun z=>(fun(i:Nat)=>a.length - i) z.1) ⟨0,⟨Nat.zero_le _,fun j hj=>absurd hj (Nat.not_lt_zero _)⟩⟩ [] ?_ ?_
  ·exact zaD
  rintro⟨i,⟨hi,hs⟩⟩
  refine Tri.seq ?_
  refine sZ [0,1,5,14] (fun P S K=>XvLen P 28 (M S.hp S.nx) (S.get 0) (fun r2 _=>XvBinOV P .lss 3 (.tmp 13) (S.get 5) r2 (fun r3 _=>K ⟨[(0,S.get 0),(1,S.get 1),(5,S.get 5),(14,r3)],S.hp,S.nx,S.gh⟩))) fun K hK=>?_
  repeat' (first|(refine hK _ ?_;clear hK K)|(refine st ?_;try simp only[zaa,encF])|fail)
  all_goals
  refine Tri.cond rfl (fun h14=>?_) (fun h14=>?_)
  ·try (cases h14;done)
   all_goals (try simp only[CQ] at h14)
   all_goals
   refine Tri.skip ?_
   refine Tri.seq ?_
   refine Tri.block ?_
   have hil:i<a.length:=by omega
   have hil2:i<b.length:=by omega
   refine sD 9 [0,1,5,25] (fun P GD S K=>XvIndexAddr P 28 (S.get 0) (S.get 5) (fun r2 ef2=>XvLoad P 76 (M S.hp S.nx) r2 (fun r3 ef3=>XvIndexAddr P 28 (S.get 1) (S.get 5) (fun r6 ef6=>XvLoad P 76 (M S.hp S.nx) r6 (fun r7 ef7=>XvBinOV P .neq 76 (.tmp 24) r3 r7 (fun r8 ef8=>(trOk S.nx GD [⟨S.nx,0,[],[],[]⟩,⟨S.nx,0,[],[],[]⟩,⟨S.nx,0,ef2.rd,[],[]⟩,⟨S.nx,0,ef3.rd,[],[]⟩,⟨S.nx,0,[],[],[]⟩,⟨S.nx,0,[],[],[]⟩,⟨S.nx,0,ef6.rd,[],[]⟩,⟨S.nx,0,ef7.rd,[],[]⟩,⟨S.nx,0,ef8.rd,[],[]⟩]=true∧K ⟨[(0,S.get 0),(1,S.get 1),(5,S.get 5),(25,r8)],S.hp,S.nx,S.gh⟩))))))) fun K hK=>?_
   repeat' (first|(refine hK _ ?_;clear hK K)|(refine(?_:trOk _ _ _=true);(try simp only[zaB hil,zaB hil2]);kernel_rfl)|refine And.intro ?_ ?_|exact cl|(refine st ?_;try simp only[zaa,encF,zaB hil,zaB hil2])|fail)
   all_goals
   refine Tri.cond rfl (fun h25=>?_) (fun h25=>?_)
   ·try (cases h25;done)
    all_goals (try simp only[CQ] at h25)
    all_goals
    refine sY [4] (fun P S K=>K ⟨[(4,(.atom (.bool false)))],S.hp,S.nx,S.gh⟩) ?_
    all_goals
    refine Tri.ret ?_
    show ResOk _ _ _ _
    rw[show decide (a=b)=false from decide_eq_false (fun e=>by subst e;simp at h25)]
    exact ResOk.val zby zbi
   try (cases h25;done)
   all_goals (try simp only[CQ] at h25)
   all_goals
   refine Tri.skip ?_
   refine rY [0,1,5] (fun P S K=>XvBinOV P .add 3 (.const (.int .i64 1)) (S.get 5) (.atom (.int .i64 1)) (fun r1 _=>K ⟨[(0,S.get 0),(1,S.get 1),(5,r1)],S.hp,S.nx,S.gh⟩)) ?_
   all_goals try simp (disch:=omega) only[zaf,zae]
   all_goals
   refine⟨⟨i+1,by omega,fun j hj=>?_⟩,[],by dsimp only;omega,?_⟩
   · rcases Nat.lt_succ_iff_lt_or_eq.1 hj with hj|rfl
     · exact hs j hj
     · cases h1:fF a j;cases h2:fF b j;rw[h1,h2] at h25;simp_all
   · exact zaD
  try (cases h14;done)
  all_goals (try simp only[CQ] at h14)
  all_goals
  refine Tri.exit ?_
  refine sY [4] (fun P S K=>K ⟨[(4,(.atom (.bool true)))],S.hp,S.nx,S.gh⟩) ?_
  all_goals
  refine Tri.ret ?_
  show ResOk _ _ _ _
  rw[show decide (a=b)=true from decide_eq_true (List.ext_getElem (by omega) fun j h1 h2=>by rw[←zdS h1,←zdS h2];exact hs j (by omega))]
  exact ResOk.val zby zbi
theorem zrH{x:LexD}{ws:List ByteArray}{i:Nat}(h:errX x (ws.take i)≠0):errX x ws=errX x (ws.take i):=by
  unfold errX at *
  by_cases hv:zbt x≠0
  · rw[if_pos hv,if_pos hv]
  · rw[if_neg hv,if_neg hv]
    rw[if_neg hv] at h
    by_cases ha:(ws.take i).all zbw=true
    · rw[if_pos ha] at h;exact absurd rfl h
    · rw[if_neg ha,if_neg]
      intro hb
      exact ha (List.all_eq_true.2 fun y hy=>List.all_eq_true.1 hb y (List.mem_of_mem_take hy))
theorem take_lsx{l:List ByteArray}{k:Nat}(h:k<l.length):l.take (k+1)=l.take k++[ls l k]:=by rw[List.take_succ_eq_append_getElem h,ls_get h]
theorem zfx{x:LexD}{ws:List ByteArray}{i:Nat}(hi:i<ws.length) (h:errX x (ws.take i)=0):errX x (ws.take (i+1))=if zbw (ls ws i)=true then 0 else 1:=by
  unfold errX at *
  by_cases hv:zbt x≠0
  · rw[if_pos hv] at h;exact absurd h hv
  · rw[if_neg hv] at h ⊢
    have ha:(ws.take i).all zbw=true:=by
      cases hb:(ws.take i).all zbw with
      | true=>rfl
      | false=>rw[hb] at h;exact absurd h (by decide)
    rw[take_lsx hi,List.all_append,ha]
    cases hp:zbw (ls ws i)<;>simp[hp]
theorem zeX (x:LexD) (ws:List ByteArray) (hx:HeldX x) (hn:ws.length≤4294967296) (hw:∀w,w∈ws→w.size≤9223372036854775807):Pure Tryz.prog 16 [encX x,strs ws] (encI (errX x ws)) []:=by
  refine Pure.intro (ts:=[4]) Tryz.func16 (by kernel_rfl) rfl rfl rfl (Nat.le_of_ble_eq_true rfl) ?_ ?_
  · simp[zay,zag,PV.pure,zan]
  refine sZ [1,2] (fun P S K=>XvBox S.nx (S.get 0) (fun r0 ef0=>K ⟨[(1,S.get 1),(2,r0)],(Eff.hp ef0 S.nx S.hp),(S.nx+ef0.add.length),S.gh⟩)) fun K hK=>?_
  repeat' (first|(refine hK _ ?_;clear hK K)|refine And.intro ?_ ?_|exact cl|(refine st ?_;try simp only[encX,zaa,zac,zad])|fail)
  all_goals
  refine sZ [1,5] (fun P S K=>XvLoad P 32 (M S.hp S.nx) (S.get 2) (fun r0 _=>XvFnIV P (M S.hp S.nx) (.fn 12 []) [r0] (fun r1 ef1=>K ⟨[(1,S.get 1),(5,r1)],(Eff.hp ef1 S.nx S.hp),(S.nx+ef1.add.length),S.gh⟩))) fun K hK=>?_
  repeat' (first|(refine hK _ ?_;clear hK K)|refine .inl ⟨_,_,zjo x hx,?_⟩|(refine st ?_;try simp only[encX,zaa,zac,zad])|fail)
  all_goals
  refine Tri.seq ?_
  refine sY [1,5,6] (fun P S K=>K ⟨[(1,S.get 1),(5,S.get 5),(6,(.atom (.int .i64 0)))],S.hp,S.nx,S.gh⟩) ?_
  all_goals
  refine Tri.block ?_
  refine Tri.loop (α:=(e:Int) ×' (i:Nat) ×' (i≤ws.length∧e=errX x (ws.take i))) (fun z=>(fun(e:Int) (i:Nat)=>(⟨[(1,strs ws),(5,encI e),(6,encI i)],[],0,[]⟩:St)) z.1 z.2.1) (fun z=>(fun(e:Int) (i:Nat)=>ws.length - i) z.1 z.2.1) ⟨zbt x,0,⟨Nat.zero_le _,by unfold errX;by_cases h:zbt x≠0;rw[if_pos h];rw[if_neg h];simpa using h⟩⟩ [] ?_ ?_
  ·exact zaD
  rintro⟨e,i,⟨hi,he⟩⟩
  refine Tri.seq ?_
  refine sZ [1,5,6,16] (fun P S K=>XvLen P 37 (M S.hp S.nx) (S.get 1) (fun r2 _=>XvBinOV P .lss 3 (.tmp 11) (S.get 6) r2 (fun r3 _=>Xgq r3 true (fun k=>k (S.get 5)) (fun g5 r5=>Xgq g5 true (fun k=>XvBinOV P .eql 40 (.const (.int .i64 0)) r5 (.atom (.int .i64 0)) (fun r6 _=>k r6)) (fun g6 r6=>XvPick g6 r6 (.atom (.bool false)) (fun r7 _=>K ⟨[(1,S.get 1),(5,S.get 5),(6,S.get 6),(16,r7)],S.hp,S.nx,S.gh⟩)))))) fun K hK=>?_
  repeat' (first|(refine hK _ ?_;clear hK K)|((first|refine zak (fun hg=>?_) (fun hg=>?_)|refine fun(hg:(_:Prop))=>?_)<;>((try simp only[BQ] at hg);try (exfalso;omega)))|(refine st ?_;try simp only[encX,zaa,zac,zad])|fail)
  all_goals
  refine Tri.cond rfl (fun h16=>?_) (fun h16=>?_)
  ·try (cases h16;done)
   all_goals (try simp only[CQ] at h16)
   all_goals
   refine Tri.skip ?_
   refine Tri.seq ?_
   refine Tri.block ?_
   have hil:i<ws.length:=by omega
   refine sZ [1,5,6,24] (fun P S K=>XvIndexAddr P 37 (S.get 1) (S.get 6) (fun r2 _=>XvLoad P 9 (M S.hp S.nx) r2 (fun r3 _=>XvFnIV P (M S.hp S.nx) (.fn 46 []) [r3] (fun r4 ef4=>XvUn .not r4 (fun r5 _=>K ⟨[(1,S.get 1),(5,S.get 5),(6,S.get 6),(24,r5)],(Eff.hp ef4 S.nx S.hp),(S.nx+ef4.add.length),S.gh⟩))))) fun K hK=>?_
   repeat' (first|(refine hK _ ?_;clear hK K)|refine And.intro ?_ ?_|exact cl|refine .inl ⟨_,_,zhc (ls ws i) (hw _ (zfp hil)),?_⟩|(refine st ?_;try simp only[encX,zaa,zac,zad,zbl hil])|fail)
   all_goals try simp (disch:=omega) only[zaf,zae]
   all_goals
   refine Tri.cond rfl (fun h24=>?_) (fun h24=>?_)
   ·try (cases h24;done)
    all_goals (try simp only[CQ] at h24)
    all_goals
    refine rY [1,5,6] (fun P S K=>K ⟨[(1,S.get 1),(5,(.atom (.int .i64 1))),(6,S.get 6)],S.hp,S.nx,S.gh⟩) ?_
    all_goals
    refine rY [1,5,6] (fun P S K=>XvBinOV P .add 3 (.const (.int .i64 1)) (S.get 6) (.atom (.int .i64 1)) (fun r1 _=>K ⟨[(1,S.get 1),(5,S.get 5),(6,r1)],S.hp,S.nx,S.gh⟩)) ?_
    all_goals try simp (disch:=omega) only[zaf,zae]
    all_goals
    first
    | (refine⟨⟨1,i+1,by omega,by rw[zfx hil (by omega),if_neg (by simp_all)]⟩,[],by dsimp only;omega,?_⟩
       exact zaD)
    | (refine⟨⟨e,i+1,by omega,by rw[zfx hil (by omega),if_pos (by simp_all)];omega⟩,[],by dsimp only;omega,?_⟩
       exact zaD)
   try (cases h24;done)
   all_goals (try simp only[CQ] at h24)
   all_goals
   refine Tri.skip ?_
   refine rY [1,5,6] (fun P S K=>XvBinOV P .add 3 (.const (.int .i64 1)) (S.get 6) (.atom (.int .i64 1)) (fun r1 _=>K ⟨[(1,S.get 1),(5,S.get 5),(6,r1)],S.hp,S.nx,S.gh⟩)) ?_
   all_goals try simp (disch:=omega) only[zaf,zae]
   all_goals
   first
   | (refine⟨⟨1,i+1,by omega,by rw[zfx hil (by omega),if_neg (by simp_all)]⟩,[],by dsimp only;omega,?_⟩
      exact zaD)
   | (refine⟨⟨e,i+1,by omega,by rw[zfx hil (by omega),if_pos (by simp_all)];omega⟩,[],by dsimp only;omega,?_⟩
      exact zaD)
  try (cases h16;done)
  all_goals (try simp only[CQ] at h16)
  all_goals
  refine Tri.exit ?_
  refine sY [4] (fun P S K=>K ⟨[(4,(S.get 5))],S.hp,S.nx,S.gh⟩) ?_
  all_goals
  refine Tri.ret ?_
  show ResOk _ _ _ _
  rw[show errX x ws=e by(by_cases h0:e=0;(rw[he,List.take_of_length_le (by omega)]);(rw[he];exact zrH (by rw[←he];exact h0)))]
  exact ResOk.val zby zbi
theorem zod (x:LexD) (w:ByteArray):(zf4 x w).length≤x.forms.length:=by
  have h:=zcM (zbV x w) []
  have h2:(zbV x w).length≤x.forms.length:=List.length_filter_le _ _
  unfold zf4;simp at h;omega
theorem znI (x:LexD) (w:ByteArray):(zfW x w).length≤x.rules.length:=by
  have h:=zcM (zcu x w) []
  have h2:(zcu x w).length≤x.rules.length:=List.length_filterMap_le _ _
  unfold zfW;simp at h;omega
theorem ziK (x:LexD) (w:ByteArray) (hx:HeldX x):(allX x w).length≤1000000:=by
  have h1:=zod x w
  have h2:=znI x w
  have h3:=hx.nforms
  have h4:=hx.nrules
  unfold allX;split
  · omega
  · split
    · omega
    · simp
theorem zmT (x:LexD) (w:ByteArray):0<(allX x w).length:=by
  unfold allX;split
  · rename_i h;exact List.length_pos_iff.2 h
  · split
    · rename_i h;exact List.length_pos_iff.2 h
    · simp
theorem zlE{x:LexD}{ws:List ByteArray}{k:Int}{c:ByteArray}(hc:¬c=.empty) (h:k<0∨(ws.length:Int)≤k):zbq x ws k c=false:=by
  unfold zbq
  rw[decide_eq_false hc]
  rcases h with h|h
  · rw[decide_eq_false (show ¬0≤k by omega)];rfl
  · rw[decide_eq_false (show ¬k<(ws.length:Int) by omega),Bool.and_false];rfl
theorem zh0{x:LexD}{ws:List ByteArray}{k:Int}{c:ByteArray}(hc:¬c=.empty) (h:0≤k) (h2:k<(ws.length:Int)):zbq x ws k c=(allX x (ls ws k.toNat)).all fun f=>decide (f.cls=c):=by
  unfold zbq
  rw[decide_eq_false hc,decide_eq_true h,decide_eq_true h2];rfl
theorem zrY{l:List FormD}{p:FormD→Bool}{j:Nat}(hj:j<l.length) (h:p (fF l j)=false):l.all p=false:=by
  rw[Bool.eq_false_iff]
  intro ha
  have:=List.all_eq_true.1 ha _ (zcq hj)
  rw[h] at this;cases this
theorem zmU{l:List FormD}{p:FormD→Bool}(h:∀j,j<l.length→p (fF l j)=true):l.all p=true:=List.all_eq_true.2 fun y hy=>by
  obtain⟨j,hj,rfl⟩:=List.getElem_of_mem hy
  rw[←zdS hj];exact h j hj
theorem zfX (x:LexD) (ws:List ByteArray) (k:Int) (c:ByteArray) (hx:HeldX x) (hn:ws.length≤4294967296) (hw:∀w,w∈ws→w.size≤140737488355328) (hk:I64 k) (hc:c.size≤140737488355328):
    Pure Tryz.prog 85 [encX x,strs ws,encI k,encS c] (.atom (.bool (zbq x ws k c))) []:=by
  have hal:=ziK x (ls ws k.toNat) hx
  refine Pure.intro (ts:=[8]) Tryz.func85 (by kernel_rfl) rfl rfl rfl (Nat.le_of_ble_eq_true rfl) ?_ ?_
  · simp[zay,zag,encS,encI,PV.pure,zan]
  refine sZ [1,2,3,4] (fun P S K=>XvBox S.nx (S.get 0) (fun r0 ef0=>K ⟨[(1,S.get 1),(2,S.get 2),(3,S.get 3),(4,r0)],(Eff.hp ef0 S.nx S.hp),(S.nx+ef0.add.length),S.gh⟩)) fun K hK=>?_
  repeat' (first|(refine hK _ ?_;clear hK K)|refine And.intro ?_ ?_|exact cl|(refine st ?_;try simp only[encX,zaa,zac,zad,encF,zab])|fail)
  all_goals
  refine Tri.seq ?_
  refine sY [1,2,3,4,12] (fun P S K=>XvBinOV P .eql 9 (.const (.string { data := #[] })) (S.get 3) (.atom (.string { data := #[] })) (fun r1 _=>K ⟨[(1,S.get 1),(2,S.get 2),(3,S.get 3),(4,S.get 4),(12,r1)],S.hp,S.nx,S.gh⟩)) ?_
  all_goals
  refine Tri.cond rfl (fun h12=>?_) (fun h12=>?_)
  ·try (cases h12;done)
   all_goals (try simp only[CQ] at h12)
   all_goals
   refine sY [8] (fun P S K=>K ⟨[(8,(.atom (.bool true)))],S.hp,S.nx,S.gh⟩) ?_
   all_goals
   refine Tri.ret ?_
   show ResOk _ _ _ _
   rw[show zbq x ws k c=true by unfold zbq;rw[decide_eq_true (show c=.empty from h12)];rfl]
   exact ResOk.val zby zbi
  try (cases h12;done)
  all_goals (try simp only[CQ] at h12)
  all_goals
  refine Tri.skip ?_
  refine Tri.seq ?_
  refine sZ [1,2,3,4,20] (fun P S K=>XvBinOV P .lss 3 (.const (.int .i64 0)) (S.get 2) (.atom (.int .i64 0)) (fun r1 _=>Xgq r1 false (fun k=>k (S.get 2)) (fun g3 r3=>Xgq g3 false (fun k=>k (S.get 1)) (fun g4 r4=>Xgq g4 false (fun k=>XvLen P 37 (M S.hp S.nx) r4 (fun r5 _=>k r5)) (fun g5 r5=>Xgq g5 false (fun k=>XvBinOV P .geq 3 (.tmp 18) r3 r5 (fun r6 _=>k r6)) (fun g6 r6=>XvPick g6 (.atom (.bool true)) r6 (fun r7 _=>K ⟨[(1,S.get 1),(2,S.get 2),(3,S.get 3),(4,S.get 4),(20,r7)],S.hp,S.nx,S.gh⟩))))))) fun K hK=>?_
  repeat' (first|(refine hK _ ?_;clear hK K)|((first|refine zak (fun hg=>?_) (fun hg=>?_)|refine fun(hg:(_:Prop))=>?_)<;>((try simp only[BQ] at hg);try (exfalso;omega)))|refine And.intro ?_ ?_|exact cl|(refine st ?_;try simp only[encX,zaa,zac,zad,encF,zab])|fail)
  all_goals
  refine Tri.cond rfl (fun h20=>?_) (fun h20=>?_)
  ·try (cases h20;done)
   all_goals (try simp only[CQ] at h20)
   all_goals
   refine sY [8] (fun P S K=>K ⟨[(8,(.atom (.bool false)))],S.hp,S.nx,S.gh⟩) ?_
   all_goals
   refine Tri.ret ?_
   show ResOk _ _ _ _
   rw[zlE h12 (by omega)]
   exact ResOk.val zby zbi
  try (cases h20;done)
  all_goals (try simp only[CQ] at h20)
  all_goals
  refine Tri.skip ?_
  have hkl:k.toNat<ws.length:=by omega
  refine sD 7 [3,9] (fun P GD S K=>XvLoad P 32 (M S.hp S.nx) (S.get 4) (fun r0 ef0=>XvIndexAddr P 37 (S.get 1) (S.get 2) (fun r3 ef3=>XvLoad P 9 (M S.hp S.nx) r3 (fun r4 ef4=>XvFnDV P (M S.hp S.nx) (.fn 19 []) [r0,r4] (fun r5 ef5=>(trOk S.nx GD [⟨S.nx,0,ef0.rd,[],[]⟩,⟨S.nx,0,[],[],[]⟩,⟨S.nx,0,[],[],[]⟩,⟨S.nx,0,ef3.rd,[],[]⟩,⟨S.nx,0,ef4.rd,[],[]⟩,(Eff.tr ef5 S.nx),⟨(S.nx+ef5.add.length),0,[],[],[]⟩]=true∧K ⟨[(3,S.get 3),(9,r5)],(Eff.hp ef5 S.nx S.hp),(S.nx+ef5.add.length),S.gh⟩)))))) fun K hK=>?_
  repeat' (first|(refine hK _ ?_;clear hK K)|(refine(?_:trOk _ _ _=true);(try simp only[zbl hkl]);kernel_rfl)|refine And.intro ?_ ?_|exact cl|refine .inl ⟨_,_,zjs x (ls ws k.toNat) hx (hw _ (zfp hkl)),?_⟩|(refine st ?_;try simp only[encX,zaa,zac,zad,encF,zab,zbl hkl])|fail)
  all_goals
  refine Tri.seq ?_
  refine sY [3,9,10] (fun P S K=>K ⟨[(3,S.get 3),(9,S.get 9),(10,(.atom (.int .i64 0)))],S.hp,S.nx,S.gh⟩) ?_
  all_goals
  refine Tri.block ?_
  refine Tri.loop (α:=(j:Nat) ×' (j≤(allX x (ls ws k.toNat)).length∧∀i,i<j→(fF (allX x (ls ws k.toNat)) i).cls=c)) (fun z=>(fun(j:Nat)=>(⟨[(3,encS c),(9,zaa (allX x (ls ws k.toNat))),(10,encI j)],[],0,[]⟩:St)) z.1) (fun z=>(fun(j:Nat)=>(allX x (ls ws k.toNat)).length - j) z.1) ⟨0,⟨Nat.zero_le _,fun j hj=>absurd hj (Nat.not_lt_zero _)⟩⟩ [] ?_ ?_
  ·exact zaD
  rintro⟨j,⟨hj,hs⟩⟩
  refine Tri.seq ?_
  refine sZ [3,9,10,30] (fun P S K=>XvLen P 28 (M S.hp S.nx) (S.get 9) (fun r2 _=>XvBinOV P .lss 3 (.tmp 29) (S.get 10) r2 (fun r3 _=>K ⟨[(3,S.get 3),(9,S.get 9),(10,S.get 10),(30,r3)],S.hp,S.nx,S.gh⟩))) fun K hK=>?_
  repeat' (first|(refine hK _ ?_;clear hK K)|refine And.intro ?_ ?_|exact cl|(refine st ?_;try simp only[encX,zaa,zac,zad,encF,zab])|fail)
  all_goals
  refine Tri.cond rfl (fun h30=>?_) (fun h30=>?_)
  ·try (cases h30;done)
   all_goals (try simp only[CQ] at h30)
   all_goals
   refine Tri.skip ?_
   refine Tri.seq ?_
   refine Tri.block ?_
   have hjl:j<(allX x (ls ws k.toNat)).length:=by omega
   refine sZ [3,9,10,39] (fun P S K=>XvIndexAddr P 28 (S.get 9) (S.get 10) (fun r2 _=>XvFieldAddr P 76 2 r2 (fun r3 _=>XvLoad P 9 (M S.hp S.nx) r3 (fun r4 _=>XvBinOV P .neq 9 (.tmp 38) r4 (S.get 3) (fun r6 _=>K ⟨[(3,S.get 3),(9,S.get 9),(10,S.get 10),(39,r6)],S.hp,S.nx,S.gh⟩))))) fun K hK=>?_
   repeat' (first|(refine hK _ ?_;clear hK K)|refine And.intro ?_ ?_|exact cl|(refine st ?_;try simp only[encX,zaa,zac,zad,encF,zab,zaB hjl])|fail)
   all_goals
   refine Tri.cond rfl (fun h39=>?_) (fun h39=>?_)
   ·try (cases h39;done)
    all_goals (try simp only[CQ] at h39)
    all_goals
    refine sY [8] (fun P S K=>K ⟨[(8,(.atom (.bool false)))],S.hp,S.nx,S.gh⟩) ?_
    all_goals
    refine Tri.ret ?_
    show ResOk _ _ _ _
    rw[zh0 h12 (by omega) (by omega),zrY hjl (decide_eq_false (by assumption))]
    exact ResOk.val zby zbi
   try (cases h39;done)
   all_goals (try simp only[CQ] at h39)
   all_goals
   refine Tri.skip ?_
   refine rY [3,9,10] (fun P S K=>XvBinOV P .add 3 (.const (.int .i64 1)) (S.get 10) (.atom (.int .i64 1)) (fun r1 _=>K ⟨[(3,S.get 3),(9,S.get 9),(10,r1)],S.hp,S.nx,S.gh⟩)) ?_
   all_goals try simp (disch:=omega) only[zaf,zae]
   all_goals
   refine⟨⟨j+1,by omega,fun i hi=>?_⟩,[],by dsimp only;omega,?_⟩
   · rcases Nat.lt_succ_iff_lt_or_eq.1 hi with hi|rfl
     · exact hs i hi
     · simp_all
   · exact zaD
  try (cases h30;done)
  all_goals (try simp only[CQ] at h30)
  all_goals
  refine Tri.exit ?_
  refine sY [8] (fun P S K=>K ⟨[(8,(.atom (.bool true)))],S.hp,S.nx,S.gh⟩) ?_
  all_goals
  refine Tri.ret ?_
  show ResOk _ _ _ _
  rw[zh0 h12 (by omega) (by omega),zmU fun j hj=>decide_eq_true (hs j (by omega))]
  exact ResOk.val zby zbi
def zeN (P:Program) (S:St):List ResultVar→Option (List PV)
  | []=>some []
  | .tmp t :: l=>(zeN P S l).map (S.get t :: ·)
  | .cell a t :: l=>match S.get a,tAgg P t,zaL P t with
    | .ptr i sz k c,some ag,some m=>match S.obj i with
      | some o=>if o.sz=sz∧k<o.els.length∧(bif ag then decide (c+m≤(o.els.getD k .junk).cells.length) else decide (c<(o.els.getD k .junk).cells.length))=true then (zeN P S l).map ((o.els.getD k .junk).part ag c m :: ·) else none
      | none=>none
    | _,_,_=>none
def zjj (S:St) (vs:List PV):St:=⟨zbJ 0 vs,S.hp,S.nx,S.gh⟩
def ResR (P:Program) (S:St) (rv:List ResultVar) (r:PV) (os:List AO):Prop:=∃vs,zeN P S rv=some vs∧ResOk (zjj S vs) (List.range vs.length) r os
def ResPR (P:Program) (S:St) (rv:List ResultVar) (r:PV) (hp:List AO) (hp':List (Option AO)) (os:List AO):Prop:=∃vs,zeN P S rv=some vs∧ResP (zjj S vs) (List.range vs.length) r hp hp' os
def retQR (P:Program) (rv:List ResultVar) (r:PV) (os:List AO):Exit→St→Prop
  | .normal,S=>ResR P S rv r os
  | .ret,S=>ResR P S rv r os
  | _,_=>False
def retPR (P:Program) (rv:List ResultVar) (r:PV) (hp:List AO) (hp':List (Option AO)) (os:List AO):Exit→St→Prop
  | .normal,S=>ResPR P S rv r hp hp' os
  | .ret,S=>ResPR P S rv r hp hp' os
  | _,_=>False
theorem zka (S:St) (vs:List PV):(List.range vs.length).map (zjj S vs).get=vs:=by
  apply List.ext_getElem
  · simp
  · intro i h1 h2
    simp only[List.getElem_map,List.getElem_range]
    show(lk (zbJ 0 vs) i).getD .junk=_
    rw[zdd];simp[h2]
theorem zdH (S:St) (vs:List PV):retV (zjj S vs) (List.range vs.length)=match vs with | [v]=>v|vs=>.tup vs:=by
  have:=zka S vs
  match vs,this with
  | [],_=>rfl
  | [v],_=>rfl
  | a :: b :: l,h=>
    have e:List.range (a :: b :: l).length=0 :: 1 :: (List.range l.length).map (·+2):=by
      have h1:=List.range_succ_eq_map (n:=(b :: l).length)
      simp only[List.length_cons] at h1 ⊢
      rw[h1,List.range_succ_eq_map];simp
    rw[e] at h ⊢
    show PV.tup _=_
    rw[h]
section
variable {P:Program} {n:Nat} {S:St} {Q:Exit→St→Prop}
theorem tup_rep{D:Nat→Prop}{μ:Nat→Option Nat}{F:Nat→Prop}{w:World}{xs:List Value}{vs:List PV}(hl:xs.length=vs.length) (h:∀i (h:i<vs.length),Rep D μ F w vs[i] (xs.getD i undef)):
    Rep D μ F w (match vs with | [v]=>v|vs=>.tup vs) (if h:xs.toArray.size=1 then xs.toArray[0] else .tuple xs.toArray):=by
  match vs,xs with
  | [v],[x]=>simpa using h 0 (by simp)
  | [],[]=>simp;exact .tup _ _ rfl (fun i hi=>by simp at hi)
  | a :: b :: r,x :: y :: z=>
    rw[dif_neg (by simp)]
    refine .tup _ _ (by simpa using hl) fun i hi=>?_
    have:=h i hi
    simpa[Array.getD_eq_getD_getElem?,List.getD_eq_getElem?_getD] using this
  | [],x :: z=>simp at hl
  | [v],[]=>simp at hl
  | [v],x :: y :: z=>simp at hl
  | a :: b :: r,[]=>simp at hl
  | a :: b :: r,[x]=>simp at hl
theorem zje {w0 : Home}{F0 D:Nat→Prop}{μ:Nat→Option Nat}{F:Nat→Prop}{w:World}{fn:Func}{rv:List ResultVar}(hr:fn.results=rv.toArray) {tmps:Array Value}(hH:HeapSim w0 F0 D μ F S.obj w) (he:∀s,Rep D μ F w (S.get s) (tmps.getD s undef)) {vs:List PV}(hvs:zeN P S rv=some vs):
    ∃v,(results fn tmps).run P w=.ok v w∧Rep D μ F w (retV (zjj S vs) (List.range vs.length)) v:=by
  let f:ResultVar→Sem Value:=fun
    | .tmp t=>pure (tmps.getD t undef)
    | .cell a t=>do loadVar t (←asAddr (tmps.getD a undef))
  have key : ∀ (l:List ResultVar) (vs:List PV),zeN P S l=some vs→∃xs:List Value,(l.mapM f).run P w=.ok xs w∧xs.length=vs.length∧∀i (h:i<vs.length),Rep D μ F w vs[i] (xs.getD i undef):=by
    intro l
    induction l with
    | nil=>intro vs h;cases h;exact⟨[],by simp,rfl,fun i h=>by simp at h⟩
    | cons x l ih=>
      intro vs h
      cases x with
      | tmp t=>
        simp only[zeN] at h
        cases hl:zeN P S l with
        | none=>rw[hl] at h;cases h
        | some vs'=>
          rw[hl] at h;cases h
          obtain⟨xs,h1,h2,h3⟩:=ih vs' hl
          refine⟨tmps.getD t undef :: xs,?_,by simp[h2],fun i hi=>?_⟩
          · rw[List.mapM_cons,Sem.run_bind,show(f (.tmp t)).run P w=.ok (tmps.getD t undef) w from rfl]
            simp only[Result.andThen_ok,Sem.run_bind,h1,Sem.run_pure]
          · cases i with
            | zero=>simpa using he t
            | succ i=>simpa using h3 i (by simpa using hi)
      | cell a t=>
        simp only[zeN] at h
        split at h<;>try (cases h;done)
        rename_i i sz k c ag m hp ha hm
        split at h<;>try (cases h;done)
        rename_i o ho
        split at h<;>try (cases h;done)
        rename_i hc
        cases hl:zeN P S l with
        | none=>rw[hl] at h;cases h
        | some vs'=>
          rw[hl] at h;cases h
          obtain⟨xs,h1,h2,h3⟩:=ih vs' hl
          have hrep:=he a
          rw[hp] at hrep
          generalize hu:tmps.getD a undef=u at hrep
          cases hrep with
          | ptr _ _ _ _ b hD hb hkd=>
            have hok:=hH.cellsOk ho hb hkd
            have hk:=hc.2.1
            have hin:=hc.2.2
            rw[ze9 _ _ hk] at hin ⊢
            have hin':bif ag then c+m≤o.els[k].cells.length else c<o.els[k].cells.length:=by
              cases ag
              · simp only[cond_false] at hin ⊢;exact of_decide_eq_true hin
              · simp only[cond_true] at hin ⊢;exact of_decide_eq_true hin
            obtain⟨v,g1,g2⟩:=zcT (D:=D) (μ:=μ) (F:=F) (w:=w) (ad:=⟨b,k * sz+c,none⟩) ha hm hin' rfl (fun j hj hcj=>by
              obtain⟨v,g1,_,g3⟩:=hok.cell hk hj
              refine⟨v,?_,g3⟩
              rw[←hc.1]
              rw[show k * o.sz+c+(j - c)=k * o.sz+j by omega];exact g1)
            refine⟨v :: xs,?_,by simp[h2],fun i hi=>?_⟩
            · rw[List.mapM_cons,Sem.run_bind,show(f (.cell a t)).run P w=.ok v w by
                show(do loadVar t (←asAddr (tmps.getD a undef)):Sem Value).run P w=_
                rw[hu];simpa[asAddr] using g1]
              simp only[Result.andThen_ok,Sem.run_bind,h1,Sem.run_pure]
            · cases i with
              | zero=>simpa using g2
              | succ i=>simpa using h3 i (by simpa using hi)
  obtain⟨xs,h1,h2,h3⟩:=key rv vs hvs
  refine⟨if h:xs.toArray.size=1 then xs.toArray[0] else .tuple xs.toArray,?_,?_⟩
  · have e:results fn tmps=(do let vs ←fn.results.mapM f;pure (if h:vs.size=1 then vs[0] else .tuple vs)):=rfl
    rw[e,hr,Array.mapM_eq_mapM_toList,Sem.run_bind,Sem.run_map,show(rv.toArray.toList.mapM f).run P w=.ok xs w by simpa using h1]
    rfl
  · rw[zdH];exact tup_rep h2 h3
theorem PureCall.introR{f:FuncId}{fn:Func}{c:Code}{args:List PV}{r:PV}{os:List AO}{rv:List ResultVar}(hf:P.funcs[f]? = some fn) (hb:fn.body=some c) (hr:fn.results=rv.toArray) (hn:fn.ntmps=n) (hla:args.length≤n) (hpure:args.all PV.pure=true)
    (h:Tri P n c ⟨zbJ 0 args,[],0,[]⟩ (retQR P rv r os)):PureCall P f args r os:=by
  intro D μ F w vs hvs hargs hFs
  refine calls_of_wp hf hb ?_
  have hS:Sim ⟨w,fun _=>False⟩ F (fun _=>False) μ F [] ⟨zbJ 0 args,[],0,[]⟩ n { tmps:=vs++Array.replicate (fn.ntmps - vs.size) undef,defers:=[] } w:=by
    refine⟨rfl,by simp[hvs,hn];omega,fun s=>?_,⟨fun i o hi=>(by cases hi),fun i j o o' b hi=>(by cases hi),fun i o b hi=>(by cases hi),Ext.refl _ _,fun b hb=>.inl hb,hFs⟩,fun i hi=>hi.elim,rfl,fun i hi=>by simp at hi⟩
    show Rep _ μ F w ((lk (zbJ 0 args) s).getD .junk) _
    rw[zdd]
    simp only[Nat.zero_le,if_true,Nat.sub_zero]
    by_cases hs:s<args.length
    · rw[List.getElem?_eq_getElem hs]
      simp only[Option.getD_some]
      have e:(vs++Array.replicate (fn.ntmps - vs.size) undef).getD s undef=vs.getD s undef:=by
        simp only[Array.getD_eq_getD_getElem?]
        rw[Array.getElem?_append_left (by omega)]
      rw[e]
      exact(hargs s hs).pureAny (zbh hpure s hs)
    · rw[List.getElem?_eq_none (by omega)]
      exact .junk _
  refine wp_mono (h _ F _ μ F [] _ w hS) fun e a' w' ⟨S',D',μ',F',h1,h2⟩=>?_
  have fin:ResR P S' rv r os→a'.defers=[]∧∃v,(results fn a'.tmps).run P w'=.ok v w'∧∃v',Ending.returned v=.returned v'∧Bel w w'∧ResIs F w w' r os v':=fun⟨vs,hvs,hres⟩=>by
    obtain⟨v,hv,hrep⟩:=zje (P:=P) (S:=S') hr h2.heap h2.env hvs
    exact⟨h2.defers,v,hv,v,rfl,h2.heap.ext.below (fun _ h=>h),hres.is h2.heap h2.ids hrep⟩
  cases e with
  | normal=>exact fin h1
  | ret=>exact fin h1
  | exit id=>exact h1.elim
  | goto l=>exact h1.elim
  | panic ch=>exact h1.elim
  | outgrown=>exact h1.elim
theorem ProcCall.introR{f:FuncId}{fn:Func}{c:Code}{args:List PV}{hp:List AO}{r:PV}{hp':List (Option AO)}{os:List AO}{rv:List ResultVar}(hf:P.funcs[f]? = some fn) (hb:fn.body=some c) (hr:fn.results=rv.toArray) (hn:fn.ntmps=n) (hla:args.length≤n)
    (hlen:hp'.length=hp.length) (h:Tri P n c ⟨zbJ 0 args,zbb 0 (hp.map some),hp.length,zbD 0 hp⟩ (retPR P rv r hp hp' os)):ProcCall P f args hp r hp' os:=by
  refine⟨hlen,fun μ F w vs hH hvs hargs=>calls_of_wp hf hb ?_⟩
  have hobj:(St.mk (zbJ 0 args) (zbb 0 (hp.map some)) hp.length (zbD 0 hp)).obj=fun i=>hp[i]? := by
    funext i
    show(lk (zbb 0 (hp.map some)) i).join=_
    rw[zb9]
    simp only[Nat.zero_le,if_true,Nat.sub_zero,List.getElem?_map]
    cases hp[i]? <;> rfl
  have hS : Sim ⟨w,fun b=>∃i,i<hp.length∧μ i=some b⟩ F (· < hp.length) μ F ((List.range hp.length).map fun i=>zc0 (μ i)) ⟨zbJ 0 args,zbb 0 (hp.map some),hp.length,zbD 0 hp⟩ n { tmps:=vs++Array.replicate (fn.ntmps - vs.size) undef,defers:=[] } w:=by
    refine⟨rfl,by simp[hvs,hn];omega,fun s=>?_,by rw[hobj];exact hH,fun i hi=>hi,by simp[zbC],fun i hi=>?_⟩
    · show Rep _ μ F w ((lk (zbJ 0 args) s).getD .junk) _
      rw[zdd]
      simp only[Nat.zero_le,if_true,Nat.sub_zero]
      by_cases hs:s<args.length
      · rw[List.getElem?_eq_getElem hs]
        simp only[Option.getD_some]
        have e:(vs++Array.replicate (fn.ntmps - vs.size) undef).getD s undef=vs.getD s undef:=by
          simp only[Array.getD_eq_getD_getElem?]
          rw[Array.getElem?_append_left (by omega)]
        rw[e]
        exact hargs s hs
      · rw[List.getElem?_eq_none (by omega)]
        exact .junk _
    · simp only at hi
      have hi':i<hp.length:=by rwa [zbC] at hi
      have e1:(zbD 0 hp)[i]'hi=.mark i:=by
        have:=zdc hp 0 i
        rw[List.getElem?_eq_getElem hi,List.getElem?_eq_getElem hi'] at this
        simpa using this
      have e2:((List.range hp.length).map fun i=>zc0 (μ i)).getD i undef=zc0 (μ i):=by simp[List.getD_eq_getElem?_getD,hi']
      rw[e1,e2]
      exact .mark i _ hi' rfl
  refine wp_mono (h _ F _ μ F _ _ w hS) fun e a' w' ⟨S',D',μ',F',h1,h2⟩=>?_
  have fin:ResPR P S' rv r hp hp' os→a'.defers=[]∧∃v,(results fn a'.tmps).run P w'=.ok v w'∧∃v',Ending.returned v=.returned v'∧∃(μ2:Nat→Option Nat) (F2:Nat→Prop),Rep (· < hp.length+os.length) μ2 F2 w' r v'∧
      HeapSim ⟨w,fun b=>∃i,i<hp.length∧μ i=some b⟩ F (· < hp.length+os.length) μ2 F2 (fun i=>((hp'++os.map some)[i]?).join) w'∧(∀i,i<hp.length→μ2 i=μ i):=fun⟨vs,hvs,L,k,hr1,hl0⟩=>by
    have hl:LeqS k L S' ⟨[],zbb 0 (hp'++os.map some),hp'.length+os.length,zbD 0 hp⟩:=⟨fun p hp=>(by cases hp),hl0.hp,hl0.nx,hl0.nodup,hl0.ghl,hl0.gh⟩
    have hr1:sealed S'.obj (fun i=>L.contains i) k (retV (zjj S' vs) (List.range vs.length))=r.ren (rmap L S'.nx):=hr1
    obtain⟨v,hv,hrep⟩:=zje (P:=P) (S:=S') hr h2.heap h2.env hvs
    have h3:=h2.leq ⟨k,hl⟩
    have hD:∀i,D' (rmap L S'.nx i)→i<hp.length+os.length∧μ' (rmap L S'.nx i)=μ' (rmap L S'.nx i):=fun i hi=>⟨by
      have:=h3.ids i hi
      have e:(St.mk [] (zbb 0 (hp'++os.map some)) (hp'.length+os.length) (zbD 0 hp)).nx=hp'.length+os.length:=rfl
      rw[e] at this;omega,rfl⟩
    refine⟨h2.defers,v,hv,v,rfl,fun i=>μ' (rmap L S'.nx i),frz S' L μ' F',?_,?_,fun i hi=>?_⟩
    · have:=Rep.sealed h2.heap (fun i=>L.contains i) (frz S' L μ' F') (fun b h=>.inl h) (fun i o b h1 h2 h3=>.inr ⟨i,o,h1,h2,h3⟩) k _ _ hrep
      rw[hr1] at this
      exact this.ren_inv hD _ rfl
    · have:=h3.heap.widen (D':=(· < hp.length+os.length)) (fun i hi=>(hD i hi).1)
      have e:(St.mk [] (zbb 0 (hp'++os.map some)) (hp'.length+os.length) (zbD 0 hp)).obj=fun i=>((hp'++os.map some)[i]?).join:=by
        funext i
        show(lk (zbb 0 (hp'++os.map some)) i).join=_
        rw[zb9];simp
      rw[e] at this
      exact this
    · have hi2:i<(zbD 0 hp).length:=by rw[zbC];exact hi
      have:=h3.gh i hi2
      have e1:(zbD 0 hp)[i]'hi2=.mark i:=by
        have:=zdc hp 0 i
        rw[List.getElem?_eq_getElem hi2,List.getElem?_eq_getElem hi] at this
        simpa using this
      have e2:((List.range hp.length).map fun i=>zc0 (μ i)).getD i undef=zc0 (μ i):=by simp[List.getD_eq_getElem?_getD,hi]
      simp only[e1,e2] at this
      generalize hpv:zc0 (μ i)=pv at this
      cases this with
      | mark _ _ g1 g2=>
        show μ' (rmap L S'.nx i)=μ i
        exact(zhK (hpv.trans g2)).symm
  cases e with
  | normal=>exact fin h1
  | ret=>exact fin h1
  | exit id=>exact h1.elim
  | goto l=>exact h1.elim
  | panic ch=>exact h1.elim
  | outgrown=>exact h1.elim
theorem Pure.introR {f : FuncId} {fn : Func} {c : Code} {args : List PV} {r : PV} {os : List AO} {rv : List ResultVar} (hf : P.funcs[f]? = some fn) (hname : (fn.name == "runtime.NumGoroutine") = false) (hb : fn.body = some c) (hr : fn.results = rv.toArray) (hn : fn.ntmps = n) (hla : args.length ≤ n) (hpure : args.all PV.pure = true)
    (h:Tri P n c ⟨zbJ 0 args,[],0,[]⟩ (retQR P rv r os)):Pure P f args r os:=⟨Go.Proofs.enters_of hf hname hb,PureCall.introR hf hb hr hn hla hpure h⟩
theorem Proc.introR {f : FuncId} {fn : Func} {c : Code} {args : List PV} {hp : List AO} {r : PV} {hp' : List (Option AO)} {os : List AO} {rv : List ResultVar} (hf : P.funcs[f]? = some fn) (hname : (fn.name == "runtime.NumGoroutine") = false) (hb : fn.body = some c) (hr : fn.results = rv.toArray) (hn : fn.ntmps = n) (hla : args.length ≤ n)
    (hlen:hp'.length=hp.length) (h:Tri P n c ⟨zbJ 0 args,zbb 0 (hp.map some),hp.length,zbD 0 hp⟩ (retPR P rv r hp hp' os)):Proc P f args hp r hp' os:=⟨Go.Proofs.enters_of hf hname hb,ProcCall.introR hf hb hr hn hla hlen h⟩
end
end Go.Proofs.YtehoglapajkabaaGreat
