/-
  Walks: package lemma: Valid.
-/
import Derived.Test.YtehoglapajkabaaIM0
import Derived.Test.YtehoglapajkabaaIM9
set_option linter.all false
namespace Go.Proofs.Ytehoglapajkabaa
open Go Go.RowKit
set_option maxRecDepth 20000
set_option maxHeartbeats 1000000
theorem vX_badF{x:LexD}{i:Nat}(h:¬ (64<x.forms.length∨32<x.rules.length∨32<x.prefs.length)) (hi:i<x.forms.length) (hf:zeD (fF x.forms i)=false):zbc x=1:=by
  unfold zbc zhb;rw[if_neg h,if_neg];rw[allF_no hi hf];simp
theorem vX_badR{x:LexD}{i:Nat}(h:¬ (64<x.forms.length∨32<x.rules.length∨32<x.prefs.length)) (hi:i<x.rules.length) (hf:zd3 (fR x.rules i)=false):zbc x=1:=by
  unfold zbc zhb;rw[if_neg h,if_neg]
  intro ha
  rw[Bool.and_eq_true,Bool.and_eq_true] at ha
  have:=List.all_eq_true.1 ha.1.2 _ (zfx hi)
  rw[hf] at this;cases this
theorem vX_badA{x:LexD}{i:Nat}(h:¬ (64<x.forms.length∨32<x.rules.length∨32<x.prefs.length)) (hi:i<x.prefs.length) (hf:zgS (fA x.prefs i)=false):zbc x=1:=by
  unfold zbc zhb;rw[if_neg h,if_neg]
  intro ha
  rw[Bool.and_eq_true,Bool.and_eq_true] at ha
  have:=List.all_eq_true.1 ha.2 _ (zhJ hi)
  rw[hf] at this;cases this
theorem vX_ok{x:LexD}(h:¬ (64<x.forms.length∨32<x.rules.length∨32<x.prefs.length)) (h1:∀j,j<x.forms.length→zeD (fF x.forms j)=true) (h2:∀j,j<x.rules.length→zd3 (fR x.rules j)=true) (h3:∀j,j<x.prefs.length→zgS (fA x.prefs j)=true):zbc x=0:=by
  unfold zbc zhb;rw[if_neg h,if_pos]
  rw[Bool.and_eq_true,Bool.and_eq_true]
  refine⟨⟨allF_yes h1,List.all_eq_true.2 fun y hy=>?_⟩,List.all_eq_true.2 fun y hy=>?_⟩
  · obtain⟨j,hj,rfl⟩:=List.getElem_of_mem hy;rw[←zmt hj];exact h2 j hj
  · obtain⟨j,hj,rfl⟩:=List.getElem_of_mem hy;rw[←zmu hj];exact h3 j hj
theorem size0 (s:ByteArray):s.size=0↔s=⟨#[]⟩:=by
  cases s with|mk a=>simp[ByteArray.size]
theorem let0 (s:ByteArray):letS s 0 8=(decide (s=⟨#[]⟩) || letS s 1 8):=by
  by_cases h:s=⟨#[]⟩
  · subst h;rfl
  · rw[decide_eq_false h,Bool.false_or]
    have:s.size≠0:=fun e=>h ((size0 s).1 e)
    unfold letS
    rw[decide_eq_true (show(0:Int)≤s.size by omega),decide_eq_true (show(1:Int)≤s.size by omega)]
theorem zms (p:PrefD):zgS p=((decide (p.after=⟨#[]⟩) || letS p.after 1 8) && (decide (p.before=⟨#[]⟩) || letS p.before 1 8) && !decide (p.after++p.before=⟨#[]⟩) && letS p.cls 1 8):=by
  have e:decide (0<p.after.size+p.before.size) = !decide (p.after++p.before=⟨#[]⟩):=by
    rw[←decide_not]
    congr 1
    rw[←size0,ByteArray.size_append]
    exact propext ⟨fun h=>by omega,fun h=>by omega⟩
  unfold zgS
  rw[e,let0,let0,Bool.and_assoc,Bool.and_assoc,Bool.and_assoc,Bool.and_assoc,Bool.and_comm (letS p.cls 1 8)]
theorem zef (x:LexD) (hx:HeldX x):Pure Try.prog 27 [encX x] (encI (zbc x)) []:=by
  have hnf:=hx.nforms
  have hnr:=hx.nrules
  have hnp:=hx.nprefs
  refine Pure.intro (ts:=[2]) Try.func27 (by kernel_rfl) rfl rfl rfl (Nat.le_of_ble_eq_true rfl) ?_ ?_
  · simp[zaR,PV.pure,zaw]
  refine sZ [1] (fun P S K=>XvBox S.nx (S.get 0) (fun r0 ef0=>K ⟨[(1,r0)],(Eff.hp ef0 S.nx S.hp),(S.nx+ef0.add.length),S.gh⟩)) fun K hK=>?_
  repeat' (first|(refine hK _ ?_;clear hK K)|refine And.intro ?_ ?_|exact cl|(refine st ?_;try simp only[encX,zaa,zab,zac,encF,encR,encA])|refine sx ?_ (by simp only[encX,zaa,zab,zac,encF,encR,encA];exact rfl)|fail)
  all_goals
  refine Tri.seq ?_
  refine sZ [1,24] (fun P S K=>XvFieldAddr P 27 0 (S.get 1) (fun r0 _=>XvLoad P 23 (M S.hp S.nx) r0 (fun r1 _=>XvLen P 23 (M S.hp S.nx) r1 (fun r2 _=>XvBinOV P .gtr 3 (.const (.int .i64 64)) r2 (.atom (.int .i64 64)) (fun r3 _=>Xgq r3 false (fun k=>XvFieldAddr P 27 1 (S.get 1) (fun r5 _=>k r5)) (fun g5 r5=>Xgq g5 false (fun k=>XvLoad P 24 (M S.hp S.nx) r5 (fun r6 _=>k r6)) (fun g6 r6=>Xgq g6 false (fun k=>XvLen P 24 (M S.hp S.nx) r6 (fun r7 _=>k r7)) (fun g7 r7=>Xgq g7 false (fun k=>XvBinOV P .gtr 3 (.const (.int .i64 32)) r7 (.atom (.int .i64 32)) (fun r8 _=>k r8)) (fun g8 r8=>XvPick g8 (.atom (.bool true)) r8 (fun r9 _=>Xgq r9 false (fun k=>XvFieldAddr P 27 2 (S.get 1) (fun r11 _=>k r11)) (fun g11 r11=>Xgq g11 false (fun k=>XvLoad P 25 (M S.hp S.nx) r11 (fun r12 _=>k r12)) (fun g12 r12=>Xgq g12 false (fun k=>XvLen P 25 (M S.hp S.nx) r12 (fun r13 _=>k r13)) (fun g13 r13=>Xgq g13 false (fun k=>XvBinOV P .gtr 3 (.const (.int .i64 32)) r13 (.atom (.int .i64 32)) (fun r14 _=>k r14)) (fun g14 r14=>XvPick g14 (.atom (.bool true)) r14 (fun r15 _=>K ⟨[(1,S.get 1),(24,r15)],S.hp,S.nx,S.gh⟩))))))))))))))) fun K hK=>?_
  repeat' (first|(refine hK _ ?_;clear hK K)|((first|refine zav (fun hg=>?_) (fun hg=>?_)|refine fun(hg:(_:Prop))=>?_)<;>((try simp only[BQ] at hg);try (exfalso;omega)))|refine And.intro ?_ ?_|exact cl|(refine st ?_;try simp only[encX,zaa,zab,zac,encF,encR,encA])|fail)
  all_goals
  refine Tri.cond rfl (fun h24=>?_) (fun h24=>?_)
  ·try (cases h24;done)
   all_goals (try simp only[CQ] at h24)
   all_goals
   refine sY [2] (fun P S K=>K ⟨[(2,(.atom (.int .i64 4)))],S.hp,S.nx,S.gh⟩) ?_
   all_goals
   refine Tri.ret ?_
   show ResOk _ _ _ _
   rw[show zbc x=4 from if_pos (by omega)]
   exact ResOk.val zci zca
  try (cases h24;done)
  all_goals (try simp only[CQ] at h24)
  all_goals
  refine Tri.skip ?_
  refine Tri.seq ?_
  refine sZ [1,26,27,28] (fun P S K=>XvFieldAddr P 27 0 (S.get 1) (fun r0 _=>XvLoad P 23 (M S.hp S.nx) r0 (fun r1 _=>XvLen P 23 (M S.hp S.nx) r1 (fun r2 _=>K ⟨[(1,S.get 1),(26,r1),(27,r2),(28,(.atom (.int .i64 0)))],S.hp,S.nx,S.gh⟩)))) fun K hK=>?_
  repeat' (first|(refine hK _ ?_;clear hK K)|refine And.intro ?_ ?_|exact cl|(refine st ?_;try simp only[encX,zaa,zab,zac,encF,encR,encA])|refine sx ?_ (by simp only[encX,zaa,zab,zac,encF,encR,encA];exact rfl)|fail)
  all_goals
  refine Tri.block ?_
  refine Tri.loop (α:=(i:Nat) ×' (i≤x.forms.length∧∀j,j<i→zeD (fF x.forms j)=true)) (fun z=>(fun(i:Nat)=>(⟨[(1,.ptr 0 3 0 0),(26,zaa x.forms),(27,encI x.forms.length),(28,encI i)],[(0,some ⟨3,[encX x]⟩)],1,[]⟩:St)) z.1) (fun z=>(fun(i:Nat)=>x.forms.length - i) z.1) ⟨0,⟨Nat.zero_le _,fun j hj=>absurd hj (Nat.not_lt_zero _)⟩⟩ [0] ?_ ?_
  ·exact zbm
  rintro⟨i,⟨hi,hf⟩⟩
  refine sY [1,26,27,28,29] (fun P S K=>XvBinOV P .lss 3 (.tmp 27) (S.get 28) (S.get 27) (fun r0 _=>K ⟨[(1,S.get 1),(26,S.get 26),(27,S.get 27),(28,S.get 28),(29,r0)],S.hp,S.nx,S.gh⟩)) ?_
  all_goals
  refine Tri.seq ?_
  refine Tri.cond rfl (fun h29=>?_) (fun h29=>?_)
  ·try (cases h29;done)
   all_goals (try simp only[CQ] at h29)
   all_goals
   refine Tri.skip ?_
   refine Tri.seq ?_
   refine Tri.block ?_
   have hil:i<x.forms.length:=by omega
   refine sZ [1,4,26,27,28] (fun P S K=>XvIndexAddr P 23 (S.get 26) (S.get 28) (fun r0 _=>XvLoad P 40 (M S.hp S.nx) r0 (fun r1 _=>XvAlloc P 40 S.nx (fun r2 ef2=>XvStore P 40 (M (Eff.hp ef2 S.nx S.hp) (S.nx+ef2.add.length)) r2 r1 (fun r3 ef3=>K ⟨[(1,S.get 1),(4,r2),(26,S.get 26),(27,S.get 27),(28,S.get 28)],(Eff.hp ef3 (S.nx+ef2.add.length) (Eff.hp ef2 S.nx S.hp)),((S.nx+ef2.add.length)+ef3.add.length),S.gh⟩))))) fun K hK=>?_
   repeat' (first|(refine hK _ ?_;clear hK K)|refine And.intro ?_ ?_|exact cl|(refine st ?_;try simp only[encX,zaa,zab,zac,encF,encR,encA,zba hil])|fail)
   all_goals
   refine sZ [1,26,27,28,47] (fun P S K=>XvFieldAddr P 40 0 (S.get 4) (fun r0 _=>XvLoad P 9 (M S.hp S.nx) r0 (fun r1 _=>XvFnIV P (M S.hp S.nx) (.fn 45 []) [r1,(.atom (.int .i64 1)),(.atom (.int .i64 24))] (fun r2 ef2=>XvUn .not r2 (fun r3 _=>Xgq r3 false (fun k=>XvFieldAddr P 40 1 (S.get 4) (fun r5 _=>k r5)) (fun g5 r5=>Xgq g5 false (fun k=>XvLoad P 9 (M (Eff.hp ef2 S.nx S.hp) (S.nx+ef2.add.length)) r5 (fun r6 _=>k r6)) (fun g6 r6=>Xge g6 false (fun k=>XvFnIV P (M (Eff.hp ef2 S.nx S.hp) (S.nx+ef2.add.length)) (.fn 45 []) [r6,(.atom (.int .i64 1)),(.atom (.int .i64 24))] k) (fun g7 r7 ef7=>Xgq g7 false (fun k=>XvUn .not r7 (fun r8 _=>k r8)) (fun g8 r8=>XvPick g8 (.atom (.bool true)) r8 (fun r9 _=>Xgq r9 false (fun k=>XvFieldAddr P 40 2 (S.get 4) (fun r11 _=>k r11)) (fun g11 r11=>Xgq g11 false (fun k=>XvLoad P 9 (M (Eff.hp ef7 (S.nx+ef2.add.length) (Eff.hp ef2 S.nx S.hp)) ((S.nx+ef2.add.length)+ef7.add.length)) r11 (fun r12 _=>k r12)) (fun g12 r12=>Xge g12 false (fun k=>XvFnIV P (M (Eff.hp ef7 (S.nx+ef2.add.length) (Eff.hp ef2 S.nx S.hp)) ((S.nx+ef2.add.length)+ef7.add.length)) (.fn 46 []) [r12] k) (fun g13 r13 ef13=>Xgq g13 false (fun k=>XvUn .not r13 (fun r14 _=>k r14)) (fun g14 r14=>XvPick g14 (.atom (.bool true)) r14 (fun r15 _=>K ⟨[(1,S.get 1),(26,S.get 26),(27,S.get 27),(28,S.get 28),(47,r15)],(Eff.hp ef13 ((S.nx+ef2.add.length)+ef7.add.length) (Eff.hp ef7 (S.nx+ef2.add.length) (Eff.hp ef2 S.nx S.hp))),(((S.nx+ef2.add.length)+ef7.add.length)+ef13.add.length),S.gh⟩))))))))))))))) fun K hK=>?_
   repeat' (first|(refine hK _ ?_;clear hK K)|((first|refine zav (fun hg=>?_) (fun hg=>?_)|refine fun(hg:(_:Prop))=>?_)<;>((try simp only[BQ] at hg);try (exfalso;omega)))|refine And.intro ?_ ?_|exact cl|refine .inl ⟨_,_,zcb _ 1 24 (up47 (hx.forms _ (zdp hil)).word),?_⟩|refine .inl ⟨_,_,zcb _ 1 24 (up47 (hx.forms _ (zdp hil)).lem),?_⟩|refine .inl ⟨_,_,zcj _ (up47 (hx.forms _ (zdp hil)).cls),?_⟩|refine .inl ⟨_,_,zcb _ 0 8 (up47 (hx.rules _ (zfx hjl)).suf),?_⟩|refine .inl ⟨_,_,zcb _ 0 8 (up47 (hx.rules _ (zfx hjl)).put),?_⟩|refine .inl ⟨_,_,zcj _ (up47 (hx.rules _ (zfx hjl)).cls),?_⟩|(refine st ?_;try simp only[encX,zaa,zab,zac,encF,encR,encA])|fail)
   all_goals try simp (disch:=omega) only[zae,zaf]
   all_goals
   refine Tri.cond rfl (fun h47=>?_) (fun h47=>?_)
   ·try (cases h47;done)
    all_goals (try simp only[CQ] at h47)
    all_goals
    refine sY [2] (fun P S K=>K ⟨[(2,(.atom (.int .i64 1)))],S.hp,S.nx,S.gh⟩) ?_
    all_goals
    refine Tri.ret ?_
    show ResOk _ _ _ _
    rw[vX_badF (by omega) hil (by unfold zeD;simp_all)]
    exact ResOk.val zci zca
   try (cases h47;done)
   all_goals (try simp only[CQ] at h47)
   all_goals
   refine Tri.skip ?_
   refine rY [1,26,27,28] (fun P S K=>XvBinOV P .add 3 (.const (.int .i64 1)) (S.get 28) (.atom (.int .i64 1)) (fun r0 _=>K ⟨[(1,S.get 1),(26,S.get 26),(27,S.get 27),(28,r0)],S.hp,S.nx,S.gh⟩)) ?_
   all_goals try simp (disch:=omega) only[zae,zaf]
   all_goals
   refine⟨⟨i+1,by omega,fun j hj=>?_⟩,[0],by dsimp only;omega,?_⟩
   · rcases Nat.lt_succ_iff_lt_or_eq.1 hj with hj|rfl
     · exact hf j hj
     · unfold zeD;simp_all
   · exact zbm
  try (cases h29;done)
  all_goals (try simp only[CQ] at h29)
  all_goals
  refine Tri.exit ?_
  refine Tri.seq ?_
  refine sZ [1,50,51,52] (fun P S K=>XvFieldAddr P 27 1 (S.get 1) (fun r0 _=>XvLoad P 24 (M S.hp S.nx) r0 (fun r1 _=>XvLen P 24 (M S.hp S.nx) r1 (fun r2 _=>K ⟨[(1,S.get 1),(50,r1),(51,r2),(52,(.atom (.int .i64 0)))],S.hp,S.nx,S.gh⟩)))) fun K hK=>?_
  repeat' (first|(refine hK _ ?_;clear hK K)|refine And.intro ?_ ?_|exact cl|(refine st ?_;try simp only[encX,zaa,zab,zac,encF,encR,encA])|refine sx ?_ (by simp only[encX,zaa,zab,zac,encF,encR,encA];exact rfl)|fail)
  all_goals
  refine Tri.block ?_
  refine Tri.loop (α:=(j:Nat) ×' (j≤x.rules.length∧∀i,i<j→zd3 (fR x.rules i)=true)) (fun z=>(fun(j:Nat)=>(⟨[(1,.ptr 0 3 0 0),(50,zab x.rules),(51,encI x.rules.length),(52,encI j)],[(0,some ⟨3,[encX x]⟩)],1,[]⟩:St)) z.1) (fun z=>(fun(j:Nat)=>x.rules.length - j) z.1) ⟨0,⟨Nat.zero_le _,fun j hj=>absurd hj (Nat.not_lt_zero _)⟩⟩ [0] ?_ ?_
  ·exact zbm
  rintro⟨j,⟨hj,hr⟩⟩
  refine sY [1,50,51,52,53] (fun P S K=>XvBinOV P .lss 3 (.tmp 51) (S.get 52) (S.get 51) (fun r0 _=>K ⟨[(1,S.get 1),(50,S.get 50),(51,S.get 51),(52,S.get 52),(53,r0)],S.hp,S.nx,S.gh⟩)) ?_
  all_goals
  refine Tri.seq ?_
  refine Tri.cond rfl (fun h53=>?_) (fun h53=>?_)
  ·try (cases h53;done)
   all_goals (try simp only[CQ] at h53)
   all_goals
   refine Tri.skip ?_
   refine Tri.seq ?_
   refine Tri.block ?_
   have hjl:j<x.rules.length:=by omega
   refine sZ [1,6,50,51,52] (fun P S K=>XvIndexAddr P 24 (S.get 50) (S.get 52) (fun r0 _=>XvLoad P 66 (M S.hp S.nx) r0 (fun r1 _=>XvAlloc P 66 S.nx (fun r2 ef2=>XvStore P 66 (M (Eff.hp ef2 S.nx S.hp) (S.nx+ef2.add.length)) r2 r1 (fun r3 ef3=>K ⟨[(1,S.get 1),(6,r2),(50,S.get 50),(51,S.get 51),(52,S.get 52)],(Eff.hp ef3 (S.nx+ef2.add.length) (Eff.hp ef2 S.nx S.hp)),((S.nx+ef2.add.length)+ef3.add.length),S.gh⟩))))) fun K hK=>?_
   repeat' (first|(refine hK _ ?_;clear hK K)|refine And.intro ?_ ?_|exact cl|(refine st ?_;try simp only[encX,zaa,zab,zac,encF,encR,encA,zdo hjl])|fail)
   all_goals
   refine sZ [1,50,51,52,81] (fun P S K=>XvFieldAddr P 66 0 (S.get 6) (fun r0 _=>XvLoad P 9 (M S.hp S.nx) r0 (fun r1 _=>XvFnIV P (M S.hp S.nx) (.fn 45 []) [r1,(.atom (.int .i64 0)),(.atom (.int .i64 8))] (fun r2 ef2=>XvUn .not r2 (fun r3 _=>Xgq r3 false (fun k=>XvFieldAddr P 66 1 (S.get 6) (fun r5 _=>k r5)) (fun g5 r5=>Xgq g5 false (fun k=>XvLoad P 9 (M (Eff.hp ef2 S.nx S.hp) (S.nx+ef2.add.length)) r5 (fun r6 _=>k r6)) (fun g6 r6=>Xge g6 false (fun k=>XvFnIV P (M (Eff.hp ef2 S.nx S.hp) (S.nx+ef2.add.length)) (.fn 45 []) [r6,(.atom (.int .i64 0)),(.atom (.int .i64 8))] k) (fun g7 r7 ef7=>Xgq g7 false (fun k=>XvUn .not r7 (fun r8 _=>k r8)) (fun g8 r8=>XvPick g8 (.atom (.bool true)) r8 (fun r9 _=>Xgq r9 false (fun k=>XvFieldAddr P 66 2 (S.get 6) (fun r11 _=>k r11)) (fun g11 r11=>Xgq g11 false (fun k=>XvLoad P 9 (M (Eff.hp ef7 (S.nx+ef2.add.length) (Eff.hp ef2 S.nx S.hp)) ((S.nx+ef2.add.length)+ef7.add.length)) r11 (fun r12 _=>k r12)) (fun g12 r12=>Xge g12 false (fun k=>XvFnIV P (M (Eff.hp ef7 (S.nx+ef2.add.length) (Eff.hp ef2 S.nx S.hp)) ((S.nx+ef2.add.length)+ef7.add.length)) (.fn 46 []) [r12] k) (fun g13 r13 ef13=>Xgq g13 false (fun k=>XvUn .not r13 (fun r14 _=>k r14)) (fun g14 r14=>XvPick g14 (.atom (.bool true)) r14 (fun r15 _=>Xgq r15 false (fun k=>XvFieldAddr P 66 3 (S.get 6) (fun r17 _=>k r17)) (fun g17 r17=>Xgq g17 false (fun k=>XvLoad P 3 (M (Eff.hp ef13 ((S.nx+ef2.add.length)+ef7.add.length) (Eff.hp ef7 (S.nx+ef2.add.length) (Eff.hp ef2 S.nx S.hp))) (((S.nx+ef2.add.length)+ef7.add.length)+ef13.add.length)) r17 (fun r18 _=>k r18)) (fun g18 r18=>Xgq g18 false (fun k=>XvBinOV P .lss 3 (.const (.int .i64 0)) r18 (.atom (.int .i64 0)) (fun r19 _=>k r19)) (fun g19 r19=>XvPick g19 (.atom (.bool true)) r19 (fun r20 _=>Xgq r20 false (fun k=>XvFieldAddr P 66 3 (S.get 6) (fun r22 _=>k r22)) (fun g22 r22=>Xgq g22 false (fun k=>XvLoad P 3 (M (Eff.hp ef13 ((S.nx+ef2.add.length)+ef7.add.length) (Eff.hp ef7 (S.nx+ef2.add.length) (Eff.hp ef2 S.nx S.hp))) (((S.nx+ef2.add.length)+ef7.add.length)+ef13.add.length)) r22 (fun r23 _=>k r23)) (fun g23 r23=>Xgq g23 false (fun k=>XvBinOV P .gtr 3 (.const (.int .i64 8)) r23 (.atom (.int .i64 8)) (fun r24 _=>k r24)) (fun g24 r24=>XvPick g24 (.atom (.bool true)) r24 (fun r25 _=>K ⟨[(1,S.get 1),(50,S.get 50),(51,S.get 51),(52,S.get 52),(81,r25)],(Eff.hp ef13 ((S.nx+ef2.add.length)+ef7.add.length) (Eff.hp ef7 (S.nx+ef2.add.length) (Eff.hp ef2 S.nx S.hp))),(((S.nx+ef2.add.length)+ef7.add.length)+ef13.add.length),S.gh⟩))))))))))))))))))))))) fun K hK=>?_
   repeat' (first|(refine hK _ ?_;clear hK K)|((first|refine zav (fun hg=>?_) (fun hg=>?_)|refine fun(hg:(_:Prop))=>?_)<;>((try simp only[BQ] at hg);try (exfalso;omega)))|refine And.intro ?_ ?_|exact cl|refine .inl ⟨_,_,zcb _ 1 24 (up47 (hx.forms _ (zdp hil)).word),?_⟩|refine .inl ⟨_,_,zcb _ 1 24 (up47 (hx.forms _ (zdp hil)).lem),?_⟩|refine .inl ⟨_,_,zcj _ (up47 (hx.forms _ (zdp hil)).cls),?_⟩|refine .inl ⟨_,_,zcb _ 0 8 (up47 (hx.rules _ (zfx hjl)).suf),?_⟩|refine .inl ⟨_,_,zcb _ 0 8 (up47 (hx.rules _ (zfx hjl)).put),?_⟩|refine .inl ⟨_,_,zcj _ (up47 (hx.rules _ (zfx hjl)).cls),?_⟩|(refine st ?_;try simp only[encX,zaa,zab,zac,encF,encR,encA])|fail)
   all_goals try simp (disch:=omega) only[zae,zaf]
   all_goals
   refine Tri.cond rfl (fun h81=>?_) (fun h81=>?_)
   ·try (cases h81;done)
    all_goals (try simp only[CQ] at h81)
    all_goals
    refine sY [2] (fun P S K=>K ⟨[(2,(.atom (.int .i64 1)))],S.hp,S.nx,S.gh⟩) ?_
    all_goals
    refine Tri.ret ?_
    show ResOk _ _ _ _
    rw[vX_badR (by omega) hjl (by unfold zd3;simp_all<;>omega)]
    exact ResOk.val zci zca
   try (cases h81;done)
   all_goals (try simp only[CQ] at h81)
   all_goals
   refine Tri.skip ?_
   refine rY [1,50,51,52] (fun P S K=>XvBinOV P .add 3 (.const (.int .i64 1)) (S.get 52) (.atom (.int .i64 1)) (fun r0 _=>K ⟨[(1,S.get 1),(50,S.get 50),(51,S.get 51),(52,r0)],S.hp,S.nx,S.gh⟩)) ?_
   all_goals try simp (disch:=omega) only[zae,zaf]
   all_goals
   refine⟨⟨j+1,by omega,fun i hi=>?_⟩,[0],by dsimp only;omega,?_⟩
   · rcases Nat.lt_succ_iff_lt_or_eq.1 hi with hi|rfl
     · exact hr i hi
     · unfold zd3;simp_all<;>omega
   · exact zbm
  try (cases h53;done)
  all_goals (try simp only[CQ] at h53)
  all_goals
  refine Tri.exit ?_
  refine Tri.seq ?_
  refine sZ [84,85,86] (fun P S K=>XvFieldAddr P 27 2 (S.get 1) (fun r0 _=>XvLoad P 25 (M S.hp S.nx) r0 (fun r1 _=>XvLen P 25 (M S.hp S.nx) r1 (fun r2 _=>K ⟨[(84,r1),(85,r2),(86,(.atom (.int .i64 0)))],S.hp,S.nx,S.gh⟩)))) fun K hK=>?_
  repeat' (first|(refine hK _ ?_;clear hK K)|refine And.intro ?_ ?_|exact cl|(refine st ?_;try simp only[encX,zaa,zab,zac,encF,encR,encA])|refine sx ?_ (by simp only[encX,zaa,zab,zac,encF,encR,encA];exact rfl)|fail)
  all_goals
  refine Tri.block ?_
  refine Tri.loop (α:=(k:Nat) ×' (k≤x.prefs.length∧∀i,i<k→zgS (fA x.prefs i)=true)) (fun z=>(fun(k:Nat)=>(⟨[(84,zac x.prefs),(85,encI x.prefs.length),(86,encI k)],[],0,[]⟩:St)) z.1) (fun z=>(fun(k:Nat)=>x.prefs.length - k) z.1) ⟨0,⟨Nat.zero_le _,fun j hj=>absurd hj (Nat.not_lt_zero _)⟩⟩ [] ?_ ?_
  ·exact zbm
  rintro⟨k,⟨hk,ha⟩⟩
  refine sY [84,85,86,87] (fun P S K=>XvBinOV P .lss 3 (.tmp 85) (S.get 86) (S.get 85) (fun r0 _=>K ⟨[(84,S.get 84),(85,S.get 85),(86,S.get 86),(87,r0)],S.hp,S.nx,S.gh⟩)) ?_
  all_goals
  refine Tri.seq ?_
  refine Tri.cond rfl (fun h87=>?_) (fun h87=>?_)
  ·try (cases h87;done)
   all_goals (try simp only[CQ] at h87)
   all_goals
   refine Tri.skip ?_
   refine Tri.seq ?_
   refine Tri.block ?_
   have hkl:k<x.prefs.length:=by omega
   have hp1:=(hx.prefs _ (zhJ hkl)).after
   have hp2:=(hx.prefs _ (zhJ hkl)).before
   refine sZ [8,84,85,86] (fun P S K=>XvIndexAddr P 25 (S.get 84) (S.get 86) (fun r0 _=>XvLoad P 67 (M S.hp S.nx) r0 (fun r1 _=>XvAlloc P 67 S.nx (fun r2 ef2=>XvStore P 67 (M (Eff.hp ef2 S.nx S.hp) (S.nx+ef2.add.length)) r2 r1 (fun r3 ef3=>K ⟨[(8,r2),(84,S.get 84),(85,S.get 85),(86,S.get 86)],(Eff.hp ef3 (S.nx+ef2.add.length) (Eff.hp ef2 S.nx S.hp)),((S.nx+ef2.add.length)+ef3.add.length),S.gh⟩))))) fun K hK=>?_
   repeat' (first|(refine hK _ ?_;clear hK K)|refine And.intro ?_ ?_|exact cl|(refine st ?_;try simp only[encX,zaa,zab,zac,encF,encR,encA,zft hkl])|fail)
   all_goals
   refine sZ [84,85,86,123] (fun P S K=>XvFieldAddr P 67 0 (S.get 8) (fun r0 _=>XvLoad P 9 (M S.hp S.nx) r0 (fun r1 _=>XvBinOV P .neq 9 (.const (.string { data := #[] })) r1 (.atom (.string { data := #[] })) (fun r2 _=>Xgq r2 true (fun k=>XvFieldAddr P 67 0 (S.get 8) (fun r4 _=>k r4)) (fun g4 r4=>Xgq g4 true (fun k=>XvLoad P 9 (M S.hp S.nx) r4 (fun r5 _=>k r5)) (fun g5 r5=>Xge g5 true (fun k=>XvFnIV P (M S.hp S.nx) (.fn 46 []) [r5] k) (fun g6 r6 ef6=>Xgq g6 true (fun k=>XvUn .not r6 (fun r7 _=>k r7)) (fun g7 r7=>XvPick g7 r7 (.atom (.bool false)) (fun r8 _=>Xgq r8 false (fun k=>XvFieldAddr P 67 1 (S.get 8) (fun r10 _=>k r10)) (fun g10 r10=>Xgq g10 false (fun k=>XvLoad P 9 (M (Eff.hp ef6 S.nx S.hp) (S.nx+ef6.add.length)) r10 (fun r11 _=>k r11)) (fun g11 r11=>Xgq g11 false (fun k=>XvBinOV P .neq 9 (.const (.string { data := #[] })) r11 (.atom (.string { data := #[] })) (fun r12 _=>k r12)) (fun g12 r12=>Xgq g12 false (fun k=>k r12) (fun g13 r13=>Xgq r13 true (fun k=>XvFieldAddr P 67 1 (S.get 8) (fun r14 _=>k r14)) (fun g14 r14=>Xgq g14 true (fun k=>XvLoad P 9 (M (Eff.hp ef6 S.nx S.hp) (S.nx+ef6.add.length)) r14 (fun r15 _=>k r15)) (fun g15 r15=>Xge g15 true (fun k=>XvFnIV P (M (Eff.hp ef6 S.nx S.hp) (S.nx+ef6.add.length)) (.fn 46 []) [r15] k) (fun g16 r16 ef16=>Xgq g16 true (fun k=>XvUn .not r16 (fun r17 _=>k r17)) (fun g17 r17=>Xgq g13 false (fun k=>XvPick g17 r17 (.atom (.bool false)) (fun r18 _=>k r18)) (fun g18 r18=>XvPick g18 (.atom (.bool true)) r18 (fun r19 _=>Xgq r19 false (fun k=>XvFieldAddr P 67 0 (S.get 8) (fun r21 _=>k r21)) (fun g21 r21=>Xgq g21 false (fun k=>XvLoad P 9 (M (Eff.hp ef16 (S.nx+ef6.add.length) (Eff.hp ef6 S.nx S.hp)) ((S.nx+ef6.add.length)+ef16.add.length)) r21 (fun r22 _=>k r22)) (fun g22 r22=>Xgq g22 false (fun k=>XvFieldAddr P 67 1 (S.get 8) (fun r23 _=>k r23)) (fun g23 r23=>Xgq g23 false (fun k=>XvLoad P 9 (M (Eff.hp ef16 (S.nx+ef6.add.length) (Eff.hp ef6 S.nx S.hp)) ((S.nx+ef6.add.length)+ef16.add.length)) r23 (fun r24 _=>k r24)) (fun g24 r24=>Xgq g24 false (fun k=>XvBinOV P .add 9 (.tmp 114) r22 r24 (fun r25 _=>k r25)) (fun g25 r25=>Xgq g25 false (fun k=>XvBinOV P .eql 9 (.const (.string { data := #[] })) r25 (.atom (.string { data := #[] })) (fun r26 _=>k r26)) (fun g26 r26=>XvPick g26 (.atom (.bool true)) r26 (fun r27 _=>Xgq r27 false (fun k=>XvFieldAddr P 67 2 (S.get 8) (fun r29 _=>k r29)) (fun g29 r29=>Xgq g29 false (fun k=>XvLoad P 9 (M (Eff.hp ef16 (S.nx+ef6.add.length) (Eff.hp ef6 S.nx S.hp)) ((S.nx+ef6.add.length)+ef16.add.length)) r29 (fun r30 _=>k r30)) (fun g30 r30=>Xge g30 false (fun k=>XvFnIV P (M (Eff.hp ef16 (S.nx+ef6.add.length) (Eff.hp ef6 S.nx S.hp)) ((S.nx+ef6.add.length)+ef16.add.length)) (.fn 46 []) [r30] k) (fun g31 r31 ef31=>Xgq g31 false (fun k=>XvUn .not r31 (fun r32 _=>k r32)) (fun g32 r32=>XvPick g32 (.atom (.bool true)) r32 (fun r33 _=>K ⟨[(84,S.get 84),(85,S.get 85),(86,S.get 86),(123,r33)],(Eff.hp ef31 ((S.nx+ef6.add.length)+ef16.add.length) (Eff.hp ef16 (S.nx+ef6.add.length) (Eff.hp ef6 S.nx S.hp))),(((S.nx+ef6.add.length)+ef16.add.length)+ef31.add.length),S.gh⟩))))))))))))))))))))))))))))))) fun K hK=>?_
   repeat' (first|(refine hK _ ?_;clear hK K)|((first|refine zav (fun hg=>?_) (fun hg=>?_)|refine fun(hg:(_:Prop))=>?_)<;>((try simp only[BQ] at hg);try (exfalso;omega)))|refine And.intro ?_ ?_|exact cl|refine .inl ⟨_,_,zcj _ (up47 (hx.prefs _ (zhJ hkl)).after),?_⟩|refine .inl ⟨_,_,zcj _ (up47 (hx.prefs _ (zhJ hkl)).before),?_⟩|refine .inl ⟨_,_,zcj _ (up47 (hx.prefs _ (zhJ hkl)).cls),?_⟩|(refine st ?_;try simp only[encX,zaa,zab,zac,encF,encR,encA])|fail)
   all_goals try simp (disch:=omega) only[zae,zaf]
   all_goals
   refine Tri.cond rfl (fun h123=>?_) (fun h123=>?_)
   ·try (cases h123;done)
    all_goals (try simp only[CQ] at h123)
    all_goals
    refine sY [2] (fun P S K=>K ⟨[(2,(.atom (.int .i64 1)))],S.hp,S.nx,S.gh⟩) ?_
    all_goals
    refine Tri.ret ?_
    show ResOk _ _ _ _
    rw[vX_badA (by omega) hkl (by rw[zms];simp_all)]
    exact ResOk.val zci zca
   try (cases h123;done)
   all_goals (try simp only[CQ] at h123)
   all_goals
   refine Tri.skip ?_
   refine rY [84,85,86] (fun P S K=>XvBinOV P .add 3 (.const (.int .i64 1)) (S.get 86) (.atom (.int .i64 1)) (fun r0 _=>K ⟨[(84,S.get 84),(85,S.get 85),(86,r0)],S.hp,S.nx,S.gh⟩)) ?_
   all_goals try simp (disch:=omega) only[zae,zaf]
   all_goals
   refine⟨⟨k+1,by omega,fun i hi=>?_⟩,[],by dsimp only;omega,?_⟩
   · rcases Nat.lt_succ_iff_lt_or_eq.1 hi with hi|rfl
     · exact ha i hi
     · rw[zms];simp_all
   · exact zbm
  try (cases h87;done)
  all_goals (try simp only[CQ] at h87)
  all_goals
  refine Tri.exit ?_
  refine sY [2] (fun P S K=>K ⟨[(2,(.atom (.int .i64 0)))],S.hp,S.nx,S.gh⟩) ?_
  all_goals
  refine Tri.ret ?_
  show ResOk _ _ _ _
  rw[vX_ok (by omega) (fun j hj=>hf j (by omega)) (fun i hi=>hr i (by omega)) (fun i hi=>ha i (by omega))]
  exact ResOk.val zci zca
def zhF (s t:ByteArray):Bool:=decide (t.size≤s.size) && decide (s.extract (s.size - t.size) s.size=t)
theorem zhg (s t:ByteArray) (hs:s.size≤140737488355328) (ht:t.size≤140737488355328):Pure Try.prog 96 [encS s,encS t] (.atom (.bool (zhF s t))) []:=by
  refine Pure.intro (ts:=[4]) Try.func96 (by kernel_rfl) rfl rfl rfl (Nat.le_of_ble_eq_true rfl) ?_ ?_
  · simp[zah,zag,encI,encS,PV.pure,zaw]
  refine sY [0,1] (fun P S K=>K ⟨[(0,S.get 0),(1,S.get 1)],S.hp,S.nx,S.gh⟩) ?_
  all_goals
  refine sZ [4] (fun P S K=>XvLen P 9 (M S.hp S.nx) (S.get 0) (fun r1 _=>XvLen P 9 (M S.hp S.nx) (S.get 1) (fun r3 _=>XvBinOV P .geq 3 (.tmp 8) r1 r3 (fun r4 _=>Xgq r4 true (fun k=>k (S.get 0)) (fun g6 r6=>Xgq g6 true (fun k=>k (S.get 0)) (fun g7 r7=>Xgq g7 true (fun k=>XvLen P 9 (M S.hp S.nx) r7 (fun r8 _=>k r8)) (fun g8 r8=>Xgq g8 true (fun k=>k (S.get 1)) (fun g9 r9=>Xgq g9 true (fun k=>XvLen P 9 (M S.hp S.nx) r9 (fun r10 _=>k r10)) (fun g10 r10=>Xgq g10 true (fun k=>XvBinOV P .sub 3 (.tmp 15) r8 r10 (fun r11 _=>k r11)) (fun g11 r11=>Xgq g11 true (fun k=>XvSliceV P 9 r6 (some r11) none (fun r12 _=>k r12)) (fun g12 r12=>Xgq g12 true (fun k=>k (S.get 1)) (fun g13 r13=>Xgq g13 true (fun k=>XvBinOV P .eql 9 (.tmp 18) r12 r13 (fun r14 _=>k r14)) (fun g14 r14=>XvPick g14 r14 (.atom (.bool false)) (fun r15 _=>K ⟨[(4,r15)],S.hp,S.nx,S.gh⟩)))))))))))))) fun K hK=>?_
  repeat' (first|(refine hK _ ?_;clear hK K)|((first|refine zav (fun hg=>?_) (fun hg=>?_)|refine fun(hg:(_:Prop))=>?_)<;>((try simp only[BQ] at hg);try (exfalso;omega)))|refine And.intro ?_ ?_|exact cl|(refine st ?_;try simp only[zae (x:=(s.size:Int) - t.size) (by omega) (by omega)])|fail)
  all_goals try simp (disch:=omega) only[zae,zaf]
  all_goals
  refine Tri.ret ?_
  show ResOk _ _ _ _
  refine ResOk.val (aB ?_) rfl
  unfold zhF
  first
    | rw[decide_eq_true (show t.size≤s.size by omega),show((s.size:Int) - t.size).toNat=s.size - t.size by omega,Bool.true_and]
    | rw[decide_eq_false (show ¬t.size≤s.size by omega),Bool.false_and]
def cutT (s t:ByteArray):ByteArray×Bool:=if zhF s t then (s.extract 0 (s.size - t.size),true) else (s,false)
theorem zrN (s t:ByteArray) (hs:s.size≤140737488355328) (ht:t.size≤140737488355328):Pure Try.prog 81 [encS s,encS t] (.tup [encS (cutT s t).1,.atom (.bool (cutT s t).2)]) []:=by
  have hz:zhF s t=true→t.size≤s.size:=fun h=>by
    unfold zhF at h;rw[Bool.and_eq_true,decide_eq_true_eq] at h;exact h.1
  refine Pure.intro (ts:=[4,5]) Try.func81 (by kernel_rfl) rfl rfl rfl (Nat.le_of_ble_eq_true rfl) ?_ ?_
  · simp[zah,zag,encI,encS,PV.pure,zaw]
  refine sY [0,1] (fun P S K=>K ⟨[(0,S.get 0),(1,S.get 1)],S.hp,S.nx,S.gh⟩) ?_
  all_goals
  refine Tri.seq ?_
  refine sZ [0,1,9] (fun P S K=>XvFnIV P (M S.hp S.nx) (.fn 96 []) [(S.get 0),(S.get 1)] (fun r2 ef2=>XvUn .not r2 (fun r3 _=>K ⟨[(0,S.get 0),(1,S.get 1),(9,r3)],(Eff.hp ef2 S.nx S.hp),(S.nx+ef2.add.length),S.gh⟩))) fun K hK=>?_
  repeat' (first|(refine hK _ ?_;clear hK K)|refine .inl ⟨_,_,zhg s t hs ht,?_⟩|refine st ?_|fail)
  all_goals try simp (disch:=omega) only[zae,zaf]
  all_goals
  refine Tri.cond rfl (fun h9=>?_) (fun h9=>?_)
  ·try (cases h9;done)
   all_goals (try simp only[CQ] at h9)
   all_goals
   refine sY [4,5] (fun P S K=>K ⟨[(4,(S.get 0)),(5,(.atom (.bool false)))],S.hp,S.nx,S.gh⟩) ?_
   all_goals
   refine Tri.ret ?_
   show ResOk _ _ _ _
   rw[show cutT s t=(s,false) from if_neg (by simp_all)]
   exact ResOk.val zci zca
  try (cases h9;done)
  all_goals (try simp only[CQ] at h9)
  all_goals
  refine Tri.skip ?_
  have hz2:t.size≤s.size:=hz (by simp_all)
  refine sZ [4,5] (fun P S K=>XvLen P 9 (M S.hp S.nx) (S.get 0) (fun r2 _=>XvLen P 9 (M S.hp S.nx) (S.get 1) (fun r4 _=>XvBinOV P .sub 3 (.tmp 15) r2 r4 (fun r5 _=>XvSliceV P 9 (S.get 0) none (some r5) (fun r6 _=>K ⟨[(4,r6),(5,(.atom (.bool true)))],S.hp,S.nx,S.gh⟩))))) fun K hK=>?_
  repeat' (first|(refine hK _ ?_;clear hK K)|((first|refine zav (fun hg=>?_) (fun hg=>?_)|refine fun(hg:(_:Prop))=>?_)<;>((try simp only[BQ] at hg);try (exfalso;omega)))|refine And.intro ?_ ?_|exact cl|(refine st ?_;try simp only[zae (x:=(s.size:Int) - t.size) (by omega) (by omega)])|fail)
  all_goals try simp (disch:=omega) only[zae,zaf]
  all_goals
  refine Tri.ret ?_
  show ResOk _ _ _ _
  rw[show cutT s t=(s.extract 0 ((s.size:Int) - t.size).toNat,true) by unfold cutT;rw[if_pos (by simp_all),show((s.size:Int) - t.size).toNat=s.size - t.size by omega]]
  exact ResOk.val zci zca
theorem Cut_pure (s t:ByteArray) (hs:s.size≤140737488355328) (ht:t.size≤140737488355328):Pure Try.prog 64 [encS s,encS t] (.tup [encS (cutT s t).1,.atom (.bool (cutT s t).2)]) []:=by
  refine Pure.intro (ts:=[4,5]) Try.func64 (by kernel_rfl) rfl rfl rfl (Nat.le_of_ble_eq_true rfl) ?_ ?_
  · simp[zah,zag,encI,encS,PV.pure,zaw]
  refine sY [0,1] (fun P S K=>K ⟨[(0,S.get 0),(1,S.get 1)],S.hp,S.nx,S.gh⟩) ?_
  all_goals
  refine sZ [4,5] (fun P S K=>XvFnIV P (M S.hp S.nx) (.fn 81 []) [(S.get 0),(S.get 1)] (fun r2 ef2=>XvExtract r2 0 (fun r3 _=>XvExtract r2 1 (fun r4 _=>K ⟨[(4,r3),(5,r4)],(Eff.hp ef2 S.nx S.hp),(S.nx+ef2.add.length),S.gh⟩)))) fun K hK=>?_
  repeat' (first|(refine hK _ ?_;clear hK K)|refine And.intro ?_ ?_|exact cl|refine .inl ⟨_,_,zrN s t hs ht,?_⟩|refine st ?_|fail)
  all_goals
  refine Tri.ret ?_
  show ResOk _ _ _ _
  exact ResOk.val zci zca
def zeK (r:RuleD) (w:ByteArray):ByteArray×Bool:=((cutT w r.suf).1++r.put,(cutT w r.suf).2 && decide (r.least≤(cutT w r.suf).1.size) && !decide ((cutT w r.suf).1++r.put=⟨#[]⟩))
theorem zrn (s t:ByteArray):(cutT s t).1.size≤s.size:=by
  unfold cutT;split
  · show(s.extract _ _).size≤_
    rw[ByteArray.size_extract];omega
  · exact Nat.le_refl _
theorem zk9 (r:RuleD) (w:ByteArray) (hr:HeldR r) (hw:w.size≤140737488355328):Pure Try.prog 49 [encR r,encS w] (.tup [encS (zeK r w).1,.atom (.bool (zeK r w).2)]) []:=by
  have hr2:=hr.put
  have hcs:=zrn w r.suf
  refine Pure.intro (ts:=[4,5]) Try.func49 (by kernel_rfl) rfl rfl rfl (Nat.le_of_ble_eq_true rfl) ?_ ?_
  · simp[encR,encS,encI,PV.pure,zaw]
  refine sZ [1,2] (fun P S K=>XvBox S.nx (S.get 0) (fun r0 ef0=>K ⟨[(1,S.get 1),(2,r0)],(Eff.hp ef0 S.nx S.hp),(S.nx+ef0.add.length),S.gh⟩)) fun K hK=>?_
  repeat' (first|(refine hK _ ?_;clear hK K)|refine And.intro ?_ ?_|exact cl|(refine st ?_;try simp only[encR])|fail)
  all_goals
  refine sZ [2,6,7] (fun P S K=>XvFieldAddr P 66 0 (S.get 2) (fun r1 _=>XvLoad P 9 (M S.hp S.nx) r1 (fun r2 _=>XvFnIV P (M S.hp S.nx) (.fn 64 []) [(S.get 1),r2] (fun r3 ef3=>XvExtract r3 0 (fun r5 _=>XvExtract r3 1 (fun r6 _=>K ⟨[(2,S.get 2),(6,r5),(7,r6)],(Eff.hp ef3 S.nx S.hp),(S.nx+ef3.add.length),S.gh⟩)))))) fun K hK=>?_
  repeat' (first|(refine hK _ ?_;clear hK K)|refine And.intro ?_ ?_|refine .inl ⟨_,_,Cut_pure w r.suf hw hr.suf,?_⟩|(refine st ?_;try simp only[encR])|fail)
  all_goals
  refine sD 21 [4,5] (fun P GD S K=>XvFieldAddr P 66 1 (S.get 2) (fun r1 ef1=>XvLoad P 9 (M S.hp S.nx) r1 (fun r2 ef2=>XvBinOV P .add 9 (.tmp 17) (S.get 6) r2 (fun r3 ef3=>Xge (S.get 7) true (fun k=>k (S.get 6) e0) (fun g6 r6 ef6=>Xge g6 true (fun k=>XvLen P 9 (M S.hp S.nx) r6 k) (fun g7 r7 ef7=>Xge g7 true (fun k=>XvFieldAddr P 66 3 (S.get 2) k) (fun g8 r8 ef8=>Xge g8 true (fun k=>XvLoad P 3 (M S.hp S.nx) r8 k) (fun g9 r9 ef9=>Xge g9 true (fun k=>XvBinOV P .geq 3 (.tmp 24) r7 r9 k) (fun g10 r10 ef10=>XvPick g10 r10 (.atom (.bool false)) (fun r11 ef11=>Xge r11 true (fun k=>k (S.get 6) e0) (fun g13 r13 ef13=>Xge g13 true (fun k=>XvFieldAddr P 66 1 (S.get 2) k) (fun g14 r14 ef14=>Xge g14 true (fun k=>XvLoad P 9 (M S.hp S.nx) r14 k) (fun g15 r15 ef15=>Xge g15 true (fun k=>XvBinOV P .add 9 (.tmp 30) r13 r15 k) (fun g16 r16 ef16=>Xge g16 true (fun k=>XvBinOV P .neq 9 (.const (.string { data := #[] })) r16 (.atom (.string { data := #[] })) k) (fun g17 r17 ef17=>XvPick g17 r17 (.atom (.bool false)) (fun r18 ef18=>(trOk S.nx GD [⟨S.nx,0,[],[],[]⟩,⟨S.nx,0,ef1.rd,[],[]⟩,⟨S.nx,0,ef2.rd,[],[]⟩,⟨S.nx,0,ef3.rd,[],[]⟩,⟨S.nx,0,[],[],[]⟩,⟨S.nx,0,[],[],[]⟩,⟨S.nx,0,ef6.rd,[],[]⟩,⟨S.nx,0,ef7.rd,[],[]⟩,⟨S.nx,0,ef8.rd,[],[]⟩,⟨S.nx,0,ef9.rd,[],[]⟩,⟨S.nx,0,ef10.rd,[],[]⟩,⟨S.nx,0,ef11.rd,[],[]⟩,⟨S.nx,0,[],[],[]⟩,⟨S.nx,0,ef13.rd,[],[]⟩,⟨S.nx,0,ef14.rd,[],[]⟩,⟨S.nx,0,ef15.rd,[],[]⟩,⟨S.nx,0,ef16.rd,[],[]⟩,⟨S.nx,0,ef17.rd,[],[]⟩,⟨S.nx,0,ef18.rd,[],[]⟩,⟨S.nx,0,[],[],[]⟩,⟨S.nx,0,[],[],[]⟩]=true∧K ⟨[(4,r3),(5,r18)],S.hp,S.nx,S.gh⟩))))))))))))))))) fun K hK=>?_
  repeat' (first|(refine hK _ ?_;clear hK K)|(refine(?_:trOk _ _ _=true);kernel_rfl)|((first|refine zav (fun hg=>?_) (fun hg=>?_)|refine fun(hg:(_:Prop))=>?_)<;>((try simp only[BQ] at hg);try (exfalso;omega)))|refine And.intro ?_ ?_|exact cl|(refine st ?_;try simp only[encR])|fail)
  all_goals try simp (disch:=omega) only[zae,zaf]
  all_goals
  refine Tri.ret ?_
  show ResOk _ _ _ _
  refine ResOk.val ?_ rfl
  unfold zeK
  simp_all[retV,St.get,lk,encS]<;>omega
theorem zk7 (s:ByteArray) (hs:s.size≤9223372036854775807):Pure Try.prog 48 [encS s] (.atom (.bool (!zbv s))) []:=by
  refine Pure.intro (ts:=[2]) Try.func48 (by kernel_rfl) rfl rfl rfl (Nat.le_of_ble_eq_true rfl) ?_ ?_
  · simp[zah,zag,encI,encS,PV.pure,zaw]
  refine sY [0] (fun P S K=>K ⟨[(0,S.get 0)],S.hp,S.nx,S.gh⟩) ?_
  all_goals
  refine sZ [2] (fun P S K=>XvFnIV P (M S.hp S.nx) (.fn 45 []) [(S.get 0),(.atom (.int .i64 1)),(.atom (.int .i64 4096))] (fun r1 ef1=>XvUn .not r1 (fun r2 _=>K ⟨[(2,r2)],(Eff.hp ef1 S.nx S.hp),(S.nx+ef1.add.length),S.gh⟩))) fun K hK=>?_
  repeat' (first|(refine hK _ ?_;clear hK K)|refine .inl ⟨_,_,zcb s 1 4096 hs,?_⟩|refine st ?_|fail)
  all_goals try simp (disch:=omega) only[zae,zaf]
  all_goals
  refine Tri.ret ?_
  show ResOk _ _ _ _
  exact ResOk.val zci zca
def idxF (g:ByteArray→Bool) (l:List ByteArray):Int:=match l.findIdx? g with|some k=>k|none => -1
theorem zq4{g:ByteArray→Bool}{l:List ByteArray}(h:∀j,j<l.length→g (ls l j)=false):idxF g l = -1:=by
  unfold idxF
  rw[List.findIdx?_eq_none_iff.2 fun x hx=>by
    obtain⟨j,hj,rfl⟩:=List.getElem_of_mem hx
    have:=h j hj
    rwa [show ls l j=l[j] by simp[ls,List.getD_eq_getElem?_getD,hj]] at this]
theorem idxF_at{g:ByteArray→Bool}{l:List ByteArray}{k:Nat}(hk:k<l.length) (h:∀j,j<k→g (ls l j)=false) (hg:g (ls l k)=true):idxF g l=k:=by
  unfold idxF
  have e:∀j (hj:j<l.length),ls l j=l[j]:=fun j hj=>by simp[ls,List.getD_eq_getElem?_getD,hj]
  rw[List.findIdx?_eq_some_iff_getElem.2 ⟨hk,by rw[←e k hk];exact hg,fun j hj=>by rw[←e j (by omega),h j hj];decide⟩]
theorem idxF_any (g:ByteArray→Bool) (l:List ByteArray):decide (0≤idxF g l)=l.any g:=by
  unfold idxF
  cases h:l.findIdx? g with
  | none=>
    rw[List.findIdx?_eq_none_iff] at h
    rw[decide_eq_false (by decide)]
    exact(List.any_eq_false.2 fun x hx=>by rw[h x hx];decide).symm
  | some k=>
    obtain⟨hk,hg,_⟩:=List.findIdx?_eq_some_iff_getElem.1 h
    have h0:(0:Int)≤(k:Int):=by omega
    refine(decide_eq_true h0).trans ?_
    exact(List.any_eq_true.2 ⟨_,List.getElem_mem hk,hg⟩).symm
theorem zlB (l:List ByteArray) (g:ByteArray→Bool) (f:FuncId) (hg:∀s,s∈l→Pure Try.prog f [encS s] (.atom (.bool (g s))) []) (hl:l.length≤1000000000):Pure Try.prog 63 [strs l,.fn f []] (encI (idxF g l)) []:=by
  refine Pure.intro (ts:=[4]) Try.func63 (by kernel_rfl) rfl rfl rfl (Nat.le_of_ble_eq_true rfl) ?_ ?_
  · simp[zah,zag,encI,encS,PV.pure,zaw]
  refine sY [0,1] (fun P S K=>K ⟨[(0,S.get 0),(1,S.get 1)],S.hp,S.nx,S.gh⟩) ?_
  all_goals
  refine Tri.seq ?_
  refine sY [0,1,7,8] (fun P S K=>XvLen P 35 (M S.hp S.nx) (S.get 0) (fun r1 _=>K ⟨[(0,S.get 0),(1,S.get 1),(7,r1),(8,(.atom (.int .i64 0)))],S.hp,S.nx,S.gh⟩)) ?_
  all_goals
  refine Tri.block ?_
  refine Tri.loop (α:=(i:Nat) ×' (i≤l.length∧∀j,j<i→g (ls l j)=false)) (fun z=>(fun(i:Nat)=>(⟨[(0,strs l),(1,.fn f []),(7,encI l.length),(8,encI i)],[],0,[]⟩:St)) z.1) (fun z=>(fun(i:Nat)=>l.length - i) z.1) ⟨0,⟨Nat.zero_le _,fun j hj=>absurd hj (Nat.not_lt_zero _)⟩⟩ [] ?_ ?_
  ·exact zbm
  rintro⟨i,⟨hi,hno⟩⟩
  refine sY [0,1,7,8,9] (fun P S K=>XvBinOV P .lss 3 (.tmp 7) (S.get 8) (S.get 7) (fun r0 _=>K ⟨[(0,S.get 0),(1,S.get 1),(7,S.get 7),(8,S.get 8),(9,r0)],S.hp,S.nx,S.gh⟩)) ?_
  all_goals
  refine Tri.seq ?_
  refine Tri.cond rfl (fun h9=>?_) (fun h9=>?_)
  ·try (cases h9;done)
   all_goals (try simp only[CQ] at h9)
   all_goals
   refine Tri.skip ?_
   refine Tri.seq ?_
   refine Tri.block ?_
   have hil:i<l.length:=by omega
   refine sY [0,1,5,7,8] (fun P S K=>K ⟨[(0,S.get 0),(1,S.get 1),(5,(S.get 8)),(7,S.get 7),(8,S.get 8)],S.hp,S.nx,S.gh⟩) ?_
   all_goals
   refine sZ [0,1,5,7,8,16] (fun P S K=>XvIndexAddr P 35 (S.get 0) (S.get 5) (fun r3 _=>XvLoad P 9 (M S.hp S.nx) r3 (fun r4 _=>XvFnIV P (M S.hp S.nx) (S.get 1) [r4] (fun r5 ef5=>K ⟨[(0,S.get 0),(1,S.get 1),(5,S.get 5),(7,S.get 7),(8,S.get 8),(16,r5)],(Eff.hp ef5 S.nx S.hp),(S.nx+ef5.add.length),S.gh⟩)))) fun K hK=>?_
   repeat' (first|(refine hK _ ?_;clear hK K)|refine And.intro ?_ ?_|exact cl|refine .inl ⟨_,_,hg _ (zfX hil),?_⟩|(refine st ?_;try simp only[zaM hil])|fail)
   all_goals
   refine Tri.cond rfl (fun h16=>?_) (fun h16=>?_)
   ·try (cases h16;done)
    all_goals (try simp only[CQ] at h16)
    all_goals
    refine sY [4] (fun P S K=>K ⟨[(4,(S.get 5))],S.hp,S.nx,S.gh⟩) ?_
    all_goals
    refine Tri.ret ?_
    show ResOk _ _ _ _
    rw[idxF_at hil hno (by assumption)]
    exact ResOk.val zci zca
   try (cases h16;done)
   all_goals (try simp only[CQ] at h16)
   all_goals
   refine Tri.skip ?_
   refine rY [0,1,7,8] (fun P S K=>XvBinOV P .add 3 (.const (.int .i64 1)) (S.get 8) (.atom (.int .i64 1)) (fun r0 _=>K ⟨[(0,S.get 0),(1,S.get 1),(7,S.get 7),(8,r0)],S.hp,S.nx,S.gh⟩)) ?_
   all_goals try simp (disch:=omega) only[zae,zaf]
   all_goals
   refine⟨⟨i+1,by omega,fun j hj=>?_⟩,[],by dsimp only;omega,?_⟩
   · rcases Nat.lt_succ_iff_lt_or_eq.1 hj with hj|rfl
     · exact hno j hj
     · assumption
   · exact zbm
  try (cases h9;done)
  all_goals (try simp only[CQ] at h9)
  all_goals
  refine Tri.exit ?_
  refine sY [4] (fun P S K=>K ⟨[(4,(.atom (.int .i64 (-1))))],S.hp,S.nx,S.gh⟩) ?_
  all_goals
  refine Tri.ret ?_
  show ResOk _ _ _ _
  rw[zq4 fun j hj=>hno j (by omega)]
  exact ResOk.val zci zca
theorem zrK (l:List ByteArray) (g:ByteArray→Bool) (f:FuncId) (hg:∀s,s∈l→Pure Try.prog f [encS s] (.atom (.bool (g s))) []) (hl:l.length≤1000000000):Pure Try.prog 47 [strs l,.fn f []] (.atom (.bool (l.any g))) []:=by
  refine Pure.intro (ts:=[4]) Try.func47 (by kernel_rfl) rfl rfl rfl (Nat.le_of_ble_eq_true rfl) ?_ ?_
  · simp[zah,zag,encI,encS,PV.pure,zaw]
  refine sY [0,1] (fun P S K=>K ⟨[(0,S.get 0),(1,S.get 1)],S.hp,S.nx,S.gh⟩) ?_
  all_goals
  refine sZ [4] (fun P S K=>XvFnIV P (M S.hp S.nx) (.fn 63 []) [(S.get 0),(S.get 1)] (fun r2 ef2=>XvBinOV P .geq 3 (.const (.int .i64 0)) r2 (.atom (.int .i64 0)) (fun r3 _=>K ⟨[(4,r3)],(Eff.hp ef2 S.nx S.hp),(S.nx+ef2.add.length),S.gh⟩))) fun K hK=>?_
  repeat' (first|(refine hK _ ?_;clear hK K)|refine .inl ⟨_,_,zlB l g f hg hl,?_⟩|refine st ?_|fail)
  all_goals
  refine Tri.ret ?_
  show ResOk _ _ _ _
  rw[←idxF_any]
  exact ResOk.val zci zca
theorem zfM (l:List ByteArray) (hl:l.length≤1000000000) (hs:∀s,s∈l→s.size≤9223372036854775807):Pure Try.prog 28 [strs l] (.atom (.bool (l.all zbv))) []:=by
  refine Pure.intro (ts:=[2]) Try.func28 (by kernel_rfl) rfl rfl rfl (Nat.le_of_ble_eq_true rfl) ?_ ?_
  · simp[zah,zag,encI,encS,PV.pure,zaw]
  refine sY [0] (fun P S K=>K ⟨[(0,S.get 0)],S.hp,S.nx,S.gh⟩) ?_
  all_goals
  refine sZ [2] (fun P S K=>XvFnIV P (M S.hp S.nx) (.fn 47 []) [(S.get 0),(.fn 48 [])] (fun r1 ef1=>XvUn .not r1 (fun r2 _=>K ⟨[(2,r2)],(Eff.hp ef1 S.nx S.hp),(S.nx+ef1.add.length),S.gh⟩))) fun K hK=>?_
  repeat' (first|(refine hK _ ?_;clear hK K)|refine .inl ⟨_,_,zrK l (fun s => !zbv s) _ (fun s hm=>zk7 s (hs s hm)) hl,?_⟩|refine st ?_|fail)
  all_goals try simp (disch:=omega) only[zae,zaf]
  all_goals
  refine Tri.ret ?_
  show ResOk _ _ _ _
  refine ResOk.val (aB ?_) rfl
  rw[List.all_eq_not_any_not]
def orI:List Int→Int
  | []=>0
  | a :: l=>if a≠0 then a else orI l
theorem orI_none{l:List Int}(h:∀j,j<l.length→li l j=0):orI l=0:=by
  induction l with
  | nil=>rfl
  | cons a l ih=>
    have h0:=h 0 (by simp)
    rw[orI,if_neg (by simpa[li] using h0)]
    exact ih fun j hj=>by have:=h (j+1) (by simp;omega);simpa[li] using this
theorem orI_at{l:List Int}{k:Nat}(hk:k<l.length) (h:∀j,j<k→li l j=0) (hg:¬li l k=0):orI l=li l k:=by
  induction l generalizing k with
  | nil=>simp at hk
  | cons a l ih=>
    cases k with
    | zero=>rw[orI,if_pos (by simpa[li] using hg)];simp[li]
    | succ k=>
      have h0:=h 0 (by omega)
      rw[orI,if_neg (by simpa[li] using h0),ih (k:=k) (by simpa using hk) (fun j hj=>by have:=h (j+1) (by omega);simpa[li] using this) (by simpa[li] using hg)]
      simp[li]
theorem OrI_pure (l:List Int) (hl:l.length≤1000000):Pure Try.prog 66 [ints l] (encI (orI l)) []:=by
  refine Pure.intro (ts:=[2]) Try.func66 (by kernel_rfl) rfl rfl rfl (Nat.le_of_ble_eq_true rfl) ?_ ?_
  · simp[zah,zag,encI,encS,PV.pure,zaw]
  refine sY [0] (fun P S K=>K ⟨[(0,S.get 0)],S.hp,S.nx,S.gh⟩) ?_
  all_goals
  refine sY [0,3] (fun P S K=>K ⟨[(0,S.get 0),(3,(.atom (.int .i64 0)))],S.hp,S.nx,S.gh⟩) ?_
  all_goals
  refine Tri.seq ?_
  refine sY [3,6,7,8] (fun P S K=>XvLen P 22 (M S.hp S.nx) (S.get 0) (fun r1 _=>K ⟨[(3,S.get 3),(6,(S.get 0)),(7,r1),(8,(.atom (.int .i64 0)))],S.hp,S.nx,S.gh⟩)) ?_
  all_goals
  refine Tri.block ?_
  refine Tri.loop (α:=(i:Nat) ×' (i≤l.length∧∀j,j<i→li l j=0)) (fun z=>(fun(i:Nat)=>(⟨[(3,encI 0),(6,ints l),(7,encI l.length),(8,encI i)],[],0,[]⟩:St)) z.1) (fun z=>(fun(i:Nat)=>l.length - i) z.1) ⟨0,⟨Nat.zero_le _,fun j hj=>absurd hj (Nat.not_lt_zero _)⟩⟩ [] ?_ ?_
  ·exact zbm
  rintro⟨i,⟨hi,ha⟩⟩
  refine sY [3,6,7,8,9] (fun P S K=>XvBinOV P .lss 3 (.tmp 7) (S.get 8) (S.get 7) (fun r0 _=>K ⟨[(3,S.get 3),(6,S.get 6),(7,S.get 7),(8,S.get 8),(9,r0)],S.hp,S.nx,S.gh⟩)) ?_
  all_goals
  refine Tri.seq ?_
  refine Tri.cond rfl (fun h9=>?_) (fun h9=>?_)
  ·try (cases h9;done)
   all_goals (try simp only[CQ] at h9)
   all_goals
   refine Tri.skip ?_
   refine Tri.seq ?_
   refine Tri.block ?_
   have hil:i<l.length:=by omega
   refine sZ [3,5,6,7,8] (fun P S K=>XvIndexAddr P 22 (S.get 6) (S.get 8) (fun r0 _=>XvLoad P 3 (M S.hp S.nx) r0 (fun r1 _=>K ⟨[(3,S.get 3),(5,r1),(6,S.get 6),(7,S.get 7),(8,S.get 8)],S.hp,S.nx,S.gh⟩))) fun K hK=>?_
   repeat' (first|(refine hK _ ?_;clear hK K)|refine And.intro ?_ ?_|exact cl|(refine st ?_;try simp only[zbi hil])|fail)
   all_goals
   refine sY [3,5,6,7,8,14] (fun P S K=>XvBinOV P .neq 3 (.tmp 13) (S.get 5) (S.get 3) (fun r2 _=>K ⟨[(3,S.get 3),(5,S.get 5),(6,S.get 6),(7,S.get 7),(8,S.get 8),(14,r2)],S.hp,S.nx,S.gh⟩)) ?_
   all_goals
   refine Tri.cond rfl (fun h14=>?_) (fun h14=>?_)
   ·try (cases h14;done)
    all_goals (try simp only[CQ] at h14)
    all_goals
    refine sY [2] (fun P S K=>K ⟨[(2,(S.get 5))],S.hp,S.nx,S.gh⟩) ?_
    all_goals
    refine Tri.ret ?_
    show ResOk _ _ _ _
    rw[orI_at hil ha (by assumption)]
    exact ResOk.val zci zca
   try (cases h14;done)
   all_goals (try simp only[CQ] at h14)
   all_goals
   refine Tri.skip ?_
   refine rY [3,6,7,8] (fun P S K=>XvBinOV P .add 3 (.const (.int .i64 1)) (S.get 8) (.atom (.int .i64 1)) (fun r0 _=>K ⟨[(3,S.get 3),(6,S.get 6),(7,S.get 7),(8,r0)],S.hp,S.nx,S.gh⟩)) ?_
   all_goals try simp (disch:=omega) only[zae,zaf]
   all_goals
   refine⟨⟨i+1,by omega,fun j hj=>?_⟩,[],by dsimp only;omega,?_⟩
   · rcases Nat.lt_succ_iff_lt_or_eq.1 hj with hj|rfl
     · exact ha j hj
     · omega
   · exact zbm
  try (cases h9;done)
  all_goals (try simp only[CQ] at h9)
  all_goals
  refine Tri.exit ?_
  refine sY [2] (fun P S K=>K ⟨[(2,(S.get 3))],S.hp,S.nx,S.gh⟩) ?_
  all_goals
  refine Tri.ret ?_
  show ResOk _ _ _ _
  rw[orI_none fun j hj=>ha j (by omega)]
  exact ResOk.val zci zca
theorem zf2:∀(x y:List UInt8),Op.bytesLess x y=decide (x<y)
  | [],[]=>by simp[Op.bytesLess]
  | _ :: _,[]=>by simp[Op.bytesLess]
  | [],_ :: _=>by simp[Op.bytesLess]
  | a :: x,b :: y=>by
    rw[Op.bytesLess,zf2 x y]
    simp only[List.cons_lt_cons_iff]
    by_cases h1:a<b
    · simp[h1]
    · by_cases h2:a=b
      · subst h2;simp
      · simp[h1,h2]
theorem zqo (a b:ByteArray):sLt a b=decide (a.data.toList<b.data.toList):=by
  unfold sLt
  rw[zf2,ByteArray.toList_eq,ByteArray.toList_eq]
theorem zdO (a:ByteArray):sLt a a=false:=by rw[zqo];exact decide_eq_false (List.lt_irrefl _)
theorem ziT{a b c:ByteArray}(h:sLt a b=true) (k:sLt b c=true):sLt a c=true:=by
  rw[zqo,decide_eq_true_eq] at *;exact List.lt_trans h k
theorem zff{a b:ByteArray}(h:sLt a b=false) (h2:¬a=b):sLt b a=true:=by
  rw[zqo] at *
  rw[decide_eq_false_iff_not] at h
  rw[decide_eq_true_eq]
  rcases List.le_total a.data.toList b.data.toList with g|g
  · apply Classical.byContradiction
    intro g2
    exact h2 (ByteArray.ext (Array.ext' (List.le_antisymm g (List.not_lt.1 h))))
  · apply Classical.byContradiction
    intro g2
    exact h2 (ByteArray.ext (Array.ext' (List.le_antisymm (List.not_lt.1 g2) g)))
def cmpS (a b:ByteArray):Int:=if sLt a b=true then -1 else if sLt b a=true then 1 else 0
theorem zeY (x:ByteArray):Pure Try.prog 90 [encS x] (.atom (.bool false)) []:=by
  refine Pure.intro (ts:=[2]) Try.func90 (by kernel_rfl) rfl rfl rfl (Nat.le_of_ble_eq_true rfl) ?_ ?_
  · simp[zah,zag,encI,encS,PV.pure,zaw]
  refine sY [0] (fun P S K=>K ⟨[(0,S.get 0)],S.hp,S.nx,S.gh⟩) ?_
  all_goals
  refine sY [2] (fun P S K=>XvBinOV P .neq 9 (.tmp 4) (S.get 0) (S.get 0) (fun r2 _=>K ⟨[(2,r2)],S.hp,S.nx,S.gh⟩)) ?_
  all_goals
  refine Tri.ret ?_
  show ResOk _ _ _ _
  refine ResOk.val (aB ?_) rfl
  simp
theorem zj9 (a b:ByteArray):Pure Try.prog 67 [encS a,encS b] (encI (cmpS a b)) []:=by
  refine Pure.intro (ts:=[4]) Try.func67 (by kernel_rfl) rfl rfl rfl (Nat.le_of_ble_eq_true rfl) ?_ ?_
  · simp[zah,zag,encI,encS,PV.pure,zaw]
  refine sY [0,1] (fun P S K=>K ⟨[(0,S.get 0),(1,S.get 1)],S.hp,S.nx,S.gh⟩) ?_
  all_goals
  refine sZ [0,1,5] (fun P S K=>XvFnIV P (M S.hp S.nx) (.fn 90 []) [(S.get 0)] (fun r1 ef1=>K ⟨[(0,S.get 0),(1,S.get 1),(5,r1)],(Eff.hp ef1 S.nx S.hp),(S.nx+ef1.add.length),S.gh⟩)) fun K hK=>?_
  repeat' (first|(refine hK _ ?_;clear hK K)|refine .inl ⟨_,_,zeY a,?_⟩|refine .inl ⟨_,_,zeY b,?_⟩|refine st ?_|fail)
  all_goals
  refine sZ [0,1,5,6] (fun P S K=>XvFnIV P (M S.hp S.nx) (.fn 90 []) [(S.get 1)] (fun r1 ef1=>K ⟨[(0,S.get 0),(1,S.get 1),(5,S.get 5),(6,r1)],(Eff.hp ef1 S.nx S.hp),(S.nx+ef1.add.length),S.gh⟩)) fun K hK=>?_
  repeat' (first|(refine hK _ ?_;clear hK K)|refine .inl ⟨_,_,zeY a,?_⟩|refine .inl ⟨_,_,zeY b,?_⟩|refine st ?_|fail)
  all_goals
  refine Tri.seq ?_
  refine sY [0,1,6,11] (fun P S K=>K ⟨[(0,S.get 0),(1,S.get 1),(6,S.get 6),(11,(S.get 5))],S.hp,S.nx,S.gh⟩) ?_
  all_goals
  refine Tri.cond rfl (fun h11=>?_) (fun h11=>?_)
  ·try (cases h11;done)
   all_goals (try simp only[CQ] at h11)
   all_goals
   refine Tri.seq ?_
   refine sY [12] (fun P S K=>K ⟨[(12,(S.get 6))],S.hp,S.nx,S.gh⟩) ?_
   all_goals
   refine Tri.cond rfl (fun h12=>?_) (fun h12=>?_)
   ·try (cases h12;done)
    all_goals (try simp only[CQ] at h12)
    all_goals
    refine sY [4] (fun P S K=>K ⟨[(4,(.atom (.int .i64 0)))],S.hp,S.nx,S.gh⟩) ?_
    all_goals
    refine Tri.ret ?_
    show ResOk _ _ _ _
    done
   try (cases h12;done)
   all_goals (try simp only[CQ] at h12)
   all_goals
   refine Tri.skip ?_
   refine sY [4] (fun P S K=>K ⟨[(4,(.atom (.int .i64 (-1))))],S.hp,S.nx,S.gh⟩) ?_
   all_goals
   refine Tri.ret ?_
   show ResOk _ _ _ _
   done
  try (cases h11;done)
  all_goals (try simp only[CQ] at h11)
  all_goals
  refine Tri.skip ?_
  refine Tri.seq ?_
  refine sY [0,1,13] (fun P S K=>K ⟨[(0,S.get 0),(1,S.get 1),(13,(S.get 6))],S.hp,S.nx,S.gh⟩) ?_
  all_goals
  refine Tri.cond rfl (fun h13=>?_) (fun h13=>?_)
  ·try (cases h13;done)
   all_goals (try simp only[CQ] at h13)
   all_goals
   refine sY [4] (fun P S K=>K ⟨[(4,(.atom (.int .i64 1)))],S.hp,S.nx,S.gh⟩) ?_
   all_goals
   refine Tri.ret ?_
   show ResOk _ _ _ _
   done
  try (cases h13;done)
  all_goals (try simp only[CQ] at h13)
  all_goals
  refine Tri.skip ?_
  refine Tri.seq ?_
  refine sY [0,1,16] (fun P S K=>XvBinOV P .lss 9 (.tmp 15) (S.get 0) (S.get 1) (fun r2 _=>K ⟨[(0,S.get 0),(1,S.get 1),(16,r2)],S.hp,S.nx,S.gh⟩)) ?_
  all_goals
  refine Tri.cond rfl (fun h16=>?_) (fun h16=>?_)
  ·try (cases h16;done)
   all_goals (try simp only[CQ] at h16)
   all_goals
   refine sY [4] (fun P S K=>K ⟨[(4,(.atom (.int .i64 (-1))))],S.hp,S.nx,S.gh⟩) ?_
   all_goals
   refine Tri.ret ?_
   show ResOk _ _ _ _
   rw[show cmpS a b = -1 from if_pos (by assumption)]
   exact ResOk.val zci zca
  try (cases h16;done)
  all_goals (try simp only[CQ] at h16)
  all_goals
  refine Tri.skip ?_
  refine Tri.seq ?_
  refine sY [19] (fun P S K=>XvBinOV P .gtr 9 (.tmp 18) (S.get 0) (S.get 1) (fun r2 _=>K ⟨[(19,r2)],S.hp,S.nx,S.gh⟩)) ?_
  all_goals
  refine Tri.cond rfl (fun h19=>?_) (fun h19=>?_)
  ·try (cases h19;done)
   all_goals (try simp only[CQ] at h19)
   all_goals
   refine sY [4] (fun P S K=>K ⟨[(4,(.atom (.int .i64 1)))],S.hp,S.nx,S.gh⟩) ?_
   all_goals
   refine Tri.ret ?_
   show ResOk _ _ _ _
   have h0:sLt a b=false:=by assumption
   rw[show cmpS a b=1 by unfold cmpS;rw[if_neg (by rw[h0];decide),if_pos (zff h0 (by simp_all))]]
   exact ResOk.val zci zca
  try (cases h19;done)
  all_goals (try simp only[CQ] at h19)
  all_goals
  refine Tri.skip ?_
  refine sY [4] (fun P S K=>K ⟨[(4,(.atom (.int .i64 0)))],S.hp,S.nx,S.gh⟩) ?_
  all_goals
  refine Tri.ret ?_
  show ResOk _ _ _ _
  have h0:sLt a b=false:=by assumption
  have e:a=b:=by
    apply Classical.byContradiction
    intro hne
    have h0':Op.bytesLess a.toList b.toList=false:=h0
    simp_all
  subst e
  rw[show cmpS a a=0 by unfold cmpS;rw[if_neg (by rw[h0];decide),if_neg (by rw[h0];decide)]]
  exact ResOk.val zci zca
def cmpF (f g:FormD):Int:=orI [cmpS f.lem g.lem,cmpS f.cls g.cls]
theorem zoi (f g:FormD):Pure Try.prog 51 [encF f,encF g] (encI (cmpF f g)) []:=by
  refine Pure.intro (ts:=[4]) Try.func51 (by kernel_rfl) rfl rfl rfl (Nat.le_of_ble_eq_true rfl) ?_ ?_
  · simp[encF,encS,PV.pure,zaw]
  refine sZ [2,3] (fun P S K=>XvBox S.nx (S.get 0) (fun r0 ef0=>XvBox (S.nx+ef0.add.length) (S.get 1) (fun r1 ef1=>K ⟨[(2,r0),(3,r1)],(Eff.hp ef1 (S.nx+ef0.add.length) (Eff.hp ef0 S.nx S.hp)),((S.nx+ef0.add.length)+ef1.add.length),S.gh⟩))) fun K hK=>?_
  repeat' (first|(refine hK _ ?_;clear hK K)|refine And.intro ?_ ?_|exact cl|(refine st ?_;try simp only[encF])|fail)
  all_goals
  refine sD 13 [4] (fun P GD S K=>XvFieldAddr P 40 1 (S.get 2) (fun r0 ef0=>XvLoad P 9 (M S.hp S.nx) r0 (fun r1 ef1=>XvFieldAddr P 40 1 (S.get 3) (fun r2 ef2=>XvLoad P 9 (M S.hp S.nx) r2 (fun r3 ef3=>XvFnDV P (M S.hp S.nx) (.fn 67 []) [r1,r3] (fun r4 ef4=>XvFieldAddr P 40 2 (S.get 2) (fun r5 ef5=>XvLoad P 9 (M (Eff.hp ef4 S.nx S.hp) (S.nx+ef4.add.length)) r5 (fun r6 ef6=>XvFieldAddr P 40 2 (S.get 3) (fun r7 ef7=>XvLoad P 9 (M (Eff.hp ef4 S.nx S.hp) (S.nx+ef4.add.length)) r7 (fun r8 ef8=>XvFnDV P (M (Eff.hp ef4 S.nx S.hp) (S.nx+ef4.add.length)) (.fn 67 []) [r6,r8] (fun r9 ef9=>XvBuildS P 22 2 ((S.nx+ef4.add.length)+ef9.add.length) [(0,r4),(1,r9)] (fun r10 ef10=>XvFnDV P (M (Eff.hp ef10 ((S.nx+ef4.add.length)+ef9.add.length) (Eff.hp ef9 (S.nx+ef4.add.length) (Eff.hp ef4 S.nx S.hp))) (((S.nx+ef4.add.length)+ef9.add.length)+ef10.add.length)) (.fn 66 []) [r10] (fun r11 ef11=>(trOk S.nx GD [⟨S.nx,0,ef0.rd,[],[]⟩,⟨S.nx,0,ef1.rd,[],[]⟩,⟨S.nx,0,ef2.rd,[],[]⟩,⟨S.nx,0,ef3.rd,[],[]⟩,(Eff.tr ef4 S.nx),⟨(S.nx+ef4.add.length),0,ef5.rd,[],[]⟩,⟨(S.nx+ef4.add.length),0,ef6.rd,[],[]⟩,⟨(S.nx+ef4.add.length),0,ef7.rd,[],[]⟩,⟨(S.nx+ef4.add.length),0,ef8.rd,[],[]⟩,(Eff.tr ef9 (S.nx+ef4.add.length)),(Eff.tr ef10 ((S.nx+ef4.add.length)+ef9.add.length)),(Eff.tr ef11 (((S.nx+ef4.add.length)+ef9.add.length)+ef10.add.length)),⟨((((S.nx+ef4.add.length)+ef9.add.length)+ef10.add.length)+ef11.add.length),0,[],[],[]⟩]=true∧K ⟨[(4,r11)],(Eff.hp ef11 (((S.nx+ef4.add.length)+ef9.add.length)+ef10.add.length) (Eff.hp ef10 ((S.nx+ef4.add.length)+ef9.add.length) (Eff.hp ef9 (S.nx+ef4.add.length) (Eff.hp ef4 S.nx S.hp)))),((((S.nx+ef4.add.length)+ef9.add.length)+ef10.add.length)+ef11.add.length),S.gh⟩)))))))))))))) fun K hK=>?_
  repeat' (first|(refine hK _ ?_;clear hK K)|(refine(?_:trOk _ _ _=true);kernel_rfl)|refine And.intro ?_ ?_|exact cl|refine .inl ⟨_,_,zj9 f.lem g.lem,?_⟩|refine .inl ⟨_,_,zj9 f.cls g.cls,?_⟩|refine .inl ⟨_,_,OrI_pure [cmpS f.lem g.lem,cmpS f.cls g.cls] (Nat.le_of_ble_eq_true rfl),?_⟩|(refine st ?_;try simp only[encF])|fail)
  all_goals
  refine Tri.ret ?_
  show ResOk _ _ _ _
  exact ResOk.val zci zca
end Go.Proofs.Ytehoglapajkabaa
