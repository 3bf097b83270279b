/-
  Walks: package transducer: Valid.
-/
import Derived.Test.YtehoglapajkabaaIM0
import Derived.Test.YtehoglapajkabaaIN3
import Derived.Test.YtehoglapajkabaaIA11
set_option linter.all false
namespace Go.Proofs.Ytehoglapajkabaa
open Go Go.RowKit
set_option maxRecDepth 20000
set_option maxHeartbeats 1000000
theorem znE{p:Prop}(h:p:=by(first|rfl|(simp[St.born,St.known,retV,St.get,St.obj,lk,sealed,PV.ren,renL,rmap,AO.ren,ints,strs,encI,encS,zap,zao,zan,zam,zaC,zaB,zaA,zaz,za1,za0,zaZ,zaY,zbE,zay,zaQ,zaF,zax,encC];done));first|done|fail):p:=h
theorem znF{p:Prop}(h:p:=by(first|rfl|(simp[zah,zag,PV.pure,zaw,zal,zaq,zau,zat,zaI,za5,zbL,zbk];done));first|done|fail):p:=h
noncomputable def zrs (m:MachD):Bool := @decide (¬Acyc m) (Classical.propDecidable _)
theorem zgX (m:MachD):zrs m=true↔¬Acyc m:=by unfold zrs;exact @decide_eq_true_iff _ (Classical.propDecidable _)
def zfZ (m:MachD):Prop:=∀i,i<m.fin.length→isM m (li m.fin i)=true∧(0<i→li m.fin (i - 1)<li m.fin i)
def zfS (m:MachD) (a:ArcD):Bool:=isM m a.fr && isM m a.to && decide (a.inp.size≤1) && decide (a.out.size≤24)
noncomputable def zbx (m:MachD):Int:=if zdY m=true then 4 else if m.states<1∨isM m m.start=false then 1 else if @decide (zfZ m) (Classical.propDecidable _)=false then 1 else if m.arcs.all (zfS m)=false then 1 else if zrs m=true then 13 else 0
theorem isM_iff{m:MachD}{k:Int}:isM m k=true↔0≤k∧k<m.states:=by simp[isM]
theorem largeM_iff{m:MachD}:zdY m=true↔4096<m.states∨16384<m.arcs.length:=by simp[zdY]
theorem arcOk_iff{m:MachD}{a:ArcD}:zfS m a=true↔isM m a.fr=true∧isM m a.to=true∧a.inp.size≤1∧a.out.size≤24:=by simp[zfS,and_assoc]
theorem InM.of{m:MachD}(h:m.arcs.all (zfS m)=true):InM m:=fun a ha=>by
  have:=arcOk_iff.1 (List.all_eq_true.1 h a ha)
  have h1:=isM_iff.1 this.1
  have h2:=isM_iff.1 this.2.1
  exact⟨h1.1,h1.2,h2.1,h2.2⟩
theorem fin_dec{m:MachD}:(@decide (zfZ m) (Classical.propDecidable _)=false)↔¬zfZ m := @decide_eq_false_iff_not _ (Classical.propDecidable _)
theorem validM_4{m:MachD}(h:zdY m=true):zbx m=4:=if_pos h
theorem zor{m:MachD}(h:zdY m=false) (h1:m.states<1∨isM m m.start=false):zbx m=1:=by unfold zbx;rw[if_neg (by rw[h];decide),if_pos h1]
theorem zoq{m:MachD}(h:zdY m=false) (h1:¬ (m.states<1∨isM m m.start=false)) (h2:¬zfZ m):zbx m=1:=by unfold zbx;rw[if_neg (by rw[h];decide),if_neg h1,if_pos (fin_dec.2 h2)]
theorem zop{m:MachD}(h:zdY m=false) (h1:¬ (m.states<1∨isM m m.start=false)) (h2:zfZ m) {i:Nat}(hi:i<m.arcs.length) (h3:zfS m (fC m.arcs i)=false):zbx m=1:=by
  unfold zbx;rw[if_neg (by rw[h];decide),if_neg h1,if_neg (fun g=>fin_dec.1 g h2),if_pos]
  cases hb:m.arcs.all (zfS m) with
  | false=>rfl
  | true=>have:=List.all_eq_true.1 hb _ (zb5 hi);rw[h3] at this;cases this
theorem arcs_all{m:MachD}(h:∀i,i<m.arcs.length→zfS m (fC m.arcs i)=true):m.arcs.all (zfS m)=true:=List.all_eq_true.2 fun a ha=>by
  obtain⟨i,hi,rfl⟩:=List.getElem_of_mem ha
  rw[←zf1 hi];exact h i hi
theorem zfB{m:MachD}(h:zdY m=false) (h1:¬ (m.states<1∨isM m m.start=false)) (h2:zfZ m) (h3:m.arcs.all (zfS m)=true):zbx m=if zrs m=true then 13 else 0:=by
  unfold zbx;rw[if_neg (by rw[h];decide),if_neg h1,if_neg (fun g=>fin_dec.1 g h2),if_neg (by rw[h3];decide)]
structure ValidM (m:MachD):Prop where
  states:1≤m.states∧m.states≤4096
  narcs:m.arcs.length≤16384
  start:0≤m.start∧m.start<m.states
  fin:zfZ m
  arcs:m.arcs.all (zfS m)=true
  acyc:Acyc m
theorem validM_0{m:MachD}:zbx m=0↔ValidM m:=by
  constructor
  · intro h
    unfold zbx at h
    split at h
    · cases h
    rename_i g1
    split at h
    · cases h
    rename_i g2
    split at h
    · cases h
    rename_i g3
    split at h
    · cases h
    rename_i g4
    split at h
    · cases h
    rename_i g5
    have a1:=mt largeM_iff.2 g1
    have a2:isM m m.start=true:=by
      cases hb:isM m m.start with
      | true=>rfl
      | false=>exact absurd (.inr hb) g2
    have a3:=isM_iff.1 a2
    refine⟨⟨Classical.byContradiction fun h=>g2 (.inl (by omega)),by omega⟩,by omega,a3,Classical.byContradiction fun h=>g3 (fin_dec.2 h),by simpa using g4,Classical.byContradiction fun h=>g5 ((zgX m).2 h)⟩
  · intro h
    rw[zfB (by cases hb:zdY m with|false=>rfl|true=>have:=largeM_iff.1 hb;have:=h.states;have:=h.narcs;omega) (by have:=h.states;have:=isM_iff.2 h.start;rintro(g|g);omega;rw[this] at g;cases g) h.fin h.arcs,if_neg (fun g=>(zgX m).1 g h.acyc)]
theorem zgo (m:MachD) (hm:HeldM m):Pure Try.prog 36 [encM m] (encI (zbx m)) []:=by
  have hn:=hm.narcs
  have hnf:=hm.fin.2
  refine Pure.intro (ts:=[2]) Try.func36 (by kernel_rfl) rfl rfl rfl (Nat.le_of_ble_eq_true rfl) ?_ ?_
  · simp[zaI,PV.pure,zaw]
  refine sZ [1] (fun P S K=>XvBox S.nx (S.get 0) (fun r0 ef0=>K ⟨[(1,r0)],(Eff.hp ef0 S.nx S.hp),(S.nx+ef0.add.length),S.gh⟩)) fun K hK=>?_
  repeat' (first|(refine hK _ ?_;clear hK K)|refine And.intro ?_ ?_|exact cl|(refine st ?_;try simp only[encM,zay,encC])|fail)
  all_goals
  refine Tri.seq ?_
  refine sZ [1,8] (fun P S K=>XvLoad P 58 (M S.hp S.nx) (S.get 1) (fun r0 _=>XvFnIV P (M S.hp S.nx) (.fn 53 []) [r0] (fun r1 ef1=>K ⟨[(1,S.get 1),(8,r1)],(Eff.hp ef1 S.nx S.hp),(S.nx+ef1.add.length),S.gh⟩))) fun K hK=>?_
  repeat' (first|(refine hK _ ?_;clear hK K)|refine .inl ⟨_,_,zkR m hm,?_⟩|(refine st ?_;try simp only[encM,zay,encC])|fail)
  all_goals
  refine Tri.cond rfl (fun h8=>?_) (fun h8=>?_)
  ·try (cases h8;done)
   all_goals (try simp only[CQ] at h8)
   all_goals
   refine sY [2] (fun P S K=>K ⟨[(2,(.atom (.int .i64 4)))],S.hp,S.nx,S.gh⟩) ?_
   all_goals
   refine Tri.ret ?_
   show ResOk _ _ _ _
   rw[validM_4 (by assumption)]
   exact ResOk.val znE znF
  try (cases h8;done)
  all_goals (try simp only[CQ] at h8)
  all_goals
  refine Tri.skip ?_
  refine Tri.seq ?_
  refine sZ [1,18] (fun P S K=>XvFieldAddr P 58 0 (S.get 1) (fun r0 _=>XvLoad P 3 (M S.hp S.nx) r0 (fun r1 _=>XvBinOV P .lss 3 (.const (.int .i64 1)) r1 (.atom (.int .i64 1)) (fun r2 _=>Xgq r2 false (fun k=>XvLoad P 58 (M S.hp S.nx) (S.get 1) (fun r4 _=>k r4)) (fun g4 r4=>Xgq g4 false (fun k=>XvFieldAddr P 58 1 (S.get 1) (fun r5 _=>k r5)) (fun g5 r5=>Xgq g5 false (fun k=>XvLoad P 3 (M S.hp S.nx) r5 (fun r6 _=>k r6)) (fun g6 r6=>Xge g6 false (fun k=>XvFnIV P (M S.hp S.nx) (.fn 54 []) [r4,r6] k) (fun g7 r7 ef7=>Xgq g7 false (fun k=>XvUn .not r7 (fun r8 _=>k r8)) (fun g8 r8=>XvPick g8 (.atom (.bool true)) r8 (fun r9 _=>K ⟨[(1,S.get 1),(18,r9)],(Eff.hp ef7 S.nx S.hp),(S.nx+ef7.add.length),S.gh⟩)))))))))) fun K hK=>?_
  repeat' (first|(refine hK _ ?_;clear hK K)|((first|refine zav (fun hg=>?_) (fun hg=>?_)|refine fun(hg:(_:Prop))=>?_)<;>((try simp only[BQ] at hg);try (exfalso;omega)))|refine And.intro ?_ ?_|exact cl|refine .inl ⟨_,_,zhX m _,?_⟩|(refine st ?_;try simp only[encM,zay,encC,↓SE])|fail)
  all_goals try simp (disch:=omega) only[zae,zaf]
  all_goals
  refine Tri.cond rfl (fun h18=>?_) (fun h18=>?_)
  ·try (cases h18;done)
   all_goals (try simp only[CQ] at h18)
   all_goals
   refine sY [2] (fun P S K=>K ⟨[(2,(.atom (.int .i64 1)))],S.hp,S.nx,S.gh⟩) ?_
   all_goals
   refine Tri.ret ?_
   show ResOk _ _ _ _
   rw[zor (by simp_all) (by first|exact .inl (by omega)|exact .inr (by simp_all))]
   exact ResOk.val znE znF
  try (cases h18;done)
  all_goals (try simp only[CQ] at h18)
  all_goals
  refine Tri.skip ?_
  refine Tri.seq ?_
  have hla:zdY m=false:=by simp_all
  have hla2:=mt largeM_iff.2 (show ¬zdY m=true by rw[hla];decide)
  have hst:¬ (m.states<1∨isM m m.start=false):=by simp_all
  refine sZ [1,20,21,22] (fun P S K=>XvFieldAddr P 58 2 (S.get 1) (fun r0 _=>XvLoad P 22 (M S.hp S.nx) r0 (fun r1 _=>XvLen P 22 (M S.hp S.nx) r1 (fun r2 _=>K ⟨[(1,S.get 1),(20,r1),(21,r2),(22,(.atom (.int .i64 0)))],S.hp,S.nx,S.gh⟩)))) fun K hK=>?_
  repeat' (first|(refine hK _ ?_;clear hK K)|refine And.intro ?_ ?_|exact cl|(refine st ?_;try simp only[encM,zay,encC])|fail)
  all_goals
  refine Tri.block ?_
  refine Tri.loop (α:=(i:Nat) ×' (i≤m.fin.length∧∀j,j<i→isM m (li m.fin j)=true∧(0<j→li m.fin (j - 1)<li m.fin j))) (fun z=>(fun(i:Nat)=>(⟨[(1,.ptr 0 4 0 0),(20,ints m.fin),(21,encI m.fin.length),(22,encI i)],[(0,some ⟨4,[encM m]⟩)],1,[]⟩:St)) z.1) (fun z=>(fun(i:Nat)=>m.fin.length - i) z.1) ⟨0,⟨Nat.zero_le _,fun j hj=>absurd hj (Nat.not_lt_zero _)⟩⟩ [0] ?_ ?_
  ·exact zcN
  rintro⟨i,⟨hi,hf⟩⟩
  refine sY [1,20,21,22,23] (fun P S K=>XvBinOV P .lss 3 (.tmp 21) (S.get 22) (S.get 21) (fun r0 _=>K ⟨[(1,S.get 1),(20,S.get 20),(21,S.get 21),(22,S.get 22),(23,r0)],S.hp,S.nx,S.gh⟩)) ?_
  all_goals
  refine Tri.seq ?_
  refine Tri.cond rfl (fun h23=>?_) (fun h23=>?_)
  ·try (cases h23;done)
   all_goals (try simp only[CQ] at h23)
   all_goals
   refine Tri.skip ?_
   refine Tri.seq ?_
   refine Tri.block ?_
   have hil:i<m.fin.length:=by omega
   refine sZ [1,3,4,20,21,22] (fun P S K=>XvIndexAddr P 22 (S.get 20) (S.get 22) (fun r1 _=>XvLoad P 3 (M S.hp S.nx) r1 (fun r2 _=>K ⟨[(1,S.get 1),(3,(S.get 22)),(4,r2),(20,S.get 20),(21,S.get 21),(22,S.get 22)],S.hp,S.nx,S.gh⟩))) fun K hK=>?_
   repeat' (first|(refine hK _ ?_;clear hK K)|refine And.intro ?_ ?_|exact cl|(refine st ?_;try simp only[encM,zay,encC,zbi hil])|fail)
   all_goals
   refine sZ [1,20,21,22,44] (fun P S K=>XvLoad P 58 (M S.hp S.nx) (S.get 1) (fun r0 _=>XvFnIV P (M S.hp S.nx) (.fn 54 []) [r0,(S.get 4)] (fun r2 ef2=>XvUn .not r2 (fun r3 _=>Xgq r3 false (fun k=>k (S.get 3)) (fun g5 r5=>Xgq g5 false (fun k=>XvBinOV P .gtr 3 (.const (.int .i64 0)) r5 (.atom (.int .i64 0)) (fun r6 _=>k r6)) (fun g6 r6=>Xgq g6 false (fun k=>k r6) (fun g7 r7=>Xgq r7 true (fun k=>XvFieldAddr P 58 2 (S.get 1) (fun r8 _=>k r8)) (fun g8 r8=>Xgq g8 true (fun k=>XvLoad P 22 (M (Eff.hp ef2 S.nx S.hp) (S.nx+ef2.add.length)) r8 (fun r9 _=>k r9)) (fun g9 r9=>Xgq g9 true (fun k=>k (S.get 3)) (fun g10 r10=>Xgq g10 true (fun k=>XvBinOV P .sub 3 (.const (.int .i64 1)) r10 (.atom (.int .i64 1)) (fun r11 _=>k r11)) (fun g11 r11=>Xgq g11 true (fun k=>XvIndexAddr P 22 r9 r11 (fun r12 _=>k r12)) (fun g12 r12=>Xgq g12 true (fun k=>XvLoad P 3 (M (Eff.hp ef2 S.nx S.hp) (S.nx+ef2.add.length)) r12 (fun r13 _=>k r13)) (fun g13 r13=>Xgq g13 true (fun k=>k (S.get 4)) (fun g14 r14=>Xgq g14 true (fun k=>XvBinOV P .geq 3 (.tmp 41) r13 r14 (fun r15 _=>k r15)) (fun g15 r15=>Xgq g7 false (fun k=>XvPick g15 r15 (.atom (.bool false)) (fun r16 _=>k r16)) (fun g16 r16=>XvPick g16 (.atom (.bool true)) r16 (fun r17 _=>K ⟨[(1,S.get 1),(20,S.get 20),(21,S.get 21),(22,S.get 22),(44,r17)],(Eff.hp ef2 S.nx S.hp),(S.nx+ef2.add.length),S.gh⟩))))))))))))))))) fun K hK=>?_
   repeat' (first|(refine hK _ ?_;clear hK K)|((first|refine zav (fun hg=>?_) (fun hg=>?_)|refine fun(hg:(_:Prop))=>?_)<;>((try simp only[BQ] at hg);try (exfalso;omega)))|refine And.intro ?_ ?_|exact cl|refine .inl ⟨_,_,zhX m _,?_⟩|(refine st ?_;try simp only[encM,zay,encC,↓SE,zae (x:=(i:Int) - 1) (by omega) (by omega),show((i:Int) - 1).toNat=i - 1 by omega,zbi (show i - 1<m.fin.length by omega)])|fail)
   all_goals try simp (disch:=omega) only[zae,zaf]
   all_goals
   refine Tri.cond rfl (fun h44=>?_) (fun h44=>?_)
   ·try (cases h44;done)
    all_goals (try simp only[CQ] at h44)
    all_goals
    refine sY [2] (fun P S K=>K ⟨[(2,(.atom (.int .i64 1)))],S.hp,S.nx,S.gh⟩) ?_
    all_goals
    refine Tri.ret ?_
    show ResOk _ _ _ _
    rw[zoq hla hst (fun hfo=>by
      have:=hfo i hil
      have h1:=this.1
      have h2:=this.2
      first|(simp_all;done)|(have:=h2 (by omega);omega))]
    exact ResOk.val znE znF
   try (cases h44;done)
   all_goals (try simp only[CQ] at h44)
   all_goals
   refine Tri.skip ?_
   refine rY [1,20,21,22] (fun P S K=>XvBinOV P .add 3 (.const (.int .i64 1)) (S.get 22) (.atom (.int .i64 1)) (fun r0 _=>K ⟨[(1,S.get 1),(20,S.get 20),(21,S.get 21),(22,r0)],S.hp,S.nx,S.gh⟩)) ?_
   all_goals try simp (disch:=omega) only[zae,zaf]
   all_goals
   refine⟨⟨i+1,by omega,fun j hj=>?_⟩,[0],by dsimp only;omega,?_⟩
   · rcases Nat.lt_succ_iff_lt_or_eq.1 hj with hj|rfl
     · exact hf j hj
     · refine⟨by simp_all,fun h0=>?_⟩
       first|omega|(simp_all;done)
   · exact zcN
  try (cases h23;done)
  all_goals (try simp only[CQ] at h23)
  all_goals
  refine Tri.exit ?_
  refine Tri.seq ?_
  refine sZ [1,47,48,49] (fun P S K=>XvFieldAddr P 58 3 (S.get 1) (fun r0 _=>XvLoad P 56 (M S.hp S.nx) r0 (fun r1 _=>XvLen P 56 (M S.hp S.nx) r1 (fun r2 _=>K ⟨[(1,S.get 1),(47,r1),(48,r2),(49,(.atom (.int .i64 0)))],S.hp,S.nx,S.gh⟩)))) fun K hK=>?_
  repeat' (first|(refine hK _ ?_;clear hK K)|refine And.intro ?_ ?_|exact cl|(refine st ?_;try simp only[encM,zay,encC])|fail)
  all_goals
  refine Tri.block ?_
  refine Tri.loop (α:=(k:Nat) ×' (k≤m.arcs.length∧∀j,j<k→zfS m (fC m.arcs j)=true)) (fun z=>(fun(k:Nat)=>(⟨[(1,.ptr 0 4 0 0),(47,zay m.arcs),(48,encI m.arcs.length),(49,encI k)],[(0,some ⟨4,[encM m]⟩)],1,[]⟩:St)) z.1) (fun z=>(fun(k:Nat)=>m.arcs.length - k) z.1) ⟨0,⟨Nat.zero_le _,fun j hj=>absurd hj (Nat.not_lt_zero _)⟩⟩ [0] ?_ ?_
  ·exact zcN
  rintro⟨k,⟨hk,ha⟩⟩
  refine sY [1,47,48,49,50] (fun P S K=>XvBinOV P .lss 3 (.tmp 48) (S.get 49) (S.get 48) (fun r0 _=>K ⟨[(1,S.get 1),(47,S.get 47),(48,S.get 48),(49,S.get 49),(50,r0)],S.hp,S.nx,S.gh⟩)) ?_
  all_goals
  refine Tri.seq ?_
  refine Tri.cond rfl (fun h50=>?_) (fun h50=>?_)
  ·try (cases h50;done)
   all_goals (try simp only[CQ] at h50)
   all_goals
   refine Tri.skip ?_
   refine Tri.seq ?_
   refine Tri.block ?_
   have hkl:k<m.arcs.length:=by omega
   refine sZ [1,6,47,48,49] (fun P S K=>XvIndexAddr P 56 (S.get 47) (S.get 49) (fun r0 _=>XvLoad P 105 (M S.hp S.nx) r0 (fun r1 _=>XvAlloc P 105 S.nx (fun r2 ef2=>XvStore P 105 (M (Eff.hp ef2 S.nx S.hp) (S.nx+ef2.add.length)) r2 r1 (fun r3 ef3=>K ⟨[(1,S.get 1),(6,r2),(47,S.get 47),(48,S.get 48),(49,S.get 49)],(Eff.hp ef3 (S.nx+ef2.add.length) (Eff.hp ef2 S.nx S.hp)),((S.nx+ef2.add.length)+ef3.add.length),S.gh⟩))))) fun K hK=>?_
   repeat' (first|(refine hK _ ?_;clear hK K)|refine And.intro ?_ ?_|exact cl|(refine st ?_;try simp only[encM,zay,encC,zd2 hkl])|fail)
   all_goals
   refine sZ [1,47,48,49,76] (fun P S K=>XvLoad P 58 (M S.hp S.nx) (S.get 1) (fun r0 _=>XvFieldAddr P 105 0 (S.get 6) (fun r1 _=>XvLoad P 3 (M S.hp S.nx) r1 (fun r2 _=>XvFnIV P (M S.hp S.nx) (.fn 54 []) [r0,r2] (fun r3 ef3=>XvUn .not r3 (fun r4 _=>Xgq r4 false (fun k=>XvLoad P 58 (M (Eff.hp ef3 S.nx S.hp) (S.nx+ef3.add.length)) (S.get 1) (fun r6 _=>k r6)) (fun g6 r6=>Xgq g6 false (fun k=>XvFieldAddr P 105 1 (S.get 6) (fun r7 _=>k r7)) (fun g7 r7=>Xgq g7 false (fun k=>XvLoad P 3 (M (Eff.hp ef3 S.nx S.hp) (S.nx+ef3.add.length)) r7 (fun r8 _=>k r8)) (fun g8 r8=>Xge g8 false (fun k=>XvFnIV P (M (Eff.hp ef3 S.nx S.hp) (S.nx+ef3.add.length)) (.fn 54 []) [r6,r8] k) (fun g9 r9 ef9=>Xgq g9 false (fun k=>XvUn .not r9 (fun r10 _=>k r10)) (fun g10 r10=>XvPick g10 (.atom (.bool true)) r10 (fun r11 _=>Xgq r11 false (fun k=>XvFieldAddr P 105 2 (S.get 6) (fun r13 _=>k r13)) (fun g13 r13=>Xgq g13 false (fun k=>XvLoad P 9 (M (Eff.hp ef9 (S.nx+ef3.add.length) (Eff.hp ef3 S.nx S.hp)) ((S.nx+ef3.add.length)+ef9.add.length)) r13 (fun r14 _=>k r14)) (fun g14 r14=>Xgq g14 false (fun k=>XvLen P 9 (M (Eff.hp ef9 (S.nx+ef3.add.length) (Eff.hp ef3 S.nx S.hp)) ((S.nx+ef3.add.length)+ef9.add.length)) r14 (fun r15 _=>k r15)) (fun g15 r15=>Xgq g15 false (fun k=>XvBinOV P .gtr 3 (.const (.int .i64 1)) r15 (.atom (.int .i64 1)) (fun r16 _=>k r16)) (fun g16 r16=>XvPick g16 (.atom (.bool true)) r16 (fun r17 _=>Xgq r17 false (fun k=>XvFieldAddr P 105 3 (S.get 6) (fun r19 _=>k r19)) (fun g19 r19=>Xgq g19 false (fun k=>XvLoad P 9 (M (Eff.hp ef9 (S.nx+ef3.add.length) (Eff.hp ef3 S.nx S.hp)) ((S.nx+ef3.add.length)+ef9.add.length)) r19 (fun r20 _=>k r20)) (fun g20 r20=>Xgq g20 false (fun k=>XvLen P 9 (M (Eff.hp ef9 (S.nx+ef3.add.length) (Eff.hp ef3 S.nx S.hp)) ((S.nx+ef3.add.length)+ef9.add.length)) r20 (fun r21 _=>k r21)) (fun g21 r21=>Xgq g21 false (fun k=>XvBinOV P .gtr 3 (.const (.int .i64 24)) r21 (.atom (.int .i64 24)) (fun r22 _=>k r22)) (fun g22 r22=>XvPick g22 (.atom (.bool true)) r22 (fun r23 _=>K ⟨[(1,S.get 1),(47,S.get 47),(48,S.get 48),(49,S.get 49),(76,r23)],(Eff.hp ef9 (S.nx+ef3.add.length) (Eff.hp ef3 S.nx S.hp)),((S.nx+ef3.add.length)+ef9.add.length),S.gh⟩)))))))))))))))))))))) fun K hK=>?_
   repeat' (first|(refine hK _ ?_;clear hK K)|((first|refine zav (fun hg=>?_) (fun hg=>?_)|refine fun(hg:(_:Prop))=>?_)<;>((try simp only[BQ] at hg);try (exfalso;omega)))|refine And.intro ?_ ?_|exact cl|refine .inl ⟨_,_,zhX m _,?_⟩|(refine st ?_;try simp only[encM,zay,encC,↓SE])|fail)
   all_goals try simp (disch:=omega) only[zae,zaf]
   all_goals
   refine Tri.cond rfl (fun h76=>?_) (fun h76=>?_)
   ·try (cases h76;done)
    all_goals (try simp only[CQ] at h76)
    all_goals
    refine sY [2] (fun P S K=>K ⟨[(2,(.atom (.int .i64 1)))],S.hp,S.nx,S.gh⟩) ?_
    all_goals
    refine Tri.ret ?_
    show ResOk _ _ _ _
    rw[zop hla hst (fun j hj=>hf j (by omega)) hkl (by
      cases hb:zfS m (fC m.arcs k) with
      | false=>rfl
      | true=>
        have:=arcOk_iff.1 hb
        exfalso
        obtain⟨b1,b2,b3,b4⟩:=this
        first|omega|(simp_all;done)|(simp_all;omega))]
    exact ResOk.val znE znF
   try (cases h76;done)
   all_goals (try simp only[CQ] at h76)
   all_goals
   refine Tri.skip ?_
   refine rY [1,47,48,49] (fun P S K=>XvBinOV P .add 3 (.const (.int .i64 1)) (S.get 49) (.atom (.int .i64 1)) (fun r0 _=>K ⟨[(1,S.get 1),(47,S.get 47),(48,S.get 48),(49,r0)],S.hp,S.nx,S.gh⟩)) ?_
   all_goals try simp (disch:=omega) only[zae,zaf]
   all_goals
   refine⟨⟨k+1,by omega,fun j hj=>?_⟩,[0],by dsimp only;omega,?_⟩
   · rcases Nat.lt_succ_iff_lt_or_eq.1 hj with hj|rfl
     · exact ha j hj
     · rw[arcOk_iff]
       refine⟨by simp_all,by simp_all,by omega,by omega⟩
   · exact zcN
  try (cases h50;done)
  all_goals (try simp only[CQ] at h50)
  all_goals
  refine Tri.exit ?_
  refine Tri.seq ?_
  have hall:m.arcs.all (zfS m)=true:=arcs_all fun j hj=>ha j (by omega)
  refine sZ [79] (fun P S K=>XvLoad P 58 (M S.hp S.nx) (S.get 1) (fun r0 _=>XvFnIV P (M S.hp S.nx) (.fn 55 []) [r0] (fun r1 ef1=>K ⟨[(79,r1)],(Eff.hp ef1 S.nx S.hp),(S.nx+ef1.add.length),S.gh⟩))) fun K hK=>?_
  repeat' (first|(refine hK _ ?_;clear hK K)|refine And.intro ?_ ?_|exact cl|refine .inl ⟨_,_,ziN m (zrs m) (zgX m) hm (by omega) (by omega) (InM.of hall),?_⟩|(refine st ?_;try simp only[encM,zay,encC])|fail)
  all_goals
  refine Tri.cond rfl (fun h79=>?_) (fun h79=>?_)
  ·try (cases h79;done)
   all_goals (try simp only[CQ] at h79)
   all_goals
   refine sY [2] (fun P S K=>K ⟨[(2,(.atom (.int .i64 13)))],S.hp,S.nx,S.gh⟩) ?_
   all_goals
   refine Tri.ret ?_
   show ResOk _ _ _ _
   rw[zfB hla hst (fun j hj=>hf j (by omega)) hall,if_pos (by assumption)]
   exact ResOk.val znE znF
  try (cases h79;done)
  all_goals (try simp only[CQ] at h79)
  all_goals
  refine Tri.skip ?_
  refine sY [2] (fun P S K=>K ⟨[(2,(.atom (.int .i64 0)))],S.hp,S.nx,S.gh⟩) ?_
  all_goals
  refine Tri.ret ?_
  show ResOk _ _ _ _
  rw[zfB hla hst (fun j hj=>hf j (by omega)) hall,if_neg (by simp_all)]
  exact ResOk.val znE znF
theorem zfm (many:Bool) (s:ByteArray) (hs:s.size≤9223372036854775807):Proc Try.prog 40 [.ptr 0 2 0 0,encS s] [⟨2,[.agg [.atom (.map none),.atom (.bool many)]]⟩] (.tup []) [some ⟨2,[.agg [.mp 1,.atom (.bool many)]]⟩] [⟨0,[setE s]⟩]:=by
  refine Proc.intro (ts:=[]) Try.func40 (by kernel_rfl) rfl rfl rfl (Nat.le_of_ble_eq_true rfl) rfl ?_
  simp only[za9,zbw,List.map_cons,List.map_nil,List.length_cons,List.length_nil,Nat.zero_add,Nat.reduceAdd]
  refine Tri.seq ?_
  refine sY [0,1,8] (fun P S K=>XvNil (S.get 0) (fun r1 _=>XvFieldAddr P 100 0 r1 (fun r2 _=>XvLoad P 98 (M S.hp S.nx) r2 (fun r3 _=>XvBinOV P .eql 98 (.const (.map none)) r3 (.atom (.map none)) (fun r4 _=>K ⟨[(0,S.get 0),(1,S.get 1),(8,r4)],S.hp,S.nx,S.gh⟩))))) ?_
  all_goals
  refine Tri.cond rfl (fun h8=>?_) (fun h8=>?_)
  ·try (cases h8;done)
   all_goals (try simp only[CQ] at h8)
   all_goals
   refine rY [0,1] (fun P S K=>XvMakeMap none S.nx (fun r1 ef1=>XvNil (S.get 0) (fun r2 _=>XvFieldAddr P 100 0 r2 (fun r3 _=>XvStore P 98 (M (Eff.hp ef1 S.nx S.hp) (S.nx+ef1.add.length)) r3 r1 (fun r4 ef4=>K ⟨[(0,S.get 0),(1,S.get 1)],(Eff.hp ef4 (S.nx+ef1.add.length) (Eff.hp ef1 S.nx S.hp)),((S.nx+ef1.add.length)+ef4.add.length),S.gh⟩))))) ?_
   all_goals
   refine sZ [0] (fun P S K=>XvNil (S.get 0) (fun r1 _=>XvFieldAddr P 100 0 r1 (fun r2 _=>XvLoad P 98 (M S.hp S.nx) r2 (fun r3 _=>XvUpdate P 98 (M S.hp S.nx) r3 (S.get 1) (.atom (.bool true)) (fun r5 ef5=>K ⟨[(0,S.get 0)],(Eff.hp ef5 S.nx S.hp),(S.nx+ef5.add.length),S.gh⟩))))) fun K hK=>?_
   repeat' (first|(refine hK _ ?_;clear hK K)|refine⟨_,MapPut.set (ks:=[]) (by kernel_rfl) (fun s h=>by cases h) hs,?_⟩|refine st ?_|fail)
   all_goals
   refine rZ [] (fun P S K=>XvNil (S.get 0) (fun r2 _=>XvFieldAddr P 100 1 r2 (fun r3 _=>XvLoad P 4 (M S.hp S.nx) r3 (fun r4 _=>Xgq r4 false (fun k=>k (S.get 0)) (fun g6 r6=>Xgq g6 false (fun k=>XvNil r6 (fun r7 _=>k r7)) (fun g7 r7=>Xgq g7 false (fun k=>XvFieldAddr P 100 0 r7 (fun r8 _=>k r8)) (fun g8 r8=>Xgq g8 false (fun k=>XvLoad P 98 (M S.hp S.nx) r8 (fun r9 _=>k r9)) (fun g9 r9=>Xgq g9 false (fun k=>XvLen P 98 (M S.hp S.nx) r9 (fun r10 _=>k r10)) (fun g10 r10=>Xgq g10 false (fun k=>XvBinOV P .gtr 3 (.const (.int .i64 64)) r10 (.atom (.int .i64 64)) (fun r11 _=>k r11)) (fun g11 r11=>XvPick g11 (.atom (.bool true)) r11 (fun r12 _=>XvNil (S.get 0) (fun r13 _=>XvFieldAddr P 100 1 r13 (fun r14 _=>XvStore P 4 (M S.hp S.nx) r14 r12 (fun r15 ef15=>K ⟨[],(Eff.hp ef15 S.nx S.hp),(S.nx+ef15.add.length),S.gh⟩)))))))))))))) fun K hK=>?_
   repeat' (first|(refine hK _ ?_;clear hK K)|((first|refine zav (fun hg=>?_) (fun hg=>?_)|refine fun(hg:(_:Prop))=>?_)<;>((try simp only[BQ] at hg);try (exfalso;omega)))|refine And.intro ?_ ?_|exact cl|refine st ?_|fail)
   all_goals
   refine ResP.of [0,1] rfl rfl (by decide) rfl rfl (fun i hi=>?_) (fun i o ho=>?_)
   · have:i=0:=by simpa using hi
     subst this;rfl
   · match i,ho with
     | 0,ho=>cases ho;refine⟨_,rfl,rfl,?_⟩;simp_all[sealed,PV.ren,renL,rmap]<;>simp[putS,hasS]
     | 1,ho=>cases ho;refine⟨_,rfl,rfl,?_⟩;simp_all[sealed,PV.ren,renL,rmap,setE,putS,hasS]
  try (cases h8;done)
  all_goals (try simp only[CQ] at h8)
  all_goals
  refine Tri.skip ?_
  refine sZ [0] (fun P S K=>XvNil (S.get 0) (fun r1 _=>XvFieldAddr P 100 0 r1 (fun r2 _=>XvLoad P 98 (M S.hp S.nx) r2 (fun r3 _=>XvUpdate P 98 (M S.hp S.nx) r3 (S.get 1) (.atom (.bool true)) (fun r5 ef5=>K ⟨[(0,S.get 0)],(Eff.hp ef5 S.nx S.hp),(S.nx+ef5.add.length),S.gh⟩))))) fun K hK=>?_
  repeat' (first|(refine hK _ ?_;clear hK K)|refine⟨_,MapPut.set (ks:=[]) (by kernel_rfl) (fun s h=>by cases h) hs,?_⟩|refine st ?_|fail)
  all_goals
  refine rZ [] (fun P S K=>XvNil (S.get 0) (fun r2 _=>XvFieldAddr P 100 1 r2 (fun r3 _=>XvLoad P 4 (M S.hp S.nx) r3 (fun r4 _=>Xgq r4 false (fun k=>k (S.get 0)) (fun g6 r6=>Xgq g6 false (fun k=>XvNil r6 (fun r7 _=>k r7)) (fun g7 r7=>Xgq g7 false (fun k=>XvFieldAddr P 100 0 r7 (fun r8 _=>k r8)) (fun g8 r8=>Xgq g8 false (fun k=>XvLoad P 98 (M S.hp S.nx) r8 (fun r9 _=>k r9)) (fun g9 r9=>Xgq g9 false (fun k=>XvLen P 98 (M S.hp S.nx) r9 (fun r10 _=>k r10)) (fun g10 r10=>Xgq g10 false (fun k=>XvBinOV P .gtr 3 (.const (.int .i64 64)) r10 (.atom (.int .i64 64)) (fun r11 _=>k r11)) (fun g11 r11=>XvPick g11 (.atom (.bool true)) r11 (fun r12 _=>XvNil (S.get 0) (fun r13 _=>XvFieldAddr P 100 1 r13 (fun r14 _=>XvStore P 4 (M S.hp S.nx) r14 r12 (fun r15 ef15=>K ⟨[],(Eff.hp ef15 S.nx S.hp),(S.nx+ef15.add.length),S.gh⟩)))))))))))))) fun K hK=>?_
  repeat' (first|(refine hK _ ?_;clear hK K)|((first|refine zav (fun hg=>?_) (fun hg=>?_)|refine fun(hg:(_:Prop))=>?_)<;>((try simp only[BQ] at hg);try (exfalso;omega)))|refine And.intro ?_ ?_|exact cl|refine st ?_|fail)
  all_goals
  refine ResP.of [0,1] rfl rfl (by decide) rfl rfl (fun i hi=>?_) (fun i o ho=>?_)
  · have:i=0:=by simpa using hi
    subst this;rfl
  · match i,ho with
    | 0,ho=>cases ho;refine⟨_,rfl,rfl,?_⟩;simp_all[sealed,PV.ren,renL,rmap]<;>simp[putS,hasS]
    | 1,ho=>cases ho;refine⟨_,rfl,rfl,?_⟩;simp_all[sealed,PV.ren,renL,rmap,setE,putS,hasS]
theorem zi9 (many:Bool) (ks:List ByteArray) (s:ByteArray) (hs:s.size≤9223372036854775807) (hks:∀s,s∈ks→s.size≤9223372036854775807) (hl:ks.length≤1000000):Proc Try.prog 40 [.ptr 0 2 0 0,encS s] [⟨2,[.agg [.mp 1,.atom (.bool many)]]⟩,⟨0,ks.map setE⟩] (.tup []) [some ⟨2,[.agg [.mp 1,.atom (.bool (many || decide (64<(putS ks s).length)))]]⟩,some ⟨0,(putS ks s).map setE⟩] []:=by
  refine Proc.intro (ts:=[]) Try.func40 (by kernel_rfl) rfl rfl rfl (Nat.le_of_ble_eq_true rfl) rfl ?_
  simp only[za9,zbw,List.map_cons,List.map_nil,List.length_cons,List.length_nil,Nat.zero_add,Nat.reduceAdd]
  refine Tri.seq ?_
  refine sY [0,1,8] (fun P S K=>XvNil (S.get 0) (fun r1 _=>XvFieldAddr P 100 0 r1 (fun r2 _=>XvLoad P 98 (M S.hp S.nx) r2 (fun r3 _=>XvBinOV P .eql 98 (.const (.map none)) r3 (.atom (.map none)) (fun r4 _=>K ⟨[(0,S.get 0),(1,S.get 1),(8,r4)],S.hp,S.nx,S.gh⟩))))) ?_
  all_goals
  refine Tri.cond rfl (fun h8=>?_) (fun h8=>?_)
  ·try (cases h8;done)
   all_goals (try simp only[CQ] at h8)
   all_goals
   refine rY [0,1] (fun P S K=>XvMakeMap none S.nx (fun r1 ef1=>XvNil (S.get 0) (fun r2 _=>XvFieldAddr P 100 0 r2 (fun r3 _=>XvStore P 98 (M (Eff.hp ef1 S.nx S.hp) (S.nx+ef1.add.length)) r3 r1 (fun r4 ef4=>K ⟨[(0,S.get 0),(1,S.get 1)],(Eff.hp ef4 (S.nx+ef1.add.length) (Eff.hp ef1 S.nx S.hp)),((S.nx+ef1.add.length)+ef4.add.length),S.gh⟩))))) ?_
   all_goals
   refine sZ [0] (fun P S K=>XvNil (S.get 0) (fun r1 _=>XvFieldAddr P 100 0 r1 (fun r2 _=>XvLoad P 98 (M S.hp S.nx) r2 (fun r3 _=>XvUpdate P 98 (M S.hp S.nx) r3 (S.get 1) (.atom (.bool true)) (fun r5 ef5=>K ⟨[(0,S.get 0)],(Eff.hp ef5 S.nx S.hp),(S.nx+ef5.add.length),S.gh⟩))))) fun K hK=>?_
   repeat' (first|(refine hK _ ?_;clear hK K)|refine⟨_,MapPut.set (ks:=ks) (by kernel_rfl) hks hs,?_⟩|refine st ?_|fail)
   all_goals
   refine rZ [] (fun P S K=>XvNil (S.get 0) (fun r2 _=>XvFieldAddr P 100 1 r2 (fun r3 _=>XvLoad P 4 (M S.hp S.nx) r3 (fun r4 _=>Xgq r4 false (fun k=>k (S.get 0)) (fun g6 r6=>Xgq g6 false (fun k=>XvNil r6 (fun r7 _=>k r7)) (fun g7 r7=>Xgq g7 false (fun k=>XvFieldAddr P 100 0 r7 (fun r8 _=>k r8)) (fun g8 r8=>Xgq g8 false (fun k=>XvLoad P 98 (M S.hp S.nx) r8 (fun r9 _=>k r9)) (fun g9 r9=>Xgq g9 false (fun k=>XvLen P 98 (M S.hp S.nx) r9 (fun r10 _=>k r10)) (fun g10 r10=>Xgq g10 false (fun k=>XvBinOV P .gtr 3 (.const (.int .i64 64)) r10 (.atom (.int .i64 64)) (fun r11 _=>k r11)) (fun g11 r11=>XvPick g11 (.atom (.bool true)) r11 (fun r12 _=>XvNil (S.get 0) (fun r13 _=>XvFieldAddr P 100 1 r13 (fun r14 _=>XvStore P 4 (M S.hp S.nx) r14 r12 (fun r15 ef15=>K ⟨[],(Eff.hp ef15 S.nx S.hp),(S.nx+ef15.add.length),S.gh⟩)))))))))))))) fun K hK=>?_
   repeat' (first|(refine hK _ ?_;clear hK K)|((first|refine zav (fun hg=>?_) (fun hg=>?_)|refine fun(hg:(_:Prop))=>?_)<;>((try simp only[BQ] at hg);try (exfalso;omega)))|refine And.intro ?_ ?_|exact cl|refine st ?_|fail)
   all_goals
   refine ResP.of [0,1] rfl rfl (by decide) rfl rfl (fun i hi=>?_) (fun i o ho=>?_)
   · match i,hi with
     | 0,_=>rfl
     | 1,_=>rfl
   · have e1:∀(H:Nat→Option AO) keep n,((putS ks s).map setE).map (sealed H keep n)=(putS ks s).map setE:=fun H keep n=>zak _ _ _ (zbh setE (fun _=>rfl) _)
     have e2:∀ρ,((putS ks s).map setE).map (PV.ren ρ)=(putS ks s).map setE:=fun ρ=>zcv ρ _
     match i,ho with
     | 0,ho=>cases ho;refine⟨_,rfl,rfl,?_⟩;simp_all[sealed,PV.ren,renL,rmap]<;>omega
     | 1,ho=>cases ho;refine⟨_,rfl,rfl,?_⟩;simp only;rw[e1,e2]
  try (cases h8;done)
  all_goals (try simp only[CQ] at h8)
  all_goals
  refine Tri.skip ?_
  refine sZ [0] (fun P S K=>XvNil (S.get 0) (fun r1 _=>XvFieldAddr P 100 0 r1 (fun r2 _=>XvLoad P 98 (M S.hp S.nx) r2 (fun r3 _=>XvUpdate P 98 (M S.hp S.nx) r3 (S.get 1) (.atom (.bool true)) (fun r5 ef5=>K ⟨[(0,S.get 0)],(Eff.hp ef5 S.nx S.hp),(S.nx+ef5.add.length),S.gh⟩))))) fun K hK=>?_
  repeat' (first|(refine hK _ ?_;clear hK K)|refine⟨_,MapPut.set (ks:=ks) (by kernel_rfl) hks hs,?_⟩|refine st ?_|fail)
  all_goals
  refine rZ [] (fun P S K=>XvNil (S.get 0) (fun r2 _=>XvFieldAddr P 100 1 r2 (fun r3 _=>XvLoad P 4 (M S.hp S.nx) r3 (fun r4 _=>Xgq r4 false (fun k=>k (S.get 0)) (fun g6 r6=>Xgq g6 false (fun k=>XvNil r6 (fun r7 _=>k r7)) (fun g7 r7=>Xgq g7 false (fun k=>XvFieldAddr P 100 0 r7 (fun r8 _=>k r8)) (fun g8 r8=>Xgq g8 false (fun k=>XvLoad P 98 (M S.hp S.nx) r8 (fun r9 _=>k r9)) (fun g9 r9=>Xgq g9 false (fun k=>XvLen P 98 (M S.hp S.nx) r9 (fun r10 _=>k r10)) (fun g10 r10=>Xgq g10 false (fun k=>XvBinOV P .gtr 3 (.const (.int .i64 64)) r10 (.atom (.int .i64 64)) (fun r11 _=>k r11)) (fun g11 r11=>XvPick g11 (.atom (.bool true)) r11 (fun r12 _=>XvNil (S.get 0) (fun r13 _=>XvFieldAddr P 100 1 r13 (fun r14 _=>XvStore P 4 (M S.hp S.nx) r14 r12 (fun r15 ef15=>K ⟨[],(Eff.hp ef15 S.nx S.hp),(S.nx+ef15.add.length),S.gh⟩)))))))))))))) fun K hK=>?_
  repeat' (first|(refine hK _ ?_;clear hK K)|((first|refine zav (fun hg=>?_) (fun hg=>?_)|refine fun(hg:(_:Prop))=>?_)<;>((try simp only[BQ] at hg);try (exfalso;omega)))|refine And.intro ?_ ?_|exact cl|refine st ?_|fail)
  all_goals
  refine ResP.of [0,1] rfl rfl (by decide) rfl rfl (fun i hi=>?_) (fun i o ho=>?_)
  · match i,hi with
    | 0,_=>rfl
    | 1,_=>rfl
  · have e1:∀(H:Nat→Option AO) keep n,((putS ks s).map setE).map (sealed H keep n)=(putS ks s).map setE:=fun H keep n=>zak _ _ _ (zbh setE (fun _=>rfl) _)
    have e2:∀ρ,((putS ks s).map setE).map (PV.ren ρ)=(putS ks s).map setE:=fun ρ=>zcv ρ _
    match i,ho with
    | 0,ho=>cases ho;refine⟨_,rfl,rfl,?_⟩;simp_all[sealed,PV.ren,renL,rmap]<;>omega
    | 1,ho=>cases ho;refine⟨_,rfl,rfl,?_⟩;simp only;rw[e1,e2]
def zbI (s t:ByteArray):Bool:=decide (t.size≤s.size) && decide (s.extract 0 t.size=t)
theorem zg1 (s t:ByteArray) (hs:s.size≤4294967296) (ht:t.size≤4294967296):Pure Try.prog 58 [encS s,encS t] (.atom (.bool (zbI s t))) []:=by
  refine Pure.intro (ts:=[4]) Try.func58 (by kernel_rfl) rfl rfl rfl (Nat.le_of_ble_eq_true rfl) ?_ ?_
  · simp[zah,zag,encI,encS,PV.pure,zaw]
  refine sY [0,1] (fun P S K=>K ⟨[(0,S.get 0),(1,S.get 1)],S.hp,S.nx,S.gh⟩) ?_
  all_goals
  refine sZ [4] (fun P S K=>XvLen P 9 (M S.hp S.nx) (S.get 0) (fun r1 _=>XvLen P 9 (M S.hp S.nx) (S.get 1) (fun r3 _=>XvBinOV P .geq 3 (.tmp 8) r1 r3 (fun r4 _=>Xgq r4 true (fun k=>k (S.get 0)) (fun g6 r6=>Xgq g6 true (fun k=>k (S.get 1)) (fun g7 r7=>Xgq g7 true (fun k=>XvLen P 9 (M S.hp S.nx) r7 (fun r8 _=>k r8)) (fun g8 r8=>Xgq g8 true (fun k=>XvSliceV P 9 r6 none (some r8) (fun r9 _=>k r9)) (fun g9 r9=>Xgq g9 true (fun k=>k (S.get 1)) (fun g10 r10=>Xgq g10 true (fun k=>XvBinOV P .eql 9 (.tmp 15) r9 r10 (fun r11 _=>k r11)) (fun g11 r11=>XvPick g11 r11 (.atom (.bool false)) (fun r12 _=>K ⟨[(4,r12)],S.hp,S.nx,S.gh⟩))))))))))) fun K hK=>?_
  repeat' (first|(refine hK _ ?_;clear hK K)|((first|refine zav (fun hg=>?_) (fun hg=>?_)|refine fun(hg:(_:Prop))=>?_)<;>((try simp only[BQ] at hg);try (exfalso;omega)))|refine And.intro ?_ ?_|exact cl|refine st ?_|fail)
  all_goals
  refine Tri.ret ?_
  show ResOk _ _ _ _
  refine ResOk.val (aB ?_) rfl
  unfold zbI
  first
    | rw[decide_eq_true (show t.size≤s.size by omega),Bool.true_and]
    | rw[decide_eq_false (show ¬t.size≤s.size by omega),Bool.false_and]
theorem zdL (s t:ByteArray) (hs:s.size≤4294967296) (ht:t.size≤4294967296):Pure Try.prog 41 [encS s,encS t] (.atom (.bool (zbI s t))) []:=by
  refine Pure.intro (ts:=[4]) Try.func41 (by kernel_rfl) rfl rfl rfl (Nat.le_of_ble_eq_true rfl) ?_ ?_
  · simp[zah,zag,encI,encS,PV.pure,zaw]
  refine sY [0,1] (fun P S K=>K ⟨[(0,S.get 0),(1,S.get 1)],S.hp,S.nx,S.gh⟩) ?_
  all_goals
  refine sZ [4] (fun P S K=>XvFnIV P (M S.hp S.nx) (.fn 58 []) [(S.get 0),(S.get 1)] (fun r2 ef2=>K ⟨[(4,r2)],(Eff.hp ef2 S.nx S.hp),(S.nx+ef2.add.length),S.gh⟩)) fun K hK=>?_
  repeat' (first|(refine hK _ ?_;clear hK K)|refine .inl ⟨_,_,zg1 s t hs ht,?_⟩|refine st ?_|fail)
  all_goals
  refine Tri.ret ?_
  show ResOk _ _ _ _
  exact ResOk.val zqO zqP
theorem zn2 (x:Int):Pure Try.prog 68 [encI x] (.atom (.bool false)) []:=by
  refine Pure.intro (ts:=[2]) Try.func68 (by kernel_rfl) rfl rfl rfl (Nat.le_of_ble_eq_true rfl) ?_ ?_
  · simp[zah,zag,encI,encS,PV.pure,zaw]
  refine sY [0] (fun P S K=>K ⟨[(0,S.get 0)],S.hp,S.nx,S.gh⟩) ?_
  all_goals
  refine sY [2] (fun P S K=>XvBinOV P .neq 3 (.tmp 4) (S.get 0) (S.get 0) (fun r2 _=>K ⟨[(2,r2)],S.hp,S.nx,S.gh⟩)) ?_
  all_goals
  refine Tri.ret ?_
  show ResOk _ _ _ _
  refine ResOk.val (aB ?_) rfl
  simp
theorem znp (x:Int):Pure Try.prog 57 [encI x] (.atom (.bool false)) []:=by
  refine Pure.intro (ts:=[2]) Try.func57 (by kernel_rfl) rfl rfl rfl (Nat.le_of_ble_eq_true rfl) ?_ ?_
  · simp[zah,zag,encI,encS,PV.pure,zaw]
  refine sY [0] (fun P S K=>K ⟨[(0,S.get 0)],S.hp,S.nx,S.gh⟩) ?_
  all_goals
  refine sY [2] (fun P S K=>XvBinOV P .neq 3 (.tmp 4) (S.get 0) (S.get 0) (fun r2 _=>K ⟨[(2,r2)],S.hp,S.nx,S.gh⟩)) ?_
  all_goals
  refine Tri.ret ?_
  show ResOk _ _ _ _
  refine ResOk.val (aB ?_) rfl
  simp
theorem zoj (x y:Int):Pure Try.prog 56 [encI x,encI y] (.atom (.bool (decide (x<y)))) []:=by
  refine Pure.intro (ts:=[4]) Try.func56 (by kernel_rfl) rfl rfl rfl (Nat.le_of_ble_eq_true rfl) ?_ ?_
  · simp[zah,zag,encI,encS,PV.pure,zaw]
  refine sY [0,1] (fun P S K=>K ⟨[(0,S.get 0),(1,S.get 1)],S.hp,S.nx,S.gh⟩) ?_
  all_goals
  refine sZ [4] (fun P S K=>XvFnIV P (M S.hp S.nx) (.fn 68 []) [(S.get 0)] (fun r1 ef1=>Xgq r1 true (fun k=>k (S.get 1)) (fun g3 r3=>Xge g3 true (fun k=>XvFnIV P (M (Eff.hp ef1 S.nx S.hp) (S.nx+ef1.add.length)) (.fn 68 []) [r3] k) (fun g4 r4 ef4=>Xgq g4 true (fun k=>XvUn .not r4 (fun r5 _=>k r5)) (fun g5 r5=>XvPick g5 r5 (.atom (.bool false)) (fun r6 _=>Xgq r6 false (fun k=>k (S.get 0)) (fun g8 r8=>Xgq g8 false (fun k=>k (S.get 1)) (fun g9 r9=>Xgq g9 false (fun k=>XvBinOV P .lss 3 (.tmp 14) r8 r9 (fun r10 _=>k r10)) (fun g10 r10=>XvPick g10 (.atom (.bool true)) r10 (fun r11 _=>K ⟨[(4,r11)],(Eff.hp ef4 (S.nx+ef1.add.length) (Eff.hp ef1 S.nx S.hp)),((S.nx+ef1.add.length)+ef4.add.length),S.gh⟩)))))))))) fun K hK=>?_
  repeat' (first|(refine hK _ ?_;clear hK K)|((first|refine zav (fun hg=>?_) (fun hg=>?_)|refine fun(hg:(_:Prop))=>?_)<;>((try simp only[BQ,List.length_map] at hg);try (cases hg;done);try (exfalso;omega)))|refine .inl ⟨_,_,zn2 x,?_⟩|refine st ?_|fail)
  all_goals try simp (disch:=omega) only[zae,zaf]
  all_goals
  refine Tri.ret ?_
  show ResOk _ _ _ _
  exact ResOk.val zqO zqP
def incL (l:List Int):Prop:=∀i,i<l.length→0<i→li l (i - 1)<li l i
theorem zlb{l:List Int}(h:incL l):∀ {d i:Nat},i+d+1<l.length→li l i<li l (i+d+1)
  | 0,i,hi=>by have:=h (i+1) (by omega) (by omega);simpa using this
  | d+1,i,hi=>by
    have h1:=zlb h (d:=d) (i:=i) (by omega)
    have h2:=h (i+d+1+1) (by omega) (by omega)
    rw[Nat.add_sub_cancel] at h2
    rw[show i+(d+1)+1=i+d+1+1 by omega];omega
theorem zgO{l:List Int}(h:incL l) {i j:Nat}(hij:i≤j) (hj:j<l.length):li l i≤li l j:=by
  rcases Nat.lt_or_eq_of_le hij with hlt|rfl
  · have:=zlb h (d:=j - i - 1) (i:=i) (by omega)
    rw[show i+(j - i - 1)+1=j by omega] at this;omega
  · exact Int.le_refl _
def posI (l:List Int) (x:Int):Nat:=(l.filter fun y=>decide (y<x)).length
theorem posI_of{l:List Int}{x:Int}{i:Nat}(hi:i≤l.length) (h1:∀k,k<i→li l k<x) (h2:∀k,i≤k→k<l.length→x≤li l k):posI l x=i:=by
  unfold posI
  have e:l=l.take i++l.drop i:=(List.take_append_drop i l).symm
  rw[e,List.filter_append,List.length_append]
  have e1:(l.take i).filter (fun y=>decide (y<x))=l.take i:=List.filter_eq_self.2 fun y hy=>by
    obtain⟨k,hk,rfl⟩:=List.getElem_of_mem hy
    rw[List.length_take] at hk
    rw[List.getElem_take,←zdm (by omega)]
    exact decide_eq_true (h1 k (by omega))
  have e2:(l.drop i).filter (fun y=>decide (y<x))=[]:=List.filter_eq_nil_iff.2 fun y hy=>by
    obtain⟨k,hk,rfl⟩:=List.getElem_of_mem hy
    rw[List.length_drop] at hk
    rw[List.getElem_drop,←zdm (by omega)]
    have:=h2 (i+k) (by omega) (by omega)
    simp;omega
  rw[e1,e2,List.length_take];simp;omega
theorem has_inc{l:List Int}(h:incL l) {x:Int}{i:Nat}(hi:i≤l.length) (h1:∀k,k<i→li l k<x) (h2:∀k,i≤k→k<l.length→x≤li l k):(x∈l)↔(i<l.length∧li l i=x):=by
  constructor
  · intro hx
    obtain⟨k,hk,e⟩:=zhx hx
    have hik:i≤k:=Nat.le_of_not_lt fun g=>by have:=h1 k g;omega
    have:=zgO h hik hk
    have:=h2 i (Nat.le_refl _) (by omega)
    exact⟨by omega,by omega⟩
  · rintro⟨g1,g2⟩
    rw[←g2];exact zgK g1
theorem mid_u{i j d:Nat}(h:i+j<9000000000000000000) (hd:d=(i+j) / 2):IntKind.i64.wrap ((IntKind.u64.wrap ((i:Int)+j)).fdiv (2 ^ min 1 IntKind.u64.bits))=(d:Int):=by
  subst hd
  have e1:IntKind.u64.wrap ((i:Int)+j)=(i:Int)+j:=by
    unfold IntKind.wrap;simp[IntKind.bits,IntKind.signed];omega
  have e2:(2:Int) ^ min 1 IntKind.u64.bits=2:=by decide
  rw[e1,e2,Int.fdiv_eq_ediv_of_nonneg _ (by decide),zae (by omega) (by omega)]
  omega
theorem zka (l:List Int) (x:Int) (hl:l.length≤1000000000) (hs:incL l):Pure Try.prog 39 [ints l,encI x] (.tup [encI (posI l x),.atom (.bool (decide (x∈l)))]) []:=by
  refine Pure.intro (ts:=[4,5]) Try.func39 (by kernel_rfl) rfl rfl rfl (Nat.le_of_ble_eq_true rfl) ?_ ?_
  · simp[zah,zag,encI,encS,PV.pure,zaw]
  refine sY [0,1] (fun P S K=>K ⟨[(0,S.get 0),(1,S.get 1)],S.hp,S.nx,S.gh⟩) ?_
  all_goals
  refine sY [0,1,6] (fun P S K=>XvLen P 22 (M S.hp S.nx) (S.get 0) (fun r1 _=>K ⟨[(0,S.get 0),(1,S.get 1),(6,r1)],S.hp,S.nx,S.gh⟩)) ?_
  all_goals
  refine sY [0,1,6,7,8] (fun P S K=>K ⟨[(0,S.get 0),(1,S.get 1),(6,S.get 6),(7,(.atom (.int .i64 0))),(8,(S.get 6))],S.hp,S.nx,S.gh⟩) ?_
  all_goals
  refine Tri.seq ?_
  refine Tri.block ?_
  refine Tri.loop (α:=(i:Nat) ×' (j:Nat) ×' (i≤j∧j≤l.length∧(∀k,k<i→li l k<x)∧(∀k,j≤k→k<l.length→x≤li l k))) (fun z=>(fun(i:Nat) (j:Nat)=>(⟨[(0,ints l),(1,encI x),(6,encI l.length),(7,encI i),(8,encI j)],[],0,[]⟩:St)) z.1 z.2.1) (fun z=>(fun(i:Nat) (j:Nat)=>j - i) z.1 z.2.1) ⟨0,l.length,⟨Nat.zero_le _,Nat.le_refl _,fun k hk=>absurd hk (Nat.not_lt_zero _),fun k h1 h2=>by omega⟩⟩ [] ?_ ?_
  ·exact zia
  rintro⟨i,j,⟨hij,hj,h1,h2⟩⟩
  refine Tri.seq ?_
  refine sY [0,1,6,7,8,15] (fun P S K=>XvBinOV P .lss 3 (.tmp 14) (S.get 7) (S.get 8) (fun r2 _=>K ⟨[(0,S.get 0),(1,S.get 1),(6,S.get 6),(7,S.get 7),(8,S.get 8),(15,r2)],S.hp,S.nx,S.gh⟩)) ?_
  all_goals
  refine Tri.cond rfl (fun h15=>?_) (fun h15=>?_)
  ·try (cases h15;done)
   all_goals (try simp only[CQ] at h15)
   all_goals
   refine Tri.skip ?_
   refine Tri.block ?_
   have hij2:i<j:=by omega
   obtain⟨d,hd⟩:∃d,d=(i+j) / 2:=⟨_,rfl⟩
   refine sZ [0,1,6,7,8,9] (fun P S K=>XvBinOV P .add 3 (.tmp 17) (S.get 7) (S.get 8) (fun r2 _=>XvConvert P 3 124 (M S.hp S.nx) r2 (fun r3 ef3=>XvBinOV P .shr 124 (.const (.int .u64 1)) r3 (.atom (.int .u64 1)) (fun r4 _=>XvConvert P 124 3 (M (Eff.hp ef3 S.nx S.hp) (S.nx+ef3.add.length)) r4 (fun r5 ef5=>K ⟨[(0,S.get 0),(1,S.get 1),(6,S.get 6),(7,S.get 7),(8,S.get 8),(9,r5)],(Eff.hp ef5 (S.nx+ef3.add.length) (Eff.hp ef3 S.nx S.hp)),((S.nx+ef3.add.length)+ef5.add.length),S.gh⟩))))) fun K hK=>?_
   repeat' (first|(refine hK _ ?_;clear hK K)|(refine st ?_;try simp only[zae (x:=(i:Int)+j) (by omega) (by omega),mid_u (show i+j<9000000000000000000 by omega) hd])|fail)
   all_goals try simp (disch:=omega) only[zae,zaf]
   all_goals
   refine sZ [0,1,6,7,8,9,27] (fun P S K=>XvIndexAddr P 22 (S.get 0) (S.get 9) (fun r2 _=>XvLoad P 3 (M S.hp S.nx) r2 (fun r3 _=>XvFnIV P (M S.hp S.nx) (.fn 56 []) [r3,(S.get 1)] (fun r5 ef5=>K ⟨[(0,S.get 0),(1,S.get 1),(6,S.get 6),(7,S.get 7),(8,S.get 8),(9,S.get 9),(27,r5)],(Eff.hp ef5 S.nx S.hp),(S.nx+ef5.add.length),S.gh⟩)))) fun K hK=>?_
   repeat' (first|(refine hK _ ?_;clear hK K)|refine And.intro ?_ ?_|exact cl|refine .inl ⟨_,_,zoj (li l d) x,?_⟩|(refine st ?_;try simp only[zbi (l:=l) (k:=d) (by omega)])|fail)
   all_goals
   refine Tri.cond rfl (fun h27=>?_) (fun h27=>?_)
   ·try (cases h27;done)
    all_goals (try simp only[CQ] at h27)
    all_goals
    refine rY [0,1,6,7,8] (fun P S K=>XvBinOV P .add 3 (.const (.int .i64 1)) (S.get 9) (.atom (.int .i64 1)) (fun r1 _=>K ⟨[(0,S.get 0),(1,S.get 1),(6,S.get 6),(7,r1),(8,S.get 8)],S.hp,S.nx,S.gh⟩)) ?_
    all_goals try simp (disch:=omega) only[zae,zaf]
    all_goals
    first
    | (refine⟨⟨d+1,j,by omega,hj,fun k hk=>?_,h2⟩,[],by dsimp only;omega,?_⟩
       · have:=zgO hs (show k≤d by omega) (by omega)
         omega
       · exact zia)
    | (refine⟨⟨i,d,by omega,by omega,h1,fun k hk hk2=>?_⟩,[],by dsimp only;omega,?_⟩
       · have:=zgO hs hk hk2
         omega
       · exact zia)
   try (cases h27;done)
   all_goals (try simp only[CQ] at h27)
   all_goals
   refine rY [0,1,6,7,8] (fun P S K=>K ⟨[(0,S.get 0),(1,S.get 1),(6,S.get 6),(7,S.get 7),(8,(S.get 9))],S.hp,S.nx,S.gh⟩) ?_
   all_goals
   first
   | (refine⟨⟨d+1,j,by omega,hj,fun k hk=>?_,h2⟩,[],by dsimp only;omega,?_⟩
      · have:=zgO hs (show k≤d by omega) (by omega)
        omega
      · exact zia)
   | (refine⟨⟨i,d,by omega,by omega,h1,fun k hk hk2=>?_⟩,[],by dsimp only;omega,?_⟩
      · have:=zgO hs hk hk2
        omega
      · exact zia)
  try (cases h15;done)
  all_goals (try simp only[CQ] at h15)
  all_goals
  refine Tri.exit ?_
  have hij3:i=j:=by omega
  subst hij3
  refine sZ [4,5] (fun P S K=>XvBinOV P .lss 3 (.tmp 33) (S.get 7) (S.get 6) (fun r3 _=>Xgq r3 true (fun k=>k (S.get 0)) (fun g5 r5=>Xgq g5 true (fun k=>k (S.get 7)) (fun g6 r6=>Xgq g6 true (fun k=>XvIndexAddr P 22 r5 r6 (fun r7 _=>k r7)) (fun g7 r7=>Xgq g7 true (fun k=>XvLoad P 3 (M S.hp S.nx) r7 (fun r8 _=>k r8)) (fun g8 r8=>Xgq g8 true (fun k=>k (S.get 1)) (fun g9 r9=>Xgq g9 true (fun k=>XvBinOV P .eql 3 (.tmp 40) r8 r9 (fun r10 _=>k r10)) (fun g10 r10=>Xgq g10 true (fun k=>k r10) (fun g11 r11=>Xgq r11 false (fun k=>k (S.get 0)) (fun g12 r12=>Xgq g12 false (fun k=>k (S.get 7)) (fun g13 r13=>Xgq g13 false (fun k=>XvIndexAddr P 22 r12 r13 (fun r14 _=>k r14)) (fun g14 r14=>Xgq g14 false (fun k=>XvLoad P 3 (M S.hp S.nx) r14 (fun r15 _=>k r15)) (fun g15 r15=>Xge g15 false (fun k=>XvFnIV P (M S.hp S.nx) (.fn 57 []) [r15] k) (fun g16 r16 ef16=>Xgq g16 false (fun k=>k r16) (fun g17 r17=>Xgq r17 true (fun k=>k (S.get 1)) (fun g18 r18=>Xge g18 true (fun k=>XvFnIV P (M (Eff.hp ef16 S.nx S.hp) (S.nx+ef16.add.length)) (.fn 57 []) [r18] k) (fun g19 r19 ef19=>Xgq g17 false (fun k=>XvPick g19 r19 (.atom (.bool false)) (fun r20 _=>k r20)) (fun g20 r20=>Xgq g11 true (fun k=>XvPick g20 (.atom (.bool true)) r20 (fun r21 _=>k r21)) (fun g21 r21=>XvPick g21 r21 (.atom (.bool false)) (fun r22 _=>K ⟨[(4,(S.get 7)),(5,r22)],(Eff.hp ef19 (S.nx+ef16.add.length) (Eff.hp ef16 S.nx S.hp)),((S.nx+ef16.add.length)+ef19.add.length),S.gh⟩)))))))))))))))))))) fun K hK=>?_
  repeat' (first|(refine hK _ ?_;clear hK K)|((first|refine zav (fun hg=>?_) (fun hg=>?_)|refine fun(hg:(_:Prop))=>?_)<;>((try simp only[BQ] at hg);try (exfalso;omega)))|refine And.intro ?_ ?_|exact cl|refine .inl ⟨_,_,znp _,?_⟩|(refine st ?_;try simp only[zbi (l:=l) (k:=i) (by omega)])|fail)
  all_goals
  refine Tri.ret ?_
  show ResOk _ _ _ _
  have hp:=posI_of hj h1 h2
  have hh:=has_inc hs hj h1 h2
  rw[hp]
  first
    | (rw[decide_eq_true (show x∈l from hh.2 ⟨by omega,by assumption⟩)]
       exact ResOk.val zqO zqP)
    | (rw[decide_eq_false (show ¬x∈l from fun g=>by have:=hh.1 g;first|omega|(exact absurd this.2 (by assumption)))]
       exact ResOk.val zqO zqP)
end Go.Proofs.Ytehoglapajkabaa
