/-
  Walks: the reference model of lexicons: what is valid;rules,analyses.
-/
import Derived.Test.YtehoglapajkabaaGreatJM0
set_option linter.all false
namespace Go.Proofs.YtehoglapajkabaaGreat
open Go Go.RowKit
set_option maxRecDepth 20000
set_option maxHeartbeats 1000000
theorem zgQ{p:Prop}(h:p:=by(refine⟨4,?_,?_,rfl,by simp,rfl,fun _ h _=>absurd h (Nat.not_lt_zero _)⟩<;>(simp only[List.forall_mem_cons];repeat' (first|refine And.intro ?_ ?_|(intro p hp;exact absurd hp List.not_mem_nil)|rfl|exact sp (zaF _)|exact(zau _ _ _ (zah _)).trans (zbE _ _).symm|exact(zau _ _ _ (zag _)).trans (zbD _ _).symm|exact sp (by assumption)|(intro o ho;cases ho;refine⟨by decide,?_⟩;first|(refine LeqS.row rfl ?_ ?_;(next=>(first|rfl|(simp only[List.map_append,List.map_cons,List.map_nil,List.append_nil,List.nil_append,List.append_assoc,List.cons_append,encI,encS,ints,strs];done)|(simp[encI,encS,ints,strs];done)));(next=>(first|rfl|exact zao _|exact zaq _|exact zas _|exact zar _|exact zaz _|exact zaK _|exact zaL _|(simp[zap,zao,zaq,zas,zar,zaE,PV.pure,zah,zag,zaF,zaz,zaK,zaL];done)));done)|refine⟨_,rfl,rfl,?_⟩)|(simp[St.born,St.known,retV,St.get,St.obj,lk,sealed,PV.ren,renL,rmap,AO.ren,ints,strs,encI,encS,zan,zam,zal,zak,zaD,zaC,zaB,zaA,zaW,zaV,zaU,zaT,zbB,zaa,zab,zac,zad,zai,zaj,zat,zaJ,zav,zaQ,zaw,zaR,zaG]<;>omega))));first|done|fail):p:=h
theorem lsrM1{p:Prop}(h:p:=by(first|rfl|(simp[St.born,St.known,retV,St.get,St.obj,lk,sealed,PV.ren,renL,rmap,AO.ren,ints,strs,encI,encS,zan,zam,zal,zak,zaD,zaC,zaB,zaA,zaW,zaV,zaU,zaT,zbB,zaa,zab,zac,zad,zai,zaj,zat,zaJ,zav,zaQ,zaw,zaR,zaG];done));first|done|fail):p:=h
theorem lpvM1{p:Prop}(h:p:=by(first|rfl|(simp[zah,zag,PV.pure,zaE,zao,zaq,zas,zar,zaF,zaz,zaK,zaL];done));first|done|fail):p:=h
theorem up47{n:Nat}(h:n≤140737488355328):n≤9223372036854775807:=by omega
theorem za2 (s:ByteArray) (least most:Int) (hs:s.size≤9223372036854775807) (hm:most≤4096):Pure Tryz.prog 41 [encS s,encI least,encI most] (.atom (.bool (letS s least most))) []:=by
  refine Pure.intro (ts:=[6]) Tryz.func41 (by kernel_rfl) rfl rfl rfl (Nat.le_of_ble_eq_true rfl) ?_ ?_
  · simp[zah,zag,encI,encS,PV.pure,zaE]
  refine sY [0,1,2] (fun P S K=>K ⟨[(0,S.get 0),(1,S.get 1),(2,S.get 2)],S.hp,S.nx,S.gh⟩) ?_
  all_goals
  refine Tri.seq ?_
  refine sY [0,1,2,7] (fun P S K=>K ⟨[(0,S.get 0),(1,S.get 1),(2,S.get 2),(7,(.atom (.int .i64 0)))],S.hp,S.nx,S.gh⟩) ?_
  all_goals
  refine Tri.block ?_
  refine Tri.loop (α:=(i:Nat) ×' (i≤s.size∧∀j,j<i→97≤(zb4 s j).toNat∧(zb4 s j).toNat≤122)) (fun z=>(fun(i:Nat)=>(⟨[(0,encS s),(1,encI least),(2,encI most),(7,encI i)],[],0,[]⟩:St)) z.1) (fun z=>(fun(i:Nat)=>s.size - i) z.1) ⟨0,⟨by omega,by omega⟩⟩ [] ?_ ?_
  ·exact zgQ
  rintro⟨i,⟨hi,hlo⟩⟩
  refine Tri.seq ?_
  refine sZ [0,1,2,7,15] (fun P S K=>XvLen P 9 (M S.hp S.nx) (S.get 0) (fun r2 _=>XvBinOV P .lss 3 (.tmp 10) (S.get 7) r2 (fun r3 _=>Xgq r3 true (fun k=>k (S.get 7)) (fun g5 r5=>Xgq g5 true (fun k=>XvBinOV P .lss 3 (.const (.int .i64 5000)) r5 (.atom (.int .i64 5000)) (fun r6 _=>k r6)) (fun g6 r6=>XvPick g6 r6 (.atom (.bool false)) (fun r7 _=>K ⟨[(0,S.get 0),(1,S.get 1),(2,S.get 2),(7,S.get 7),(15,r7)],S.hp,S.nx,S.gh⟩)))))) fun K hK=>?_
  repeat' (first|(refine hK _ ?_;clear hK K)|((first|refine zax (fun hg=>?_) (fun hg=>?_)|refine fun(hg:(_:Prop))=>?_)<;>((try simp only[BQ] at hg);try (exfalso;omega)))|refine And.intro ?_ ?_|exact cl|refine st ?_|fail)
  all_goals
  refine Tri.cond rfl (fun h15=>?_) (fun h15=>?_)
  ·try (simp only[reduceCtorEq] at h15;done)
   all_goals (try simp only[CQ] at h15)
   all_goals
   refine Tri.skip ?_
   refine Tri.seq ?_
   refine Tri.block ?_
   refine sZ [0,1,2,7,27] (fun P S K=>XvIndex P 9 (S.get 0) (S.get 7) (fun r2 _=>XvBinOV P .lss 5 (.const (.int .u8 97)) r2 (.atom (.int .u8 97)) (fun r3 _=>Xgq r3 false (fun k=>k (S.get 0)) (fun g5 r5=>Xgq g5 false (fun k=>k (S.get 7)) (fun g6 r6=>Xgq g6 false (fun k=>XvIndex P 9 r5 r6 (fun r7 _=>k r7)) (fun g7 r7=>Xgq g7 false (fun k=>XvBinOV P .gtr 5 (.const (.int .u8 122)) r7 (.atom (.int .u8 122)) (fun r8 _=>k r8)) (fun g8 r8=>XvPick g8 (.atom (.bool true)) r8 (fun r9 _=>K ⟨[(0,S.get 0),(1,S.get 1),(2,S.get 2),(7,S.get 7),(27,r9)],S.hp,S.nx,S.gh⟩)))))))) fun K hK=>?_
   repeat' (first|(refine hK _ ?_;clear hK K)|((first|refine zax (fun hg=>?_) (fun hg=>?_)|refine fun(hg:(_:Prop))=>?_)<;>((try simp only[BQ] at hg);try (exfalso;omega)))|refine And.intro ?_ ?_|exact cl|refine st ?_|fail)
   all_goals
   refine Tri.cond rfl (fun h27=>?_) (fun h27=>?_)
   ·try (simp only[reduceCtorEq] at h27;done)
    all_goals (try simp only[CQ] at h27)
    all_goals
    refine sY [6] (fun P S K=>K ⟨[(6,(.atom (.bool false)))],S.hp,S.nx,S.gh⟩) ?_
    all_goals
    refine Tri.ret ?_
    show ResOk _ _ _ _
    exact ResOk.val (aB (Bool.eq_false_iff.2 (fun h=>by have:=(letS_iff.1 h).1 i (by omega);omega)).symm) rfl
   try (simp only[reduceCtorEq] at h27;done)
   all_goals (try simp only[CQ] at h27)
   all_goals
   refine Tri.skip ?_
   refine rY [0,1,2,7] (fun P S K=>XvBinOV P .add 3 (.const (.int .i64 1)) (S.get 7) (.atom (.int .i64 1)) (fun r1 _=>K ⟨[(0,S.get 0),(1,S.get 1),(2,S.get 2),(7,r1)],S.hp,S.nx,S.gh⟩)) ?_
   all_goals try simp (disch:=omega) only[zaf,zae]
   all_goals
   refine⟨⟨i+1,by omega,fun j hj=>?_⟩,[],by dsimp only;omega,?_⟩
   · rcases Nat.lt_succ_iff_lt_or_eq.1 hj with hj|rfl
     · exact hlo j hj
     · omega
   · exact zgQ
  try (simp only[reduceCtorEq] at h15;done)
  all_goals (try simp only[CQ] at h15)
  all_goals
  refine Tri.exit ?_
  refine sZ [6] (fun P S K=>XvLen P 9 (M S.hp S.nx) (S.get 0) (fun r1 _=>XvBinOV P .geq 3 (.tmp 30) r1 (S.get 1) (fun r3 _=>Xgq r3 true (fun k=>k (S.get 0)) (fun g5 r5=>Xgq g5 true (fun k=>XvLen P 9 (M S.hp S.nx) r5 (fun r6 _=>k r6)) (fun g6 r6=>Xgq g6 true (fun k=>k (S.get 2)) (fun g7 r7=>Xgq g7 true (fun k=>XvBinOV P .leq 3 (.tmp 35) r6 r7 (fun r8 _=>k r8)) (fun g8 r8=>XvPick g8 r8 (.atom (.bool false)) (fun r9 _=>K ⟨[(6,r9)],S.hp,S.nx,S.gh⟩)))))))) fun K hK=>?_
  repeat' (first|(refine hK _ ?_;clear hK K)|((first|refine zax (fun hg=>?_) (fun hg=>?_)|refine fun(hg:(_:Prop))=>?_)<;>((try simp only[BQ] at hg);try (exfalso;omega)))|refine And.intro ?_ ?_|exact cl|refine st ?_|fail)
  all_goals
  refine Tri.ret ?_
  show ResOk _ _ _ _
  refine ResOk.val (aB ?_) rfl
  rw[Bool.eq_iff_iff,letS_iff]
  simp only[decide_eq_true_eq,Bool.false_eq_true]
  constructor
  · intro h
    first|exact h.elim|exact⟨fun j hj=>hlo j (by omega),by omega,by omega⟩
  · intro h;have:=h.2.1;have:=h.2.2;omega
theorem zhd (s:ByteArray) (hs:s.size≤9223372036854775807):Pure Tryz.prog 46 [encS s] (.atom (.bool (zbK s))) []:=by
  refine Pure.intro (ts:=[2]) Tryz.func46 (by kernel_rfl) rfl rfl rfl (Nat.le_of_ble_eq_true rfl) ?_ ?_
  · simp[zah,zag,encI,encS,PV.pure,zaE]
  refine sY [0] (fun P S K=>K ⟨[(0,S.get 0)],S.hp,S.nx,S.gh⟩) ?_
  all_goals
  refine sZ [2] (fun P S K=>XvFnIV P (M S.hp S.nx) (.fn 41 []) [(S.get 0),(.atom (.int .i64 1)),(.atom (.int .i64 4096))] (fun r1 ef1=>K ⟨[(2,r1)],(Eff.hp ef1 S.nx S.hp),(S.nx+ef1.add.length),S.gh⟩)) fun K hK=>?_
  repeat' (first|(refine hK _ ?_;clear hK K)|refine .inl ⟨_,_,za2 s 1 4096 hs (by decide),?_⟩|refine st ?_|fail)
  all_goals
  refine Tri.ret ?_
  show ResOk _ _ _ _
  exact ResOk.val lsrM1 lpvM1
theorem zjc (x:LexD) (hx:HeldX x):Pure Tryz.prog 12 [encX x] (encI (za7 x)) []:=by
  have hnf:=hx.nforms
  have hnr:=hx.nrules
  have hnp:=hx.nprefs
  refine Pure.intro (ts:=[2]) Tryz.func12 (by kernel_rfl) rfl rfl rfl (Nat.le_of_ble_eq_true rfl) ?_ ?_
  · simp[zaF,PV.pure,zaE]
  refine sZ [1] (fun P S K=>XvBox S.nx (S.get 0) (fun r0 ef0=>K ⟨[(1,r0)],(Eff.hp ef0 S.nx S.hp),(S.nx+ef0.add.length),S.gh⟩)) fun K hK=>?_
  repeat' (first|(refine hK _ ?_;clear hK K)|refine And.intro ?_ ?_|exact cl|(refine st ?_;try simp only[encX,zaa,zab,zac,encF,encR,encA])|refine sx ?_ (by simp only[encX,zaa,zab,zac,encF,encR,encA];exact rfl)|fail)
  all_goals
  refine Tri.seq ?_
  refine sZ [1,25] (fun P S K=>XvFieldAddr P 32 0 (S.get 1) (fun r0 _=>XvLoad P 28 (M S.hp S.nx) r0 (fun r1 _=>XvLen P 28 (M S.hp S.nx) r1 (fun r2 _=>XvBinOV P .gtr 3 (.const (.int .i64 64)) r2 (.atom (.int .i64 64)) (fun r3 _=>Xgq r3 false (fun k=>XvFieldAddr P 32 1 (S.get 1) (fun r5 _=>k r5)) (fun g5 r5=>Xgq g5 false (fun k=>XvLoad P 29 (M S.hp S.nx) r5 (fun r6 _=>k r6)) (fun g6 r6=>Xgq g6 false (fun k=>XvLen P 29 (M S.hp S.nx) r6 (fun r7 _=>k r7)) (fun g7 r7=>Xgq g7 false (fun k=>XvBinOV P .gtr 3 (.const (.int .i64 32)) r7 (.atom (.int .i64 32)) (fun r8 _=>k r8)) (fun g8 r8=>XvPick g8 (.atom (.bool true)) r8 (fun r9 _=>Xgq r9 false (fun k=>XvFieldAddr P 32 2 (S.get 1) (fun r11 _=>k r11)) (fun g11 r11=>Xgq g11 false (fun k=>XvLoad P 30 (M S.hp S.nx) r11 (fun r12 _=>k r12)) (fun g12 r12=>Xgq g12 false (fun k=>XvLen P 30 (M S.hp S.nx) r12 (fun r13 _=>k r13)) (fun g13 r13=>Xgq g13 false (fun k=>XvBinOV P .gtr 3 (.const (.int .i64 32)) r13 (.atom (.int .i64 32)) (fun r14 _=>k r14)) (fun g14 r14=>XvPick g14 (.atom (.bool true)) r14 (fun r15 _=>K ⟨[(1,S.get 1),(25,r15)],S.hp,S.nx,S.gh⟩))))))))))))))) fun K hK=>?_
  repeat' (first|(refine hK _ ?_;clear hK K)|((first|refine zax (fun hg=>?_) (fun hg=>?_)|refine fun(hg:(_:Prop))=>?_)<;>((try simp only[BQ] at hg);try (exfalso;omega)))|refine And.intro ?_ ?_|exact cl|(refine st ?_;try simp only[encX,zaa,zab,zac,encF,encR,encA])|fail)
  all_goals
  refine Tri.cond rfl (fun h25=>?_) (fun h25=>?_)
  ·try (cases h25;done)
   all_goals (try simp only[CQ] at h25)
   all_goals
   refine sY [2] (fun P S K=>K ⟨[(2,(.atom (.int .i64 4)))],S.hp,S.nx,S.gh⟩) ?_
   all_goals
   refine Tri.ret ?_
   show ResOk _ _ _ _
   rw[show za7 x=4 from if_pos (by omega)]
   exact ResOk.val lsrM1 lpvM1
  try (cases h25;done)
  all_goals (try simp only[CQ] at h25)
  all_goals
  refine Tri.skip ?_
  refine sY [1,3] (fun P S K=>K ⟨[(1,S.get 1),(3,(.atom (.bool true)))],S.hp,S.nx,S.gh⟩) ?_
  all_goals
  refine Tri.seq ?_
  refine sY [1,3,4] (fun P S K=>K ⟨[(1,S.get 1),(3,S.get 3),(4,(.atom (.int .i64 0)))],S.hp,S.nx,S.gh⟩) ?_
  all_goals
  refine Tri.block ?_
  refine Tri.loop (α:=(b:Bool) ×' (i:Nat) ×' (i≤x.forms.length∧b=(x.forms.take i).all zdu)) (fun z=>(fun(b:Bool) (i:Nat)=>(⟨[(1,.ptr 0 3 0 0),(3,.atom (.bool b)),(4,encI i)],[(0,some ⟨3,[encX x]⟩)],1,[]⟩:St)) z.1 z.2.1) (fun z=>(fun(b:Bool) (i:Nat)=>x.forms.length - i) z.1 z.2.1) ⟨true,0,⟨Nat.zero_le _,rfl⟩⟩ [0] ?_ ?_
  ·exact zgQ
  rintro⟨b,i,⟨hi,hb⟩⟩
  refine Tri.seq ?_
  refine sZ [1,3,4,30] (fun P S K=>XvFieldAddr P 32 0 (S.get 1) (fun r1 _=>XvLoad P 28 (M S.hp S.nx) r1 (fun r2 _=>XvLen P 28 (M S.hp S.nx) r2 (fun r3 _=>XvBinOV P .lss 3 (.tmp 29) (S.get 4) r3 (fun r4 _=>K ⟨[(1,S.get 1),(3,S.get 3),(4,S.get 4),(30,r4)],S.hp,S.nx,S.gh⟩))))) fun K hK=>?_
  repeat' (first|(refine hK _ ?_;clear hK K)|refine And.intro ?_ ?_|exact cl|(refine st ?_;try simp only[encX,zaa,zab,zac,encF,encR,encA])|refine sx ?_ (by simp only[encX,zaa,zab,zac,encF,encR,encA];exact rfl)|fail)
  all_goals
  refine Tri.cond rfl (fun h30=>?_) (fun h30=>?_)
  ·try (cases h30;done)
   all_goals (try simp only[CQ] at h30)
   all_goals
   refine Tri.skip ?_
   refine Tri.seq ?_
   refine Tri.block ?_
   have hil:i<x.forms.length:=by omega
   refine sZ [1,3,4,5] (fun P S K=>XvFieldAddr P 32 0 (S.get 1) (fun r0 _=>XvLoad P 28 (M S.hp S.nx) r0 (fun r1 _=>XvIndexAddr P 28 r1 (S.get 4) (fun r3 _=>XvLoad P 76 (M S.hp S.nx) r3 (fun r4 _=>XvAlloc P 76 S.nx (fun r5 ef5=>XvStore P 76 (M (Eff.hp ef5 S.nx S.hp) (S.nx+ef5.add.length)) r5 r4 (fun r6 ef6=>K ⟨[(1,S.get 1),(3,S.get 3),(4,S.get 4),(5,r5)],(Eff.hp ef6 (S.nx+ef5.add.length) (Eff.hp ef5 S.nx S.hp)),((S.nx+ef5.add.length)+ef6.add.length),S.gh⟩))))))) fun K hK=>?_
   repeat' (first|(refine hK _ ?_;clear hK K)|refine And.intro ?_ ?_|exact cl|(refine st ?_;try simp only[encX,zaa,zab,zac,encF,encR,encA,zaS hil])|fail)
   all_goals
   refine rZ [1,3,4] (fun P S K=>Xgq (S.get 3) true (fun k=>XvFieldAddr P 76 0 (S.get 5) (fun r2 _=>k r2)) (fun g2 r2=>Xgq g2 true (fun k=>XvLoad P 9 (M S.hp S.nx) r2 (fun r3 _=>k r3)) (fun g3 r3=>Xge g3 true (fun k=>XvFnIV P (M S.hp S.nx) (.fn 41 []) [r3,(.atom (.int .i64 1)),(.atom (.int .i64 24))] k) (fun g4 r4 ef4=>XvPick g4 r4 (.atom (.bool false)) (fun r5 _=>Xgq r5 true (fun k=>XvFieldAddr P 76 1 (S.get 5) (fun r7 _=>k r7)) (fun g7 r7=>Xgq g7 true (fun k=>XvLoad P 9 (M (Eff.hp ef4 S.nx S.hp) (S.nx+ef4.add.length)) r7 (fun r8 _=>k r8)) (fun g8 r8=>Xge g8 true (fun k=>XvFnIV P (M (Eff.hp ef4 S.nx S.hp) (S.nx+ef4.add.length)) (.fn 41 []) [r8,(.atom (.int .i64 1)),(.atom (.int .i64 24))] k) (fun g9 r9 ef9=>XvPick g9 r9 (.atom (.bool false)) (fun r10 _=>Xgq r10 true (fun k=>XvFieldAddr P 76 2 (S.get 5) (fun r12 _=>k r12)) (fun g12 r12=>Xgq g12 true (fun k=>XvLoad P 9 (M (Eff.hp ef9 (S.nx+ef4.add.length) (Eff.hp ef4 S.nx S.hp)) ((S.nx+ef4.add.length)+ef9.add.length)) r12 (fun r13 _=>k r13)) (fun g13 r13=>Xge g13 true (fun k=>XvFnIV P (M (Eff.hp ef9 (S.nx+ef4.add.length) (Eff.hp ef4 S.nx S.hp)) ((S.nx+ef4.add.length)+ef9.add.length)) (.fn 41 []) [r13,(.atom (.int .i64 1)),(.atom (.int .i64 8))] k) (fun g14 r14 ef14=>XvPick g14 r14 (.atom (.bool false)) (fun r15 _=>K ⟨[(1,S.get 1),(3,r15),(4,S.get 4)],(Eff.hp ef14 ((S.nx+ef4.add.length)+ef9.add.length) (Eff.hp ef9 (S.nx+ef4.add.length) (Eff.hp ef4 S.nx S.hp))),(((S.nx+ef4.add.length)+ef9.add.length)+ef14.add.length),S.gh⟩))))))))))))) fun K hK=>?_
   repeat' (first|(refine hK _ ?_;clear hK K)|((first|refine zax (fun hg=>?_) (fun hg=>?_)|refine fun(hg:(_:Prop))=>?_)<;>((try simp only[BQ] at hg);try (exfalso;omega)))|refine And.intro ?_ ?_|exact cl|refine .inl ⟨_,_,za2 _ 1 24 (up47 (hx.forms _ (zb0 hil)).word) (by decide),?_⟩|refine .inl ⟨_,_,za2 _ 1 24 (up47 (hx.forms _ (zb0 hil)).lem) (by decide),?_⟩|refine .inl ⟨_,_,za2 _ 1 8 (up47 (hx.forms _ (zb0 hil)).cls) (by decide),?_⟩|refine .inl ⟨_,_,za2 _ 0 8 (up47 (hx.rules _ (zcD hjl)).suf) (by decide),?_⟩|refine .inl ⟨_,_,za2 _ 0 8 (up47 (hx.rules _ (zcD hjl)).put) (by decide),?_⟩|refine .inl ⟨_,_,za2 _ 1 8 (up47 (hx.rules _ (zcD hjl)).cls) (by decide),?_⟩|refine .inl ⟨_,_,za2 _ 0 8 (up47 (hx.prefs _ (zcU hkl)).after) (by decide),?_⟩|refine .inl ⟨_,_,za2 _ 0 8 (up47 (hx.prefs _ (zcU hkl)).before) (by decide),?_⟩|refine .inl ⟨_,_,za2 _ 1 8 (up47 (hx.prefs _ (zcU hkl)).cls) (by decide),?_⟩|(refine st ?_;try simp only[encX,zaa,zab,zac,encF,encR,encA,↓SE])|fail)
   all_goals
   refine rY [1,3,4] (fun P S K=>XvBinOV P .add 3 (.const (.int .i64 1)) (S.get 4) (.atom (.int .i64 1)) (fun r1 _=>K ⟨[(1,S.get 1),(3,S.get 3),(4,r1)],S.hp,S.nx,S.gh⟩)) ?_
   all_goals try simp (disch:=omega) only[zaf,zae]
   all_goals
   first
   | (refine⟨⟨letS (fF x.forms i).cls 1 8,i+1,by omega,?_⟩,[0],by dsimp only;omega,?_⟩
      · rw[zka hil,←hb];simp_all[zdu]
      · exact zgQ)
   | (refine⟨⟨false,i+1,by omega,?_⟩,[0],by dsimp only;omega,?_⟩
      · rw[zka hil,←hb];simp_all[zdu]
      · exact zgQ)
  try (cases h30;done)
  all_goals (try simp only[CQ] at h30)
  all_goals
  refine Tri.exit ?_
  refine Tri.seq ?_
  refine sY [1,3,6] (fun P S K=>K ⟨[(1,S.get 1),(3,S.get 3),(6,(.atom (.int .i64 0)))],S.hp,S.nx,S.gh⟩) ?_
  all_goals
  refine Tri.block ?_
  refine Tri.loop (α:=(c:Bool) ×' (j:Nat) ×' (j≤x.rules.length∧c=(x.forms.all zdu && (x.rules.take j).all zde))) (fun z=>(fun(c:Bool) (j:Nat)=>(⟨[(1,.ptr 0 3 0 0),(3,.atom (.bool c)),(6,encI j)],[(0,some ⟨3,[encX x]⟩)],1,[]⟩:St)) z.1 z.2.1) (fun z=>(fun(c:Bool) (j:Nat)=>x.rules.length - j) z.1 z.2.1) ⟨b,0,⟨Nat.zero_le _,by rw[hb,List.take_of_length_le (by omega)];simp⟩⟩ [0] ?_ ?_
  ·exact zgQ
  rintro⟨c,j,⟨hj,hc⟩⟩
  refine Tri.seq ?_
  refine sZ [1,3,6,58] (fun P S K=>XvFieldAddr P 32 1 (S.get 1) (fun r1 _=>XvLoad P 29 (M S.hp S.nx) r1 (fun r2 _=>XvLen P 29 (M S.hp S.nx) r2 (fun r3 _=>XvBinOV P .lss 3 (.tmp 57) (S.get 6) r3 (fun r4 _=>K ⟨[(1,S.get 1),(3,S.get 3),(6,S.get 6),(58,r4)],S.hp,S.nx,S.gh⟩))))) fun K hK=>?_
  repeat' (first|(refine hK _ ?_;clear hK K)|refine And.intro ?_ ?_|exact cl|(refine st ?_;try simp only[encX,zaa,zab,zac,encF,encR,encA])|refine sx ?_ (by simp only[encX,zaa,zab,zac,encF,encR,encA];exact rfl)|fail)
  all_goals
  refine Tri.cond rfl (fun h58=>?_) (fun h58=>?_)
  ·try (cases h58;done)
   all_goals (try simp only[CQ] at h58)
   all_goals
   refine Tri.skip ?_
   refine Tri.seq ?_
   refine Tri.block ?_
   have hjl:j<x.rules.length:=by omega
   refine sZ [1,3,6,7] (fun P S K=>XvFieldAddr P 32 1 (S.get 1) (fun r0 _=>XvLoad P 29 (M S.hp S.nx) r0 (fun r1 _=>XvIndexAddr P 29 r1 (S.get 6) (fun r3 _=>XvLoad P 87 (M S.hp S.nx) r3 (fun r4 _=>XvAlloc P 87 S.nx (fun r5 ef5=>XvStore P 87 (M (Eff.hp ef5 S.nx S.hp) (S.nx+ef5.add.length)) r5 r4 (fun r6 ef6=>K ⟨[(1,S.get 1),(3,S.get 3),(6,S.get 6),(7,r5)],(Eff.hp ef6 (S.nx+ef5.add.length) (Eff.hp ef5 S.nx S.hp)),((S.nx+ef5.add.length)+ef6.add.length),S.gh⟩))))))) fun K hK=>?_
   repeat' (first|(refine hK _ ?_;clear hK K)|refine And.intro ?_ ?_|exact cl|(refine st ?_;try simp only[encX,zaa,zab,zac,encF,encR,encA,zcf hjl])|fail)
   all_goals
   refine rZ [1,3,6] (fun P S K=>Xgq (S.get 3) true (fun k=>XvFieldAddr P 87 0 (S.get 7) (fun r2 _=>k r2)) (fun g2 r2=>Xgq g2 true (fun k=>XvLoad P 9 (M S.hp S.nx) r2 (fun r3 _=>k r3)) (fun g3 r3=>Xge g3 true (fun k=>XvFnIV P (M S.hp S.nx) (.fn 41 []) [r3,(.atom (.int .i64 0)),(.atom (.int .i64 8))] k) (fun g4 r4 ef4=>XvPick g4 r4 (.atom (.bool false)) (fun r5 _=>Xgq r5 true (fun k=>XvFieldAddr P 87 1 (S.get 7) (fun r7 _=>k r7)) (fun g7 r7=>Xgq g7 true (fun k=>XvLoad P 9 (M (Eff.hp ef4 S.nx S.hp) (S.nx+ef4.add.length)) r7 (fun r8 _=>k r8)) (fun g8 r8=>Xge g8 true (fun k=>XvFnIV P (M (Eff.hp ef4 S.nx S.hp) (S.nx+ef4.add.length)) (.fn 41 []) [r8,(.atom (.int .i64 0)),(.atom (.int .i64 8))] k) (fun g9 r9 ef9=>XvPick g9 r9 (.atom (.bool false)) (fun r10 _=>Xgq r10 true (fun k=>XvFieldAddr P 87 2 (S.get 7) (fun r12 _=>k r12)) (fun g12 r12=>Xgq g12 true (fun k=>XvLoad P 9 (M (Eff.hp ef9 (S.nx+ef4.add.length) (Eff.hp ef4 S.nx S.hp)) ((S.nx+ef4.add.length)+ef9.add.length)) r12 (fun r13 _=>k r13)) (fun g13 r13=>Xge g13 true (fun k=>XvFnIV P (M (Eff.hp ef9 (S.nx+ef4.add.length) (Eff.hp ef4 S.nx S.hp)) ((S.nx+ef4.add.length)+ef9.add.length)) (.fn 41 []) [r13,(.atom (.int .i64 1)),(.atom (.int .i64 8))] k) (fun g14 r14 ef14=>XvPick g14 r14 (.atom (.bool false)) (fun r15 _=>Xgq r15 true (fun k=>XvFieldAddr P 87 3 (S.get 7) (fun r17 _=>k r17)) (fun g17 r17=>Xgq g17 true (fun k=>XvLoad P 3 (M (Eff.hp ef14 ((S.nx+ef4.add.length)+ef9.add.length) (Eff.hp ef9 (S.nx+ef4.add.length) (Eff.hp ef4 S.nx S.hp))) (((S.nx+ef4.add.length)+ef9.add.length)+ef14.add.length)) r17 (fun r18 _=>k r18)) (fun g18 r18=>Xgq g18 true (fun k=>XvBinOV P .geq 3 (.const (.int .i64 0)) r18 (.atom (.int .i64 0)) (fun r19 _=>k r19)) (fun g19 r19=>XvPick g19 r19 (.atom (.bool false)) (fun r20 _=>Xgq r20 true (fun k=>XvFieldAddr P 87 3 (S.get 7) (fun r22 _=>k r22)) (fun g22 r22=>Xgq g22 true (fun k=>XvLoad P 3 (M (Eff.hp ef14 ((S.nx+ef4.add.length)+ef9.add.length) (Eff.hp ef9 (S.nx+ef4.add.length) (Eff.hp ef4 S.nx S.hp))) (((S.nx+ef4.add.length)+ef9.add.length)+ef14.add.length)) r22 (fun r23 _=>k r23)) (fun g23 r23=>Xgq g23 true (fun k=>XvBinOV P .leq 3 (.const (.int .i64 8)) r23 (.atom (.int .i64 8)) (fun r24 _=>k r24)) (fun g24 r24=>XvPick g24 r24 (.atom (.bool false)) (fun r25 _=>K ⟨[(1,S.get 1),(3,r25),(6,S.get 6)],(Eff.hp ef14 ((S.nx+ef4.add.length)+ef9.add.length) (Eff.hp ef9 (S.nx+ef4.add.length) (Eff.hp ef4 S.nx S.hp))),(((S.nx+ef4.add.length)+ef9.add.length)+ef14.add.length),S.gh⟩))))))))))))))))))))) fun K hK=>?_
   repeat' (first|(refine hK _ ?_;clear hK K)|((first|refine zax (fun hg=>?_) (fun hg=>?_)|refine fun(hg:(_:Prop))=>?_)<;>((try simp only[BQ] at hg);try (exfalso;omega)))|refine And.intro ?_ ?_|exact cl|refine .inl ⟨_,_,za2 _ 1 24 (up47 (hx.forms _ (zb0 hil)).word) (by decide),?_⟩|refine .inl ⟨_,_,za2 _ 1 24 (up47 (hx.forms _ (zb0 hil)).lem) (by decide),?_⟩|refine .inl ⟨_,_,za2 _ 1 8 (up47 (hx.forms _ (zb0 hil)).cls) (by decide),?_⟩|refine .inl ⟨_,_,za2 _ 0 8 (up47 (hx.rules _ (zcD hjl)).suf) (by decide),?_⟩|refine .inl ⟨_,_,za2 _ 0 8 (up47 (hx.rules _ (zcD hjl)).put) (by decide),?_⟩|refine .inl ⟨_,_,za2 _ 1 8 (up47 (hx.rules _ (zcD hjl)).cls) (by decide),?_⟩|refine .inl ⟨_,_,za2 _ 0 8 (up47 (hx.prefs _ (zcU hkl)).after) (by decide),?_⟩|refine .inl ⟨_,_,za2 _ 0 8 (up47 (hx.prefs _ (zcU hkl)).before) (by decide),?_⟩|refine .inl ⟨_,_,za2 _ 1 8 (up47 (hx.prefs _ (zcU hkl)).cls) (by decide),?_⟩|(refine st ?_;try simp only[encX,zaa,zab,zac,encF,encR,encA,↓SE])|fail)
   all_goals
   refine rY [1,3,6] (fun P S K=>XvBinOV P .add 3 (.const (.int .i64 1)) (S.get 6) (.atom (.int .i64 1)) (fun r1 _=>K ⟨[(1,S.get 1),(3,S.get 3),(6,r1)],S.hp,S.nx,S.gh⟩)) ?_
   all_goals try simp (disch:=omega) only[zaf,zae]
   all_goals
   first
   | (refine⟨⟨decide ((fR x.rules j).least≤8),j+1,by omega,?_⟩,[0],by dsimp only;omega,?_⟩
      · rw[zj9 hjl,←Bool.and_assoc,←hc];simp_all[zde]<;>omega
      · exact zgQ)
   | (refine⟨⟨false,j+1,by omega,?_⟩,[0],by dsimp only;omega,?_⟩
      · rw[zj9 hjl,←Bool.and_assoc,←hc];simp_all[zde]<;>omega
      · exact zgQ)
  try (cases h58;done)
  all_goals (try simp only[CQ] at h58)
  all_goals
  refine Tri.exit ?_
  refine Tri.seq ?_
  refine sY [1,3,8] (fun P S K=>K ⟨[(1,S.get 1),(3,S.get 3),(8,(.atom (.int .i64 0)))],S.hp,S.nx,S.gh⟩) ?_
  all_goals
  refine Tri.block ?_
  refine Tri.loop (α:=(d:Bool) ×' (k:Nat) ×' (k≤x.prefs.length∧d=(x.forms.all zdu && x.rules.all zde && (x.prefs.take k).all zfA))) (fun z=>(fun(d:Bool) (k:Nat)=>(⟨[(1,.ptr 0 3 0 0),(3,.atom (.bool d)),(8,encI k)],[(0,some ⟨3,[encX x]⟩)],1,[]⟩:St)) z.1 z.2.1) (fun z=>(fun(d:Bool) (k:Nat)=>x.prefs.length - k) z.1 z.2.1) ⟨c,0,⟨Nat.zero_le _,by rw[hc,List.take_of_length_le (by omega)];simp⟩⟩ [0] ?_ ?_
  ·exact zgQ
  rintro⟨d,k,⟨hk,hd⟩⟩
  refine Tri.seq ?_
  refine sZ [1,3,8,96] (fun P S K=>XvFieldAddr P 32 2 (S.get 1) (fun r1 _=>XvLoad P 30 (M S.hp S.nx) r1 (fun r2 _=>XvLen P 30 (M S.hp S.nx) r2 (fun r3 _=>XvBinOV P .lss 3 (.tmp 95) (S.get 8) r3 (fun r4 _=>K ⟨[(1,S.get 1),(3,S.get 3),(8,S.get 8),(96,r4)],S.hp,S.nx,S.gh⟩))))) fun K hK=>?_
  repeat' (first|(refine hK _ ?_;clear hK K)|refine And.intro ?_ ?_|exact cl|(refine st ?_;try simp only[encX,zaa,zab,zac,encF,encR,encA])|refine sx ?_ (by simp only[encX,zaa,zab,zac,encF,encR,encA];exact rfl)|fail)
  all_goals
  refine Tri.cond rfl (fun h96=>?_) (fun h96=>?_)
  ·try (cases h96;done)
   all_goals (try simp only[CQ] at h96)
   all_goals
   refine Tri.skip ?_
   refine Tri.seq ?_
   refine Tri.block ?_
   have hkl:k<x.prefs.length:=by omega
   have hp1:=(hx.prefs _ (zcU hkl)).after
   have hp2:=(hx.prefs _ (zcU hkl)).before
   refine sZ [1,3,8,9] (fun P S K=>XvFieldAddr P 32 2 (S.get 1) (fun r0 _=>XvLoad P 30 (M S.hp S.nx) r0 (fun r1 _=>XvIndexAddr P 30 r1 (S.get 8) (fun r3 _=>XvLoad P 89 (M S.hp S.nx) r3 (fun r4 _=>XvAlloc P 89 S.nx (fun r5 ef5=>XvStore P 89 (M (Eff.hp ef5 S.nx S.hp) (S.nx+ef5.add.length)) r5 r4 (fun r6 ef6=>K ⟨[(1,S.get 1),(3,S.get 3),(8,S.get 8),(9,r5)],(Eff.hp ef6 (S.nx+ef5.add.length) (Eff.hp ef5 S.nx S.hp)),((S.nx+ef5.add.length)+ef6.add.length),S.gh⟩))))))) fun K hK=>?_
   repeat' (first|(refine hK _ ?_;clear hK K)|refine And.intro ?_ ?_|exact cl|(refine st ?_;try simp only[encX,zaa,zab,zac,encF,encR,encA,zeA hkl])|fail)
   all_goals
   refine rZ [1,3,8] (fun P S K=>Xgq (S.get 3) true (fun k=>XvFieldAddr P 89 0 (S.get 9) (fun r2 _=>k r2)) (fun g2 r2=>Xgq g2 true (fun k=>XvLoad P 9 (M S.hp S.nx) r2 (fun r3 _=>k r3)) (fun g3 r3=>Xge g3 true (fun k=>XvFnIV P (M S.hp S.nx) (.fn 41 []) [r3,(.atom (.int .i64 0)),(.atom (.int .i64 8))] k) (fun g4 r4 ef4=>XvPick g4 r4 (.atom (.bool false)) (fun r5 _=>Xgq r5 true (fun k=>XvFieldAddr P 89 1 (S.get 9) (fun r7 _=>k r7)) (fun g7 r7=>Xgq g7 true (fun k=>XvLoad P 9 (M (Eff.hp ef4 S.nx S.hp) (S.nx+ef4.add.length)) r7 (fun r8 _=>k r8)) (fun g8 r8=>Xge g8 true (fun k=>XvFnIV P (M (Eff.hp ef4 S.nx S.hp) (S.nx+ef4.add.length)) (.fn 41 []) [r8,(.atom (.int .i64 0)),(.atom (.int .i64 8))] k) (fun g9 r9 ef9=>XvPick g9 r9 (.atom (.bool false)) (fun r10 _=>Xgq r10 true (fun k=>XvFieldAddr P 89 2 (S.get 9) (fun r12 _=>k r12)) (fun g12 r12=>Xgq g12 true (fun k=>XvLoad P 9 (M (Eff.hp ef9 (S.nx+ef4.add.length) (Eff.hp ef4 S.nx S.hp)) ((S.nx+ef4.add.length)+ef9.add.length)) r12 (fun r13 _=>k r13)) (fun g13 r13=>Xge g13 true (fun k=>XvFnIV P (M (Eff.hp ef9 (S.nx+ef4.add.length) (Eff.hp ef4 S.nx S.hp)) ((S.nx+ef4.add.length)+ef9.add.length)) (.fn 41 []) [r13,(.atom (.int .i64 1)),(.atom (.int .i64 8))] k) (fun g14 r14 ef14=>XvPick g14 r14 (.atom (.bool false)) (fun r15 _=>Xgq r15 true (fun k=>XvFieldAddr P 89 0 (S.get 9) (fun r17 _=>k r17)) (fun g17 r17=>Xgq g17 true (fun k=>XvLoad P 9 (M (Eff.hp ef14 ((S.nx+ef4.add.length)+ef9.add.length) (Eff.hp ef9 (S.nx+ef4.add.length) (Eff.hp ef4 S.nx S.hp))) (((S.nx+ef4.add.length)+ef9.add.length)+ef14.add.length)) r17 (fun r18 _=>k r18)) (fun g18 r18=>Xgq g18 true (fun k=>XvLen P 9 (M (Eff.hp ef14 ((S.nx+ef4.add.length)+ef9.add.length) (Eff.hp ef9 (S.nx+ef4.add.length) (Eff.hp ef4 S.nx S.hp))) (((S.nx+ef4.add.length)+ef9.add.length)+ef14.add.length)) r18 (fun r19 _=>k r19)) (fun g19 r19=>Xgq g19 true (fun k=>XvFieldAddr P 89 1 (S.get 9) (fun r20 _=>k r20)) (fun g20 r20=>Xgq g20 true (fun k=>XvLoad P 9 (M (Eff.hp ef14 ((S.nx+ef4.add.length)+ef9.add.length) (Eff.hp ef9 (S.nx+ef4.add.length) (Eff.hp ef4 S.nx S.hp))) (((S.nx+ef4.add.length)+ef9.add.length)+ef14.add.length)) r20 (fun r21 _=>k r21)) (fun g21 r21=>Xgq g21 true (fun k=>XvLen P 9 (M (Eff.hp ef14 ((S.nx+ef4.add.length)+ef9.add.length) (Eff.hp ef9 (S.nx+ef4.add.length) (Eff.hp ef4 S.nx S.hp))) (((S.nx+ef4.add.length)+ef9.add.length)+ef14.add.length)) r21 (fun r22 _=>k r22)) (fun g22 r22=>Xgq g22 true (fun k=>XvBinOV P .add 3 (.tmp 126) r19 r22 (fun r23 _=>k r23)) (fun g23 r23=>Xgq g23 true (fun k=>XvBinOV P .gtr 3 (.const (.int .i64 0)) r23 (.atom (.int .i64 0)) (fun r24 _=>k r24)) (fun g24 r24=>XvPick g24 r24 (.atom (.bool false)) (fun r25 _=>K ⟨[(1,S.get 1),(3,r25),(8,S.get 8)],(Eff.hp ef14 ((S.nx+ef4.add.length)+ef9.add.length) (Eff.hp ef9 (S.nx+ef4.add.length) (Eff.hp ef4 S.nx S.hp))),(((S.nx+ef4.add.length)+ef9.add.length)+ef14.add.length),S.gh⟩)))))))))))))))))))))) fun K hK=>?_
   repeat' (first|(refine hK _ ?_;clear hK K)|((first|refine zax (fun hg=>?_) (fun hg=>?_)|refine fun(hg:(_:Prop))=>?_)<;>((try simp only[BQ] at hg);try (exfalso;omega)))|refine And.intro ?_ ?_|exact cl|refine .inl ⟨_,_,za2 _ 1 24 (up47 (hx.forms _ (zb0 hil)).word) (by decide),?_⟩|refine .inl ⟨_,_,za2 _ 1 24 (up47 (hx.forms _ (zb0 hil)).lem) (by decide),?_⟩|refine .inl ⟨_,_,za2 _ 1 8 (up47 (hx.forms _ (zb0 hil)).cls) (by decide),?_⟩|refine .inl ⟨_,_,za2 _ 0 8 (up47 (hx.rules _ (zcD hjl)).suf) (by decide),?_⟩|refine .inl ⟨_,_,za2 _ 0 8 (up47 (hx.rules _ (zcD hjl)).put) (by decide),?_⟩|refine .inl ⟨_,_,za2 _ 1 8 (up47 (hx.rules _ (zcD hjl)).cls) (by decide),?_⟩|refine .inl ⟨_,_,za2 _ 0 8 (up47 (hx.prefs _ (zcU hkl)).after) (by decide),?_⟩|refine .inl ⟨_,_,za2 _ 0 8 (up47 (hx.prefs _ (zcU hkl)).before) (by decide),?_⟩|refine .inl ⟨_,_,za2 _ 1 8 (up47 (hx.prefs _ (zcU hkl)).cls) (by decide),?_⟩|(refine st ?_;try simp only[encX,zaa,zab,zac,encF,encR,encA,↓SE])|fail)
   all_goals try simp (disch:=omega) only[zaf,zae]
   all_goals
   refine rY [1,3,8] (fun P S K=>XvBinOV P .add 3 (.const (.int .i64 1)) (S.get 8) (.atom (.int .i64 1)) (fun r1 _=>K ⟨[(1,S.get 1),(3,S.get 3),(8,r1)],S.hp,S.nx,S.gh⟩)) ?_
   all_goals try simp (disch:=omega) only[zaf,zae]
   all_goals
   first
   | (refine⟨⟨decide (0<(fA x.prefs k).after.size+(fA x.prefs k).before.size),k+1,by omega,?_⟩,[0],by dsimp only;omega,?_⟩
      · rw[zkb hkl,←Bool.and_assoc,←hd];simp_all[zfA]
      · exact zgQ)
   | (refine⟨⟨false,k+1,by omega,?_⟩,[0],by dsimp only;omega,?_⟩
      · rw[zkb hkl,←Bool.and_assoc,←hd];simp_all[zfA]
      · exact zgQ)
  try (cases h96;done)
  all_goals (try simp only[CQ] at h96)
  all_goals
  refine Tri.exit ?_
  refine Tri.seq ?_
  refine sY [131] (fun P S K=>XvUn .not (S.get 3) (fun r1 _=>K ⟨[(131,r1)],S.hp,S.nx,S.gh⟩)) ?_
  all_goals try simp (disch:=omega) only[zaf,zae]
  all_goals
  refine Tri.cond rfl (fun h131=>?_) (fun h131=>?_)
  ·try (cases h131;done)
   all_goals (try simp only[CQ] at h131)
   all_goals
   refine sY [2] (fun P S K=>K ⟨[(2,(.atom (.int .i64 1)))],S.hp,S.nx,S.gh⟩) ?_
   all_goals
   refine Tri.ret ?_
   show ResOk _ _ _ _
   have hfx:zfz x=false:=by
     unfold zfz;rw[List.take_of_length_le (by omega)] at hd;rw[←hd];assumption
   rw[show za7 x=1 by unfold za7;rw[if_neg (by omega),if_neg (by rw[hfx];decide)]]
   exact ResOk.val lsrM1 lpvM1
  try (cases h131;done)
  all_goals (try simp only[CQ] at h131)
  all_goals
  refine Tri.skip ?_
  refine sY [2] (fun P S K=>K ⟨[(2,(.atom (.int .i64 0)))],S.hp,S.nx,S.gh⟩) ?_
  all_goals
  refine Tri.ret ?_
  show ResOk _ _ _ _
  have hfx:zfz x=true:=by
    unfold zfz;rw[List.take_of_length_le (by omega)] at hd;rw[←hd];assumption
  rw[show za7 x=0 by unfold za7;rw[if_neg (by omega),if_pos hfx]]
  exact ResOk.val lsrM1 lpvM1
theorem za0{p:Prop}(h:p:=by(refine⟨4,?_,?_,rfl,by simp,rfl,fun _ h _=>absurd h (Nat.not_lt_zero _)⟩<;>(simp only[List.forall_mem_cons];repeat' (first|refine And.intro ?_ ?_|(intro p hp;exact absurd hp List.not_mem_nil)|rfl|exact sp (zaF _)|exact sp (zaH _)|exact(zau _ _ _ (zah _)).trans (zbE _ _).symm|exact(zau _ _ _ (zag _)).trans (zbD _ _).symm|exact sp (by assumption)|(intro o ho;cases ho;refine⟨by decide,?_⟩;first|(refine LeqS.row rfl ?_ ?_;(next=>(first|rfl|(simp only[List.map_append,List.map_cons,List.map_nil,List.append_nil,List.nil_append,List.append_assoc,List.cons_append,encI,encS,ints,strs];done)|(simp[encI,encS,ints,strs,encF,encR,encA];done)));(next=>(first|rfl|exact zao _|exact zaq _|exact zas _|exact zar _|exact zaz _|exact zaK _|exact zaL _|exact zap _|(simp[zap,zao,zaq,zas,zar,zaE,PV.pure,zah,zag,zaF,zaz,zaK,zaL,zaH,zap,encF,encS];done)));done)|refine⟨_,rfl,rfl,?_⟩)|(simp[St.born,St.known,retV,St.get,St.obj,lk,sealed,PV.ren,renL,rmap,AO.ren,ints,strs,encI,encS,zan,zam,zal,zak,zaD,zaC,zaB,zaA,zaW,zaV,zaU,zaT,zbB,zaa,zab,zac,zad,zai,zaj,zat,zaJ,zav,zaQ,zaw,zaR,zaG,encF,encR,encA,zbu]<;>omega))));first|done|fail):p:=h
theorem lstM2{p:Prop}(h:p:=by(first|rfl|(simp[St.born,St.known,retV,St.get,St.obj,lk,sealed,PV.ren,renL,rmap,AO.ren,ints,strs,encI,encS,zan,zam,zal,zak,zaD,zaC,zaB,zaA,zaW,zaV,zaU,zaT,zbB,zaa,zab,zac,zad,zai,zaj,zat,zaJ,zav,zaQ,zaw,zaR,zaG,encF,encR,encA,zbu,zaG,List.take_length];done));first|done|fail):p:=h
theorem zbL{p:Prop}(h:p:=by(first|rfl|(simp[zah,zag,PV.pure,zaE,zao,zaq,zas,zar,zaF,zaz,zaK,zaL,zaH,zap,encF,encS];done));first|done|fail):p:=h
theorem zbX{p:Prop}(h:p:=by(first|rfl|(simp[St.born,St.known,retV,St.get,St.obj,lk,sealed,PV.ren,renL,rmap,AO.ren,ints,strs,encI,encS,zan,zam,zal,zak,zaD,zaC,zaB,zaA,zaW,zaV,zaU,zaT,zbB,zaa,zab,zac,zad,zai,zaj,zat,zaJ,zav,zaQ,zaw,zaR,zaG,encF,encR,encA,zbu];done));first|done|fail):p:=h
theorem zbu{α β:Type}(f:α→β) (o:List α) (x:β):(o.map f++[x]).take (o.length+1)=o.map f++[x]:=List.take_of_length_le (by simp)
theorem zmv{w p:ByteArray}{a b:Nat}(hw:w.size≤140737488355328) (hp:p.size≤140737488355328):(w.extract a b).size+p.size≤9223372036854775807:=by
  rw[ByteArray.size_extract];omega
theorem zk3 (r:RuleD) (w:ByteArray) (hr:HeldR r) (hw:w.size≤140737488355328):Pure Tryz.prog 77 [encR r,encS w] (zk2 r w) []:=by
  have hr1:=hr.suf
  have hr2:=hr.put
  have hr3:=hr.least.1
  have hr4:=hr.least.2
  refine Pure.intro (ts:=[4,5]) Tryz.func77 (by kernel_rfl) rfl rfl rfl (Nat.le_of_ble_eq_true rfl) ?_ ?_
  · simp[encR,encS,encI,PV.pure,zaE]
  refine sZ [1,2] (fun P S K=>XvBox S.nx (S.get 0) (fun r0 ef0=>K ⟨[(1,S.get 1),(2,r0)],(Eff.hp ef0 S.nx S.hp),(S.nx+ef0.add.length),S.gh⟩)) fun K hK=>?_
  repeat' (first|(refine hK _ ?_;clear hK K)|refine And.intro ?_ ?_|exact cl|(refine st ?_;try simp only[encR])|fail)
  all_goals
  refine sZ [1,2,6] (fun P S K=>XvLen P 9 (M S.hp S.nx) (S.get 1) (fun r1 _=>XvFieldAddr P 87 0 (S.get 2) (fun r2 _=>XvLoad P 9 (M S.hp S.nx) r2 (fun r3 _=>XvLen P 9 (M S.hp S.nx) r3 (fun r4 _=>XvBinOV P .sub 3 (.tmp 11) r1 r4 (fun r5 _=>K ⟨[(1,S.get 1),(2,S.get 2),(6,r5)],S.hp,S.nx,S.gh⟩)))))) fun K hK=>?_
  repeat' (first|(refine hK _ ?_;clear hK K)|(refine st ?_;try simp only[encR])|fail)
  all_goals try simp (disch:=omega) only[zaf,zae]
  all_goals
  refine Tri.seq ?_
  refine sD 26 [1,2,6,38] (fun P GD S K=>XvFieldAddr P 87 3 (S.get 2) (fun r1 ef1=>XvLoad P 3 (M S.hp S.nx) r1 (fun r2 ef2=>XvBinOV P .lss 3 (.tmp 15) (S.get 6) r2 (fun r3 ef3=>Xge r3 false (fun k=>k (S.get 6) e0) (fun g5 r5 ef5=>Xge g5 false (fun k=>XvBinOV P .lss 3 (.const (.int .i64 0)) r5 (.atom (.int .i64 0)) k) (fun g6 r6 ef6=>XvPick g6 (.atom (.bool true)) r6 (fun r7 ef7=>Xge r7 false (fun k=>k (S.get 1) e0) (fun g9 r9 ef9=>Xge g9 false (fun k=>k (S.get 6) e0) (fun g10 r10 ef10=>Xge g10 false (fun k=>XvMinMax true r10 (.atom (.int .i64 0)) k) (fun g11 r11 ef11=>Xge g11 false (fun k=>XvSliceV P 9 r9 (some r11) none k) (fun g12 r12 ef12=>Xge g12 false (fun k=>XvFieldAddr P 87 0 (S.get 2) k) (fun g13 r13 ef13=>Xge g13 false (fun k=>XvLoad P 9 (M S.hp S.nx) r13 k) (fun g14 r14 ef14=>Xge g14 false (fun k=>XvBinOV P .neq 9 (.tmp 27) r12 r14 k) (fun g15 r15 ef15=>XvPick g15 (.atom (.bool true)) r15 (fun r16 ef16=>Xge r16 false (fun k=>k (S.get 6) e0) (fun g18 r18 ef18=>Xge g18 false (fun k=>XvBinOV P .eql 3 (.const (.int .i64 0)) r18 (.atom (.int .i64 0)) k) (fun g19 r19 ef19=>Xge g19 false (fun k=>k r19 e0) (fun g20 r20 ef20=>Xge r20 true (fun k=>XvFieldAddr P 87 1 (S.get 2) k) (fun g21 r21 ef21=>Xge g21 true (fun k=>XvLoad P 9 (M S.hp S.nx) r21 k) (fun g22 r22 ef22=>Xge g22 true (fun k=>XvBinOV P .eql 9 (.const (.string { data := #[] })) r22 (.atom (.string { data := #[] })) k) (fun g23 r23 ef23=>Xge g20 false (fun k=>XvPick g23 r23 (.atom (.bool false)) k) (fun g24 r24 ef24=>XvPick g24 (.atom (.bool true)) r24 (fun r25 ef25=>(trOk S.nx GD [⟨S.nx,0,[],[],[]⟩,⟨S.nx,0,ef1.rd,[],[]⟩,⟨S.nx,0,ef2.rd,[],[]⟩,⟨S.nx,0,ef3.rd,[],[]⟩,⟨S.nx,0,[],[],[]⟩,⟨S.nx,0,ef5.rd,[],[]⟩,⟨S.nx,0,ef6.rd,[],[]⟩,⟨S.nx,0,ef7.rd,[],[]⟩,⟨S.nx,0,[],[],[]⟩,⟨S.nx,0,ef9.rd,[],[]⟩,⟨S.nx,0,ef10.rd,[],[]⟩,⟨S.nx,0,ef11.rd,[],[]⟩,⟨S.nx,0,ef12.rd,[],[]⟩,⟨S.nx,0,ef13.rd,[],[]⟩,⟨S.nx,0,ef14.rd,[],[]⟩,⟨S.nx,0,ef15.rd,[],[]⟩,⟨S.nx,0,ef16.rd,[],[]⟩,⟨S.nx,0,[],[],[]⟩,⟨S.nx,0,ef18.rd,[],[]⟩,⟨S.nx,0,ef19.rd,[],[]⟩,⟨S.nx,0,ef20.rd,[],[]⟩,⟨S.nx,0,ef21.rd,[],[]⟩,⟨S.nx,0,ef22.rd,[],[]⟩,⟨S.nx,0,ef23.rd,[],[]⟩,⟨S.nx,0,ef24.rd,[],[]⟩,⟨S.nx,0,ef25.rd,[],[]⟩]=true∧K ⟨[(1,S.get 1),(2,S.get 2),(6,S.get 6),(38,r25)],S.hp,S.nx,S.gh⟩)))))))))))))))))))))))) fun K hK=>?_
  repeat' (first|(refine hK _ ?_;clear hK K)|(refine(?_:trOk _ _ _=true);kernel_rfl)|((first|refine zax (fun hg=>?_) (fun hg=>?_)|refine fun(hg:(_:Prop))=>?_)<;>((try simp only[BQ] at hg);try (exfalso;omega)))|refine And.intro ?_ ?_|exact cl|exact zmv hw hr2|(refine st ?_;try simp only[encR])|fail)
  all_goals
  refine Tri.cond rfl (fun h38=>?_) (fun h38=>?_)
  ·try (cases h38;done)
   all_goals (try simp only[CQ] at h38)
   all_goals
   refine sZ [4,5] (fun P S K=>K ⟨[(4,(.atom (.string { data := #[] }))),(5,(.atom (.bool false)))],S.hp,S.nx,S.gh⟩) fun K hK=>?_
   repeat' (first|(refine hK _ ?_;clear hK K)|refine And.intro ?_ ?_|exact cl|(refine st ?_;try simp only[encR])|fail)
   all_goals
   refine Tri.ret ?_
   show ResOk _ _ _ _
   rw[show zk2 r w=.tup [encS .empty,.atom (.bool false)] by unfold zk2;rw[znz (by first|exact .inl (by omega)|exact .inr (.inl (by omega))|exact .inr (.inr (.inl (by assumption)))|exact .inr (.inr (.inr ⟨by omega,by assumption⟩)))]]
   exact ResOk.val zbX zbL
  try (cases h38;done)
  all_goals (try simp only[CQ] at h38)
  all_goals
  refine Tri.skip ?_
  refine sD 8 [4,5] (fun P GD S K=>XvSliceV P 9 (S.get 1) none (some (S.get 6)) (fun r2 ef2=>XvFieldAddr P 87 1 (S.get 2) (fun r3 ef3=>XvLoad P 9 (M S.hp S.nx) r3 (fun r4 ef4=>XvBinOV P .add 9 (.tmp 43) r2 r4 (fun r5 ef5=>(trOk S.nx GD [⟨S.nx,0,[],[],[]⟩,⟨S.nx,0,[],[],[]⟩,⟨S.nx,0,ef2.rd,[],[]⟩,⟨S.nx,0,ef3.rd,[],[]⟩,⟨S.nx,0,ef4.rd,[],[]⟩,⟨S.nx,0,ef5.rd,[],[]⟩,⟨S.nx,0,[],[],[]⟩,⟨S.nx,0,[],[],[]⟩]=true∧K ⟨[(4,r5),(5,(.atom (.bool true)))],S.hp,S.nx,S.gh⟩)))))) fun K hK=>?_
  repeat' (first|(refine hK _ ?_;clear hK K)|(refine(?_:trOk _ _ _=true);kernel_rfl)|((first|refine zax (fun hg=>?_) (fun hg=>?_)|refine fun(hg:(_:Prop))=>?_)<;>((try simp only[BQ] at hg);try (exfalso;omega)))|refine And.intro ?_ ?_|exact cl|exact zmv hw hr2|(refine st ?_;try simp only[encR])|fail)
  all_goals try simp (disch:=omega) only[zaf,zae]
  all_goals
  refine Tri.ret ?_
  show ResOk _ _ _ _
  rw[show zk2 r w=.tup [encS (w.extract 0 ((w.size:Int) - r.suf.size).toNat++r.put),.atom (.bool true)] by unfold zk2;rw[zny (by omega) (by omega) (by assumption) (by first|(intro;assumption)|(intro;omega))]]
  exact ResOk.val zbX zbL
theorem zrm{l:List FormD}{i:Nat}(h:i<l.length):l.drop i=fF l i :: l.drop (i+1):=by rw[List.drop_eq_getElem_cons h,zek h]
theorem zhy{l o:List FormD}{f:FormD}{d:Bool}{i:Nat}(hi:i<l.length) (ho:insF f l=o++(if d then l.drop i else insF f (l.drop i))) (hd:d=false) (h:fLt f (fF l i)=true):
    insF f l=(o++[f]++[fF l i])++(if true then l.drop (i+1) else insF f (l.drop (i+1))):=by
  rw[ho,hd,zrm hi];simp[insF,h]
theorem zhx{l o:List FormD}{f:FormD}{d:Bool}{i:Nat}(hi:i<l.length) (ho:insF f l=o++(if d then l.drop i else insF f (l.drop i))) (h:d=true∨fLt f (fF l i)=false):
    insF f l=(o++[fF l i])++(if d then l.drop (i+1) else insF f (l.drop (i+1))):=by
  rw[ho,zrm hi]
  cases d with
  | true=>simp
  | false => rcases h with h|h
             · cases h
             · simp[insF,h]
theorem fLt_a{f g:FormD}(h:Op.bytesLess f.lem.toList g.lem.toList=true):fLt f g=true:=by unfold fLt sLt;rw[h];rfl
theorem fLt_b{f g:FormD}(e:f.lem=g.lem) (h2:Op.bytesLess f.cls.toList g.cls.toList=true):fLt f g=true:=by unfold fLt sLt;rw[h2,decide_eq_true e];simp
theorem fLt_c{f g:FormD}(h:Op.bytesLess f.lem.toList g.lem.toList=false) (e:¬f.lem=g.lem):fLt f g=false:=by unfold fLt sLt;rw[h,decide_eq_false e];rfl
theorem fLt_d{f g:FormD}(h:Op.bytesLess f.lem.toList g.lem.toList=false) (h2:Op.bytesLess f.cls.toList g.cls.toList=false):fLt f g=false:=by unfold fLt sLt;rw[h,h2];simp
theorem lenA{o:List FormD}{d:Bool}{i:Nat}{f g:FormD}(h:o.length+(if d then 0 else 1)≤i+1) (hd:d=false):(o++[f]++[g]).length+(if true then 0 else 1)≤i+1+1:=by
  subst hd;simp at h ⊢;omega
theorem lenB{o:List FormD}{d:Bool}{i:Nat}{g:FormD}(h:o.length+(if d then 0 else 1)≤i+1):(o++[g]).length+(if d then 0 else 1)≤i+1+1:=by
  rw[List.length_append];simp only[List.length_cons,List.length_nil];omega
theorem noneF{l:List FormD}{f:FormD}(h:∀j,j<l.length→¬fF l j=f):¬f∈l:=fun hm=>by
  obtain⟨j,hj,e⟩:=List.getElem_of_mem hm
  exact h j hj (by rw[zek hj];exact e)
theorem zgh{l:List FormD}{f:FormD}{i:Nat}(hno:∀j,j<i→¬fF l j=f) (h:¬fF l i=f):∀j,j<i+1→¬fF l j=f:=fun j hj=>by
  rcases Nat.lt_succ_iff_lt_or_eq.1 hj with hj|rfl
  · exact hno j hj
  · exact h
theorem zjd (l:List FormD) (f:FormD) (hl:l.length≤1000000):Pure Tryz.prog 76 [zaa l,encF f] (zaa (putF l f)) []:=by
  refine Pure.intro (ts:=[4]) Tryz.func76 (by kernel_rfl) rfl rfl rfl (Nat.le_of_ble_eq_true rfl) ?_ ?_
  · simp[zaH,encF,encS,PV.pure,zaE]
  refine sZ [0,3] (fun P S K=>XvBox S.nx (S.get 1) (fun r0 ef0=>K ⟨[(0,S.get 0),(3,r0)],(Eff.hp ef0 S.nx S.hp),(S.nx+ef0.add.length),S.gh⟩)) fun K hK=>?_
  repeat' (first|(refine hK _ ?_;clear hK K)|refine And.intro ?_ ?_|exact cl|(refine st ?_;try simp only[zaa,encF])|fail)
  all_goals
  refine sZ [0,3,5] (fun P S K=>K ⟨[(0,S.get 0),(3,S.get 3),(5,(.atom (.slice none 0 0)))],S.hp,S.nx,S.gh⟩) fun K hK=>?_
  repeat' (first|(refine hK _ ?_;clear hK K)|refine And.intro ?_ ?_|exact cl|(refine st ?_;try simp only[zaa,encF])|fail)
  refine Tri.born 5 3 rfl ?_
  all_goals
  refine sZ [0,3,5,6] (fun P S K=>K ⟨[(0,S.get 0),(3,S.get 3),(5,S.get 5),(6,(.atom (.bool false)))],S.hp,S.nx,S.gh⟩) fun K hK=>?_
  repeat' (first|(refine hK _ ?_;clear hK K)|refine And.intro ?_ ?_|exact cl|(refine st ?_;try simp only[zaa,encF])|fail)
  all_goals
  refine Tri.seq ?_
  refine sZ [0,3,5,6,7] (fun P S K=>K ⟨[(0,S.get 0),(3,S.get 3),(5,S.get 5),(6,S.get 6),(7,(.atom (.int .i64 0)))],S.hp,S.nx,S.gh⟩) fun K hK=>?_
  repeat' (first|(refine hK _ ?_;clear hK K)|refine And.intro ?_ ?_|exact cl|(refine st ?_;try simp only[zaa,encF])|fail)
  all_goals
  refine Tri.block ?_
  refine Tri.loop (α:=(o:List FormD) ×' (d:Bool) ×' (i:Nat) ×' (i≤l.length∧o.length+(if d then 0 else 1)≤i+1∧(∀j,j<i→¬fF l j=f)∧insF f l=o++(if d then l.drop i else insF f (l.drop i)))) (fun z=>(fun(o:List FormD) (d:Bool) (i:Nat)=>(⟨[(0,zaa l),(3,.ptr 0 3 0 0),(5,.ob 1 3 0 o.length),(6,.atom (.bool d)),(7,encI i)],[(0,some ⟨3,[encF f]⟩),(1,some ⟨3,o.map encF⟩)],2,[]⟩:St)) z.1 z.2.1 z.2.2.1) (fun z=>(fun(o:List FormD) (d:Bool) (i:Nat)=>l.length - i) z.1 z.2.1 z.2.2.1) ⟨[],false,0,⟨Nat.zero_le _,by simp,fun j hj=>absurd hj (Nat.not_lt_zero _),by simp⟩⟩ [0,1] ?_ ?_
  ·exact za0
  rintro⟨o,d,i,⟨hi,hol,hno,ho⟩⟩
  have hol2:o.length≤i+1:=by omega
  refine Tri.seq ?_
  refine sZ [0,3,5,6,7,11] (fun P S K=>XvLen P 28 (M S.hp S.nx) (S.get 0) (fun r2 _=>XvBinOV P .lss 3 (.tmp 10) (S.get 7) r2 (fun r3 _=>K ⟨[(0,S.get 0),(3,S.get 3),(5,S.get 5),(6,S.get 6),(7,S.get 7),(11,r3)],S.hp,S.nx,S.gh⟩))) fun K hK=>?_
  repeat' (first|(refine hK _ ?_;clear hK K)|refine And.intro ?_ ?_|exact cl|(refine st ?_;try simp only[zaa,encF])|fail)
  all_goals
  refine Tri.cond rfl (fun h11=>?_) (fun h11=>?_)
  ·try (cases h11;done)
   all_goals (try simp only[CQ] at h11)
   all_goals
   refine Tri.skip ?_
   refine Tri.seq ?_
   refine Tri.block ?_
   refine Tri.seq ?_
   have hil:i<l.length:=by omega
   refine sD 6 [0,3,5,6,7,19] (fun P GD S K=>XvIndexAddr P 28 (S.get 0) (S.get 7) (fun r2 ef2=>XvLoad P 76 (M S.hp S.nx) r2 (fun r3 ef3=>XvLoad P 76 (M S.hp S.nx) (S.get 3) (fun r4 ef4=>XvBinOV P .eql 76 (.tmp 18) r3 r4 (fun r5 ef5=>(trOk S.nx GD [⟨S.nx,0,[],[],[]⟩,⟨S.nx,0,[],[],[]⟩,⟨S.nx,0,ef2.rd,[],[]⟩,⟨S.nx,0,ef3.rd,[],[]⟩,⟨S.nx,0,ef4.rd,[],[]⟩,⟨S.nx,0,ef5.rd,[],[]⟩]=true∧K ⟨[(0,S.get 0),(3,S.get 3),(5,S.get 5),(6,S.get 6),(7,S.get 7),(19,r5)],S.hp,S.nx,S.gh⟩)))))) fun K hK=>?_
   repeat' (first|(refine hK _ ?_;clear hK K)|(refine(?_:trOk _ _ _=true);(try simp only[zaS hil]);kernel_rfl)|refine And.intro ?_ ?_|exact cl|(refine st ?_;try simp only[zaa,encF,zaS hil])|fail)
   all_goals
   refine Tri.cond rfl (fun h19=>?_) (fun h19=>?_)
   ·try (cases h19;done)
    all_goals (try simp only[CQ] at h19)
    all_goals
    refine sZ [4] (fun P S K=>K ⟨[(4,(S.get 0))],S.hp,S.nx,S.gh⟩) fun K hK=>?_
    repeat' (first|(refine hK _ ?_;clear hK K)|refine And.intro ?_ ?_|exact cl|(refine st ?_;try simp only[zaa,encF])|fail)
    all_goals
    refine Tri.ret ?_
    show ResOk _ _ _ _
    rw[show putF l f=l from if_pos (by rw[show f=fF l i by cases f;cases hx:fF l i;rw[hx] at h19;simp_all];exact zb0 hil)]
    exact ResOk.val zbX zbL
   try (cases h19;done)
   all_goals (try simp only[CQ] at h19)
   all_goals
   refine Tri.skip ?_
   refine Tri.seq ?_
   refine sD 32 [0,3,5,6,7,52] (fun P GD S K=>XvUn .not (S.get 6) (fun r1 ef1=>Xge r1 true (fun k=>XvFieldAddr P 76 1 (S.get 3) k) (fun g3 r3 ef3=>Xge g3 true (fun k=>XvLoad P 9 (M S.hp S.nx) r3 k) (fun g4 r4 ef4=>Xge g4 true (fun k=>k (S.get 0) e0) (fun g5 r5 ef5=>Xge g5 true (fun k=>k (S.get 7) e0) (fun g6 r6 ef6=>Xge g6 true (fun k=>XvIndexAddr P 28 r5 r6 k) (fun g7 r7 ef7=>Xge g7 true (fun k=>XvFieldAddr P 76 1 r7 k) (fun g8 r8 ef8=>Xge g8 true (fun k=>XvLoad P 9 (M S.hp S.nx) r8 k) (fun g9 r9 ef9=>Xge g9 true (fun k=>XvBinOV P .lss 9 (.tmp 30) r4 r9 k) (fun g10 r10 ef10=>Xge g10 true (fun k=>k r10 e0) (fun g11 r11 ef11=>Xge r11 false (fun k=>XvFieldAddr P 76 1 (S.get 3) k) (fun g12 r12 ef12=>Xge g12 false (fun k=>XvLoad P 9 (M S.hp S.nx) r12 k) (fun g13 r13 ef13=>Xge g13 false (fun k=>k (S.get 0) e0) (fun g14 r14 ef14=>Xge g14 false (fun k=>k (S.get 7) e0) (fun g15 r15 ef15=>Xge g15 false (fun k=>XvIndexAddr P 28 r14 r15 k) (fun g16 r16 ef16=>Xge g16 false (fun k=>XvFieldAddr P 76 1 r16 k) (fun g17 r17 ef17=>Xge g17 false (fun k=>XvLoad P 9 (M S.hp S.nx) r17 k) (fun g18 r18 ef18=>Xge g18 false (fun k=>XvBinOV P .eql 9 (.tmp 39) r13 r18 k) (fun g19 r19 ef19=>Xge g19 false (fun k=>k r19 e0) (fun g20 r20 ef20=>Xge r20 true (fun k=>XvFieldAddr P 76 2 (S.get 3) k) (fun g21 r21 ef21=>Xge g21 true (fun k=>XvLoad P 9 (M S.hp S.nx) r21 k) (fun g22 r22 ef22=>Xge g22 true (fun k=>k (S.get 0) e0) (fun g23 r23 ef23=>Xge g23 true (fun k=>k (S.get 7) e0) (fun g24 r24 ef24=>Xge g24 true (fun k=>XvIndexAddr P 28 r23 r24 k) (fun g25 r25 ef25=>Xge g25 true (fun k=>XvFieldAddr P 76 2 r25 k) (fun g26 r26 ef26=>Xge g26 true (fun k=>XvLoad P 9 (M S.hp S.nx) r26 k) (fun g27 r27 ef27=>Xge g27 true (fun k=>XvBinOV P .lss 9 (.tmp 48) r22 r27 k) (fun g28 r28 ef28=>Xge g20 false (fun k=>XvPick g28 r28 (.atom (.bool false)) k) (fun g29 r29 ef29=>Xge g11 true (fun k=>XvPick g29 (.atom (.bool true)) r29 k) (fun g30 r30 ef30=>XvPick g30 r30 (.atom (.bool false)) (fun r31 ef31=>(trOk S.nx GD [⟨S.nx,0,[],[],[]⟩,⟨S.nx,0,ef1.rd,[],[]⟩,⟨S.nx,0,[],[],[]⟩,⟨S.nx,0,ef3.rd,[],[]⟩,⟨S.nx,0,ef4.rd,[],[]⟩,⟨S.nx,0,ef5.rd,[],[]⟩,⟨S.nx,0,ef6.rd,[],[]⟩,⟨S.nx,0,ef7.rd,[],[]⟩,⟨S.nx,0,ef8.rd,[],[]⟩,⟨S.nx,0,ef9.rd,[],[]⟩,⟨S.nx,0,ef10.rd,[],[]⟩,⟨S.nx,0,ef11.rd,[],[]⟩,⟨S.nx,0,ef12.rd,[],[]⟩,⟨S.nx,0,ef13.rd,[],[]⟩,⟨S.nx,0,ef14.rd,[],[]⟩,⟨S.nx,0,ef15.rd,[],[]⟩,⟨S.nx,0,ef16.rd,[],[]⟩,⟨S.nx,0,ef17.rd,[],[]⟩,⟨S.nx,0,ef18.rd,[],[]⟩,⟨S.nx,0,ef19.rd,[],[]⟩,⟨S.nx,0,ef20.rd,[],[]⟩,⟨S.nx,0,ef21.rd,[],[]⟩,⟨S.nx,0,ef22.rd,[],[]⟩,⟨S.nx,0,ef23.rd,[],[]⟩,⟨S.nx,0,ef24.rd,[],[]⟩,⟨S.nx,0,ef25.rd,[],[]⟩,⟨S.nx,0,ef26.rd,[],[]⟩,⟨S.nx,0,ef27.rd,[],[]⟩,⟨S.nx,0,ef28.rd,[],[]⟩,⟨S.nx,0,ef29.rd,[],[]⟩,⟨S.nx,0,ef30.rd,[],[]⟩,⟨S.nx,0,ef31.rd,[],[]⟩]=true∧K ⟨[(0,S.get 0),(3,S.get 3),(5,S.get 5),(6,S.get 6),(7,S.get 7),(52,r31)],S.hp,S.nx,S.gh⟩)))))))))))))))))))))))))))))))) fun K hK=>?_
   repeat' (first|(refine hK _ ?_;clear hK K)|(refine(?_:trOk _ _ _=true);(try simp only[zaS hil]);kernel_rfl)|((first|refine zax (fun hg=>?_) (fun hg=>?_)|refine fun(hg:(_:Prop))=>?_)<;>((try simp only[BQ] at hg);try (exfalso;omega)))|refine And.intro ?_ ?_|exact cl|(refine st ?_;try simp only[zaa,encF,zaS hil])|fail)
   all_goals try simp (disch:=omega) only[zaf,zae]
   all_goals
   refine Tri.cond rfl (fun h52=>?_) (fun h52=>?_)
   ·try (cases h52;done)
    all_goals (try simp only[CQ] at h52)
    all_goals
    refine sZ [0,3,5,7] (fun P S K=>XvLoad P 76 (M S.hp S.nx) (S.get 3) (fun r1 _=>XvBuildS P 28 1 S.nx [(0,r1)] (fun r2 ef2=>(28=28∧XvAppend P 28 (M (Eff.hp ef2 S.nx S.hp) (S.nx+ef2.add.length)) (S.get 5) r2 (fun r3 ef3=>K ⟨[(0,S.get 0),(3,S.get 3),(5,r3),(7,S.get 7)],(Eff.hp ef3 (S.nx+ef2.add.length) (Eff.hp ef2 S.nx S.hp)),((S.nx+ef2.add.length)+ef3.add.length),S.gh⟩))))) fun K hK=>?_
    repeat' (first|(refine hK _ ?_;clear hK K)|refine And.intro ?_ ?_|exact cl|(refine st ?_;try simp only[zaa,encF])|fail)
    all_goals
    refine rZ [0,3,5,6,7] (fun P S K=>K ⟨[(0,S.get 0),(3,S.get 3),(5,S.get 5),(6,(.atom (.bool true))),(7,S.get 7)],S.hp,S.nx,S.gh⟩) fun K hK=>?_
    repeat' (first|(refine hK _ ?_;clear hK K)|refine And.intro ?_ ?_|exact cl|(refine st ?_;try simp only[zaa,encF])|fail)
    all_goals
    refine rZ [0,3,5,6,7] (fun P S K=>XvIndexAddr P 28 (S.get 0) (S.get 7) (fun r3 _=>XvLoad P 76 (M S.hp S.nx) r3 (fun r4 _=>XvBuildS P 28 1 S.nx [(0,r4)] (fun r5 ef5=>(28=28∧XvAppend P 28 (M (Eff.hp ef5 S.nx S.hp) (S.nx+ef5.add.length)) (S.get 5) r5 (fun r6 ef6=>K ⟨[(0,S.get 0),(3,S.get 3),(5,r6),(6,S.get 6),(7,S.get 7)],(Eff.hp ef6 (S.nx+ef5.add.length) (Eff.hp ef5 S.nx S.hp)),((S.nx+ef5.add.length)+ef6.add.length),S.gh⟩)))))) fun K hK=>?_
    repeat' (first|(refine hK _ ?_;clear hK K)|refine And.intro ?_ ?_|exact cl|(refine st ?_;try simp only[zaa,encF,zaS hil])|fail)
    all_goals
    refine rZ [0,3,5,6,7] (fun P S K=>XvBinOV P .add 3 (.const (.int .i64 1)) (S.get 7) (.atom (.int .i64 1)) (fun r1 _=>K ⟨[(0,S.get 0),(3,S.get 3),(5,S.get 5),(6,S.get 6),(7,r1)],S.hp,S.nx,S.gh⟩)) fun K hK=>?_
    repeat' (first|(refine hK _ ?_;clear hK K)|refine And.intro ?_ ?_|exact cl|(refine st ?_;try simp only[zaa,encF])|fail)
    all_goals try simp (disch:=omega) only[zaf,zae]
    all_goals
    first
    | (refine⟨⟨o++[f]++[fF l i],true,i+1,by omega,lenA hol (by assumption),zgh hno (fun e=>by rw[e] at h19;simp at h19),zhy hil ho (by assumption) (by first|exact fLt_a (by assumption)|exact fLt_b (by assumption) (by assumption))⟩,[0,5],by dsimp only;omega,?_⟩
       exact za0)
    | (refine⟨⟨o++[fF l i],d,i+1,by omega,lenB hol,zgh hno (fun e=>by rw[e] at h19;simp at h19),zhx hil ho (by first|exact .inl (by assumption)|exact .inr (fLt_c (by assumption) (by assumption))|exact .inr (fLt_d (by assumption) (by assumption)))⟩,[0,3],by dsimp only;omega,?_⟩
       exact za0)
   try (cases h52;done)
   all_goals (try simp only[CQ] at h52)
   all_goals
   refine Tri.skip ?_
   refine rZ [0,3,5,6,7] (fun P S K=>XvIndexAddr P 28 (S.get 0) (S.get 7) (fun r3 _=>XvLoad P 76 (M S.hp S.nx) r3 (fun r4 _=>XvBuildS P 28 1 S.nx [(0,r4)] (fun r5 ef5=>(28=28∧XvAppend P 28 (M (Eff.hp ef5 S.nx S.hp) (S.nx+ef5.add.length)) (S.get 5) r5 (fun r6 ef6=>K ⟨[(0,S.get 0),(3,S.get 3),(5,r6),(6,S.get 6),(7,S.get 7)],(Eff.hp ef6 (S.nx+ef5.add.length) (Eff.hp ef5 S.nx S.hp)),((S.nx+ef5.add.length)+ef6.add.length),S.gh⟩)))))) fun K hK=>?_
   repeat' (first|(refine hK _ ?_;clear hK K)|refine And.intro ?_ ?_|exact cl|(refine st ?_;try simp only[zaa,encF,zaS hil])|fail)
   all_goals
   refine rZ [0,3,5,6,7] (fun P S K=>XvBinOV P .add 3 (.const (.int .i64 1)) (S.get 7) (.atom (.int .i64 1)) (fun r1 _=>K ⟨[(0,S.get 0),(3,S.get 3),(5,S.get 5),(6,S.get 6),(7,r1)],S.hp,S.nx,S.gh⟩)) fun K hK=>?_
   repeat' (first|(refine hK _ ?_;clear hK K)|refine And.intro ?_ ?_|exact cl|(refine st ?_;try simp only[zaa,encF])|fail)
   all_goals try simp (disch:=omega) only[zaf,zae]
   all_goals
   first
   | (refine⟨⟨o++[f]++[fF l i],true,i+1,by omega,lenA hol (by assumption),zgh hno (fun e=>by rw[e] at h19;simp at h19),zhy hil ho (by assumption) (by first|exact fLt_a (by assumption)|exact fLt_b (by assumption) (by assumption))⟩,[0,5],by dsimp only;omega,?_⟩
      exact za0)
   | (refine⟨⟨o++[fF l i],d,i+1,by omega,lenB hol,zgh hno (fun e=>by rw[e] at h19;simp at h19),zhx hil ho (by first|exact .inl (by assumption)|exact .inr (fLt_c (by assumption) (by assumption))|exact .inr (fLt_d (by assumption) (by assumption)))⟩,[0,3],by dsimp only;omega,?_⟩
      exact za0)
  try (cases h11;done)
  all_goals (try simp only[CQ] at h11)
  all_goals
  refine Tri.exit ?_
  refine Tri.seq ?_
  refine sZ [3,5,65] (fun P S K=>XvUn .not (S.get 6) (fun r1 _=>K ⟨[(3,S.get 3),(5,S.get 5),(65,r1)],S.hp,S.nx,S.gh⟩)) fun K hK=>?_
  repeat' (first|(refine hK _ ?_;clear hK K)|refine And.intro ?_ ?_|exact cl|(refine st ?_;try simp only[zaa,encF])|fail)
  all_goals try simp (disch:=omega) only[zaf,zae]
  all_goals
  refine Tri.cond rfl (fun h65=>?_) (fun h65=>?_)
  ·try (cases h65;done)
   all_goals (try simp only[CQ] at h65)
   all_goals
   refine rZ [5] (fun P S K=>XvLoad P 76 (M S.hp S.nx) (S.get 3) (fun r1 _=>XvBuildS P 28 1 S.nx [(0,r1)] (fun r2 ef2=>(28=28∧XvAppend P 28 (M (Eff.hp ef2 S.nx S.hp) (S.nx+ef2.add.length)) (S.get 5) r2 (fun r3 ef3=>K ⟨[(5,r3)],(Eff.hp ef3 (S.nx+ef2.add.length) (Eff.hp ef2 S.nx S.hp)),((S.nx+ef2.add.length)+ef3.add.length),S.gh⟩))))) fun K hK=>?_
   repeat' (first|(refine hK _ ?_;clear hK K)|refine And.intro ?_ ?_|exact cl|(refine st ?_;try simp only[zaa,encF])|fail)
   all_goals
   refine sZ [4] (fun P S K=>K ⟨[(4,(S.get 5))],S.hp,S.nx,S.gh⟩) fun K hK=>?_
   repeat' (first|(refine hK _ ?_;clear hK K)|refine And.intro ?_ ?_|exact cl|(refine st ?_;try simp only[zaa,encF])|fail)
   all_goals
   refine Tri.ret ?_
   show ResOk _ _ _ _
   rw[show putF l f=insF f l from if_neg (noneF fun j hj=>hno j (by omega)),ho,show l.drop i=[] from List.drop_of_length_le (by omega)]
   first
     | (rw[show d=true by assumption];simp only[if_true,List.append_nil];exact ResOk.frz 5 lstM2 zbL)
     | (rw[show d=false by assumption];simp only[Bool.false_eq_true,if_false,insF];exact ResOk.frz 5 lstM2 zbL)
  try (cases h65;done)
  all_goals (try simp only[CQ] at h65)
  all_goals
  refine Tri.skip ?_
  refine sZ [4] (fun P S K=>K ⟨[(4,(S.get 5))],S.hp,S.nx,S.gh⟩) fun K hK=>?_
  repeat' (first|(refine hK _ ?_;clear hK K)|refine And.intro ?_ ?_|exact cl|(refine st ?_;try simp only[zaa,encF])|fail)
  all_goals
  refine Tri.ret ?_
  show ResOk _ _ _ _
  rw[show putF l f=insF f l from if_neg (noneF fun j hj=>hno j (by omega)),ho,show l.drop i=[] from List.drop_of_length_le (by omega)]
  first
    | (rw[show d=true by assumption];simp only[if_true,List.append_nil];exact ResOk.frz 5 lstM2 zbL)
    | (rw[show d=false by assumption];simp only[Bool.false_eq_true,if_false,insF];exact ResOk.frz 5 lstM2 zbL)
end Go.Proofs.YtehoglapajkabaaGreat
