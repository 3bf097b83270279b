/-
  lives of the group: Open,its row as an own one;lives.
-/
import Derived.Test.YtehoglapajkabaaGreatJM0
import Derived.Test.YtehoglapajkabaaGreatJM45
import Derived.Test.YtehoglapajkabaaGreatJA16
import Derived.Test.YtehoglapajkabaaGreatRows
import Derived.ProofKit
import Derived.SevenTiedAt
import Derived.ChangeMaps5
set_option linter.all false
namespace Go.Proofs.YtehoglapajkabaaGreat
open Go Go.RowKit
set_option maxRecDepth 20000
set_option maxHeartbeats 1000000
theorem zq2 (x:LexD) (ws:List ByteArray) (hx:HeldX x) (hn:ws.length≤1000000) (hw:∀w,w∈ws→w.size≤140737488355328) (he:errX x ws=0):
    Pure Tryz.prog 28 [encX x,strs ws] (.tup [.ob 0 1 0 (zqG x ws).length,encI 0]) [⟨1,(zqG x ws).map encI⟩]:=by
  refine Pure.intro (ts:=[4,5]) Tryz.func28 (by kernel_rfl) rfl rfl rfl (Nat.le_of_ble_eq_true rfl) ?_ ?_
  · simp[zaF,zag,encS,encI,PV.pure,zaE]
  refine sZ [1,2] (fun P S K=>XvBox S.nx (S.get 0) (fun r0 ef0=>K ⟨[(1,S.get 1),(2,r0)],(Eff.hp ef0 S.nx S.hp),(S.nx+ef0.add.length),S.gh⟩)) fun K hK=>?_
  repeat' (first|(refine hK _ ?_;clear hK K)|refine And.intro ?_ ?_|exact cl|(refine st ?_;try simp only[encX,zaa,zab,zac,encF,zad,zai,zaj,za9])|fail)
  all_goals
  refine sZ [1,6,7] (fun P S K=>XvLoad P 27 (M S.hp S.nx) (S.get 2) (fun r0 _=>XvFnIV P (M S.hp S.nx) (.fn 63 []) [r0,(S.get 1)] (fun r2 ef2=>XvExtract r2 0 (fun r4 _=>XvExtract r2 1 (fun r5 _=>K ⟨[(1,S.get 1),(6,r4),(7,r5)],(Eff.hp ef2 S.nx S.hp),(S.nx+ef2.add.length),S.gh⟩))))) fun K hK=>?_
  repeat' (first|(refine hK _ ?_;clear hK K)|refine And.intro ?_ ?_|refine .inl ⟨_,_,zk7 x ws hx hn (fun w h=>up47 (hw w h)) he,?_⟩|(refine st ?_;try simp only[encX,zaa,zab,zac,encF,zad,zai,zaj,za9])|fail)
  all_goals
  refine Tri.seq ?_
  refine sY [1,6,7,19] (fun P S K=>XvBinOV P .neq 40 (.const (.int .i64 0)) (S.get 7) (.atom (.int .i64 0)) (fun r1 _=>K ⟨[(1,S.get 1),(6,S.get 6),(7,S.get 7),(19,r1)],S.hp,S.nx,S.gh⟩)) ?_
  all_goals
  refine Tri.cond rfl (fun h19=>?_) (fun h19=>?_)
  ·try (cases h19;done)
   all_goals (try simp only[CQ] at h19)
   all_goals
   refine sY [4,5] (fun P S K=>K ⟨[(4,(.atom (.slice none 0 0))),(5,(S.get 7))],S.hp,S.nx,S.gh⟩) ?_
   all_goals
   refine Tri.ret ?_
   show ResOk _ _ _ _
   done
  try (cases h19;done)
  all_goals (try simp only[CQ] at h19)
  all_goals
  refine Tri.skip ?_
  refine sY [1,6,8] (fun P S K=>K ⟨[(1,S.get 1),(6,S.get 6),(8,(.atom (.slice none 0 0)))],S.hp,S.nx,S.gh⟩) ?_
  refine Tri.born 8 1 rfl ?_
  all_goals
  refine Tri.seq ?_
  refine sZ [1,6,8,22,23] (fun P S K=>XvLen P 37 (M S.hp S.nx) (S.get 1) (fun r1 _=>K ⟨[(1,S.get 1),(6,S.get 6),(8,S.get 8),(22,r1),(23,(.atom (.int .i64 0)))],S.hp,S.nx,S.gh⟩)) fun K hK=>?_
  repeat' (first|(refine hK _ ?_;clear hK K)|refine And.intro ?_ ?_|exact cl|(refine st ?_;try simp only[encX,zaa,zab,zac,encF,zad,zai,zaj,za9])|fail)
  all_goals
  refine Tri.block ?_
  refine Tri.loop (α:=(o:List Int) ×' (kn:List ByteArray) ×' (i:Nat) ×' (i≤ws.length∧o.length≤i∧(∀s,s∈kn→s.size≤140737488355328)∧o=znM x ws i)) (fun z=>(fun(o:List Int) (kn:List ByteArray) (i:Nat)=>(⟨[(1,strs ws),(6,.ptr 0 4 0 0),(8,.ob 2 1 0 o.length),(22,encI ws.length),(23,encI i)],[(0,some ⟨4,[za9 x]⟩),(1,some ⟨0,kn.map (entB x)⟩),(2,some ⟨1,o.map encI⟩)],3,[]⟩:St)) z.1 z.2.1 z.2.2.1) (fun z=>(fun(o:List Int) (kn:List ByteArray) (i:Nat)=>ws.length - i) z.1 z.2.1 z.2.2.1) ⟨[],[],0,⟨Nat.zero_le _,Nat.le_refl _,fun s h=>(by cases h),rfl⟩⟩ [1,2,3] ?_ ?_
  ·exact zgP
  rintro⟨o,kn,i,⟨hi,hol,hs0,ho⟩⟩
  refine sY [1,6,8,22,23,24] (fun P S K=>XvBinOV P .lss 3 (.tmp 22) (S.get 23) (S.get 22) (fun r0 _=>K ⟨[(1,S.get 1),(6,S.get 6),(8,S.get 8),(22,S.get 22),(23,S.get 23),(24,r0)],S.hp,S.nx,S.gh⟩)) ?_
  all_goals
  refine Tri.seq ?_
  refine Tri.cond rfl (fun h24=>?_) (fun h24=>?_)
  ·try (cases h24;done)
   all_goals (try simp only[CQ] at h24)
   all_goals
   refine Tri.skip ?_
   refine Tri.seq ?_
   refine Tri.block ?_
   have hiw:i<ws.length:=by omega
   refine sY [1,6,8,9,22,23] (fun P S K=>K ⟨[(1,S.get 1),(6,S.get 6),(8,S.get 8),(9,(S.get 23)),(22,S.get 22),(23,S.get 23)],S.hp,S.nx,S.gh⟩) ?_
   all_goals
   refine sZ [1,6,8,9,11,22,23] (fun P S K=>XvFnIV P (M S.hp S.nx) (.fn 64 []) [(S.get 6),(S.get 1),(S.get 9)] (fun r3 ef3=>XvExtract r3 0 (fun r5 _=>XvExtract r3 1 (fun r6 _=>XvAlloc P 73 (S.nx+ef3.add.length) (fun r7 ef7=>XvStore P 73 (M (Eff.hp ef7 (S.nx+ef3.add.length) (Eff.hp ef3 S.nx S.hp)) ((S.nx+ef3.add.length)+ef7.add.length)) r7 r5 (fun r8 ef8=>K ⟨[(1,S.get 1),(6,S.get 6),(8,S.get 8),(9,S.get 9),(11,r6),(22,S.get 22),(23,S.get 23)],(Eff.hp ef8 ((S.nx+ef3.add.length)+ef7.add.length) (Eff.hp ef7 (S.nx+ef3.add.length) (Eff.hp ef3 S.nx S.hp))),(((S.nx+ef3.add.length)+ef7.add.length)+ef8.add.length),S.gh⟩)))))) fun K hK=>?_
   repeat' (first|(refine hK _ ?_;clear hK K)|refine And.intro ?_ ?_|exact cl|refine .inr (vProc.bk 0 1 (zis x kn ws i hx hiw hs0 hw hn) (by decide) rfl (argsC _ _ _ _ _) rfl rfl ?_)|(refine st ?_;try simp only[encX,zaa,zab,zac,encF,zad,zai,zaj,za9])|fail)
   all_goals
   refine sY [1,6,8,9,22,23,34] (fun P S K=>XvUn .not (S.get 11) (fun r1 _=>K ⟨[(1,S.get 1),(6,S.get 6),(8,S.get 8),(9,S.get 9),(22,S.get 22),(23,S.get 23),(34,r1)],S.hp,S.nx,S.gh⟩)) ?_
   all_goals try simp (disch:=omega) only[zaf,zae]
   all_goals
   refine Tri.cond rfl (fun h34=>?_) (fun h34=>?_)
   ·try (cases h34;done)
    all_goals (try simp only[CQ] at h34)
    all_goals
    refine rZ [1,6,8,22,23] (fun P S K=>XvBuildS P 22 1 S.nx [(0,(S.get 9))] (fun r2 ef2=>(22=22∧XvAppend P 22 (M (Eff.hp ef2 S.nx S.hp) (S.nx+ef2.add.length)) (S.get 8) r2 (fun r3 ef3=>K ⟨[(1,S.get 1),(6,S.get 6),(8,r3),(22,S.get 22),(23,S.get 23)],(Eff.hp ef3 (S.nx+ef2.add.length) (Eff.hp ef2 S.nx S.hp)),((S.nx+ef2.add.length)+ef3.add.length),S.gh⟩)))) fun K hK=>?_
    repeat' (first|(refine hK _ ?_;clear hK K)|((first|refine zax (fun hg=>?_) (fun hg=>?_)|refine fun(hg:(_:Prop))=>?_)<;>((try simp only[BQ] at hg);try (exfalso;omega)))|refine And.intro ?_ ?_|exact cl|(refine st ?_;try simp only[encX,zaa,zab,zac,encF,zad,zai,zaj,za9])|fail)
    all_goals
    refine rY [1,6,8,22,23] (fun P S K=>XvBinOV P .add 3 (.const (.int .i64 1)) (S.get 23) (.atom (.int .i64 1)) (fun r0 _=>K ⟨[(1,S.get 1),(6,S.get 6),(8,S.get 8),(22,S.get 22),(23,r0)],S.hp,S.nx,S.gh⟩)) ?_
    all_goals try simp (disch:=omega) only[zaf,zae]
    all_goals
    first
    | (refine⟨⟨o++[(i:Int)],(runX x ws kn i).2,i+1,by omega,by simp;omega,zep hiw hs0 hw,by rw[zeP,if_neg (by simp_all),ho]⟩,[0,1,5],by dsimp only;omega,?_⟩
       exact zgP)
    | (refine⟨⟨o,(runX x ws kn i).2,i+1,by omega,by omega,zep hiw hs0 hw,by rw[zeP,if_pos (by simp_all),ho]⟩,[0,1,2],by dsimp only;omega,?_⟩
       exact zgP)
   try (cases h34;done)
   all_goals (try simp only[CQ] at h34)
   all_goals
   refine Tri.skip ?_
   refine rY [1,6,8,22,23] (fun P S K=>XvBinOV P .add 3 (.const (.int .i64 1)) (S.get 23) (.atom (.int .i64 1)) (fun r0 _=>K ⟨[(1,S.get 1),(6,S.get 6),(8,S.get 8),(22,S.get 22),(23,r0)],S.hp,S.nx,S.gh⟩)) ?_
   all_goals try simp (disch:=omega) only[zaf,zae]
   all_goals
   first
   | (refine⟨⟨o++[(i:Int)],(runX x ws kn i).2,i+1,by omega,by simp;omega,zep hiw hs0 hw,by rw[zeP,if_neg (by simp_all),ho]⟩,[0,1,5],by dsimp only;omega,?_⟩
      exact zgP)
   | (refine⟨⟨o,(runX x ws kn i).2,i+1,by omega,by omega,zep hiw hs0 hw,by rw[zeP,if_pos (by simp_all),ho]⟩,[0,1,2],by dsimp only;omega,?_⟩
      exact zgP)
  try (cases h24;done)
  all_goals (try simp only[CQ] at h24)
  all_goals
  refine Tri.exit ?_
  refine sY [4,5] (fun P S K=>K ⟨[(4,(S.get 8)),(5,(.atom (.int .i64 0)))],S.hp,S.nx,S.gh⟩) ?_
  all_goals
  refine Tri.ret ?_
  show ResOk _ _ _ _
  have e:zqG x ws=o:=by unfold zqG;rw[if_neg (by omega),ho];congr 1;omega
  rw[e]
  refine ResOk.one 2 4 rfl (by simp[retV,St.get,lk,sealed,PV.ren,renL,rmap,encI]) rfl (by rw[zay _ _ _ (zao _),za4 _ (zao _)])
theorem zqF:Pure Tryz.prog 28 [encX xL,strs [wK,w1L]] (.tup [.ob 0 1 0 1,encI 0]) [⟨1,[encI 0]⟩]:=by
  have:=zq2 xL [wK,w1L] zgm (by decide) (fun w hw=>by rcases List.mem_cons.1 hw with rfl|hw;decide;rcases List.mem_cons.1 hw with rfl|hw;decide;cases hw) ope_L
  rw[opn_L] at this
  exact this
set_option maxRecDepth 100000
def mL:MachD:=zcs xL
theorem zhW:za7 xL=0:=by kernel_rfl
theorem zjw:Pure Tryz.prog 21 [encX xL] (.tup [encM mL,encI 0]) []:=zmk xL zgm zhW
theorem zqq:zcu outsL=outsL:=by
  have h:((outsL.map fun s=>s.data.toList).Pairwise fun x y=>decide (x≤y)=true):=by decide +kernel
  unfold zcu
  first
  | rw[List.mergeSort_of_pairwise h]
  | rw[List.mergeSort_of_sorted h]
  rfl
theorem zlv:zeH mL w1L=(outsL,0):=by
  have h1:resl xL w1L=outsL:=by kernel_rfl
  have h2:resR xL w1L=outsL:=by unfold resR;rw[if_pos (by kernel_rfl),h1,zqq]
  unfold mL
  rw[zhF zhW (by decide),h2,if_neg (by decide)]
theorem zof:Pure Tryz.prog 23 [encM mL,encS w1L] (.tup [strs outsL,encI 0]) []:=by
  have:=zgu mL w1L (zgK zhW) (by decide)
  rw[zlv] at this
  exact this
set_option maxHeartbeats 2000000
theorem leqM27{p:Prop}(h:p:=by(refine⟨4,?_,?_,rfl,by simp,rfl,fun _ h _=>absurd h (Nat.not_lt_zero _)⟩<;>(simp only[List.forall_mem_cons];repeat' (first|refine And.intro ?_ ?_|(intro p hp;exact absurd hp List.not_mem_nil)|rfl|exact sp (zaF _)|exact sp (zaH _)|exact sp (zaY _)|exact(zau _ _ _ (zah _)).trans (zbE _ _).symm|exact(zau _ _ _ (zag _)).trans (zbD _ _).symm|exact sp (by assumption)|(intro o ho;cases ho;refine⟨by decide,?_⟩;first|(refine LeqS.row rfl ?_ ?_;(next=>(first|rfl|(simp only[List.map_append,List.map_cons,List.map_nil,List.append_nil,List.nil_append,List.append_assoc,List.cons_append,encI,encS,ints,strs];done)|(simp[encI,encS,ints,strs,encF,encR,encA];done)));(next=>(first|rfl|exact zao _|exact zaq _|exact zas _|exact zar _|exact zaz _|exact zaK _|exact zaL _|exact zap _|(simp[zap,zao,zaq,zas,zar,zaE,PV.pure,zah,zag,zaF,zaz,zaK,zaL,zaH,zap,encF,encS,zaY];done)));done)|refine⟨_,rfl,rfl,?_⟩)|(simp[St.born,St.known,retV,St.get,St.obj,lk,sealed,PV.ren,renL,rmap,AO.ren,ints,strs,encI,encS,zan,zam,zal,zak,zaD,zaC,zaB,zaA,zaW,zaV,zaU,zaT,zbB,zaa,zab,zac,zad,zai,zaj,zat,zaJ,zav,zaQ,zaw,zaR,zaG,encF,encR,encA,zbu,zbQ,zbT,zaN]<;>omega))));first|done|fail):p:=h
theorem lsrM27{p:Prop}(h:p:=by(first|rfl|(simp[St.born,St.known,retV,St.get,St.obj,lk,sealed,PV.ren,renL,rmap,AO.ren,ints,strs,encI,encS,zan,zam,zal,zak,zaD,zaC,zaB,zaA,zaW,zaV,zaU,zaT,zbB,zaa,zab,zac,zad,zai,zaj,zat,zaJ,zav,zaQ,zaw,zaR,zaG,encF,encR,encA,zbu,zbQ,zbT,zaN];done));first|done|fail):p:=h
theorem lpvM27{p:Prop}(h:p:=by(first|rfl|(simp[zah,zag,PV.pure,zaE,zao,zaq,zas,zar,zaF,zaz,zaK,zaL,zaH,zap,encF,encS,zaY];done));first|done|fail):p:=h
theorem zlH:xL.forms=[fO]:=rfl
theorem znS:Pure Tryz.prog 20 [] (.atom (.bool true)) []:=by
  refine Pure.intro (ts:=[0]) Tryz.func20 (by kernel_rfl) rfl rfl rfl (Nat.le_of_ble_eq_true rfl) ?_ ?_
  · simp
  refine sY [] (fun P S K=>K ⟨[],S.hp,S.nx,S.gh⟩) ?_
  all_goals
  refine Tri.cut (α:=Unit) (fun⟨⟩=>⟨[(1,.ptr 0 3 0 0)],[(0,some ⟨3,[encX xL]⟩)],1,[]⟩) ?_ ?_
  ·skip
   refine rZ [1] (fun P S K=>XvBuild P 73 [(0,(.atom (.string { data := #[111,100,101,115] }))),(1,(.atom (.string { data := #[111,100,101] }))),(2,(.atom (.string { data := #[110,111,117,110] })))] (fun r0 _=>XvBuildS P 23 1 S.nx [(0,r0)] (fun r1 ef1=>XvBuild P 90 [(0,(.atom (.string { data := #[115] }))),(2,(.atom (.string { data := #[110,111,117,110] }))),(3,(.atom (.int .i64 3)))] (fun r2 _=>XvBuild P 90 [(0,(.atom (.string { data := #[115] }))),(2,(.atom (.string { data := #[118,101,114,98] }))),(3,(.atom (.int .i64 3)))] (fun r3 _=>XvBuildS P 24 2 (S.nx+ef1.add.length) [(0,r2),(1,r3)] (fun r4 ef4=>XvBuild P 91 [(0,(.atom (.string { data := #[110,111,117,110] }))),(2,(.atom (.string { data := #[118,101,114,98] })))] (fun r5 _=>XvBuildS P 25 1 ((S.nx+ef1.add.length)+ef4.add.length) [(0,r5)] (fun r6 ef6=>XvBuild P 27 [(0,r1),(1,r4),(2,r6)] (fun r7 _=>XvAlloc P 27 (((S.nx+ef1.add.length)+ef4.add.length)+ef6.add.length) (fun r8 ef8=>XvStore P 27 (M (Eff.hp ef8 (((S.nx+ef1.add.length)+ef4.add.length)+ef6.add.length) (Eff.hp ef6 ((S.nx+ef1.add.length)+ef4.add.length) (Eff.hp ef4 (S.nx+ef1.add.length) (Eff.hp ef1 S.nx S.hp)))) ((((S.nx+ef1.add.length)+ef4.add.length)+ef6.add.length)+ef8.add.length)) r8 r7 (fun r9 ef9=>K ⟨[(1,r8)],(Eff.hp ef9 ((((S.nx+ef1.add.length)+ef4.add.length)+ef6.add.length)+ef8.add.length) (Eff.hp ef8 (((S.nx+ef1.add.length)+ef4.add.length)+ef6.add.length) (Eff.hp ef6 ((S.nx+ef1.add.length)+ef4.add.length) (Eff.hp ef4 (S.nx+ef1.add.length) (Eff.hp ef1 S.nx S.hp))))),(((((S.nx+ef1.add.length)+ef4.add.length)+ef6.add.length)+ef8.add.length)+ef9.add.length),S.gh⟩))))))))))) fun K hK=>?_
   repeat' (first|(refine hK _ ?_;clear hK K)|(refine st ?_;try simp only[encX,zaa,zab,zac,encF,encM])|fail)
   all_goals
   refine⟨(),[3],?_⟩
   exact leqM27
  rintro⟨⟩
  refine sZ [1,2,3] (fun P S K=>XvLoad P 27 (M S.hp S.nx) (S.get 1) (fun r0 _=>XvFnIV P (M S.hp S.nx) (.fn 15 []) [r0,(.atom (.string { data := #[111,100,101,115] }))] (fun r1 ef1=>XvExtract r1 0 (fun r3 _=>XvExtract r1 1 (fun r4 _=>K ⟨[(1,S.get 1),(2,r3),(3,r4)],(Eff.hp ef1 S.nx S.hp),(S.nx+ef1.add.length),S.gh⟩))))) fun K hK=>?_
  repeat' (first|(refine hK _ ?_;clear hK K)|refine And.intro ?_ ?_|exact cl|refine .inl ⟨_,_,zcG w1L [fO] all_O err_O (by decide),?_⟩|refine .inl ⟨_,_,zcG wK [fK,fV] all_K err_K (by decide),?_⟩|refine .inl ⟨_,_,zcG wH [fH] all_H err_H (by decide),?_⟩|(refine st ?_;try simp only[encX,zaa,zab,zac,encF,encM])|fail)
  all_goals
  refine sZ [1,2,3,4,5] (fun P S K=>XvLoad P 27 (M S.hp S.nx) (S.get 1) (fun r0 _=>XvFnIV P (M S.hp S.nx) (.fn 15 []) [r0,(.atom (.string { data := #[107,105,110,103,115] }))] (fun r1 ef1=>XvExtract r1 0 (fun r3 _=>XvExtract r1 1 (fun r4 _=>K ⟨[(1,S.get 1),(2,S.get 2),(3,S.get 3),(4,r3),(5,r4)],(Eff.hp ef1 S.nx S.hp),(S.nx+ef1.add.length),S.gh⟩))))) fun K hK=>?_
  repeat' (first|(refine hK _ ?_;clear hK K)|refine And.intro ?_ ?_|exact cl|refine .inl ⟨_,_,zcG w1L [fO] all_O err_O (by decide),?_⟩|refine .inl ⟨_,_,zcG wK [fK,fV] all_K err_K (by decide),?_⟩|refine .inl ⟨_,_,zcG wH [fH] all_H err_H (by decide),?_⟩|(refine st ?_;try simp only[encX,zaa,zab,zac,encF,encM])|fail)
  all_goals
  refine sZ [1,2,3,4,5,6,7] (fun P S K=>XvLoad P 27 (M S.hp S.nx) (S.get 1) (fun r0 _=>XvFnIV P (M S.hp S.nx) (.fn 15 []) [r0,(.atom (.string { data := #[104,105,115] }))] (fun r1 ef1=>XvExtract r1 0 (fun r3 _=>XvExtract r1 1 (fun r4 _=>K ⟨[(1,S.get 1),(2,S.get 2),(3,S.get 3),(4,S.get 4),(5,S.get 5),(6,r3),(7,r4)],(Eff.hp ef1 S.nx S.hp),(S.nx+ef1.add.length),S.gh⟩))))) fun K hK=>?_
  repeat' (first|(refine hK _ ?_;clear hK K)|refine And.intro ?_ ?_|exact cl|refine .inl ⟨_,_,zcG w1L [fO] all_O err_O (by decide),?_⟩|refine .inl ⟨_,_,zcG wK [fK,fV] all_K err_K (by decide),?_⟩|refine .inl ⟨_,_,zcG wH [fH] all_H err_H (by decide),?_⟩|(refine st ?_;try simp only[encX,zaa,zab,zac,encF,encM])|fail)
  all_goals
  refine sZ [1,2,3,4,5,6,7,8,9] (fun P S K=>XvLoad P 27 (M S.hp S.nx) (S.get 1) (fun r0 _=>XvFnIV P (M S.hp S.nx) (.fn 21 []) [r0] (fun r1 ef1=>XvExtract r1 0 (fun r3 _=>XvExtract r1 1 (fun r4 _=>XvAlloc P 54 (S.nx+ef1.add.length) (fun r5 ef5=>XvStore P 54 (M (Eff.hp ef5 (S.nx+ef1.add.length) (Eff.hp ef1 S.nx S.hp)) ((S.nx+ef1.add.length)+ef5.add.length)) r5 r3 (fun r6 ef6=>K ⟨[(1,S.get 1),(2,S.get 2),(3,S.get 3),(4,S.get 4),(5,S.get 5),(6,S.get 6),(7,S.get 7),(8,r5),(9,r4)],(Eff.hp ef6 ((S.nx+ef1.add.length)+ef5.add.length) (Eff.hp ef5 (S.nx+ef1.add.length) (Eff.hp ef1 S.nx S.hp))),(((S.nx+ef1.add.length)+ef5.add.length)+ef6.add.length),S.gh⟩))))))) fun K hK=>?_
  repeat' (first|(refine hK _ ?_;clear hK K)|refine And.intro ?_ ?_|exact cl|refine .inl ⟨_,_,zjw,?_⟩|(refine st ?_;try simp only[encX,zaa,zab,zac,encF,encM])|fail)
  all_goals
  refine sZ [1,2,3,4,5,6,7,9,10,11] (fun P S K=>XvLoad P 54 (M S.hp S.nx) (S.get 8) (fun r0 _=>XvFnIV P (M S.hp S.nx) (.fn 23 []) [r0,(.atom (.string { data := #[111,100,101,115] }))] (fun r1 ef1=>XvExtract r1 0 (fun r3 _=>XvExtract r1 1 (fun r4 _=>K ⟨[(1,S.get 1),(2,S.get 2),(3,S.get 3),(4,S.get 4),(5,S.get 5),(6,S.get 6),(7,S.get 7),(9,S.get 9),(10,r3),(11,r4)],(Eff.hp ef1 S.nx S.hp),(S.nx+ef1.add.length),S.gh⟩))))) fun K hK=>?_
  repeat' (first|(refine hK _ ?_;clear hK K)|refine And.intro ?_ ?_|exact cl|refine .inl ⟨_,_,zof,?_⟩|(refine st ?_;try simp only[encX,zaa,zab,zac,encF,encM])|fail)
  all_goals
  refine sZ [1,2,3,4,5,6,7,9,10,11,12,13] (fun P S K=>XvLoad P 27 (M S.hp S.nx) (S.get 1) (fun r0 _=>XvBuildS P 37 2 S.nx [(0,(.atom (.string { data := #[111,100,101,115] }))),(1,(.atom (.string { data := #[107,105,110,103,115] })))] (fun r1 ef1=>XvFnIV P (M (Eff.hp ef1 S.nx S.hp) (S.nx+ef1.add.length)) (.fn 32 []) [r0,r1,(.atom (.int .i64 1))] (fun r2 ef2=>XvExtract r2 0 (fun r4 _=>XvExtract r2 1 (fun r5 _=>XvAlloc P 73 ((S.nx+ef1.add.length)+ef2.add.length) (fun r6 ef6=>XvStore P 73 (M (Eff.hp ef6 ((S.nx+ef1.add.length)+ef2.add.length) (Eff.hp ef2 (S.nx+ef1.add.length) (Eff.hp ef1 S.nx S.hp))) (((S.nx+ef1.add.length)+ef2.add.length)+ef6.add.length)) r6 r4 (fun r7 ef7=>K ⟨[(1,S.get 1),(2,S.get 2),(3,S.get 3),(4,S.get 4),(5,S.get 5),(6,S.get 6),(7,S.get 7),(9,S.get 9),(10,S.get 10),(11,S.get 11),(12,r6),(13,r5)],(Eff.hp ef7 (((S.nx+ef1.add.length)+ef2.add.length)+ef6.add.length) (Eff.hp ef6 ((S.nx+ef1.add.length)+ef2.add.length) (Eff.hp ef2 (S.nx+ef1.add.length) (Eff.hp ef1 S.nx S.hp)))),((((S.nx+ef1.add.length)+ef2.add.length)+ef6.add.length)+ef7.add.length),S.gh⟩)))))))) fun K hK=>?_
  repeat' (first|(refine hK _ ?_;clear hK K)|refine And.intro ?_ ?_|exact cl|refine .inl ⟨_,_,zrv,?_⟩|(refine st ?_;try simp only[encX,zaa,zab,zac,encF,encM])|fail)
  all_goals
  refine sZ [1,2,3,4,5,6,7,9,10,11,12,13,14,15] (fun P S K=>XvLoad P 27 (M S.hp S.nx) (S.get 1) (fun r0 _=>XvBuildS P 37 2 S.nx [(0,(.atom (.string { data := #[107,105,110,103,115] }))),(1,(.atom (.string { data := #[111,100,101,115] })))] (fun r1 ef1=>XvFnIV P (M (Eff.hp ef1 S.nx S.hp) (S.nx+ef1.add.length)) (.fn 28 []) [r0,r1] (fun r2 ef2=>XvExtract r2 0 (fun r4 _=>XvExtract r2 1 (fun r5 _=>K ⟨[(1,S.get 1),(2,S.get 2),(3,S.get 3),(4,S.get 4),(5,S.get 5),(6,S.get 6),(7,S.get 7),(9,S.get 9),(10,S.get 10),(11,S.get 11),(12,S.get 12),(13,S.get 13),(14,r4),(15,r5)],(Eff.hp ef2 (S.nx+ef1.add.length) (Eff.hp ef1 S.nx S.hp)),((S.nx+ef1.add.length)+ef2.add.length),S.gh⟩)))))) fun K hK=>?_
  repeat' (first|(refine hK _ ?_;clear hK K)|refine And.intro ?_ ?_|exact cl|refine .inl ⟨_,_,zqF,?_⟩|(refine st ?_;try simp only[encX,zaa,zab,zac,encF,encM])|fail)
  all_goals
  refine sZ [1,2,3,4,5,6,7,9,10,11,12,13,14,15,17] (fun P S K=>XvLoad P 27 (M S.hp S.nx) (S.get 1) (fun r0 _=>XvBuildS P 37 2 S.nx [(0,(.atom (.string { data := #[107,105,110,103,115] }))),(1,(.atom (.string { data := #[111,100,101,115] })))] (fun r1 ef1=>XvFnIV P (M (Eff.hp ef1 S.nx S.hp) (S.nx+ef1.add.length)) (.fn 26 []) [r0,r1] (fun r2 ef2=>XvExtract r2 0 (fun r4 _=>XvExtract r2 1 (fun r5 _=>K ⟨[(1,S.get 1),(2,S.get 2),(3,S.get 3),(4,S.get 4),(5,S.get 5),(6,S.get 6),(7,S.get 7),(9,S.get 9),(10,S.get 10),(11,S.get 11),(12,S.get 12),(13,S.get 13),(14,S.get 14),(15,S.get 15),(17,r5)],(Eff.hp ef2 (S.nx+ef1.add.length) (Eff.hp ef1 S.nx S.hp)),((S.nx+ef1.add.length)+ef2.add.length),S.gh⟩)))))) fun K hK=>?_
  repeat' (first|(refine hK _ ?_;clear hK K)|refine And.intro ?_ ?_|exact cl|refine .inl ⟨_,_,zoF,?_⟩|(refine st ?_;try simp only[encX,zaa,zab,zac,encF,encM])|fail)
  all_goals
  refine Tri.seq ?_
  refine sZ [1,2,4,6,10,12,14,113] (fun P S K=>XvBinOV P .neq 40 (.const (.int .i64 0)) (S.get 3) (.atom (.int .i64 0)) (fun r1 _=>Xgq r1 false (fun k=>k (S.get 5)) (fun g3 r3=>Xgq g3 false (fun k=>XvBinOV P .neq 40 (.const (.int .i64 0)) r3 (.atom (.int .i64 0)) (fun r4 _=>k r4)) (fun g4 r4=>XvPick g4 (.atom (.bool true)) r4 (fun r5 _=>Xgq r5 false (fun k=>k (S.get 7)) (fun g7 r7=>Xgq g7 false (fun k=>XvBinOV P .neq 40 (.const (.int .i64 0)) r7 (.atom (.int .i64 0)) (fun r8 _=>k r8)) (fun g8 r8=>XvPick g8 (.atom (.bool true)) r8 (fun r9 _=>Xgq r9 false (fun k=>k (S.get 9)) (fun g11 r11=>Xgq g11 false (fun k=>XvBinOV P .neq 40 (.const (.int .i64 0)) r11 (.atom (.int .i64 0)) (fun r12 _=>k r12)) (fun g12 r12=>XvPick g12 (.atom (.bool true)) r12 (fun r13 _=>Xgq r13 false (fun k=>k (S.get 11)) (fun g15 r15=>Xgq g15 false (fun k=>XvBinOV P .neq 40 (.const (.int .i64 0)) r15 (.atom (.int .i64 0)) (fun r16 _=>k r16)) (fun g16 r16=>XvPick g16 (.atom (.bool true)) r16 (fun r17 _=>Xgq r17 false (fun k=>k (S.get 13)) (fun g19 r19=>Xgq g19 false (fun k=>XvBinOV P .neq 40 (.const (.int .i64 0)) r19 (.atom (.int .i64 0)) (fun r20 _=>k r20)) (fun g20 r20=>XvPick g20 (.atom (.bool true)) r20 (fun r21 _=>Xgq r21 false (fun k=>k (S.get 15)) (fun g23 r23=>Xgq g23 false (fun k=>XvBinOV P .neq 40 (.const (.int .i64 0)) r23 (.atom (.int .i64 0)) (fun r24 _=>k r24)) (fun g24 r24=>XvPick g24 (.atom (.bool true)) r24 (fun r25 _=>Xgq r25 false (fun k=>k (S.get 17)) (fun g27 r27=>Xgq g27 false (fun k=>XvBinOV P .neq 40 (.const (.int .i64 14)) r27 (.atom (.int .i64 14)) (fun r28 _=>k r28)) (fun g28 r28=>XvPick g28 (.atom (.bool true)) r28 (fun r29 _=>Xgq r29 false (fun k=>k (S.get 2)) (fun g31 r31=>Xgq g31 false (fun k=>XvLen P 23 (M S.hp S.nx) r31 (fun r32 _=>k r32)) (fun g32 r32=>Xgq g32 false (fun k=>XvBinOV P .neq 3 (.const (.int .i64 1)) r32 (.atom (.int .i64 1)) (fun r33 _=>k r33)) (fun g33 r33=>XvPick g33 (.atom (.bool true)) r33 (fun r34 _=>Xgq r34 false (fun k=>k (S.get 4)) (fun g36 r36=>Xgq g36 false (fun k=>XvLen P 23 (M S.hp S.nx) r36 (fun r37 _=>k r37)) (fun g37 r37=>Xgq g37 false (fun k=>XvBinOV P .neq 3 (.const (.int .i64 2)) r37 (.atom (.int .i64 2)) (fun r38 _=>k r38)) (fun g38 r38=>XvPick g38 (.atom (.bool true)) r38 (fun r39 _=>Xgq r39 false (fun k=>k (S.get 6)) (fun g41 r41=>Xgq g41 false (fun k=>XvLen P 23 (M S.hp S.nx) r41 (fun r42 _=>k r42)) (fun g42 r42=>Xgq g42 false (fun k=>XvBinOV P .neq 3 (.const (.int .i64 1)) r42 (.atom (.int .i64 1)) (fun r43 _=>k r43)) (fun g43 r43=>XvPick g43 (.atom (.bool true)) r43 (fun r44 _=>K ⟨[(1,S.get 1),(2,S.get 2),(4,S.get 4),(6,S.get 6),(10,S.get 10),(12,S.get 12),(14,S.get 14),(113,r44)],S.hp,S.nx,S.gh⟩))))))))))))))))))))))))))))))))))) fun K hK=>?_
  repeat' (first|(refine hK _ ?_;clear hK K)|((first|refine zax (fun hg=>?_) (fun hg=>?_)|refine fun(hg:(_:Prop))=>?_)<;>((try simp only[BQ] at hg);try (exfalso;omega)))|(refine st ?_;try simp only[encX,zaa,zab,zac,encF,encM])|fail)
  all_goals
  refine Tri.cond rfl (fun h113=>?_) (fun h113=>?_)
  ·try (cases h113;done)
   all_goals (try simp only[CQ] at h113)
   all_goals
   refine sY [0] (fun P S K=>K ⟨[(0,(.atom (.bool false)))],S.hp,S.nx,S.gh⟩) ?_
   all_goals
   refine Tri.ret ?_
   show ResOk _ _ _ _
   exfalso;revert h113;decide +kernel
  try (cases h113;done)
  all_goals (try simp only[CQ] at h113)
  all_goals
  refine Tri.skip ?_
  refine Tri.seq ?_
  refine sD 22 [4,10,12,14,135] (fun P GD S K=>XvIndexAddr P 23 (S.get 2) (.atom (.int .i64 0)) (fun r1 ef1=>XvLoad P 73 (M S.hp S.nx) r1 (fun r2 ef2=>XvFieldAddr P 27 0 (S.get 1) (fun r3 ef3=>XvLoad P 23 (M S.hp S.nx) r3 (fun r4 ef4=>XvIndexAddr P 23 r4 (.atom (.int .i64 0)) (fun r5 ef5=>XvLoad P 73 (M S.hp S.nx) r5 (fun r6 ef6=>XvBinOV P .neq 73 (.tmp 120) r2 r6 (fun r7 ef7=>Xge r7 false (fun k=>k (S.get 4) e0) (fun g9 r9 ef9=>Xge g9 false (fun k=>XvIndexAddr P 23 r9 (.atom (.int .i64 0)) k) (fun g10 r10 ef10=>Xge g10 false (fun k=>XvLoad P 73 (M S.hp S.nx) r10 k) (fun g11 r11 ef11=>Xge g11 false (fun k=>XvBuild P 73 [(0,(.atom (.string { data := #[107,105,110,103,115] }))),(1,(.atom (.string { data := #[107,105,110,103] }))),(2,(.atom (.string { data := #[110,111,117,110] })))] k) (fun g12 r12 ef12=>Xge g12 false (fun k=>XvBinOV P .neq 73 (.tmp 126) r11 r12 k) (fun g13 r13 ef13=>XvPick g13 (.atom (.bool true)) r13 (fun r14 ef14=>Xge r14 false (fun k=>k (S.get 6) e0) (fun g16 r16 ef16=>Xge g16 false (fun k=>XvIndexAddr P 23 r16 (.atom (.int .i64 0)) k) (fun g17 r17 ef17=>Xge g17 false (fun k=>XvLoad P 73 (M S.hp S.nx) r17 k) (fun g18 r18 ef18=>Xge g18 false (fun k=>XvBuild P 73 [(0,(.atom (.string { data := #[104,105,115] }))),(1,(.atom (.string { data := #[104,105,115] })))] k) (fun g19 r19 ef19=>Xge g19 false (fun k=>XvBinOV P .neq 73 (.tmp 133) r18 r19 k) (fun g20 r20 ef20=>XvPick g20 (.atom (.bool true)) r20 (fun r21 ef21=>(trOk S.nx GD [⟨S.nx,0,[],[],[]⟩,⟨S.nx,0,ef1.rd,[],[]⟩,⟨S.nx,0,ef2.rd,[],[]⟩,⟨S.nx,0,ef3.rd,[],[]⟩,⟨S.nx,0,ef4.rd,[],[]⟩,⟨S.nx,0,ef5.rd,[],[]⟩,⟨S.nx,0,ef6.rd,[],[]⟩,⟨S.nx,0,ef7.rd,[],[]⟩,⟨S.nx,0,[],[],[]⟩,⟨S.nx,0,ef9.rd,[],[]⟩,⟨S.nx,0,ef10.rd,[],[]⟩,⟨S.nx,0,ef11.rd,[],[]⟩,⟨S.nx,0,ef12.rd,[],[]⟩,⟨S.nx,0,ef13.rd,[],[]⟩,⟨S.nx,0,ef14.rd,[],[]⟩,⟨S.nx,0,[],[],[]⟩,⟨S.nx,0,ef16.rd,[],[]⟩,⟨S.nx,0,ef17.rd,[],[]⟩,⟨S.nx,0,ef18.rd,[],[]⟩,⟨S.nx,0,ef19.rd,[],[]⟩,⟨S.nx,0,ef20.rd,[],[]⟩,⟨S.nx,0,ef21.rd,[],[]⟩]=true∧K ⟨[(4,S.get 4),(10,S.get 10),(12,S.get 12),(14,S.get 14),(135,r21)],S.hp,S.nx,S.gh⟩))))))))))))))))))))) fun K hK=>?_
  repeat' (first|(refine hK _ ?_;clear hK K)|(refine(?_:trOk _ _ _=true);(try simp only[zlH]);kernel_rfl)|((first|refine zax (fun hg=>?_) (fun hg=>?_)|refine fun(hg:(_:Prop))=>?_)<;>((try simp only[BQ] at hg);try (exfalso;omega)))|refine And.intro ?_ ?_|exact cl|(refine st ?_;try simp only[encX,zaa,zab,zac,encF,encM,zlH])|fail)
  all_goals
  refine Tri.cond rfl (fun h135=>?_) (fun h135=>?_)
  ·try (cases h135;done)
   all_goals (try simp only[CQ] at h135)
   all_goals
   refine sY [0] (fun P S K=>K ⟨[(0,(.atom (.bool false)))],S.hp,S.nx,S.gh⟩) ?_
   all_goals
   refine Tri.ret ?_
   show ResOk _ _ _ _
   exfalso
   first
     | exact absurd h135 (by decide +kernel)
     | exact absurd hg (by decide +kernel)
     | (revert h135;decide +kernel)
     | (rename_i q1;exact absurd q1 (by decide +kernel))
     | (rename_i q1 q2;exact absurd q1 (by decide +kernel))
     | (rename_i q1 q2;exact absurd q2 (by decide +kernel))
  try (cases h135;done)
  all_goals (try simp only[CQ] at h135)
  all_goals
  refine Tri.skip ?_
  refine sD 21 [0] (fun P GD S K=>XvBuildS P 37 4 S.nx [(0,(.atom (.string { data := #[49,111,100,101,47,110,111,117,110] }))),(1,(.atom (.string { data := #[50,111,100,101,47,110,111,117,110] }))),(2,(.atom (.string { data := #[50,111,100,101,47,118,101,114,98] }))),(3,(.atom (.string { data := #[51,111,100,101,115,47] })))] (fun r1 ef1=>XvFnDV P (M (Eff.hp ef1 S.nx S.hp) (S.nx+ef1.add.length)) (.fn 25 []) [(S.get 10),r1] (fun r2 ef2=>Xge r2 true (fun k=>XvLoad P 73 (M (Eff.hp ef2 (S.nx+ef1.add.length) (Eff.hp ef1 S.nx S.hp)) ((S.nx+ef1.add.length)+ef2.add.length)) (S.get 12) k) (fun g4 r4 ef4=>Xge g4 true (fun k=>k (S.get 4) e0) (fun g5 r5 ef5=>Xge g5 true (fun k=>XvIndexAddr P 23 r5 (.atom (.int .i64 1)) k) (fun g6 r6 ef6=>Xge g6 true (fun k=>XvLoad P 73 (M (Eff.hp ef2 (S.nx+ef1.add.length) (Eff.hp ef1 S.nx S.hp)) ((S.nx+ef1.add.length)+ef2.add.length)) r6 k) (fun g7 r7 ef7=>Xge g7 true (fun k=>XvBinOV P .eql 73 (.tmp 143) r4 r7 k) (fun g8 r8 ef8=>XvPick g8 r8 (.atom (.bool false)) (fun r9 ef9=>Xge r9 true (fun k=>XvFieldAddr P 73 2 (S.get 12) k) (fun g11 r11 ef11=>Xge g11 true (fun k=>XvLoad P 9 (M (Eff.hp ef2 (S.nx+ef1.add.length) (Eff.hp ef1 S.nx S.hp)) ((S.nx+ef1.add.length)+ef2.add.length)) r11 k) (fun g12 r12 ef12=>Xge g12 true (fun k=>XvBinOV P .eql 9 (.const (.string { data := #[118,101,114,98] })) r12 (.atom (.string { data := #[118,101,114,98] })) k) (fun g13 r13 ef13=>XvPick g13 r13 (.atom (.bool false)) (fun r14 ef14=>Xge r14 true (fun k=>k (S.get 14) e0) (fun g16 r16 ef16=>Xge g16 true (fun k=>XvBuildS P 22 1 ((S.nx+ef1.add.length)+ef2.add.length) [(0,(.atom (.int .i64 0)))] k) (fun g17 r17 ef17=>Xge g17 true (fun k=>XvFnDV P (M (Eff.hp ef17 ((S.nx+ef1.add.length)+ef2.add.length) (Eff.hp ef2 (S.nx+ef1.add.length) (Eff.hp ef1 S.nx S.hp))) (((S.nx+ef1.add.length)+ef2.add.length)+ef17.add.length)) (.fn 30 []) [r16,r17] k) (fun g18 r18 ef18=>XvPick g18 r18 (.atom (.bool false)) (fun r19 ef19=>(trOk S.nx GD [⟨S.nx,0,[],[],[]⟩,(Eff.tr ef1 S.nx),(Eff.tr ef2 (S.nx+ef1.add.length)),⟨((S.nx+ef1.add.length)+ef2.add.length),0,[],[],[]⟩,⟨((S.nx+ef1.add.length)+ef2.add.length),0,ef4.rd,[],[]⟩,⟨((S.nx+ef1.add.length)+ef2.add.length),0,ef5.rd,[],[]⟩,⟨((S.nx+ef1.add.length)+ef2.add.length),0,ef6.rd,[],[]⟩,⟨((S.nx+ef1.add.length)+ef2.add.length),0,ef7.rd,[],[]⟩,⟨((S.nx+ef1.add.length)+ef2.add.length),0,ef8.rd,[],[]⟩,⟨((S.nx+ef1.add.length)+ef2.add.length),0,ef9.rd,[],[]⟩,⟨((S.nx+ef1.add.length)+ef2.add.length),0,[],[],[]⟩,⟨((S.nx+ef1.add.length)+ef2.add.length),0,ef11.rd,[],[]⟩,⟨((S.nx+ef1.add.length)+ef2.add.length),0,ef12.rd,[],[]⟩,⟨((S.nx+ef1.add.length)+ef2.add.length),0,ef13.rd,[],[]⟩,⟨((S.nx+ef1.add.length)+ef2.add.length),0,ef14.rd,[],[]⟩,⟨((S.nx+ef1.add.length)+ef2.add.length),0,[],[],[]⟩,⟨((S.nx+ef1.add.length)+ef2.add.length),0,ef16.rd,[],[]⟩,(Eff.tr ef17 ((S.nx+ef1.add.length)+ef2.add.length)),(Eff.tr ef18 (((S.nx+ef1.add.length)+ef2.add.length)+ef17.add.length)),⟨((((S.nx+ef1.add.length)+ef2.add.length)+ef17.add.length)+ef18.add.length),0,ef19.rd,[],[]⟩,⟨((((S.nx+ef1.add.length)+ef2.add.length)+ef17.add.length)+ef18.add.length),0,[],[],[]⟩]=true∧K ⟨[(0,r19)],(Eff.hp ef18 (((S.nx+ef1.add.length)+ef2.add.length)+ef17.add.length) (Eff.hp ef17 ((S.nx+ef1.add.length)+ef2.add.length) (Eff.hp ef2 (S.nx+ef1.add.length) (Eff.hp ef1 S.nx S.hp)))),((((S.nx+ef1.add.length)+ef2.add.length)+ef17.add.length)+ef18.add.length),S.gh⟩)))))))))))))))))) fun K hK=>?_
  repeat' (first|(refine hK _ ?_;clear hK K)|(refine(?_:trOk _ _ _=true);kernel_rfl)|((first|refine zax (fun hg=>?_) (fun hg=>?_)|refine fun(hg:(_:Prop))=>?_)<;>((try simp only[BQ] at hg);try (exfalso;omega)))|refine And.intro ?_ ?_|exact cl|refine .inl ⟨_,_,ze2 outsL outsL (by decide) (by decide),?_⟩|refine .inl ⟨_,_,ziv [0] [0] (by decide) (by decide),?_⟩|(refine st ?_;try simp only[encX,zaa,zab,zac,encF,encM])|fail)
  all_goals
  refine Tri.ret ?_
  show ResOk _ _ _ _
  first
  | (exact absurd (by decide +kernel) hg)
  | exact ResOk.val lsrM27 lpvM27
theorem zjv (l m:List Int) (how by_:Int) (raw:ByteArray) (hl:Fits l) (hm:Fits m) (hh:I64 how) (hb:I64 by_):
    Pure Tryz.prog 4 [ints l,ints m,encI how,encI by_,encS raw] (.atom (.bool true)) []:=zih l m how by_ raw hl hm hh hb znS
end Go.Proofs.YtehoglapajkabaaGreat
namespace Go.Proofs.YtehoglapajkabaaGreat
open Go Go.RowKit Go.ChangeShapes Go.WideShapes Go.ChangeAt Go.ChangeMaps
theorem ownJ:ownKnob Tryz.prog.godebug=none:=by kernel_rfl
theorem laidOutJ:laidOutB Tryz.prog=true:=by kernel_rfl
set_option maxRecDepth 100000 in
theorem liftedJ (os:Os) (started:os.Started) (H:Type) (enc:TypeId×Value→H):
    ReturnsInHanded {} Tryz.checked os 4 .any (Rows.lemmaMachinesSpec.pre6 enc Tryz.prog Tryz.f4 Rows.lemmaMachinesRow.domain false) (Rows.lemmaMachinesSpec.post enc Tryz.prog Tryz.f4 false true false false):=by
  refine returnsInHanded_of_change (C:=Tryz.checked) ownJ started (by kernel_rfl) Tryz.func4
    (ChangeSpec.witness6 (enc:=enc) (C:=Tryz.checked) false ⟨#[],#[.slice none 0 0,.slice none 0 0,.int .i64 0,.int .i64 0,.string ByteArray.empty],[]⟩ 8 (by kernel_rfl) (by kernel_rfl) (by kernel_rfl) (by kernel_rfl)) ?_
  intro W base args ds gs before hval0 hW _ _
  have hval:∀(j:Nat) t v,Tryz.f4.params[j]? = some t→args[j]? = some v→Value.okWide Tryz.prog W .any base t v:=hval0
  have hW':=hW
  obtain⟨p,q,hA0,hV,rfl,hfz,hnd⟩:=hW
  have hA:DataW.TrodAll enc Tryz.prog W 0 (fun _=>true) true Tryz.f4.params.toList args.toList ds p:=hA0
  rw[Tryz.params4] at hA hval
  obtain⟨v0,w0,d0,e0,p0,q0,hargs0,rfl,rfl,h0,g0⟩:=trodAll_cons hA
  obtain⟨v1,w1,d1,e1,p1,q1,rfl,rfl,rfl,h1,g1⟩:=trodAll_cons g0
  obtain⟨v2,w2,d2,e2,p2,q2,rfl,rfl,rfl,h2,g2⟩:=trodAll_cons g1
  obtain⟨v3,w3,d3,e3,p3,q3,rfl,rfl,rfl,h3,g3⟩:=trodAll_cons g2
  obtain⟨v4,w4,d4,e4,p4,q4,rfl,rfl,rfl,h4,g4⟩:=trodAll_cons g3
  obtain⟨rfl,rfl,rfl⟩:=trodAll_nil g4
  obtain rfl:args = #[v0,v1,v2,v3,v4]:=Array.toList_inj.1 hargs0
  obtain⟨rfl,rfl⟩:=trodVars_none hV
  obtain⟨l,H0,hp0⟩:=zf0 Tryz.underlying22 Tryz.underlying3 (by kernel_rfl) (hval 0 22 v0 rfl rfl) h0
  obtain⟨m,H1,hp1⟩:=zf0 Tryz.underlying22 Tryz.underlying3 (by kernel_rfl) (hval 1 22 v1 rfl rfl) h1
  obtain⟨how,rfl,rfl,rfl,H2⟩:=open_int Tryz.underlying3 (hval 2 3 v2 rfl rfl) h2
  obtain⟨by_,rfl,rfl,rfl,H3⟩:=open_int Tryz.underlying3 (hval 3 3 v3 rfl rfl) h3
  obtain⟨raw,rfl,rfl,rfl,H4⟩:=open_string Tryz.underlying9 (hval 4 9 v4 rfl rfl) h4
  have i64:∀ {x:Int},(Lit.int .i64 x).wf=true→I64 x:=fun h=>by simpa[Lit.wf,IntKind.min,IntKind.max,IntKind.signed,IntKind.bits,I64] using h
  have hlt:=hW'.lt
  have hcall:=(zjv l m how by_ raw H0 H1 (i64 H2) (i64 H3)).calls (W:=W) (vs := #[v0,v1,.int .i64 how,.int .i64 by_,.string raw]) rfl (fun i hi=>by
    match i,hi with
    | 0,_=>exact hp0
    | 1,_=>exact hp1
    | 2,_=>exact IsPv.atom W _
    | 3,_=>exact IsPv.atom W _
    | 4,_=>exact IsPv.atom W _)
  refine hcall.mono fun e W' ⟨he,hb⟩=>?_
  subst he
  have hargs:=Below.trods laidOutJ hb _ _ _ _ (by
    have hall:(Tryz.f4.params.toList.all fun t=>Tryz.prog.readableRec t && decide (t<Tryz.prog.types.size))=true:=by kernel_rfl
    exact fun t ht=>by
      have:=List.all_eq_true.1 hall t ht
      rw[Bool.and_eq_true] at this
      exact⟨this.1,of_decide_eq_true this.2⟩) (fun x hx=>hlt x (List.mem_append_left _ hx)) hA0
  exact⟨_,rfl,_,_,_,[],_,[],hW',trodAll_mk1 (shut_bool Tryz.underlying4 _),hargs,rfl,hb.frame _,fun h=>by cases h⟩
theorem lemmaMachines_holds:Rows.LemmaMachinesSaid:=
  OpenClaim.holds_of_wide 4 Tryz.f4 rfl rfl rfl rfl rfl rfl rfl ⟨rfl,rfl,rfl,rfl,rfl⟩ rfl rfl rfl rfl rfl (by kernel_rfl) Tryz.func4 (by kernel_rfl)
    (of_decide_eq_true (by kernel_rfl)) (by unfold Func.isWrapper;first|(rw[if_pos (by decide +kernel)];kernel_rfl)|(rw[if_neg (by decide +kernel)];exact⟨rfl,rfl⟩))
    (fun os started H enc _=>liftedJ os started H enc)
end Go.Proofs.YtehoglapajkabaaGreat
