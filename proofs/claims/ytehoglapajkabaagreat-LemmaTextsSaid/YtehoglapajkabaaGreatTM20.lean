/-
  Walks: package lemma: open,Choose,Text,Open.
-/
import Derived.Test.YtehoglapajkabaaGreatTM0
import Derived.Test.YtehoglapajkabaaGreatTM18
import Derived.Test.YtehoglapajkabaaGreatTM10
set_option linter.all false
namespace Go.Proofs.YtehoglapajkabaaGreat
open Go Go.RowKit
set_option maxRecDepth 20000
set_option maxHeartbeats 1000000
theorem lsrM19{p:Prop}(h:p:=by(first|rfl|(simp[St.born,St.known,retV,St.get,St.obj,lk,sealed,PV.ren,renL,rmap,AO.ren,ints,strs,encI,encS,zan,zam,zal,zak,zaB,zaA,zaz,zay,zaY,zaX,zaW,zaV,zbM,zbN,zhA,zaR,zcQ,zaa,zac,zad,zab,zai,zaj,zaE,za4,zaH,zbc,zaI,zbd,zap,encF,encR,encA,zbF];done));first|done|fail):p:=h
theorem zgT{p:Prop}(h:p:=by(first|rfl|(simp[zah,zag,PV.pure,zax,zao,zar,zav,zau,zcB,zaQ,zaK,za1,za2,zaL,zas,encF,encS];done));first|done|fail):p:=h
theorem zid{x:LexD}{ws:List ByteArray}(h:¬zb0 x=0):errX x ws=zb0 x:=if_pos h
theorem zkA{x:LexD}{ws:List ByteArray}(h:zb0 x=0) (h2:ws.all zbp=false):errX x ws=1:=by
  unfold errX;rw[if_neg (by omega),if_neg (by rw[h2];decide)]
theorem zfv{x:LexD}{ws:List ByteArray}(h:zb0 x=0) (h2:ws.all zbp=true):errX x ws=0:=by
  unfold errX;rw[if_neg (by omega),if_pos h2]
theorem ziL (x:LexD) (ws:List ByteArray) (hx:HeldX x) (hn:ws.length≤1000000) (hw:∀w,w∈ws→w.size≤9223372036854775807) (he:errX x ws≠0):Pure Tryz.prog 63 [encX x,strs ws] (.tup [.atom (.pointer none),encI (errX x ws)]) []:=by
  refine Pure.intro (ts:=[4,5]) Tryz.func63 (by kernel_rfl) rfl rfl rfl (Nat.le_of_ble_eq_true rfl) ?_ ?_
  · simp[zaQ,zag,encS,PV.pure,zax]
  refine sZ [1,2] (fun P S K=>XvBox S.nx (S.get 0) (fun r0 ef0=>K ⟨[(1,S.get 1),(2,r0)],(Eff.hp ef0 S.nx S.hp),(S.nx+ef0.add.length),S.gh⟩)) fun K hK=>?_
  repeat' (first|(refine hK _ ?_;clear hK K)|refine And.intro ?_ ?_|exact cl|(refine st ?_;try simp only[encX,zaa,zac,zad,zab])|fail)
  all_goals
  refine Tri.seq ?_
  refine sZ [1,2,6] (fun P S K=>XvLoad P 27 (M S.hp S.nx) (S.get 2) (fun r0 _=>XvFnIV P (M S.hp S.nx) (.fn 13 []) [r0] (fun r1 ef1=>K ⟨[(1,S.get 1),(2,S.get 2),(6,r1)],(Eff.hp ef1 S.nx S.hp),(S.nx+ef1.add.length),S.gh⟩))) fun K hK=>?_
  repeat' (first|(refine hK _ ?_;clear hK K)|refine .inl ⟨_,_,zeY x hx,?_⟩|(refine st ?_;try simp only[encX,zaa,zac,zad,zab])|fail)
  all_goals
  refine sY [1,2,6,10] (fun P S K=>XvBinOV P .neq 40 (.const (.int .i64 0)) (S.get 6) (.atom (.int .i64 0)) (fun r1 _=>K ⟨[(1,S.get 1),(2,S.get 2),(6,S.get 6),(10,r1)],S.hp,S.nx,S.gh⟩)) ?_
  all_goals
  refine Tri.cond rfl (fun h10=>?_) (fun h10=>?_)
  ·try (cases h10;done)
   all_goals (try simp only[CQ] at h10)
   all_goals
   refine sY [4,5] (fun P S K=>K ⟨[(4,(.atom (.pointer none))),(5,(S.get 6))],S.hp,S.nx,S.gh⟩) ?_
   all_goals
   refine Tri.ret ?_
   show ResOk _ _ _ _
   rw[zid (by assumption)]
   exact ResOk.val lsrM19 zgT
  try (cases h10;done)
  all_goals (try simp only[CQ] at h10)
  all_goals
  refine Tri.skip ?_
  refine Tri.seq ?_
  refine sZ [2,14] (fun P S K=>XvFnIV P (M S.hp S.nx) (.fn 44 []) [(S.get 1)] (fun r1 ef1=>XvUn .not r1 (fun r2 _=>K ⟨[(2,S.get 2),(14,r2)],(Eff.hp ef1 S.nx S.hp),(S.nx+ef1.add.length),S.gh⟩))) fun K hK=>?_
  repeat' (first|(refine hK _ ?_;clear hK K)|refine .inl ⟨_,_,zfL ws (by omega) hw,?_⟩|(refine st ?_;try simp only[encX,zaa,zac,zad,zab])|fail)
  all_goals try simp (disch:=omega) only[zae,zaf]
  all_goals
  refine Tri.cond rfl (fun h14=>?_) (fun h14=>?_)
  ·try (cases h14;done)
   all_goals (try simp only[CQ] at h14)
   all_goals
   refine sY [4,5] (fun P S K=>K ⟨[(4,(.atom (.pointer none))),(5,(.atom (.int .i64 1)))],S.hp,S.nx,S.gh⟩) ?_
   all_goals
   refine Tri.ret ?_
   show ResOk _ _ _ _
   rw[zkA (by assumption) (by simp_all)]
   exact ResOk.val lsrM19 zgT
  try (cases h14;done)
  all_goals (try simp only[CQ] at h14)
  all_goals
  refine Tri.skip ?_
  refine sZ [4,5] (fun P S K=>XvLoad P 27 (M S.hp S.nx) (S.get 2) (fun r0 _=>XvMakeMap none S.nx (fun r1 ef1=>XvBuild P 152 [(0,r0),(1,r1)] (fun r2 _=>XvBox (S.nx+ef1.add.length) r2 (fun r3 ef3=>K ⟨[(4,r3),(5,(.atom (.int .i64 0)))],(Eff.hp ef3 (S.nx+ef1.add.length) (Eff.hp ef1 S.nx S.hp)),((S.nx+ef1.add.length)+ef3.add.length),S.gh⟩))))) fun K hK=>?_
  repeat' (first|(refine hK _ ?_;clear hK K)|(refine st ?_;try simp only[encX,zaa,zac,zad,zab])|fail)
  all_goals
  refine Tri.ret ?_
  show ResOk _ _ _ _
  exact absurd (zfv (by assumption) (by simp_all)) he
theorem ziK (x:LexD) (ws:List ByteArray) (hx:HeldX x) (hn:ws.length≤1000000) (hw:∀w,w∈ws→w.size≤9223372036854775807) (he:errX x ws=0):Pure Tryz.prog 63 [encX x,strs ws] (.tup [.ptr 0 4 0 0,encI 0]) [⟨4,[zaR x]⟩,⟨0,[]⟩]:=by
  refine Pure.intro (ts:=[4,5]) Tryz.func63 (by kernel_rfl) rfl rfl rfl (Nat.le_of_ble_eq_true rfl) ?_ ?_
  · simp[zaQ,zag,encS,PV.pure,zax]
  refine sZ [1,2] (fun P S K=>XvBox S.nx (S.get 0) (fun r0 ef0=>K ⟨[(1,S.get 1),(2,r0)],(Eff.hp ef0 S.nx S.hp),(S.nx+ef0.add.length),S.gh⟩)) fun K hK=>?_
  repeat' (first|(refine hK _ ?_;clear hK K)|refine And.intro ?_ ?_|exact cl|(refine st ?_;try simp only[encX,zaa,zac,zad,zab])|fail)
  all_goals
  refine Tri.seq ?_
  refine sZ [1,2,6] (fun P S K=>XvLoad P 27 (M S.hp S.nx) (S.get 2) (fun r0 _=>XvFnIV P (M S.hp S.nx) (.fn 13 []) [r0] (fun r1 ef1=>K ⟨[(1,S.get 1),(2,S.get 2),(6,r1)],(Eff.hp ef1 S.nx S.hp),(S.nx+ef1.add.length),S.gh⟩))) fun K hK=>?_
  repeat' (first|(refine hK _ ?_;clear hK K)|refine .inl ⟨_,_,zeY x hx,?_⟩|(refine st ?_;try simp only[encX,zaa,zac,zad,zab])|fail)
  all_goals
  refine sY [1,2,6,10] (fun P S K=>XvBinOV P .neq 40 (.const (.int .i64 0)) (S.get 6) (.atom (.int .i64 0)) (fun r1 _=>K ⟨[(1,S.get 1),(2,S.get 2),(6,S.get 6),(10,r1)],S.hp,S.nx,S.gh⟩)) ?_
  all_goals
  refine Tri.cond rfl (fun h10=>?_) (fun h10=>?_)
  ·try (cases h10;done)
   all_goals (try simp only[CQ] at h10)
   all_goals
   refine sY [4,5] (fun P S K=>K ⟨[(4,(.atom (.pointer none))),(5,(S.get 6))],S.hp,S.nx,S.gh⟩) ?_
   all_goals
   refine Tri.ret ?_
   show ResOk _ _ _ _
   exact absurd he (by rw[zid (by assumption)];assumption)
  try (cases h10;done)
  all_goals (try simp only[CQ] at h10)
  all_goals
  refine Tri.skip ?_
  refine Tri.seq ?_
  refine sZ [2,14] (fun P S K=>XvFnIV P (M S.hp S.nx) (.fn 44 []) [(S.get 1)] (fun r1 ef1=>XvUn .not r1 (fun r2 _=>K ⟨[(2,S.get 2),(14,r2)],(Eff.hp ef1 S.nx S.hp),(S.nx+ef1.add.length),S.gh⟩))) fun K hK=>?_
  repeat' (first|(refine hK _ ?_;clear hK K)|refine .inl ⟨_,_,zfL ws (by omega) hw,?_⟩|(refine st ?_;try simp only[encX,zaa,zac,zad,zab])|fail)
  all_goals try simp (disch:=omega) only[zae,zaf]
  all_goals
  refine Tri.cond rfl (fun h14=>?_) (fun h14=>?_)
  ·try (cases h14;done)
   all_goals (try simp only[CQ] at h14)
   all_goals
   refine sY [4,5] (fun P S K=>K ⟨[(4,(.atom (.pointer none))),(5,(.atom (.int .i64 1)))],S.hp,S.nx,S.gh⟩) ?_
   all_goals
   refine Tri.ret ?_
   show ResOk _ _ _ _
   exact absurd he (by rw[zkA (by assumption) (by simp_all)];decide)
  try (cases h14;done)
  all_goals (try simp only[CQ] at h14)
  all_goals
  refine Tri.skip ?_
  refine sZ [4,5] (fun P S K=>XvLoad P 27 (M S.hp S.nx) (S.get 2) (fun r0 _=>XvMakeMap none S.nx (fun r1 ef1=>XvBuild P 152 [(0,r0),(1,r1)] (fun r2 _=>XvBox (S.nx+ef1.add.length) r2 (fun r3 ef3=>K ⟨[(4,r3),(5,(.atom (.int .i64 0)))],(Eff.hp ef3 (S.nx+ef1.add.length) (Eff.hp ef1 S.nx S.hp)),((S.nx+ef1.add.length)+ef3.add.length),S.gh⟩))))) fun K hK=>?_
  repeat' (first|(refine hK _ ?_;clear hK K)|(refine st ?_;try simp only[encX,zaa,zac,zad,zab])|fail)
  all_goals
  refine Tri.ret ?_
  show ResOk _ _ _ _
  refine ResOk.two 2 1 4 (by decide) rfl rfl (by simp[retV,St.get,lk,sealed,PV.ren,renL,rmap]) rfl rfl ?_ ?_
  · simp[zaR,sealed,PV.ren,renL,rmap,zaa,zac,zad,zaE,zaH,zaI,zab,zai,zaj,-List.map_map]
  · rfl
theorem argsC (ws:List ByteArray) (k:Int) (a b n:Nat):[PV.ptr a 4 0 0,strs ws,encI k]=[PV.ptr 0 4 0 0,strs ws,encI k].map (PV.ren (rmap [a,b] n)):=by
  have h:∀ρ,(strs ws).ren ρ=strs ws:=fun ρ=>zbe ρ _ (zag ws)
  simp[PV.ren,rmap,h,encI]
theorem zrR (x:LexD) (ws kn:List ByteArray) (k:Nat):(runX x ws kn k).1=choT x ws k:=zlQ x ws kn k
theorem zgr (x:LexD) (kn ws:List ByteArray) (k:Nat) (hx:HeldX x) (hk:k<ws.length) (hs:∀s,s∈kn→s.size≤140737488355328) (hw:∀s,s∈ws→s.size≤140737488355328) (hn:ws.length≤1000000):Proc Tryz.prog 64 [.ptr 0 4 0 0,strs ws,encI k] (hpB x kn) (.tup [encF (choT x ws k).1,.atom (.bool (choT x ws k).2)]) ((hpB x (runX x ws kn k).2).map some) []:=by
  have:=zmk x kn ws k hx hk hs hw hn
  rw[zrR] at this
  exact this
theorem zl3 (x:LexD) (ws:List ByteArray) (k:Int) (hx:HeldX x) (hn:ws.length≤1000000) (hw:∀w,w∈ws→w.size≤9223372036854775807) (hk:I64 k) (he:errX x ws≠0):
    Pure Tryz.prog 32 [encX x,strs ws,encI k] (.tup [encF (zbI x ws k).1,encI (zbI x ws k).2]) []:=by
  obtain⟨hk1,hk2⟩:=hk
  refine Pure.introR (rv:=[.cell 6 73,.tmp 7]) Tryz.func32 (by kernel_rfl) rfl rfl rfl (Nat.le_of_ble_eq_true rfl) ?_ ?_
  · simp[zaQ,zag,encS,encI,PV.pure,zax]
  refine sZ [1,2,3,6] (fun P S K=>XvBox S.nx (S.get 0) (fun r0 ef0=>XvAlloc P 73 (S.nx+ef0.add.length) (fun r1 ef1=>K ⟨[(1,S.get 1),(2,S.get 2),(3,r0),(6,r1)],(Eff.hp ef1 (S.nx+ef0.add.length) (Eff.hp ef0 S.nx S.hp)),((S.nx+ef0.add.length)+ef1.add.length),S.gh⟩))) fun K hK=>?_
  repeat' (first|(refine hK _ ?_;clear hK K)|refine And.intro ?_ ?_|exact cl|(refine st ?_;try simp only[encX,zaa,zac,zad,encF,zab])|fail)
  all_goals
  refine sZ [1,2,6,8,9] (fun P S K=>XvLoad P 27 (M S.hp S.nx) (S.get 3) (fun r0 _=>XvFnIV P (M S.hp S.nx) (.fn 63 []) [r0,(S.get 1)] (fun r2 ef2=>XvExtract r2 0 (fun r4 _=>XvExtract r2 1 (fun r5 _=>K ⟨[(1,S.get 1),(2,S.get 2),(6,S.get 6),(8,r4),(9,r5)],(Eff.hp ef2 S.nx S.hp),(S.nx+ef2.add.length),S.gh⟩))))) fun K hK=>?_
  repeat' (first|(refine hK _ ?_;clear hK K)|refine And.intro ?_ ?_|refine .inl ⟨_,_,ziL x ws hx hn hw he,?_⟩|(refine st ?_;try simp only[encX,zaa,zac,zad,encF,zab])|fail)
  all_goals
  refine Tri.seq ?_
  refine sY [1,2,6,8,9,19] (fun P S K=>XvBinOV P .neq 40 (.const (.int .i64 0)) (S.get 9) (.atom (.int .i64 0)) (fun r1 _=>K ⟨[(1,S.get 1),(2,S.get 2),(6,S.get 6),(8,S.get 8),(9,S.get 9),(19,r1)],S.hp,S.nx,S.gh⟩)) ?_
  all_goals
  refine Tri.cond rfl (fun h19=>?_) (fun h19=>?_)
  ·try (cases h19;done)
   all_goals (try simp only[CQ] at h19)
   all_goals
   refine sZ [6,7] (fun P S K=>XvBuild P 73 [] (fun r0 _=>XvStore P 73 (M S.hp S.nx) (S.get 6) r0 (fun r2 ef2=>K ⟨[(6,S.get 6),(7,(S.get 9))],(Eff.hp ef2 S.nx S.hp),(S.nx+ef2.add.length),S.gh⟩))) fun K hK=>?_
   repeat' (first|(refine hK _ ?_;clear hK K)|refine And.intro ?_ ?_|exact cl|(refine st ?_;try simp only[encX,zaa,zac,zad,encF,zab])|fail)
   all_goals
   refine Tri.ret ?_
   show ResR _ _ _ _ _
   rw[zmm he];refine ResR.cells (encF noF) (encI (errX x ws)) [] rfl rfl rfl
  try (cases h19;done)
  all_goals (try simp only[CQ] at h19)
  all_goals
  refine Tri.skip ?_
  refine Tri.seq ?_
  refine sZ [1,2,6,8,29] (fun P S K=>XvBinOV P .lss 3 (.const (.int .i64 0)) (S.get 2) (.atom (.int .i64 0)) (fun r1 _=>Xgq r1 false (fun k=>k (S.get 2)) (fun g3 r3=>Xgq g3 false (fun k=>k (S.get 1)) (fun g4 r4=>Xgq g4 false (fun k=>XvLen P 37 (M S.hp S.nx) r4 (fun r5 _=>k r5)) (fun g5 r5=>Xgq g5 false (fun k=>XvBinOV P .geq 3 (.tmp 27) r3 r5 (fun r6 _=>k r6)) (fun g6 r6=>XvPick g6 (.atom (.bool true)) r6 (fun r7 _=>K ⟨[(1,S.get 1),(2,S.get 2),(6,S.get 6),(8,S.get 8),(29,r7)],S.hp,S.nx,S.gh⟩))))))) fun K hK=>?_
  repeat' (first|(refine hK _ ?_;clear hK K)|((first|refine zaw (fun hg=>?_) (fun hg=>?_)|refine fun(hg:(_:Prop))=>?_)<;>((try simp only[BQ] at hg);try (exfalso;omega)))|refine And.intro ?_ ?_|exact cl|(refine st ?_;try simp only[encX,zaa,zac,zad,encF,zab])|fail)
  all_goals
  refine Tri.cond rfl (fun h29=>?_) (fun h29=>?_)
  ·try (cases h29;done)
   all_goals (try simp only[CQ] at h29)
   all_goals
   refine sZ [6,7] (fun P S K=>XvBuild P 73 [] (fun r0 _=>XvStore P 73 (M S.hp S.nx) (S.get 6) r0 (fun r1 ef1=>K ⟨[(6,S.get 6),(7,(.atom (.int .i64 5)))],(Eff.hp ef1 S.nx S.hp),(S.nx+ef1.add.length),S.gh⟩))) fun K hK=>?_
   repeat' (first|(refine hK _ ?_;clear hK K)|refine And.intro ?_ ?_|exact cl|(refine st ?_;try simp only[encX,zaa,zac,zad,encF,zab])|fail)
   all_goals
   refine Tri.ret ?_
   show ResR _ _ _ _ _
   done
  try (cases h29;done)
  all_goals (try simp only[CQ] at h29)
  all_goals
  refine Tri.skip ?_
  refine sZ [6,10,11] (fun P S K=>XvFnIV P (M S.hp S.nx) (.fn 64 []) [(S.get 8),(S.get 1),(S.get 2)] (fun r3 ef3=>XvExtract r3 0 (fun r5 _=>XvExtract r3 1 (fun r6 _=>XvAlloc P 73 (S.nx+ef3.add.length) (fun r7 ef7=>XvStore P 73 (M (Eff.hp ef7 (S.nx+ef3.add.length) (Eff.hp ef3 S.nx S.hp)) ((S.nx+ef3.add.length)+ef7.add.length)) r7 r5 (fun r8 ef8=>K ⟨[(6,S.get 6),(10,r7),(11,r6)],(Eff.hp ef8 ((S.nx+ef3.add.length)+ef7.add.length) (Eff.hp ef7 (S.nx+ef3.add.length) (Eff.hp ef3 S.nx S.hp))),(((S.nx+ef3.add.length)+ef7.add.length)+ef8.add.length),S.gh⟩)))))) fun K hK=>?_
  repeat' (first|(refine hK _ ?_;clear hK K)|refine And.intro ?_ ?_|exact cl|(refine st ?_;try simp only[encX,zaa,zac,zad,encF,zab])|fail)
  all_goals
  refine Tri.seq ?_
  refine sY [6,10,39] (fun P S K=>XvUn .not (S.get 11) (fun r1 _=>K ⟨[(6,S.get 6),(10,S.get 10),(39,r1)],S.hp,S.nx,S.gh⟩)) ?_
  all_goals try simp (disch:=omega) only[zae,zaf]
  all_goals
  refine Tri.cond rfl (fun h39=>?_) (fun h39=>?_)
  ·try (cases h39;done)
   all_goals (try simp only[CQ] at h39)
   all_goals
   refine sZ [6,7] (fun P S K=>XvBuild P 73 [] (fun r0 _=>XvStore P 73 (M S.hp S.nx) (S.get 6) r0 (fun r1 ef1=>K ⟨[(6,S.get 6),(7,(.atom (.int .i64 14)))],(Eff.hp ef1 S.nx S.hp),(S.nx+ef1.add.length),S.gh⟩))) fun K hK=>?_
   repeat' (first|(refine hK _ ?_;clear hK K)|refine And.intro ?_ ?_|exact cl|(refine st ?_;try simp only[encX,zaa,zac,zad,encF,zab])|fail)
   all_goals
   refine Tri.ret ?_
   show ResR _ _ _ _ _
   done
  try (cases h39;done)
  all_goals (try simp only[CQ] at h39)
  all_goals
  refine Tri.skip ?_
  refine sZ [6,7] (fun P S K=>XvLoad P 73 (M S.hp S.nx) (S.get 10) (fun r0 _=>XvStore P 73 (M S.hp S.nx) (S.get 6) r0 (fun r1 ef1=>K ⟨[(6,S.get 6),(7,(.atom (.int .i64 0)))],(Eff.hp ef1 S.nx S.hp),(S.nx+ef1.add.length),S.gh⟩))) fun K hK=>?_
  repeat' (first|(refine hK _ ?_;clear hK K)|refine And.intro ?_ ?_|exact cl|(refine st ?_;try simp only[encX,zaa,zac,zad,encF,zab])|fail)
  all_goals
  refine Tri.ret ?_
  show ResR _ _ _ _ _
  done
theorem zoW (x:LexD) (ws:List ByteArray) (k:Int) (hx:HeldX x) (hn:ws.length≤1000000) (hw:∀w,w∈ws→w.size≤140737488355328) (hk:I64 k) (he:errX x ws=0):
    Pure Tryz.prog 32 [encX x,strs ws,encI k] (.tup [encF (zbI x ws k).1,encI (zbI x ws k).2]) []:=by
  obtain⟨hk1,hk2⟩:=hk
  refine Pure.introR (rv:=[.cell 6 73,.tmp 7]) Tryz.func32 (by kernel_rfl) rfl rfl rfl (Nat.le_of_ble_eq_true rfl) ?_ ?_
  · simp[zaQ,zag,encS,encI,PV.pure,zax]
  refine sZ [1,2,3,6] (fun P S K=>XvBox S.nx (S.get 0) (fun r0 ef0=>XvAlloc P 73 (S.nx+ef0.add.length) (fun r1 ef1=>K ⟨[(1,S.get 1),(2,S.get 2),(3,r0),(6,r1)],(Eff.hp ef1 (S.nx+ef0.add.length) (Eff.hp ef0 S.nx S.hp)),((S.nx+ef0.add.length)+ef1.add.length),S.gh⟩))) fun K hK=>?_
  repeat' (first|(refine hK _ ?_;clear hK K)|refine And.intro ?_ ?_|exact cl|(refine st ?_;try simp only[encX,zaa,zac,zad,encF,zab,zai,zaj,zaR])|fail)
  all_goals
  refine sZ [1,2,6,8,9] (fun P S K=>XvLoad P 27 (M S.hp S.nx) (S.get 3) (fun r0 _=>XvFnIV P (M S.hp S.nx) (.fn 63 []) [r0,(S.get 1)] (fun r2 ef2=>XvExtract r2 0 (fun r4 _=>XvExtract r2 1 (fun r5 _=>K ⟨[(1,S.get 1),(2,S.get 2),(6,S.get 6),(8,r4),(9,r5)],(Eff.hp ef2 S.nx S.hp),(S.nx+ef2.add.length),S.gh⟩))))) fun K hK=>?_
  repeat' (first|(refine hK _ ?_;clear hK K)|refine And.intro ?_ ?_|refine .inl ⟨_,_,ziK x ws hx hn (fun w h=>up47 (hw w h)) he,?_⟩|(refine st ?_;try simp only[encX,zaa,zac,zad,encF,zab,zai,zaj,zaR])|fail)
  all_goals
  refine Tri.seq ?_
  refine sY [1,2,6,8,9,19] (fun P S K=>XvBinOV P .neq 40 (.const (.int .i64 0)) (S.get 9) (.atom (.int .i64 0)) (fun r1 _=>K ⟨[(1,S.get 1),(2,S.get 2),(6,S.get 6),(8,S.get 8),(9,S.get 9),(19,r1)],S.hp,S.nx,S.gh⟩)) ?_
  all_goals
  refine Tri.cond rfl (fun h19=>?_) (fun h19=>?_)
  ·try (cases h19;done)
   all_goals (try simp only[CQ] at h19)
   all_goals
   refine sZ [6,7] (fun P S K=>XvBuild P 73 [] (fun r0 _=>XvStore P 73 (M S.hp S.nx) (S.get 6) r0 (fun r2 ef2=>K ⟨[(6,S.get 6),(7,(S.get 9))],(Eff.hp ef2 S.nx S.hp),(S.nx+ef2.add.length),S.gh⟩))) fun K hK=>?_
   repeat' (first|(refine hK _ ?_;clear hK K)|refine And.intro ?_ ?_|exact cl|(refine st ?_;try simp only[encX,zaa,zac,zad,encF,zab,zai,zaj,zaR])|fail)
   all_goals
   refine Tri.ret ?_
   show ResR _ _ _ _ _
   done
  try (cases h19;done)
  all_goals (try simp only[CQ] at h19)
  all_goals
  refine Tri.skip ?_
  refine Tri.seq ?_
  refine sZ [1,2,6,8,29] (fun P S K=>XvBinOV P .lss 3 (.const (.int .i64 0)) (S.get 2) (.atom (.int .i64 0)) (fun r1 _=>Xgq r1 false (fun k=>k (S.get 2)) (fun g3 r3=>Xgq g3 false (fun k=>k (S.get 1)) (fun g4 r4=>Xgq g4 false (fun k=>XvLen P 37 (M S.hp S.nx) r4 (fun r5 _=>k r5)) (fun g5 r5=>Xgq g5 false (fun k=>XvBinOV P .geq 3 (.tmp 27) r3 r5 (fun r6 _=>k r6)) (fun g6 r6=>XvPick g6 (.atom (.bool true)) r6 (fun r7 _=>K ⟨[(1,S.get 1),(2,S.get 2),(6,S.get 6),(8,S.get 8),(29,r7)],S.hp,S.nx,S.gh⟩))))))) fun K hK=>?_
  repeat' (first|(refine hK _ ?_;clear hK K)|((first|refine zaw (fun hg=>?_) (fun hg=>?_)|refine fun(hg:(_:Prop))=>?_)<;>((try simp only[BQ] at hg);try (exfalso;omega)))|refine And.intro ?_ ?_|exact cl|(refine st ?_;try simp only[encX,zaa,zac,zad,encF,zab,zai,zaj,zaR])|fail)
  all_goals
  refine Tri.cond rfl (fun h29=>?_) (fun h29=>?_)
  ·try (cases h29;done)
   all_goals (try simp only[CQ] at h29)
   all_goals
   refine sZ [6,7] (fun P S K=>XvBuild P 73 [] (fun r0 _=>XvStore P 73 (M S.hp S.nx) (S.get 6) r0 (fun r1 ef1=>K ⟨[(6,S.get 6),(7,(.atom (.int .i64 5)))],(Eff.hp ef1 S.nx S.hp),(S.nx+ef1.add.length),S.gh⟩))) fun K hK=>?_
   repeat' (first|(refine hK _ ?_;clear hK K)|refine And.intro ?_ ?_|exact cl|(refine st ?_;try simp only[encX,zaa,zac,zad,encF,zab,zai,zaj,zaR])|fail)
   all_goals
   refine Tri.ret ?_
   show ResR _ _ _ _ _
   rw[zml (by omega) (by omega)];refine ResR.cells (encF noF) (encI 5) [] rfl rfl rfl
  try (cases h29;done)
  all_goals (try simp only[CQ] at h29)
  all_goals
  refine Tri.skip ?_
  refine sZ [6,10,11] (fun P S K=>XvFnIV P (M S.hp S.nx) (.fn 64 []) [(S.get 8),(S.get 1),(S.get 2)] (fun r3 ef3=>XvExtract r3 0 (fun r5 _=>XvExtract r3 1 (fun r6 _=>XvAlloc P 73 (S.nx+ef3.add.length) (fun r7 ef7=>XvStore P 73 (M (Eff.hp ef7 (S.nx+ef3.add.length) (Eff.hp ef3 S.nx S.hp)) ((S.nx+ef3.add.length)+ef7.add.length)) r7 r5 (fun r8 ef8=>K ⟨[(6,S.get 6),(10,r7),(11,r6)],(Eff.hp ef8 ((S.nx+ef3.add.length)+ef7.add.length) (Eff.hp ef7 (S.nx+ef3.add.length) (Eff.hp ef3 S.nx S.hp))),(((S.nx+ef3.add.length)+ef7.add.length)+ef8.add.length),S.gh⟩)))))) fun K hK=>?_
  repeat' (first|(refine hK _ ?_;clear hK K)|refine And.intro ?_ ?_|exact cl|refine .inr (vProc.bk 2 3 (zgr x [] ws k.toNat hx (by omega) (fun s h=>by cases h) hw hn) (by decide) rfl (by rw[Int.toNat_of_nonneg (by omega)];exact argsC _ _ _ _ _) rfl rfl ?_)|(refine st ?_;try simp only[encX,zaa,zac,zad,encF,zab,zai,zaj,zaR])|fail)
  all_goals
  refine Tri.seq ?_
  refine sY [6,10,39] (fun P S K=>XvUn .not (S.get 11) (fun r1 _=>K ⟨[(6,S.get 6),(10,S.get 10),(39,r1)],S.hp,S.nx,S.gh⟩)) ?_
  all_goals try simp (disch:=omega) only[zae,zaf]
  all_goals
  refine Tri.cond rfl (fun h39=>?_) (fun h39=>?_)
  ·try (cases h39;done)
   all_goals (try simp only[CQ] at h39)
   all_goals
   refine sZ [6,7] (fun P S K=>XvBuild P 73 [] (fun r0 _=>XvStore P 73 (M S.hp S.nx) (S.get 6) r0 (fun r1 ef1=>K ⟨[(6,S.get 6),(7,(.atom (.int .i64 14)))],(Eff.hp ef1 S.nx S.hp),(S.nx+ef1.add.length),S.gh⟩))) fun K hK=>?_
   repeat' (first|(refine hK _ ?_;clear hK K)|refine And.intro ?_ ?_|exact cl|(refine st ?_;try simp only[encX,zaa,zac,zad,encF,zab,zai,zaj,zaR])|fail)
   all_goals
   refine Tri.ret ?_
   show ResR _ _ _ _ _
   rw[zkJ (by omega) (by omega) (by assumption)]
   refine ResR.cells (encF noF) (encI 14) [] rfl rfl rfl
  try (cases h39;done)
  all_goals (try simp only[CQ] at h39)
  all_goals
  refine Tri.skip ?_
  refine sZ [6,7] (fun P S K=>XvLoad P 73 (M S.hp S.nx) (S.get 10) (fun r0 _=>XvStore P 73 (M S.hp S.nx) (S.get 6) r0 (fun r1 ef1=>K ⟨[(6,S.get 6),(7,(.atom (.int .i64 0)))],(Eff.hp ef1 S.nx S.hp),(S.nx+ef1.add.length),S.gh⟩))) fun K hK=>?_
  repeat' (first|(refine hK _ ?_;clear hK K)|refine And.intro ?_ ?_|exact cl|(refine st ?_;try simp only[encX,zaa,zac,zad,encF,zab,zai,zaj,zaR])|fail)
  all_goals
  refine Tri.ret ?_
  show ResR _ _ _ _ _
  rw[zkI (by omega) (by omega) (by assumption)]
  refine ResR.cells (encF (choT x ws k.toNat).1) (encI 0) [] rfl rfl rfl
theorem zf5 (x:LexD) (ws:List ByteArray) (k:Int) (hx:HeldX x) (hn:ws.length≤1000000) (hw:∀w,w∈ws→w.size≤9223372036854775807) (hk:I64 k):
    Pure Tryz.prog 32 [encX x,strs ws,encI k] (.tup [encF (zbI x ws k).1,encI (zbI x ws k).2]) []:=by
  by_cases he:errX x ws=0
  · exact zoW x ws k hx hn (zg5 he) hk he
  · exact zl3 x ws k hx hn hw hk he
theorem zd4{p:Prop}(h:p:=by(refine⟨4,?_,?_,rfl,by simp,rfl,fun _ h _=>absurd h (Nat.not_lt_zero _)⟩<;>(simp only[List.forall_mem_cons];repeat' (first|refine And.intro ?_ ?_|(intro p hp;exact absurd hp List.not_mem_nil)|rfl|exact sp (zaQ _)|exact sp (zaL _)|exact(zat _ _ _ (zah _)).trans (zbW _ _).symm|exact(zat _ _ _ (zag _)).trans (zbV _ _).symm|exact sp (by assumption)|(intro o ho;cases ho;refine⟨by decide,?_⟩;first|(refine LeqS.row rfl ?_ ?_;(next=>(first|rfl|(simp only[List.map_append,List.map_cons,List.map_nil,List.append_nil,List.nil_append,List.append_assoc,List.cons_append,encI,encS,ints,strs];done)|(simp[encI,encS,ints,strs,encF,encR,encA];done)));(next=>(first|rfl|exact zao _|exact zar _|exact zav _|exact zau _|exact zcB _|exact zaK _|exact za1 _|exact za2 _|exact zas _|(simp[zas,zao,zar,zav,zau,zax,PV.pure,zah,zag,zcB,zaQ,zaK,za1,za2,zaL,zas,encF,encS];done)));done)|refine⟨_,rfl,rfl,?_⟩)|(simp[St.born,St.known,retV,St.get,St.obj,lk,sealed,PV.ren,renL,rmap,AO.ren,ints,strs,encI,encS,zan,zam,zal,zak,zaB,zaA,zaz,zay,zaY,zaX,zaW,zaV,zbM,zbN,zhA,zaR,zcQ,zaa,zac,zad,zab,zai,zaj,zaE,za4,zaH,zbc,zaI,zbd,zap,encF,encR,encA,zbF]<;>omega))));first|done|fail):p:=h
theorem zkj{p:Prop}(h:p:=by(first|rfl|(simp[St.born,St.known,retV,St.get,St.obj,lk,sealed,PV.ren,renL,rmap,AO.ren,ints,strs,encI,encS,zan,zam,zal,zak,zaB,zaA,zaz,zay,zaY,zaX,zaW,zaV,zbM,zbN,zhA,zaR,zcQ,zaa,zac,zad,zab,zai,zaj,zaE,za4,zaH,zbc,zaI,zbd,zap,encF,encR,encA,zbF,zap,List.take_length];done));first|done|fail):p:=h
theorem zsj (x:LexD) (ws:List ByteArray) (hx:HeldX x) (hn:ws.length≤1000000) (hw:∀w,w∈ws→w.size≤9223372036854775807) (he:errX x ws≠0):
    Pure Tryz.prog 26 [encX x,strs ws] (.tup [zaa (zgg x ws).1,encI (zgg x ws).2]) []:=by
  refine Pure.intro (ts:=[4,5]) Tryz.func26 (by kernel_rfl) rfl rfl rfl (Nat.le_of_ble_eq_true rfl) ?_ ?_
  · simp[zaQ,zag,encS,encI,PV.pure,zax]
  refine sZ [1,2] (fun P S K=>XvBox S.nx (S.get 0) (fun r0 ef0=>K ⟨[(1,S.get 1),(2,r0)],(Eff.hp ef0 S.nx S.hp),(S.nx+ef0.add.length),S.gh⟩)) fun K hK=>?_
  repeat' (first|(refine hK _ ?_;clear hK K)|refine And.intro ?_ ?_|exact cl|(refine st ?_;try simp only[encX,zaa,zac,zad,encF,zab])|fail)
  all_goals
  refine sZ [1,6,7] (fun P S K=>XvLoad P 27 (M S.hp S.nx) (S.get 2) (fun r0 _=>XvFnIV P (M S.hp S.nx) (.fn 63 []) [r0,(S.get 1)] (fun r2 ef2=>XvExtract r2 0 (fun r4 _=>XvExtract r2 1 (fun r5 _=>K ⟨[(1,S.get 1),(6,r4),(7,r5)],(Eff.hp ef2 S.nx S.hp),(S.nx+ef2.add.length),S.gh⟩))))) fun K hK=>?_
  repeat' (first|(refine hK _ ?_;clear hK K)|refine And.intro ?_ ?_|refine .inl ⟨_,_,ziL x ws hx hn hw he,?_⟩|(refine st ?_;try simp only[encX,zaa,zac,zad,encF,zab])|fail)
  all_goals
  refine Tri.seq ?_
  refine sY [1,6,7,19] (fun P S K=>XvBinOV P .neq 40 (.const (.int .i64 0)) (S.get 7) (.atom (.int .i64 0)) (fun r1 _=>K ⟨[(1,S.get 1),(6,S.get 6),(7,S.get 7),(19,r1)],S.hp,S.nx,S.gh⟩)) ?_
  all_goals
  refine Tri.cond rfl (fun h19=>?_) (fun h19=>?_)
  ·try (cases h19;done)
   all_goals (try simp only[CQ] at h19)
   all_goals
   refine sY [4,5] (fun P S K=>K ⟨[(4,(.atom (.slice none 0 0))),(5,(S.get 7))],S.hp,S.nx,S.gh⟩) ?_
   refine Tri.asSl 4 3 rfl ?_
   all_goals
   refine Tri.ret ?_
   show ResOk _ _ _ _
   rw[zpS (by omega)]
   exact ResOk.frz 5 zkj zgT
  try (cases h19;done)
  all_goals (try simp only[CQ] at h19)
  all_goals
  refine Tri.skip ?_
  refine sY [1,6,8] (fun P S K=>K ⟨[(1,S.get 1),(6,S.get 6),(8,(.atom (.slice none 0 0)))],S.hp,S.nx,S.gh⟩) ?_
  all_goals
  refine Tri.seq ?_
  refine sZ [1,6,8,22,23] (fun P S K=>XvLen P 37 (M S.hp S.nx) (S.get 1) (fun r1 _=>K ⟨[(1,S.get 1),(6,S.get 6),(8,S.get 8),(22,r1),(23,(.atom (.int .i64 0)))],S.hp,S.nx,S.gh⟩)) fun K hK=>?_
  repeat' (first|(refine hK _ ?_;clear hK K)|refine And.intro ?_ ?_|exact cl|(refine st ?_;try simp only[encX,zaa,zac,zad,encF,zab])|fail)
  all_goals
  refine Tri.block ?_
  fail -- LOOP 0
theorem lText_ok (x:LexD) (ws:List ByteArray) (hx:HeldX x) (hn:ws.length≤1000000) (hw:∀w,w∈ws→w.size≤140737488355328) (he:errX x ws=0):
    Pure Tryz.prog 26 [encX x,strs ws] (.tup [zaa (zgg x ws).1,encI (zgg x ws).2]) []:=by
  refine Pure.intro (ts:=[4,5]) Tryz.func26 (by kernel_rfl) rfl rfl rfl (Nat.le_of_ble_eq_true rfl) ?_ ?_
  · simp[zaQ,zag,encS,encI,PV.pure,zax]
  refine sZ [1,2] (fun P S K=>XvBox S.nx (S.get 0) (fun r0 ef0=>K ⟨[(1,S.get 1),(2,r0)],(Eff.hp ef0 S.nx S.hp),(S.nx+ef0.add.length),S.gh⟩)) fun K hK=>?_
  repeat' (first|(refine hK _ ?_;clear hK K)|refine And.intro ?_ ?_|exact cl|(refine st ?_;try simp only[encX,zaa,zac,zad,encF,zab,zai,zaj,zaR])|fail)
  all_goals
  refine sZ [1,6,7] (fun P S K=>XvLoad P 27 (M S.hp S.nx) (S.get 2) (fun r0 _=>XvFnIV P (M S.hp S.nx) (.fn 63 []) [r0,(S.get 1)] (fun r2 ef2=>XvExtract r2 0 (fun r4 _=>XvExtract r2 1 (fun r5 _=>K ⟨[(1,S.get 1),(6,r4),(7,r5)],(Eff.hp ef2 S.nx S.hp),(S.nx+ef2.add.length),S.gh⟩))))) fun K hK=>?_
  repeat' (first|(refine hK _ ?_;clear hK K)|refine And.intro ?_ ?_|refine .inl ⟨_,_,ziK x ws hx hn (fun w h=>up47 (hw w h)) he,?_⟩|(refine st ?_;try simp only[encX,zaa,zac,zad,encF,zab,zai,zaj,zaR])|fail)
  all_goals
  refine Tri.seq ?_
  refine sZ [1,6,7,19] (fun P S K=>XvBinOV P .neq 40 (.const (.int .i64 0)) (S.get 7) (.atom (.int .i64 0)) (fun r1 _=>K ⟨[(1,S.get 1),(6,S.get 6),(7,S.get 7),(19,r1)],S.hp,S.nx,S.gh⟩)) fun K hK=>?_
  repeat' (first|(refine hK _ ?_;clear hK K)|refine And.intro ?_ ?_|exact cl|(refine st ?_;try simp only[encX,zaa,zac,zad,encF,zab,zai,zaj,zaR])|fail)
  all_goals
  refine Tri.cond rfl (fun h19=>?_) (fun h19=>?_)
  ·try (cases h19;done)
   all_goals (try simp only[CQ] at h19)
   all_goals
   refine sZ [4,5] (fun P S K=>K ⟨[(4,(.atom (.slice none 0 0))),(5,(S.get 7))],S.hp,S.nx,S.gh⟩) fun K hK=>?_
   repeat' (first|(refine hK _ ?_;clear hK K)|refine And.intro ?_ ?_|exact cl|(refine st ?_;try simp only[encX,zaa,zac,zad,encF,zab,zai,zaj,zaR])|fail)
   all_goals
   refine Tri.ret ?_
   show ResOk _ _ _ _
   done
  try (cases h19;done)
  all_goals (try simp only[CQ] at h19)
  all_goals
  refine Tri.skip ?_
  refine sZ [1,6,8] (fun P S K=>K ⟨[(1,S.get 1),(6,S.get 6),(8,(.atom (.slice none 0 0)))],S.hp,S.nx,S.gh⟩) fun K hK=>?_
  repeat' (first|(refine hK _ ?_;clear hK K)|refine And.intro ?_ ?_|exact cl|(refine st ?_;try simp only[encX,zaa,zac,zad,encF,zab,zai,zaj,zaR])|fail)
  refine Tri.born 8 3 rfl ?_
  all_goals
  refine Tri.seq ?_
  refine sZ [1,6,8,22,23] (fun P S K=>XvLen P 37 (M S.hp S.nx) (S.get 1) (fun r1 _=>K ⟨[(1,S.get 1),(6,S.get 6),(8,S.get 8),(22,r1),(23,(.atom (.int .i64 0)))],S.hp,S.nx,S.gh⟩)) fun K hK=>?_
  repeat' (first|(refine hK _ ?_;clear hK K)|refine And.intro ?_ ?_|exact cl|(refine st ?_;try simp only[encX,zaa,zac,zad,encF,zab,zai,zaj,zaR])|fail)
  all_goals
  refine Tri.block ?_
  refine Tri.loop (α:=(o:List FormD) ×' (kn:List ByteArray) ×' (i:Nat) ×' (i≤ws.length∧o.length≤i∧(∀s,s∈kn→s.size≤140737488355328)∧(∀j,j<i→(choT x ws j).2=true)∧o=zlf x ws i)) (fun z=>(fun(o:List FormD) (kn:List ByteArray) (i:Nat)=>(⟨[(1,strs ws),(6,.ptr 0 4 0 0),(8,.ob 2 3 0 o.length),(22,encI ws.length),(23,encI i)],[(0,some ⟨4,[zaR x]⟩),(1,some ⟨0,kn.map (entB x)⟩),(2,some ⟨3,o.map encF⟩)],3,[]⟩:St)) z.1 z.2.1 z.2.2.1) (fun z=>(fun(o:List FormD) (kn:List ByteArray) (i:Nat)=>ws.length - i) z.1 z.2.1 z.2.2.1) ⟨[],[],0,⟨Nat.zero_le _,Nat.le_refl _,fun s h=>(by cases h),fun j hj=>absurd hj (Nat.not_lt_zero _),rfl⟩⟩ [1,2,3] ?_ ?_
  ·exact zd4
  rintro⟨o,kn,i,⟨hi,hol,hs0,hs,ho⟩⟩
  refine sZ [1,6,8,22,23,24] (fun P S K=>XvBinOV P .lss 3 (.tmp 22) (S.get 23) (S.get 22) (fun r0 _=>K ⟨[(1,S.get 1),(6,S.get 6),(8,S.get 8),(22,S.get 22),(23,S.get 23),(24,r0)],S.hp,S.nx,S.gh⟩)) fun K hK=>?_
  repeat' (first|(refine hK _ ?_;clear hK K)|refine And.intro ?_ ?_|exact cl|(refine st ?_;try simp only[encX,zaa,zac,zad,encF,zab,zai,zaj,zaR])|fail)
  all_goals
  refine Tri.seq ?_
  refine Tri.cond rfl (fun h24=>?_) (fun h24=>?_)
  ·try (cases h24;done)
   all_goals (try simp only[CQ] at h24)
   all_goals
   refine Tri.skip ?_
   refine Tri.seq ?_
   refine Tri.block ?_
   have hiw:i<ws.length:=by omega
   refine sZ [1,6,8,9,22,23] (fun P S K=>K ⟨[(1,S.get 1),(6,S.get 6),(8,S.get 8),(9,(S.get 23)),(22,S.get 22),(23,S.get 23)],S.hp,S.nx,S.gh⟩) fun K hK=>?_
   repeat' (first|(refine hK _ ?_;clear hK K)|refine And.intro ?_ ?_|exact cl|(refine st ?_;try simp only[encX,zaa,zac,zad,encF,zab,zai,zaj,zaR])|fail)
   all_goals
   refine sZ [1,6,8,10,11,22,23] (fun P S K=>XvFnIV P (M S.hp S.nx) (.fn 64 []) [(S.get 6),(S.get 1),(S.get 9)] (fun r3 ef3=>XvExtract r3 0 (fun r5 _=>XvExtract r3 1 (fun r6 _=>XvAlloc P 73 (S.nx+ef3.add.length) (fun r7 ef7=>XvStore P 73 (M (Eff.hp ef7 (S.nx+ef3.add.length) (Eff.hp ef3 S.nx S.hp)) ((S.nx+ef3.add.length)+ef7.add.length)) r7 r5 (fun r8 ef8=>K ⟨[(1,S.get 1),(6,S.get 6),(8,S.get 8),(10,r7),(11,r6),(22,S.get 22),(23,S.get 23)],(Eff.hp ef8 ((S.nx+ef3.add.length)+ef7.add.length) (Eff.hp ef7 (S.nx+ef3.add.length) (Eff.hp ef3 S.nx S.hp))),(((S.nx+ef3.add.length)+ef7.add.length)+ef8.add.length),S.gh⟩)))))) fun K hK=>?_
   repeat' (first|(refine hK _ ?_;clear hK K)|refine And.intro ?_ ?_|exact cl|refine .inr (vProc.bk 0 1 (zgr x kn ws i hx hiw hs0 hw hn) (by decide) rfl (argsC _ _ _ _ _) rfl rfl ?_)|(refine st ?_;try simp only[encX,zaa,zac,zad,encF,zab,zai,zaj,zaR])|fail)
   all_goals
   refine Tri.seq ?_
   refine sZ [1,6,8,10,22,23,34] (fun P S K=>XvUn .not (S.get 11) (fun r1 _=>K ⟨[(1,S.get 1),(6,S.get 6),(8,S.get 8),(10,S.get 10),(22,S.get 22),(23,S.get 23),(34,r1)],S.hp,S.nx,S.gh⟩)) fun K hK=>?_
   repeat' (first|(refine hK _ ?_;clear hK K)|refine And.intro ?_ ?_|exact cl|(refine st ?_;try simp only[encX,zaa,zac,zad,encF,zab,zai,zaj,zaR])|fail)
   all_goals try simp (disch:=omega) only[zae,zaf]
   all_goals
   refine Tri.cond rfl (fun h34=>?_) (fun h34=>?_)
   ·try (cases h34;done)
    all_goals (try simp only[CQ] at h34)
    all_goals
    refine sZ [4,5] (fun P S K=>K ⟨[(4,(.atom (.slice none 0 0))),(5,(.atom (.int .i64 14)))],S.hp,S.nx,S.gh⟩) fun K hK=>?_
    repeat' (first|(refine hK _ ?_;clear hK K)|refine And.intro ?_ ?_|exact cl|(refine st ?_;try simp only[encX,zaa,zac,zad,encF,zab,zai,zaj,zaR])|fail)
    refine Tri.asSl 4 3 rfl ?_
    all_goals
    refine Tri.ret ?_
    show ResOk _ _ _ _
    rw[znQ (by omega) hiw (by assumption)]
    exact ResOk.frz 5 zkj zgT
   try (cases h34;done)
   all_goals (try simp only[CQ] at h34)
   all_goals
   refine Tri.skip ?_
   refine rZ [1,6,8,22,23] (fun P S K=>XvLoad P 73 (M S.hp S.nx) (S.get 10) (fun r1 _=>XvBuildS P 23 1 S.nx [(0,r1)] (fun r2 ef2=>(23=23∧XvAppend P 23 (M (Eff.hp ef2 S.nx S.hp) (S.nx+ef2.add.length)) (S.get 8) r2 (fun r3 ef3=>K ⟨[(1,S.get 1),(6,S.get 6),(8,r3),(22,S.get 22),(23,S.get 23)],(Eff.hp ef3 (S.nx+ef2.add.length) (Eff.hp ef2 S.nx S.hp)),((S.nx+ef2.add.length)+ef3.add.length),S.gh⟩))))) fun K hK=>?_
   repeat' (first|(refine hK _ ?_;clear hK K)|refine And.intro ?_ ?_|exact cl|(refine st ?_;try simp only[encX,zaa,zac,zad,encF,zab,zai,zaj,zaR])|fail)
   all_goals
   refine rZ [1,6,8,22,23] (fun P S K=>XvBinOV P .add 3 (.const (.int .i64 1)) (S.get 23) (.atom (.int .i64 1)) (fun r0 _=>K ⟨[(1,S.get 1),(6,S.get 6),(8,S.get 8),(22,S.get 22),(23,r0)],S.hp,S.nx,S.gh⟩)) fun K hK=>?_
   repeat' (first|(refine hK _ ?_;clear hK K)|refine And.intro ?_ ?_|exact cl|(refine st ?_;try simp only[encX,zaa,zac,zad,encF,zab,zai,zaj,zaR])|fail)
   all_goals try simp (disch:=omega) only[zae,zaf]
   all_goals
   refine⟨⟨o++[(choT x ws i).1],(runX x ws kn i).2,i+1,by omega,by simp;omega,zcr hiw hs0 hw,fun j hj=>?_,by rw[znR,ho]⟩,[0,1,5],by dsimp only;omega,?_⟩
   · rcases Nat.lt_succ_iff_lt_or_eq.1 hj with hj|rfl
     · exact hs j hj
     · assumption
   · exact zd4
  try (cases h24;done)
  all_goals (try simp only[CQ] at h24)
  all_goals
  refine Tri.exit ?_
  refine sZ [4,5] (fun P S K=>K ⟨[(4,(S.get 8)),(5,(.atom (.int .i64 0)))],S.hp,S.nx,S.gh⟩) fun K hK=>?_
  repeat' (first|(refine hK _ ?_;clear hK K)|refine And.intro ?_ ?_|exact cl|(refine st ?_;try simp only[encX,zaa,zac,zad,encF,zab,zai,zaj,zaR])|fail)
  all_goals
  refine Tri.ret ?_
  show ResOk _ _ _ _
  rw[znP (by omega) (fun j hj=>hs j (by omega)),show zlf x ws ws.length=o by rw[ho];congr 1;omega]
  exact ResOk.frz 5 zkj zgT
theorem zoV (x:LexD) (ws:List ByteArray) (hx:HeldX x) (hn:ws.length≤1000000) (hw:∀w,w∈ws→w.size≤9223372036854775807):
    Pure Tryz.prog 26 [encX x,strs ws] (.tup [zaa (zgg x ws).1,encI (zgg x ws).2]) []:=by
  by_cases he:errX x ws=0
  · exact lText_ok x ws hx hn (zg5 he) he
  · exact zsj x ws hx hn hw he
theorem zsl (x:LexD) (ws:List ByteArray) (hx:HeldX x) (hn:ws.length≤1000000) (hw:∀w,w∈ws→w.size≤9223372036854775807) (he:errX x ws≠0):
    Pure Tryz.prog 28 [encX x,strs ws] (.tup [ints (zcS x ws),encI (errX x ws)]) []:=by
  refine Pure.intro (ts:=[4,5]) Tryz.func28 (by kernel_rfl) rfl rfl rfl (Nat.le_of_ble_eq_true rfl) ?_ ?_
  · simp[zaQ,zag,encS,encI,PV.pure,zax]
  refine sZ [1,2] (fun P S K=>XvBox S.nx (S.get 0) (fun r0 ef0=>K ⟨[(1,S.get 1),(2,r0)],(Eff.hp ef0 S.nx S.hp),(S.nx+ef0.add.length),S.gh⟩)) fun K hK=>?_
  repeat' (first|(refine hK _ ?_;clear hK K)|refine And.intro ?_ ?_|exact cl|(refine st ?_;try simp only[encX,zaa,zac,zad,encF,zab])|fail)
  all_goals
  refine sZ [1,6,7] (fun P S K=>XvLoad P 27 (M S.hp S.nx) (S.get 2) (fun r0 _=>XvFnIV P (M S.hp S.nx) (.fn 63 []) [r0,(S.get 1)] (fun r2 ef2=>XvExtract r2 0 (fun r4 _=>XvExtract r2 1 (fun r5 _=>K ⟨[(1,S.get 1),(6,r4),(7,r5)],(Eff.hp ef2 S.nx S.hp),(S.nx+ef2.add.length),S.gh⟩))))) fun K hK=>?_
  repeat' (first|(refine hK _ ?_;clear hK K)|refine And.intro ?_ ?_|refine .inl ⟨_,_,ziL x ws hx hn hw he,?_⟩|(refine st ?_;try simp only[encX,zaa,zac,zad,encF,zab])|fail)
  all_goals
  refine Tri.seq ?_
  refine sY [1,6,7,19] (fun P S K=>XvBinOV P .neq 40 (.const (.int .i64 0)) (S.get 7) (.atom (.int .i64 0)) (fun r1 _=>K ⟨[(1,S.get 1),(6,S.get 6),(7,S.get 7),(19,r1)],S.hp,S.nx,S.gh⟩)) ?_
  all_goals
  refine Tri.cond rfl (fun h19=>?_) (fun h19=>?_)
  ·try (cases h19;done)
   all_goals (try simp only[CQ] at h19)
   all_goals
   refine sY [4,5] (fun P S K=>K ⟨[(4,(.atom (.slice none 0 0))),(5,(S.get 7))],S.hp,S.nx,S.gh⟩) ?_
   refine Tri.asSl 4 1 rfl ?_
   all_goals
   refine Tri.ret ?_
   show ResOk _ _ _ _
   rw[show zcS x ws=[] from if_pos (by omega)]
   exact ResOk.frz 5 zkj zgT
  try (cases h19;done)
  all_goals (try simp only[CQ] at h19)
  all_goals
  refine Tri.skip ?_
  refine sY [1,6,8] (fun P S K=>K ⟨[(1,S.get 1),(6,S.get 6),(8,(.atom (.slice none 0 0)))],S.hp,S.nx,S.gh⟩) ?_
  all_goals
  refine Tri.seq ?_
  refine sZ [1,6,8,22,23] (fun P S K=>XvLen P 37 (M S.hp S.nx) (S.get 1) (fun r1 _=>K ⟨[(1,S.get 1),(6,S.get 6),(8,S.get 8),(22,r1),(23,(.atom (.int .i64 0)))],S.hp,S.nx,S.gh⟩)) fun K hK=>?_
  repeat' (first|(refine hK _ ?_;clear hK K)|refine And.intro ?_ ?_|exact cl|(refine st ?_;try simp only[encX,zaa,zac,zad,encF,zab])|fail)
  all_goals
  refine Tri.block ?_
  fail -- LOOP 0
theorem lOpen_ok (x:LexD) (ws:List ByteArray) (hx:HeldX x) (hn:ws.length≤1000000) (hw:∀w,w∈ws→w.size≤140737488355328) (he:errX x ws=0):
    Pure Tryz.prog 28 [encX x,strs ws] (.tup [ints (zcS x ws),encI (errX x ws)]) []:=by
  refine Pure.intro (ts:=[4,5]) Tryz.func28 (by kernel_rfl) rfl rfl rfl (Nat.le_of_ble_eq_true rfl) ?_ ?_
  · simp[zaQ,zag,encS,encI,PV.pure,zax]
  refine sZ [1,2] (fun P S K=>XvBox S.nx (S.get 0) (fun r0 ef0=>K ⟨[(1,S.get 1),(2,r0)],(Eff.hp ef0 S.nx S.hp),(S.nx+ef0.add.length),S.gh⟩)) fun K hK=>?_
  repeat' (first|(refine hK _ ?_;clear hK K)|refine And.intro ?_ ?_|exact cl|(refine st ?_;try simp only[encX,zaa,zac,zad,encF,zab,zai,zaj,zaR])|fail)
  all_goals
  refine sZ [1,6,7] (fun P S K=>XvLoad P 27 (M S.hp S.nx) (S.get 2) (fun r0 _=>XvFnIV P (M S.hp S.nx) (.fn 63 []) [r0,(S.get 1)] (fun r2 ef2=>XvExtract r2 0 (fun r4 _=>XvExtract r2 1 (fun r5 _=>K ⟨[(1,S.get 1),(6,r4),(7,r5)],(Eff.hp ef2 S.nx S.hp),(S.nx+ef2.add.length),S.gh⟩))))) fun K hK=>?_
  repeat' (first|(refine hK _ ?_;clear hK K)|refine And.intro ?_ ?_|refine .inl ⟨_,_,ziK x ws hx hn (fun w h=>up47 (hw w h)) he,?_⟩|(refine st ?_;try simp only[encX,zaa,zac,zad,encF,zab,zai,zaj,zaR])|fail)
  all_goals
  refine Tri.seq ?_
  refine sY [1,6,7,19] (fun P S K=>XvBinOV P .neq 40 (.const (.int .i64 0)) (S.get 7) (.atom (.int .i64 0)) (fun r1 _=>K ⟨[(1,S.get 1),(6,S.get 6),(7,S.get 7),(19,r1)],S.hp,S.nx,S.gh⟩)) ?_
  all_goals
  refine Tri.cond rfl (fun h19=>?_) (fun h19=>?_)
  ·try (cases h19;done)
   all_goals (try simp only[CQ] at h19)
   all_goals
   refine sY [4,5] (fun P S K=>K ⟨[(4,(.atom (.slice none 0 0))),(5,(S.get 7))],S.hp,S.nx,S.gh⟩) ?_
   all_goals
   refine Tri.ret ?_
   show ResOk _ _ _ _
   done
  try (cases h19;done)
  all_goals (try simp only[CQ] at h19)
  all_goals
  refine Tri.skip ?_
  refine sY [1,6,8] (fun P S K=>K ⟨[(1,S.get 1),(6,S.get 6),(8,(.atom (.slice none 0 0)))],S.hp,S.nx,S.gh⟩) ?_
  refine Tri.born 8 1 rfl ?_
  all_goals
  refine Tri.seq ?_
  refine sZ [1,6,8,22,23] (fun P S K=>XvLen P 37 (M S.hp S.nx) (S.get 1) (fun r1 _=>K ⟨[(1,S.get 1),(6,S.get 6),(8,S.get 8),(22,r1),(23,(.atom (.int .i64 0)))],S.hp,S.nx,S.gh⟩)) fun K hK=>?_
  repeat' (first|(refine hK _ ?_;clear hK K)|refine And.intro ?_ ?_|exact cl|(refine st ?_;try simp only[encX,zaa,zac,zad,encF,zab,zai,zaj,zaR])|fail)
  all_goals
  refine Tri.block ?_
  refine Tri.loop (α:=(o:List Int) ×' (kn:List ByteArray) ×' (i:Nat) ×' (i≤ws.length∧o.length≤i∧(∀s,s∈kn→s.size≤140737488355328)∧o=zgi x ws i)) (fun z=>(fun(o:List Int) (kn:List ByteArray) (i:Nat)=>(⟨[(1,strs ws),(6,.ptr 0 4 0 0),(8,.ob 2 1 0 o.length),(22,encI ws.length),(23,encI i)],[(0,some ⟨4,[zaR x]⟩),(1,some ⟨0,kn.map (entB x)⟩),(2,some ⟨1,o.map encI⟩)],3,[]⟩:St)) z.1 z.2.1 z.2.2.1) (fun z=>(fun(o:List Int) (kn:List ByteArray) (i:Nat)=>ws.length - i) z.1 z.2.1 z.2.2.1) ⟨[],[],0,⟨Nat.zero_le _,Nat.le_refl _,fun s h=>(by cases h),rfl⟩⟩ [1,2,3] ?_ ?_
  ·exact zd4
  rintro⟨o,kn,i,⟨hi,hol,hs0,ho⟩⟩
  refine sY [1,6,8,22,23,24] (fun P S K=>XvBinOV P .lss 3 (.tmp 22) (S.get 23) (S.get 22) (fun r0 _=>K ⟨[(1,S.get 1),(6,S.get 6),(8,S.get 8),(22,S.get 22),(23,S.get 23),(24,r0)],S.hp,S.nx,S.gh⟩)) ?_
  all_goals
  refine Tri.seq ?_
  refine Tri.cond rfl (fun h24=>?_) (fun h24=>?_)
  ·try (cases h24;done)
   all_goals (try simp only[CQ] at h24)
   all_goals
   refine Tri.skip ?_
   refine Tri.seq ?_
   refine Tri.block ?_
   have hiw:i<ws.length:=by omega
   refine sY [1,6,8,9,22,23] (fun P S K=>K ⟨[(1,S.get 1),(6,S.get 6),(8,S.get 8),(9,(S.get 23)),(22,S.get 22),(23,S.get 23)],S.hp,S.nx,S.gh⟩) ?_
   all_goals
   refine sZ [1,6,8,9,11,22,23] (fun P S K=>XvFnIV P (M S.hp S.nx) (.fn 64 []) [(S.get 6),(S.get 1),(S.get 9)] (fun r3 ef3=>XvExtract r3 0 (fun r5 _=>XvExtract r3 1 (fun r6 _=>XvAlloc P 73 (S.nx+ef3.add.length) (fun r7 ef7=>XvStore P 73 (M (Eff.hp ef7 (S.nx+ef3.add.length) (Eff.hp ef3 S.nx S.hp)) ((S.nx+ef3.add.length)+ef7.add.length)) r7 r5 (fun r8 ef8=>K ⟨[(1,S.get 1),(6,S.get 6),(8,S.get 8),(9,S.get 9),(11,r6),(22,S.get 22),(23,S.get 23)],(Eff.hp ef8 ((S.nx+ef3.add.length)+ef7.add.length) (Eff.hp ef7 (S.nx+ef3.add.length) (Eff.hp ef3 S.nx S.hp))),(((S.nx+ef3.add.length)+ef7.add.length)+ef8.add.length),S.gh⟩)))))) fun K hK=>?_
   repeat' (first|(refine hK _ ?_;clear hK K)|refine And.intro ?_ ?_|exact cl|refine .inr (vProc.bk 0 1 (zgr x kn ws i hx hiw hs0 hw hn) (by decide) rfl (argsC _ _ _ _ _) rfl rfl ?_)|(refine st ?_;try simp only[encX,zaa,zac,zad,encF,zab,zai,zaj,zaR])|fail)
   all_goals
   refine sY [1,6,8,9,22,23,34] (fun P S K=>XvUn .not (S.get 11) (fun r1 _=>K ⟨[(1,S.get 1),(6,S.get 6),(8,S.get 8),(9,S.get 9),(22,S.get 22),(23,S.get 23),(34,r1)],S.hp,S.nx,S.gh⟩)) ?_
   all_goals try simp (disch:=omega) only[zae,zaf]
   all_goals
   refine Tri.cond rfl (fun h34=>?_) (fun h34=>?_)
   ·try (cases h34;done)
    all_goals (try simp only[CQ] at h34)
    all_goals
    refine rZ [1,6,8,22,23] (fun P S K=>XvBuildS P 22 1 S.nx [(0,(S.get 9))] (fun r2 ef2=>(22=22∧XvAppend P 22 (M (Eff.hp ef2 S.nx S.hp) (S.nx+ef2.add.length)) (S.get 8) r2 (fun r3 ef3=>K ⟨[(1,S.get 1),(6,S.get 6),(8,r3),(22,S.get 22),(23,S.get 23)],(Eff.hp ef3 (S.nx+ef2.add.length) (Eff.hp ef2 S.nx S.hp)),((S.nx+ef2.add.length)+ef3.add.length),S.gh⟩)))) fun K hK=>?_
    repeat' (first|(refine hK _ ?_;clear hK K)|((first|refine zaw (fun hg=>?_) (fun hg=>?_)|refine fun(hg:(_:Prop))=>?_)<;>((try simp only[BQ] at hg);try (exfalso;omega)))|refine And.intro ?_ ?_|exact cl|(refine st ?_;try simp only[encX,zaa,zac,zad,encF,zab,zai,zaj,zaR])|fail)
    all_goals
    refine rY [1,6,8,22,23] (fun P S K=>XvBinOV P .add 3 (.const (.int .i64 1)) (S.get 23) (.atom (.int .i64 1)) (fun r0 _=>K ⟨[(1,S.get 1),(6,S.get 6),(8,S.get 8),(22,S.get 22),(23,r0)],S.hp,S.nx,S.gh⟩)) ?_
    all_goals try simp (disch:=omega) only[zae,zaf]
    all_goals
    first
    | (refine⟨⟨o++[(i:Int)],(runX x ws kn i).2,i+1,by omega,by simp;omega,zcr hiw hs0 hw,by rw[zcn,if_neg (by simp_all),ho]⟩,[0,1,5],by dsimp only;omega,?_⟩
       exact zd4)
    | (refine⟨⟨o,(runX x ws kn i).2,i+1,by omega,by omega,zcr hiw hs0 hw,by rw[zcn,if_pos (by simp_all),ho]⟩,[0,1,2],by dsimp only;omega,?_⟩
       exact zd4)
   try (cases h34;done)
   all_goals (try simp only[CQ] at h34)
   all_goals
   refine Tri.skip ?_
   refine rY [1,6,8,22,23] (fun P S K=>XvBinOV P .add 3 (.const (.int .i64 1)) (S.get 23) (.atom (.int .i64 1)) (fun r0 _=>K ⟨[(1,S.get 1),(6,S.get 6),(8,S.get 8),(22,S.get 22),(23,r0)],S.hp,S.nx,S.gh⟩)) ?_
   all_goals try simp (disch:=omega) only[zae,zaf]
   all_goals
   first
   | (refine⟨⟨o++[(i:Int)],(runX x ws kn i).2,i+1,by omega,by simp;omega,zcr hiw hs0 hw,by rw[zcn,if_neg (by simp_all),ho]⟩,[0,1,5],by dsimp only;omega,?_⟩
      exact zd4)
   | (refine⟨⟨o,(runX x ws kn i).2,i+1,by omega,by omega,zcr hiw hs0 hw,by rw[zcn,if_pos (by simp_all),ho]⟩,[0,1,2],by dsimp only;omega,?_⟩
      exact zd4)
  try (cases h24;done)
  all_goals (try simp only[CQ] at h24)
  all_goals
  refine Tri.exit ?_
  refine sY [4,5] (fun P S K=>K ⟨[(4,(S.get 8)),(5,(.atom (.int .i64 0)))],S.hp,S.nx,S.gh⟩) ?_
  all_goals
  refine Tri.ret ?_
  show ResOk _ _ _ _
  rw[show zcS x ws=o by unfold zcS;rw[if_neg (by omega),ho];congr 1;omega,show errX x ws=0 by omega]
  exact ResOk.frz 5 zkj zgT
theorem zh2 (x:LexD) (ws:List ByteArray) (hx:HeldX x) (hn:ws.length≤1000000) (hw:∀w,w∈ws→w.size≤9223372036854775807):
    Pure Tryz.prog 28 [encX x,strs ws] (.tup [ints (zcS x ws),encI (errX x ws)]) []:=by
  by_cases he:errX x ws=0
  · exact lOpen_ok x ws hx hn (zg5 he) he
  · exact zsl x ws hx hn hw he
end Go.Proofs.YtehoglapajkabaaGreat
