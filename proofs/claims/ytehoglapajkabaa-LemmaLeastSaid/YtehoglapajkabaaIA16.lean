/-
  Walks: package lemma: open,Choose,Text,Open.
-/
import Derived.Test.YtehoglapajkabaaIM0
import Derived.Test.YtehoglapajkabaaIM18
import Derived.Test.YtehoglapajkabaaIM9
import Derived.ProofKit
import Derived.SliceStrings
import Derived.Deep.Slices
import Derived.OpenShut
set_option linter.all false
namespace Go.Proofs.Ytehoglapajkabaa
open Go Go.RowKit
set_option maxRecDepth 20000
set_option maxHeartbeats 1000000
theorem lsrM19{p:Prop}(h:p:=by(first|rfl|(simp[St.born,St.known,retV,St.get,St.obj,lk,sealed,PV.ren,renL,rmap,AO.ren,ints,strs,encI,encS,zap,zao,zan,zam,zaC,zaB,zaA,zaz,za1,za0,zaZ,zaY,zbU,zbV,zhc,za3,zcx,zaa,zab,zac,zad,zai,zaj,zaD,za2,zaE,zbd,zaG,zbe,zaL,encF,encR,encA,zbF];done));first|done|fail):p:=h
theorem zjn{p:Prop}(h:p:=by(first|rfl|(simp[zah,zag,PV.pure,zaw,zal,zaq,zau,zat,zcH,zaR,zaH,zaT,zaU,zaK,zar,encF,encS];done));first|done|fail):p:=h
theorem zhK{x:LexD}{ws:List ByteArray}(h:¬zbc x=0):errX x ws=zbc x:=if_pos h
theorem zjM{x:LexD}{ws:List ByteArray}(h:zbc x=0) (h2:ws.all zbv=false):errX x ws=1:=by
  unfold errX;rw[if_neg (by omega),if_neg (by rw[h2];decide)]
theorem zjN{x:LexD}{ws:List ByteArray}(h:zbc x=0) (h2:ws.all zbv=true):errX x ws=0:=by
  unfold errX;rw[if_neg (by omega),if_pos h2]
theorem zlY (x:LexD) (ws:List ByteArray) (hx:HeldX x) (hn:ws.length≤1000000) (hw:∀w,w∈ws→w.size≤9223372036854775807) (he:errX x ws≠0):Pure Try.prog 25 [encX x,strs ws] (.tup [.atom (.pointer none),encI (errX x ws)]) []:=by
  refine Pure.intro (ts:=[4,5]) Try.func25 (by kernel_rfl) rfl rfl rfl (Nat.le_of_ble_eq_true rfl) ?_ ?_
  · simp[zaR,zag,encS,PV.pure,zaw]
  refine sZ [1,2] (fun P S K=>XvBox S.nx (S.get 0) (fun r0 ef0=>K ⟨[(1,S.get 1),(2,r0)],(Eff.hp ef0 S.nx S.hp),(S.nx+ef0.add.length),S.gh⟩)) fun K hK=>?_
  repeat' (first|(refine hK _ ?_;clear hK K)|refine And.intro ?_ ?_|exact cl|(refine st ?_;try simp only[encX,zaa,zab,zac,zad])|fail)
  all_goals
  refine Tri.seq ?_
  refine sZ [1,2,6] (fun P S K=>XvLoad P 27 (M S.hp S.nx) (S.get 2) (fun r0 _=>XvFnIV P (M S.hp S.nx) (.fn 27 []) [r0] (fun r1 ef1=>K ⟨[(1,S.get 1),(2,S.get 2),(6,r1)],(Eff.hp ef1 S.nx S.hp),(S.nx+ef1.add.length),S.gh⟩))) fun K hK=>?_
  repeat' (first|(refine hK _ ?_;clear hK K)|refine .inl ⟨_,_,zef x hx,?_⟩|(refine st ?_;try simp only[encX,zaa,zab,zac,zad])|fail)
  all_goals
  refine sY [1,2,6,10] (fun P S K=>XvBinOV P .neq 41 (.const (.int .i64 0)) (S.get 6) (.atom (.int .i64 0)) (fun r1 _=>K ⟨[(1,S.get 1),(2,S.get 2),(6,S.get 6),(10,r1)],S.hp,S.nx,S.gh⟩)) ?_
  all_goals
  refine Tri.cond rfl (fun h10=>?_) (fun h10=>?_)
  ·try (cases h10;done)
   all_goals (try simp only[CQ] at h10)
   all_goals
   refine sY [4,5] (fun P S K=>K ⟨[(4,(.atom (.pointer none))),(5,(S.get 6))],S.hp,S.nx,S.gh⟩) ?_
   all_goals
   refine Tri.ret ?_
   show ResOk _ _ _ _
   rw[zhK (by assumption)]
   exact ResOk.val lsrM19 zjn
  try (cases h10;done)
  all_goals (try simp only[CQ] at h10)
  all_goals
  refine Tri.skip ?_
  refine Tri.seq ?_
  refine sZ [2,14] (fun P S K=>XvFnIV P (M S.hp S.nx) (.fn 28 []) [(S.get 1)] (fun r1 ef1=>XvUn .not r1 (fun r2 _=>K ⟨[(2,S.get 2),(14,r2)],(Eff.hp ef1 S.nx S.hp),(S.nx+ef1.add.length),S.gh⟩))) fun K hK=>?_
  repeat' (first|(refine hK _ ?_;clear hK K)|refine .inl ⟨_,_,zfM ws (by omega) hw,?_⟩|(refine st ?_;try simp only[encX,zaa,zab,zac,zad])|fail)
  all_goals try simp (disch:=omega) only[zae,zaf]
  all_goals
  refine Tri.cond rfl (fun h14=>?_) (fun h14=>?_)
  ·try (cases h14;done)
   all_goals (try simp only[CQ] at h14)
   all_goals
   refine sY [4,5] (fun P S K=>K ⟨[(4,(.atom (.pointer none))),(5,(.atom (.int .i64 1)))],S.hp,S.nx,S.gh⟩) ?_
   all_goals
   refine Tri.ret ?_
   show ResOk _ _ _ _
   rw[zjM (by assumption) (by simp_all)]
   exact ResOk.val lsrM19 zjn
  try (cases h14;done)
  all_goals (try simp only[CQ] at h14)
  all_goals
  refine Tri.skip ?_
  refine sZ [4,5] (fun P S K=>XvLoad P 27 (M S.hp S.nx) (S.get 2) (fun r0 _=>XvMakeMap none S.nx (fun r1 ef1=>XvBuild P 113 [(0,r0),(1,r1)] (fun r2 _=>XvBox (S.nx+ef1.add.length) r2 (fun r3 ef3=>K ⟨[(4,r3),(5,(.atom (.int .i64 0)))],(Eff.hp ef3 (S.nx+ef1.add.length) (Eff.hp ef1 S.nx S.hp)),((S.nx+ef1.add.length)+ef3.add.length),S.gh⟩))))) fun K hK=>?_
  repeat' (first|(refine hK _ ?_;clear hK K)|(refine st ?_;try simp only[encX,zaa,zab,zac,zad])|fail)
  all_goals
  refine Tri.ret ?_
  show ResOk _ _ _ _
  exact absurd (zjN (by assumption) (by simp_all)) he
theorem zk0 (x:LexD) (ws:List ByteArray) (hx:HeldX x) (hn:ws.length≤1000000) (hw:∀w,w∈ws→w.size≤9223372036854775807) (he:errX x ws=0):Pure Try.prog 25 [encX x,strs ws] (.tup [.ptr 0 4 0 0,encI 0]) [⟨4,[za3 x]⟩,⟨0,[]⟩]:=by
  refine Pure.intro (ts:=[4,5]) Try.func25 (by kernel_rfl) rfl rfl rfl (Nat.le_of_ble_eq_true rfl) ?_ ?_
  · simp[zaR,zag,encS,PV.pure,zaw]
  refine sZ [1,2] (fun P S K=>XvBox S.nx (S.get 0) (fun r0 ef0=>K ⟨[(1,S.get 1),(2,r0)],(Eff.hp ef0 S.nx S.hp),(S.nx+ef0.add.length),S.gh⟩)) fun K hK=>?_
  repeat' (first|(refine hK _ ?_;clear hK K)|refine And.intro ?_ ?_|exact cl|(refine st ?_;try simp only[encX,zaa,zab,zac,zad])|fail)
  all_goals
  refine Tri.seq ?_
  refine sZ [1,2,6] (fun P S K=>XvLoad P 27 (M S.hp S.nx) (S.get 2) (fun r0 _=>XvFnIV P (M S.hp S.nx) (.fn 27 []) [r0] (fun r1 ef1=>K ⟨[(1,S.get 1),(2,S.get 2),(6,r1)],(Eff.hp ef1 S.nx S.hp),(S.nx+ef1.add.length),S.gh⟩))) fun K hK=>?_
  repeat' (first|(refine hK _ ?_;clear hK K)|refine .inl ⟨_,_,zef x hx,?_⟩|(refine st ?_;try simp only[encX,zaa,zab,zac,zad])|fail)
  all_goals
  refine sY [1,2,6,10] (fun P S K=>XvBinOV P .neq 41 (.const (.int .i64 0)) (S.get 6) (.atom (.int .i64 0)) (fun r1 _=>K ⟨[(1,S.get 1),(2,S.get 2),(6,S.get 6),(10,r1)],S.hp,S.nx,S.gh⟩)) ?_
  all_goals
  refine Tri.cond rfl (fun h10=>?_) (fun h10=>?_)
  ·try (cases h10;done)
   all_goals (try simp only[CQ] at h10)
   all_goals
   refine sY [4,5] (fun P S K=>K ⟨[(4,(.atom (.pointer none))),(5,(S.get 6))],S.hp,S.nx,S.gh⟩) ?_
   all_goals
   refine Tri.ret ?_
   show ResOk _ _ _ _
   exact absurd he (by rw[zhK (by assumption)];assumption)
  try (cases h10;done)
  all_goals (try simp only[CQ] at h10)
  all_goals
  refine Tri.skip ?_
  refine Tri.seq ?_
  refine sZ [2,14] (fun P S K=>XvFnIV P (M S.hp S.nx) (.fn 28 []) [(S.get 1)] (fun r1 ef1=>XvUn .not r1 (fun r2 _=>K ⟨[(2,S.get 2),(14,r2)],(Eff.hp ef1 S.nx S.hp),(S.nx+ef1.add.length),S.gh⟩))) fun K hK=>?_
  repeat' (first|(refine hK _ ?_;clear hK K)|refine .inl ⟨_,_,zfM ws (by omega) hw,?_⟩|(refine st ?_;try simp only[encX,zaa,zab,zac,zad])|fail)
  all_goals try simp (disch:=omega) only[zae,zaf]
  all_goals
  refine Tri.cond rfl (fun h14=>?_) (fun h14=>?_)
  ·try (cases h14;done)
   all_goals (try simp only[CQ] at h14)
   all_goals
   refine sY [4,5] (fun P S K=>K ⟨[(4,(.atom (.pointer none))),(5,(.atom (.int .i64 1)))],S.hp,S.nx,S.gh⟩) ?_
   all_goals
   refine Tri.ret ?_
   show ResOk _ _ _ _
   exact absurd he (by rw[zjM (by assumption) (by simp_all)];decide)
  try (cases h14;done)
  all_goals (try simp only[CQ] at h14)
  all_goals
  refine Tri.skip ?_
  refine sZ [4,5] (fun P S K=>XvLoad P 27 (M S.hp S.nx) (S.get 2) (fun r0 _=>XvMakeMap none S.nx (fun r1 ef1=>XvBuild P 113 [(0,r0),(1,r1)] (fun r2 _=>XvBox (S.nx+ef1.add.length) r2 (fun r3 ef3=>K ⟨[(4,r3),(5,(.atom (.int .i64 0)))],(Eff.hp ef3 (S.nx+ef1.add.length) (Eff.hp ef1 S.nx S.hp)),((S.nx+ef1.add.length)+ef3.add.length),S.gh⟩))))) fun K hK=>?_
  repeat' (first|(refine hK _ ?_;clear hK K)|(refine st ?_;try simp only[encX,zaa,zab,zac,zad])|fail)
  all_goals
  refine Tri.ret ?_
  show ResOk _ _ _ _
  refine ResOk.two 2 1 4 (by decide) rfl rfl (by simp[retV,St.get,lk,sealed,PV.ren,renL,rmap]) rfl rfl ?_ ?_
  · simp[za3,sealed,PV.ren,renL,rmap,zaa,zab,zac,zaD,zaE,zaG,zad,zai,zaj,-List.map_map]
  · rfl
theorem argsC (ws:List ByteArray) (k:Int) (a b n:Nat):[PV.ptr a 4 0 0,strs ws,encI k]=[PV.ptr 0 4 0 0,strs ws,encI k].map (PV.ren (rmap [a,b] n)):=by
  have h:∀ρ,(strs ws).ren ρ=strs ws:=fun ρ=>za8 ρ _ (zag ws)
  simp[PV.ren,rmap,h,encI]
theorem zqp (x:LexD) (ws kn:List ByteArray) (k:Nat):(runX x ws kn k).1=choT x ws k:=zkT x ws kn k
theorem zim (x:LexD) (kn ws:List ByteArray) (k:Nat) (hx:HeldX x) (hk:k<ws.length) (hs:∀s,s∈kn→s.size≤140737488355328) (hw:∀s,s∈ws→s.size≤140737488355328) (hn:ws.length≤1000000):Proc Try.prog 26 [.ptr 0 4 0 0,strs ws,encI k] (hpB x kn) (.tup [encF (choT x ws k).1,.atom (.bool (choT x ws k).2)]) ((hpB x (runX x ws kn k).2).map some) []:=by
  have:=zlk x kn ws k hx hk hs hw hn
  rw[zqp] at this
  exact this
theorem zk8 (x:LexD) (ws:List ByteArray) (k:Int) (hx:HeldX x) (hn:ws.length≤1000000) (hw:∀w,w∈ws→w.size≤9223372036854775807) (hk:I64 k) (he:errX x ws≠0):
    Pure Try.prog 11 [encX x,strs ws,encI k] (.tup [encF (zcD x ws k).1,encI (zcD x ws k).2]) []:=by
  obtain⟨hk1,hk2⟩:=hk
  refine Pure.introR (rv:=[.cell 6 40,.tmp 7]) Try.func11 (by kernel_rfl) rfl rfl rfl (Nat.le_of_ble_eq_true rfl) ?_ ?_
  · simp[zaR,zag,encS,encI,PV.pure,zaw]
  refine sZ [1,2,3,6] (fun P S K=>XvBox S.nx (S.get 0) (fun r0 ef0=>XvAlloc P 40 (S.nx+ef0.add.length) (fun r1 ef1=>K ⟨[(1,S.get 1),(2,S.get 2),(3,r0),(6,r1)],(Eff.hp ef1 (S.nx+ef0.add.length) (Eff.hp ef0 S.nx S.hp)),((S.nx+ef0.add.length)+ef1.add.length),S.gh⟩))) fun K hK=>?_
  repeat' (first|(refine hK _ ?_;clear hK K)|refine And.intro ?_ ?_|exact cl|(refine st ?_;try simp only[encX,zaa,zab,zac,encF,zad])|fail)
  all_goals
  refine sZ [1,2,6,8,9] (fun P S K=>XvLoad P 27 (M S.hp S.nx) (S.get 3) (fun r0 _=>XvFnIV P (M S.hp S.nx) (.fn 25 []) [r0,(S.get 1)] (fun r2 ef2=>XvExtract r2 0 (fun r4 _=>XvExtract r2 1 (fun r5 _=>K ⟨[(1,S.get 1),(2,S.get 2),(6,S.get 6),(8,r4),(9,r5)],(Eff.hp ef2 S.nx S.hp),(S.nx+ef2.add.length),S.gh⟩))))) fun K hK=>?_
  repeat' (first|(refine hK _ ?_;clear hK K)|refine And.intro ?_ ?_|refine .inl ⟨_,_,zlY x ws hx hn hw he,?_⟩|(refine st ?_;try simp only[encX,zaa,zab,zac,encF,zad])|fail)
  all_goals
  refine Tri.seq ?_
  refine sY [1,2,6,8,9,19] (fun P S K=>XvBinOV P .neq 41 (.const (.int .i64 0)) (S.get 9) (.atom (.int .i64 0)) (fun r1 _=>K ⟨[(1,S.get 1),(2,S.get 2),(6,S.get 6),(8,S.get 8),(9,S.get 9),(19,r1)],S.hp,S.nx,S.gh⟩)) ?_
  all_goals
  refine Tri.cond rfl (fun h19=>?_) (fun h19=>?_)
  ·try (cases h19;done)
   all_goals (try simp only[CQ] at h19)
   all_goals
   refine sZ [6,7] (fun P S K=>XvBuild P 40 [] (fun r0 _=>XvStore P 40 (M S.hp S.nx) (S.get 6) r0 (fun r2 ef2=>K ⟨[(6,S.get 6),(7,(S.get 9))],(Eff.hp ef2 S.nx S.hp),(S.nx+ef2.add.length),S.gh⟩))) fun K hK=>?_
   repeat' (first|(refine hK _ ?_;clear hK K)|refine And.intro ?_ ?_|exact cl|(refine st ?_;try simp only[encX,zaa,zab,zac,encF,zad])|fail)
   all_goals
   refine Tri.ret ?_
   show ResR _ _ _ _ _
   rw[zlm he];refine ResR.cells (encF noF) (encI (errX x ws)) [] rfl rfl rfl
  try (cases h19;done)
  all_goals (try simp only[CQ] at h19)
  all_goals
  refine Tri.skip ?_
  refine Tri.seq ?_
  refine sZ [1,2,6,8,29] (fun P S K=>XvBinOV P .lss 3 (.const (.int .i64 0)) (S.get 2) (.atom (.int .i64 0)) (fun r1 _=>Xgq r1 false (fun k=>k (S.get 2)) (fun g3 r3=>Xgq g3 false (fun k=>k (S.get 1)) (fun g4 r4=>Xgq g4 false (fun k=>XvLen P 35 (M S.hp S.nx) r4 (fun r5 _=>k r5)) (fun g5 r5=>Xgq g5 false (fun k=>XvBinOV P .geq 3 (.tmp 27) r3 r5 (fun r6 _=>k r6)) (fun g6 r6=>XvPick g6 (.atom (.bool true)) r6 (fun r7 _=>K ⟨[(1,S.get 1),(2,S.get 2),(6,S.get 6),(8,S.get 8),(29,r7)],S.hp,S.nx,S.gh⟩))))))) fun K hK=>?_
  repeat' (first|exact cl|fail)
  all_goals
  refine Tri.cond rfl (fun h29=>?_) (fun h29=>?_)
  ·try (cases h29;done)
   all_goals (try simp only[CQ] at h29)
   all_goals
   refine sZ [6,7] (fun P S K=>XvBuild P 40 [] (fun r0 _=>XvStore P 40 (M S.hp S.nx) (S.get 6) r0 (fun r1 ef1=>K ⟨[(6,S.get 6),(7,(.atom (.int .i64 5)))],(Eff.hp ef1 S.nx S.hp),(S.nx+ef1.add.length),S.gh⟩))) fun K hK=>?_
   repeat' (first|(refine hK _ ?_;clear hK K)|refine And.intro ?_ ?_|exact cl|(refine st ?_;try simp only[encX,zaa,zab,zac,encF,zad])|fail)
   all_goals
   refine Tri.ret ?_
   show ResR _ _ _ _ _
   done
  try (cases h29;done)
  all_goals (try simp only[CQ] at h29)
  all_goals
  refine Tri.skip ?_
  refine sZ [6,10,11] (fun P S K=>XvFnIV P (M S.hp S.nx) (.fn 26 []) [(S.get 8),(S.get 1),(S.get 2)] (fun r3 ef3=>XvExtract r3 0 (fun r5 _=>XvExtract r3 1 (fun r6 _=>XvAlloc P 40 (S.nx+ef3.add.length) (fun r7 ef7=>XvStore P 40 (M (Eff.hp ef7 (S.nx+ef3.add.length) (Eff.hp ef3 S.nx S.hp)) ((S.nx+ef3.add.length)+ef7.add.length)) r7 r5 (fun r8 ef8=>K ⟨[(6,S.get 6),(10,r7),(11,r6)],(Eff.hp ef8 ((S.nx+ef3.add.length)+ef7.add.length) (Eff.hp ef7 (S.nx+ef3.add.length) (Eff.hp ef3 S.nx S.hp))),(((S.nx+ef3.add.length)+ef7.add.length)+ef8.add.length),S.gh⟩)))))) fun K hK=>?_
  repeat' (first|(refine hK _ ?_;clear hK K)|refine And.intro ?_ ?_|exact cl|(refine st ?_;try simp only[encX,zaa,zab,zac,encF,zad])|fail)
  all_goals
  refine Tri.seq ?_
  refine sY [6,10,39] (fun P S K=>XvUn .not (S.get 11) (fun r1 _=>K ⟨[(6,S.get 6),(10,S.get 10),(39,r1)],S.hp,S.nx,S.gh⟩)) ?_
  all_goals try simp (disch:=omega) only[zae,zaf]
  all_goals
  refine Tri.cond rfl (fun h39=>?_) (fun h39=>?_)
  ·try (cases h39;done)
   all_goals (try simp only[CQ] at h39)
   all_goals
   refine sZ [6,7] (fun P S K=>XvBuild P 40 [] (fun r0 _=>XvStore P 40 (M S.hp S.nx) (S.get 6) r0 (fun r1 ef1=>K ⟨[(6,S.get 6),(7,(.atom (.int .i64 14)))],(Eff.hp ef1 S.nx S.hp),(S.nx+ef1.add.length),S.gh⟩))) fun K hK=>?_
   repeat' (first|(refine hK _ ?_;clear hK K)|refine And.intro ?_ ?_|exact cl|(refine st ?_;try simp only[encX,zaa,zab,zac,encF,zad])|fail)
   all_goals
   refine Tri.ret ?_
   show ResR _ _ _ _ _
   done
  try (cases h39;done)
  all_goals (try simp only[CQ] at h39)
  all_goals
  refine Tri.skip ?_
  refine sZ [6,7] (fun P S K=>XvLoad P 40 (M S.hp S.nx) (S.get 10) (fun r0 _=>XvStore P 40 (M S.hp S.nx) (S.get 6) r0 (fun r1 ef1=>K ⟨[(6,S.get 6),(7,(.atom (.int .i64 0)))],(Eff.hp ef1 S.nx S.hp),(S.nx+ef1.add.length),S.gh⟩))) fun K hK=>?_
  repeat' (first|(refine hK _ ?_;clear hK K)|refine And.intro ?_ ?_|exact cl|(refine st ?_;try simp only[encX,zaa,zab,zac,encF,zad])|fail)
  all_goals
  refine Tri.ret ?_
  show ResR _ _ _ _ _
  done
theorem znN (x:LexD) (ws:List ByteArray) (k:Int) (hx:HeldX x) (hn:ws.length≤1000000) (hw:∀w,w∈ws→w.size≤140737488355328) (hk:I64 k) (he:errX x ws=0):
    Pure Try.prog 11 [encX x,strs ws,encI k] (.tup [encF (zcD x ws k).1,encI (zcD x ws k).2]) []:=by
  obtain⟨hk1,hk2⟩:=hk
  refine Pure.introR (rv:=[.cell 6 40,.tmp 7]) Try.func11 (by kernel_rfl) rfl rfl rfl (Nat.le_of_ble_eq_true rfl) ?_ ?_
  · simp[zaR,zag,encS,encI,PV.pure,zaw]
  refine sZ [1,2,3,6] (fun P S K=>XvBox S.nx (S.get 0) (fun r0 ef0=>XvAlloc P 40 (S.nx+ef0.add.length) (fun r1 ef1=>K ⟨[(1,S.get 1),(2,S.get 2),(3,r0),(6,r1)],(Eff.hp ef1 (S.nx+ef0.add.length) (Eff.hp ef0 S.nx S.hp)),((S.nx+ef0.add.length)+ef1.add.length),S.gh⟩))) fun K hK=>?_
  repeat' (first|(refine hK _ ?_;clear hK K)|refine And.intro ?_ ?_|exact cl|(refine st ?_;try simp only[encX,zaa,zab,zac,encF,zad,zai,zaj,za3])|fail)
  all_goals
  refine sZ [1,2,6,8,9] (fun P S K=>XvLoad P 27 (M S.hp S.nx) (S.get 3) (fun r0 _=>XvFnIV P (M S.hp S.nx) (.fn 25 []) [r0,(S.get 1)] (fun r2 ef2=>XvExtract r2 0 (fun r4 _=>XvExtract r2 1 (fun r5 _=>K ⟨[(1,S.get 1),(2,S.get 2),(6,S.get 6),(8,r4),(9,r5)],(Eff.hp ef2 S.nx S.hp),(S.nx+ef2.add.length),S.gh⟩))))) fun K hK=>?_
  repeat' (first|(refine hK _ ?_;clear hK K)|refine And.intro ?_ ?_|refine .inl ⟨_,_,zk0 x ws hx hn (fun w h=>up47 (hw w h)) he,?_⟩|(refine st ?_;try simp only[encX,zaa,zab,zac,encF,zad,zai,zaj,za3])|fail)
  all_goals
  refine Tri.seq ?_
  refine sY [1,2,6,8,9,19] (fun P S K=>XvBinOV P .neq 41 (.const (.int .i64 0)) (S.get 9) (.atom (.int .i64 0)) (fun r1 _=>K ⟨[(1,S.get 1),(2,S.get 2),(6,S.get 6),(8,S.get 8),(9,S.get 9),(19,r1)],S.hp,S.nx,S.gh⟩)) ?_
  all_goals
  refine Tri.cond rfl (fun h19=>?_) (fun h19=>?_)
  ·try (cases h19;done)
   all_goals (try simp only[CQ] at h19)
   all_goals
   refine sZ [6,7] (fun P S K=>XvBuild P 40 [] (fun r0 _=>XvStore P 40 (M S.hp S.nx) (S.get 6) r0 (fun r2 ef2=>K ⟨[(6,S.get 6),(7,(S.get 9))],(Eff.hp ef2 S.nx S.hp),(S.nx+ef2.add.length),S.gh⟩))) fun K hK=>?_
   repeat' (first|(refine hK _ ?_;clear hK K)|refine And.intro ?_ ?_|exact cl|(refine st ?_;try simp only[encX,zaa,zab,zac,encF,zad,zai,zaj,za3])|fail)
   all_goals
   refine Tri.ret ?_
   show ResR _ _ _ _ _
   done
  try (cases h19;done)
  all_goals (try simp only[CQ] at h19)
  all_goals
  refine Tri.skip ?_
  refine Tri.seq ?_
  refine sZ [1,2,6,8,29] (fun P S K=>XvBinOV P .lss 3 (.const (.int .i64 0)) (S.get 2) (.atom (.int .i64 0)) (fun r1 _=>Xgq r1 false (fun k=>k (S.get 2)) (fun g3 r3=>Xgq g3 false (fun k=>k (S.get 1)) (fun g4 r4=>Xgq g4 false (fun k=>XvLen P 35 (M S.hp S.nx) r4 (fun r5 _=>k r5)) (fun g5 r5=>Xgq g5 false (fun k=>XvBinOV P .geq 3 (.tmp 27) r3 r5 (fun r6 _=>k r6)) (fun g6 r6=>XvPick g6 (.atom (.bool true)) r6 (fun r7 _=>K ⟨[(1,S.get 1),(2,S.get 2),(6,S.get 6),(8,S.get 8),(29,r7)],S.hp,S.nx,S.gh⟩))))))) fun K hK=>?_
  repeat' (first|(refine hK _ ?_;clear hK K)|((first|refine zav (fun hg=>?_) (fun hg=>?_)|refine fun(hg:(_:Prop))=>?_)<;>((try simp only[BQ] at hg);try (exfalso;omega)))|refine And.intro ?_ ?_|exact cl|(refine st ?_;try simp only[encX,zaa,zab,zac,encF,zad,zai,zaj,za3])|fail)
  all_goals
  refine Tri.cond rfl (fun h29=>?_) (fun h29=>?_)
  ·try (cases h29;done)
   all_goals (try simp only[CQ] at h29)
   all_goals
   refine sZ [6,7] (fun P S K=>XvBuild P 40 [] (fun r0 _=>XvStore P 40 (M S.hp S.nx) (S.get 6) r0 (fun r1 ef1=>K ⟨[(6,S.get 6),(7,(.atom (.int .i64 5)))],(Eff.hp ef1 S.nx S.hp),(S.nx+ef1.add.length),S.gh⟩))) fun K hK=>?_
   repeat' (first|(refine hK _ ?_;clear hK K)|refine And.intro ?_ ?_|exact cl|(refine st ?_;try simp only[encX,zaa,zab,zac,encF,zad,zai,zaj,za3])|fail)
   all_goals
   refine Tri.ret ?_
   show ResR _ _ _ _ _
   rw[zll (by omega) (by omega)];refine ResR.cells (encF noF) (encI 5) [] rfl rfl rfl
  try (cases h29;done)
  all_goals (try simp only[CQ] at h29)
  all_goals
  refine Tri.skip ?_
  refine sZ [6,10,11] (fun P S K=>XvFnIV P (M S.hp S.nx) (.fn 26 []) [(S.get 8),(S.get 1),(S.get 2)] (fun r3 ef3=>XvExtract r3 0 (fun r5 _=>XvExtract r3 1 (fun r6 _=>XvAlloc P 40 (S.nx+ef3.add.length) (fun r7 ef7=>XvStore P 40 (M (Eff.hp ef7 (S.nx+ef3.add.length) (Eff.hp ef3 S.nx S.hp)) ((S.nx+ef3.add.length)+ef7.add.length)) r7 r5 (fun r8 ef8=>K ⟨[(6,S.get 6),(10,r7),(11,r6)],(Eff.hp ef8 ((S.nx+ef3.add.length)+ef7.add.length) (Eff.hp ef7 (S.nx+ef3.add.length) (Eff.hp ef3 S.nx S.hp))),(((S.nx+ef3.add.length)+ef7.add.length)+ef8.add.length),S.gh⟩)))))) fun K hK=>?_
  repeat' (first|(refine hK _ ?_;clear hK K)|refine And.intro ?_ ?_|exact cl|refine .inr (vProc.bk 2 3 (zim x [] ws k.toNat hx (by omega) (fun s h=>by cases h) hw hn) (by decide) rfl (by rw[Int.toNat_of_nonneg (by omega)];exact argsC _ _ _ _ _) rfl rfl ?_)|(refine st ?_;try simp only[encX,zaa,zab,zac,encF,zad,zai,zaj,za3])|fail)
  all_goals
  refine Tri.seq ?_
  refine sY [6,10,39] (fun P S K=>XvUn .not (S.get 11) (fun r1 _=>K ⟨[(6,S.get 6),(10,S.get 10),(39,r1)],S.hp,S.nx,S.gh⟩)) ?_
  all_goals try simp (disch:=omega) only[zae,zaf]
  all_goals
  refine Tri.cond rfl (fun h39=>?_) (fun h39=>?_)
  ·try (cases h39;done)
   all_goals (try simp only[CQ] at h39)
   all_goals
   refine sZ [6,7] (fun P S K=>XvBuild P 40 [] (fun r0 _=>XvStore P 40 (M S.hp S.nx) (S.get 6) r0 (fun r1 ef1=>K ⟨[(6,S.get 6),(7,(.atom (.int .i64 14)))],(Eff.hp ef1 S.nx S.hp),(S.nx+ef1.add.length),S.gh⟩))) fun K hK=>?_
   repeat' (first|(refine hK _ ?_;clear hK K)|refine And.intro ?_ ?_|exact cl|(refine st ?_;try simp only[encX,zaa,zab,zac,encF,zad,zai,zaj,za3])|fail)
   all_goals
   refine Tri.ret ?_
   show ResR _ _ _ _ _
   rw[zjT (by omega) (by omega) (by assumption)]
   refine ResR.cells (encF noF) (encI 14) [] rfl rfl rfl
  try (cases h39;done)
  all_goals (try simp only[CQ] at h39)
  all_goals
  refine Tri.skip ?_
  refine sZ [6,7] (fun P S K=>XvLoad P 40 (M S.hp S.nx) (S.get 10) (fun r0 _=>XvStore P 40 (M S.hp S.nx) (S.get 6) r0 (fun r1 ef1=>K ⟨[(6,S.get 6),(7,(.atom (.int .i64 0)))],(Eff.hp ef1 S.nx S.hp),(S.nx+ef1.add.length),S.gh⟩))) fun K hK=>?_
  repeat' (first|(refine hK _ ?_;clear hK K)|refine And.intro ?_ ?_|exact cl|(refine st ?_;try simp only[encX,zaa,zab,zac,encF,zad,zai,zaj,za3])|fail)
  all_goals
  refine Tri.ret ?_
  show ResR _ _ _ _ _
  rw[zjS (by omega) (by omega) (by assumption)]
  refine ResR.cells (encF (choT x ws k.toNat).1) (encI 0) [] rfl rfl rfl
theorem zjq (x:LexD) (ws:List ByteArray) (k:Int) (hx:HeldX x) (hn:ws.length≤1000000) (hw:∀w,w∈ws→w.size≤9223372036854775807) (hk:I64 k):
    Pure Try.prog 11 [encX x,strs ws,encI k] (.tup [encF (zcD x ws k).1,encI (zcD x ws k).2]) []:=by
  by_cases he:errX x ws=0
  · exact znN x ws k hx hn (zjL he) hk he
  · exact zk8 x ws k hx hn hw hk he
theorem zgL{p:Prop}(h:p:=by(refine⟨4,?_,?_,rfl,by simp,rfl,fun _ h _=>absurd h (Nat.not_lt_zero _)⟩<;>(simp only[List.forall_mem_cons];repeat' (first|refine And.intro ?_ ?_|(intro p hp;exact absurd hp List.not_mem_nil)|rfl|exact sp (zaR _)|exact sp (zaK _)|exact(zas _ _ _ (zah _)).trans (zbQ _ _).symm|exact(zas _ _ _ (zag _)).trans (zbP _ _).symm|exact sp (by assumption)|(intro o ho;cases ho;refine⟨by decide,?_⟩;first|(refine LeqS.row rfl ?_ ?_;(next=>(first|rfl|(simp only[List.map_append,List.map_cons,List.map_nil,List.append_nil,List.nil_append,List.append_assoc,List.cons_append,encI,encS,ints,strs];done)|(simp[encI,encS,ints,strs,encF,encR,encA];done)));(next=>(first|rfl|exact zal _|exact zaq _|exact zau _|exact zat _|exact zcH _|exact zaH _|exact zaT _|exact zaU _|exact zar _|(simp[zar,zal,zaq,zau,zat,zaw,PV.pure,zah,zag,zcH,zaR,zaH,zaT,zaU,zaK,zar,encF,encS];done)));done)|refine⟨_,rfl,rfl,?_⟩)|(simp[St.born,St.known,retV,St.get,St.obj,lk,sealed,PV.ren,renL,rmap,AO.ren,ints,strs,encI,encS,zap,zao,zan,zam,zaC,zaB,zaA,zaz,za1,za0,zaZ,zaY,zbU,zbV,zhc,za3,zcx,zaa,zab,zac,zad,zai,zaj,zaD,za2,zaE,zbd,zaG,zbe,zaL,encF,encR,encA,zbF]<;>omega))));first|done|fail):p:=h
theorem zqN{p:Prop}(h:p:=by(first|rfl|(simp[St.born,St.known,retV,St.get,St.obj,lk,sealed,PV.ren,renL,rmap,AO.ren,ints,strs,encI,encS,zap,zao,zan,zam,zaC,zaB,zaA,zaz,za1,za0,zaZ,zaY,zbU,zbV,zhc,za3,zcx,zaa,zab,zac,zad,zai,zaj,zaD,za2,zaE,zbd,zaG,zbe,zaL,encF,encR,encA,zbF,zaL,List.take_length];done));first|done|fail):p:=h
theorem zqX (x:LexD) (ws:List ByteArray) (hx:HeldX x) (hn:ws.length≤1000000) (hw:∀w,w∈ws→w.size≤9223372036854775807) (he:errX x ws≠0):
    Pure Try.prog 22 [encX x,strs ws] (.tup [zaa (zf5 x ws).1,encI (zf5 x ws).2]) []:=by
  refine Pure.intro (ts:=[4,5]) Try.func22 (by kernel_rfl) rfl rfl rfl (Nat.le_of_ble_eq_true rfl) ?_ ?_
  · simp[zaR,zag,encS,encI,PV.pure,zaw]
  refine sZ [1,2] (fun P S K=>XvBox S.nx (S.get 0) (fun r0 ef0=>K ⟨[(1,S.get 1),(2,r0)],(Eff.hp ef0 S.nx S.hp),(S.nx+ef0.add.length),S.gh⟩)) fun K hK=>?_
  repeat' (first|(refine hK _ ?_;clear hK K)|refine And.intro ?_ ?_|exact cl|(refine st ?_;try simp only[encX,zaa,zab,zac,encF,zad])|fail)
  all_goals
  refine sZ [1,6,7] (fun P S K=>XvLoad P 27 (M S.hp S.nx) (S.get 2) (fun r0 _=>XvFnIV P (M S.hp S.nx) (.fn 25 []) [r0,(S.get 1)] (fun r2 ef2=>XvExtract r2 0 (fun r4 _=>XvExtract r2 1 (fun r5 _=>K ⟨[(1,S.get 1),(6,r4),(7,r5)],(Eff.hp ef2 S.nx S.hp),(S.nx+ef2.add.length),S.gh⟩))))) fun K hK=>?_
  repeat' (first|(refine hK _ ?_;clear hK K)|refine And.intro ?_ ?_|refine .inl ⟨_,_,zlY x ws hx hn hw he,?_⟩|(refine st ?_;try simp only[encX,zaa,zab,zac,encF,zad])|fail)
  all_goals
  refine Tri.seq ?_
  refine sY [1,6,7,19] (fun P S K=>XvBinOV P .neq 41 (.const (.int .i64 0)) (S.get 7) (.atom (.int .i64 0)) (fun r1 _=>K ⟨[(1,S.get 1),(6,S.get 6),(7,S.get 7),(19,r1)],S.hp,S.nx,S.gh⟩)) ?_
  all_goals
  refine Tri.cond rfl (fun h19=>?_) (fun h19=>?_)
  ·try (cases h19;done)
   all_goals (try simp only[CQ] at h19)
   all_goals
   refine sY [4,5] (fun P S K=>K ⟨[(4,(.atom (.slice none 0 0))),(5,(S.get 7))],S.hp,S.nx,S.gh⟩) ?_
   refine Tri.asSl 4 3 rfl ?_
   all_goals
   refine Tri.ret ?_
   show ResOk _ _ _ _
   rw[zoz (by omega)]
   exact ResOk.frz 5 zqN zjn
  try (cases h19;done)
  all_goals (try simp only[CQ] at h19)
  all_goals
  refine Tri.skip ?_
  refine sY [1,6,8] (fun P S K=>K ⟨[(1,S.get 1),(6,S.get 6),(8,(.atom (.slice none 0 0)))],S.hp,S.nx,S.gh⟩) ?_
  all_goals
  refine Tri.seq ?_
  refine sZ [1,6,8,22,23] (fun P S K=>XvLen P 35 (M S.hp S.nx) (S.get 1) (fun r1 _=>K ⟨[(1,S.get 1),(6,S.get 6),(8,S.get 8),(22,r1),(23,(.atom (.int .i64 0)))],S.hp,S.nx,S.gh⟩)) fun K hK=>?_
  repeat' (first|(refine hK _ ?_;clear hK K)|refine And.intro ?_ ?_|exact cl|(refine st ?_;try simp only[encX,zaa,zab,zac,encF,zad])|fail)
  all_goals
  refine Tri.block ?_
  fail -- LOOP 0
theorem lText_ok (x:LexD) (ws:List ByteArray) (hx:HeldX x) (hn:ws.length≤1000000) (hw:∀w,w∈ws→w.size≤140737488355328) (he:errX x ws=0):
    Pure Try.prog 22 [encX x,strs ws] (.tup [zaa (zf5 x ws).1,encI (zf5 x ws).2]) []:=by
  refine Pure.intro (ts:=[4,5]) Try.func22 (by kernel_rfl) rfl rfl rfl (Nat.le_of_ble_eq_true rfl) ?_ ?_
  · simp[zaR,zag,encS,encI,PV.pure,zaw]
  refine sZ [1,2] (fun P S K=>XvBox S.nx (S.get 0) (fun r0 ef0=>K ⟨[(1,S.get 1),(2,r0)],(Eff.hp ef0 S.nx S.hp),(S.nx+ef0.add.length),S.gh⟩)) fun K hK=>?_
  repeat' (first|(refine hK _ ?_;clear hK K)|refine And.intro ?_ ?_|exact cl|(refine st ?_;try simp only[encX,zaa,zab,zac,encF,zad,zai,zaj,za3])|fail)
  all_goals
  refine sZ [1,6,7] (fun P S K=>XvLoad P 27 (M S.hp S.nx) (S.get 2) (fun r0 _=>XvFnIV P (M S.hp S.nx) (.fn 25 []) [r0,(S.get 1)] (fun r2 ef2=>XvExtract r2 0 (fun r4 _=>XvExtract r2 1 (fun r5 _=>K ⟨[(1,S.get 1),(6,r4),(7,r5)],(Eff.hp ef2 S.nx S.hp),(S.nx+ef2.add.length),S.gh⟩))))) fun K hK=>?_
  repeat' (first|(refine hK _ ?_;clear hK K)|refine And.intro ?_ ?_|refine .inl ⟨_,_,zk0 x ws hx hn (fun w h=>up47 (hw w h)) he,?_⟩|(refine st ?_;try simp only[encX,zaa,zab,zac,encF,zad,zai,zaj,za3])|fail)
  all_goals
  refine Tri.seq ?_
  refine sZ [1,6,7,19] (fun P S K=>XvBinOV P .neq 41 (.const (.int .i64 0)) (S.get 7) (.atom (.int .i64 0)) (fun r1 _=>K ⟨[(1,S.get 1),(6,S.get 6),(7,S.get 7),(19,r1)],S.hp,S.nx,S.gh⟩)) fun K hK=>?_
  repeat' (first|(refine hK _ ?_;clear hK K)|refine And.intro ?_ ?_|exact cl|(refine st ?_;try simp only[encX,zaa,zab,zac,encF,zad,zai,zaj,za3])|fail)
  all_goals
  refine Tri.cond rfl (fun h19=>?_) (fun h19=>?_)
  ·try (cases h19;done)
   all_goals (try simp only[CQ] at h19)
   all_goals
   refine sZ [4,5] (fun P S K=>K ⟨[(4,(.atom (.slice none 0 0))),(5,(S.get 7))],S.hp,S.nx,S.gh⟩) fun K hK=>?_
   repeat' (first|(refine hK _ ?_;clear hK K)|refine And.intro ?_ ?_|exact cl|(refine st ?_;try simp only[encX,zaa,zab,zac,encF,zad,zai,zaj,za3])|fail)
   all_goals
   refine Tri.ret ?_
   show ResOk _ _ _ _
   done
  try (cases h19;done)
  all_goals (try simp only[CQ] at h19)
  all_goals
  refine Tri.skip ?_
  refine sZ [1,6,8] (fun P S K=>K ⟨[(1,S.get 1),(6,S.get 6),(8,(.atom (.slice none 0 0)))],S.hp,S.nx,S.gh⟩) fun K hK=>?_
  repeat' (first|(refine hK _ ?_;clear hK K)|refine And.intro ?_ ?_|exact cl|(refine st ?_;try simp only[encX,zaa,zab,zac,encF,zad,zai,zaj,za3])|fail)
  refine Tri.born 8 3 rfl ?_
  all_goals
  refine Tri.seq ?_
  refine sZ [1,6,8,22,23] (fun P S K=>XvLen P 35 (M S.hp S.nx) (S.get 1) (fun r1 _=>K ⟨[(1,S.get 1),(6,S.get 6),(8,S.get 8),(22,r1),(23,(.atom (.int .i64 0)))],S.hp,S.nx,S.gh⟩)) fun K hK=>?_
  repeat' (first|(refine hK _ ?_;clear hK K)|refine And.intro ?_ ?_|exact cl|(refine st ?_;try simp only[encX,zaa,zab,zac,encF,zad,zai,zaj,za3])|fail)
  all_goals
  refine Tri.block ?_
  refine Tri.loop (α:=(o:List FormD) ×' (kn:List ByteArray) ×' (i:Nat) ×' (i≤ws.length∧o.length≤i∧(∀s,s∈kn→s.size≤140737488355328)∧(∀j,j<i→(choT x ws j).2=true)∧o=zkl x ws i)) (fun z=>(fun(o:List FormD) (kn:List ByteArray) (i:Nat)=>(⟨[(1,strs ws),(6,.ptr 0 4 0 0),(8,.ob 2 3 0 o.length),(22,encI ws.length),(23,encI i)],[(0,some ⟨4,[za3 x]⟩),(1,some ⟨0,kn.map (entB x)⟩),(2,some ⟨3,o.map encF⟩)],3,[]⟩:St)) z.1 z.2.1 z.2.2.1) (fun z=>(fun(o:List FormD) (kn:List ByteArray) (i:Nat)=>ws.length - i) z.1 z.2.1 z.2.2.1) ⟨[],[],0,⟨Nat.zero_le _,Nat.le_refl _,fun s h=>(by cases h),fun j hj=>absurd hj (Nat.not_lt_zero _),rfl⟩⟩ [1,2,3] ?_ ?_
  ·exact zgL
  rintro⟨o,kn,i,⟨hi,hol,hs0,hs,ho⟩⟩
  refine sZ [1,6,8,22,23,24] (fun P S K=>XvBinOV P .lss 3 (.tmp 22) (S.get 23) (S.get 22) (fun r0 _=>K ⟨[(1,S.get 1),(6,S.get 6),(8,S.get 8),(22,S.get 22),(23,S.get 23),(24,r0)],S.hp,S.nx,S.gh⟩)) fun K hK=>?_
  repeat' (first|(refine hK _ ?_;clear hK K)|refine And.intro ?_ ?_|exact cl|(refine st ?_;try simp only[encX,zaa,zab,zac,encF,zad,zai,zaj,za3])|fail)
  all_goals
  refine Tri.seq ?_
  refine Tri.cond rfl (fun h24=>?_) (fun h24=>?_)
  ·try (cases h24;done)
   all_goals (try simp only[CQ] at h24)
   all_goals
   refine Tri.skip ?_
   refine Tri.seq ?_
   refine Tri.block ?_
   have hiw:i<ws.length:=by omega
   refine sZ [1,6,8,9,22,23] (fun P S K=>K ⟨[(1,S.get 1),(6,S.get 6),(8,S.get 8),(9,(S.get 23)),(22,S.get 22),(23,S.get 23)],S.hp,S.nx,S.gh⟩) fun K hK=>?_
   repeat' (first|(refine hK _ ?_;clear hK K)|refine And.intro ?_ ?_|exact cl|(refine st ?_;try simp only[encX,zaa,zab,zac,encF,zad,zai,zaj,za3])|fail)
   all_goals
   refine sZ [1,6,8,10,11,22,23] (fun P S K=>XvFnIV P (M S.hp S.nx) (.fn 26 []) [(S.get 6),(S.get 1),(S.get 9)] (fun r3 ef3=>XvExtract r3 0 (fun r5 _=>XvExtract r3 1 (fun r6 _=>XvAlloc P 40 (S.nx+ef3.add.length) (fun r7 ef7=>XvStore P 40 (M (Eff.hp ef7 (S.nx+ef3.add.length) (Eff.hp ef3 S.nx S.hp)) ((S.nx+ef3.add.length)+ef7.add.length)) r7 r5 (fun r8 ef8=>K ⟨[(1,S.get 1),(6,S.get 6),(8,S.get 8),(10,r7),(11,r6),(22,S.get 22),(23,S.get 23)],(Eff.hp ef8 ((S.nx+ef3.add.length)+ef7.add.length) (Eff.hp ef7 (S.nx+ef3.add.length) (Eff.hp ef3 S.nx S.hp))),(((S.nx+ef3.add.length)+ef7.add.length)+ef8.add.length),S.gh⟩)))))) fun K hK=>?_
   repeat' (first|(refine hK _ ?_;clear hK K)|refine And.intro ?_ ?_|exact cl|refine .inr (vProc.bk 0 1 (zim x kn ws i hx hiw hs0 hw hn) (by decide) rfl (argsC _ _ _ _ _) rfl rfl ?_)|(refine st ?_;try simp only[encX,zaa,zab,zac,encF,zad,zai,zaj,za3])|fail)
   all_goals
   refine Tri.seq ?_
   refine sZ [1,6,8,10,22,23,34] (fun P S K=>XvUn .not (S.get 11) (fun r1 _=>K ⟨[(1,S.get 1),(6,S.get 6),(8,S.get 8),(10,S.get 10),(22,S.get 22),(23,S.get 23),(34,r1)],S.hp,S.nx,S.gh⟩)) fun K hK=>?_
   repeat' (first|(refine hK _ ?_;clear hK K)|refine And.intro ?_ ?_|exact cl|(refine st ?_;try simp only[encX,zaa,zab,zac,encF,zad,zai,zaj,za3])|fail)
   all_goals try simp (disch:=omega) only[zae,zaf]
   all_goals
   refine Tri.cond rfl (fun h34=>?_) (fun h34=>?_)
   ·try (cases h34;done)
    all_goals (try simp only[CQ] at h34)
    all_goals
    refine sZ [4,5] (fun P S K=>K ⟨[(4,(.atom (.slice none 0 0))),(5,(.atom (.int .i64 14)))],S.hp,S.nx,S.gh⟩) fun K hK=>?_
    repeat' (first|(refine hK _ ?_;clear hK K)|refine And.intro ?_ ?_|exact cl|(refine st ?_;try simp only[encX,zaa,zab,zac,encF,zad,zai,zaj,za3])|fail)
    refine Tri.asSl 4 3 rfl ?_
    all_goals
    refine Tri.ret ?_
    show ResOk _ _ _ _
    rw[zmS (by omega) hiw (by assumption)]
    exact ResOk.frz 5 zqN zjn
   try (cases h34;done)
   all_goals (try simp only[CQ] at h34)
   all_goals
   refine Tri.skip ?_
   refine rZ [1,6,8,22,23] (fun P S K=>XvLoad P 40 (M S.hp S.nx) (S.get 10) (fun r1 _=>XvBuildS P 23 1 S.nx [(0,r1)] (fun r2 ef2=>(23=23∧XvAppend P 23 (M (Eff.hp ef2 S.nx S.hp) (S.nx+ef2.add.length)) (S.get 8) r2 (fun r3 ef3=>K ⟨[(1,S.get 1),(6,S.get 6),(8,r3),(22,S.get 22),(23,S.get 23)],(Eff.hp ef3 (S.nx+ef2.add.length) (Eff.hp ef2 S.nx S.hp)),((S.nx+ef2.add.length)+ef3.add.length),S.gh⟩))))) fun K hK=>?_
   repeat' (first|(refine hK _ ?_;clear hK K)|refine And.intro ?_ ?_|exact cl|(refine st ?_;try simp only[encX,zaa,zab,zac,encF,zad,zai,zaj,za3])|fail)
   all_goals
   refine rZ [1,6,8,22,23] (fun P S K=>XvBinOV P .add 3 (.const (.int .i64 1)) (S.get 23) (.atom (.int .i64 1)) (fun r0 _=>K ⟨[(1,S.get 1),(6,S.get 6),(8,S.get 8),(22,S.get 22),(23,r0)],S.hp,S.nx,S.gh⟩)) fun K hK=>?_
   repeat' (first|(refine hK _ ?_;clear hK K)|refine And.intro ?_ ?_|exact cl|(refine st ?_;try simp only[encX,zaa,zab,zac,encF,zad,zai,zaj,za3])|fail)
   all_goals try simp (disch:=omega) only[zae,zaf]
   all_goals
   refine⟨⟨o++[(choT x ws i).1],(runX x ws kn i).2,i+1,by omega,by simp;omega,zeq hiw hs0 hw,fun j hj=>?_,by rw[zmT,ho]⟩,[0,1,5],by dsimp only;omega,?_⟩
   · rcases Nat.lt_succ_iff_lt_or_eq.1 hj with hj|rfl
     · exact hs j hj
     · assumption
   · exact zgL
  try (cases h24;done)
  all_goals (try simp only[CQ] at h24)
  all_goals
  refine Tri.exit ?_
  refine sZ [4,5] (fun P S K=>K ⟨[(4,(S.get 8)),(5,(.atom (.int .i64 0)))],S.hp,S.nx,S.gh⟩) fun K hK=>?_
  repeat' (first|(refine hK _ ?_;clear hK K)|refine And.intro ?_ ?_|exact cl|(refine st ?_;try simp only[encX,zaa,zab,zac,encF,zad,zai,zaj,za3])|fail)
  all_goals
  refine Tri.ret ?_
  show ResOk _ _ _ _
  rw[zmR (by omega) (fun j hj=>hs j (by omega)),show zkl x ws ws.length=o by rw[ho];congr 1;omega]
  exact ResOk.frz 5 zqN zjn
theorem znL (x:LexD) (ws:List ByteArray) (hx:HeldX x) (hn:ws.length≤1000000) (hw:∀w,w∈ws→w.size≤9223372036854775807):
    Pure Try.prog 22 [encX x,strs ws] (.tup [zaa (zf5 x ws).1,encI (zf5 x ws).2]) []:=by
  by_cases he:errX x ws=0
  · exact lText_ok x ws hx hn (zjL he) he
  · exact zqX x ws hx hn hw he
end Go.Proofs.Ytehoglapajkabaa
namespace Go.Proofs.Ytehoglapajkabaa
open Go Go.RowKit Go.ChangeShapes Go.WideShapes Go.ChangeAt Go.Deep
section
variable {H:Type} {enc:TypeId×Value→H} {P:Program} {W:World} {sp:Nat→Bool} {held:Bool}
def oldF (W:World):Nat→Prop:=fun b=>b<W.heap.size
def IsPv (W:World) (p:PV) (v:Value):Prop:=∀(D:Nat→Prop) (μ:Nat→Option Nat),Rep D μ (oldF W) W p v
theorem IsPv.atom (W:World) (v:Value):IsPv W (.atom v) v:=fun _ _=>.atom v
theorem spot_of{t e:TypeId}{base len cap:Nat}{a:Addr}(ht:P.underlying t=some (.slice e)) (h:Value.okWide P W .any base t (.slice (some a) len cap)):a.spot=none:=by
  simp only[Value.okWide,ht,Cell.okWide,Cell.ok] at h
  exact h.2.2.2.1
theorem isPv_nil (W:World) (sz:Nat):IsPv W (.sl sz []) (.slice none 0 0):=fun _ _=>.sl0 sz none 0 (Nat.zero_le _) (fun _=>rfl) (fun x hx=>by cases hx)
theorem isPv_row{W:World}{sz:Nat}{l:List PV}{a:Addr}{len cap:Nat}(hs:a.spot=none) (hl:l.length=len) (hlc:len≤cap) (hc:cap≤maxLen) (hsz:0<sz) (g:Nat→Value) (hg:∀j,j<len * sz→W.cell? ⟨a.block,a.off+j,none⟩=some (g j))
    (h1:∀k (h:k<l.length),l[k].cells.length=sz) (h2:∀k (h:k<l.length) c (hc:c<l[k].cells.length),l[k].cells[c]=.atom (g (k * sz+c))):IsPv W (.sl sz l) (.slice (some a) len cap):=fun D μ=>by
  subst hl
  obtain⟨b,off,spot⟩:=a
  simp only at hs hg
  subst hs
  by_cases h0:l=[]
  · subst h0
    exact .sl0 sz _ cap hc (fun h=>by cases h) (fun x hx=>by cases hx;rfl)
  · have hpos:0<l.length:=List.length_pos_iff.2 h0
    have hlt:b<W.heap.size:=World.block_lt_of_cell? W _ (hg 0 (Nat.mul_pos hpos hsz))
    exact .sl sz l b off cap g hlt hlc hc hg h1 (fun k h c hc=>by rw[h2 k h c hc];exact .atom _)
theorem add_none{a:Addr}(hs:a.spot=none) (n:Nat):a.add n=⟨a.block,a.off+n,none⟩:=by
  obtain⟨b,off,spot⟩:=a
  simp only at hs
  subst hs
  unfold Addr.add
  split<;>simp_all
theorem zfU{t e:TypeId}{v:Value}{d:DataW H}{ps:List MemPlace}(ht:P.underlying t=some (.slice e)) (he:P.underlying e=some (.int .i64)) (hc:P.cellsOf e=1)
    {b0:Nat} (hv:Value.okWide P W .any b0 t v) (h:DataW.Trod enc P W 0 sp held t v d ps):∃l:List Int,Fits l∧IsPv W (ints l) v:=by
  obtain⟨a0,len,cap,rfl⟩:=okWide_slice ht hv
  obtain⟨fuel,hf⟩:=h
  rcases open_ints ht he hc hf with ⟨hcs,hx⟩|⟨a,len',cap',zs,hcs,_,hl,hm,hz,hx,hcell,hwf⟩
  · simp[Value.cells] at hcs
    obtain⟨rfl,rfl,rfl⟩:=hcs
    exact⟨[],⟨fun x hx=>(by cases hx),by simp⟩,isPv_nil W 1⟩
  · simp[Value.cells] at hcs
    obtain⟨rfl,rfl,rfl⟩:=hcs
    have hzl:len≤zs.length:=by rw[hz];split<;>omega
    have hs:=spot_of ht hv
    refine⟨zs.take len,⟨fun x hx=>?_,?_⟩,?_⟩
    · have:=hwf x (List.mem_of_mem_take hx)
      simpa[Lit.wf,IntKind.min,IntKind.max,IntKind.signed,IntKind.bits,I64] using this
    · have:maxLen=9223372036854775807:=by decide
      simp only[List.length_take];omega
    · refine isPv_row (sz:=1) hs (by simp;omega) hl hm Nat.one_pos (fun j=>.int .i64 (zs.getD j 0)) (fun j hj=>?_) (fun k hk=>by simp[encI,PV.cells]) (fun k hk c hcc=>?_)
      · have:=hcell j (by omega)
        rw[add_none hs] at this;exact this
      · have hk':k<len∧k<zs.length:=by have:=hk;simp at this;omega
        have e0:((zs.take len).map encI)[k]=encI (zs.getD k 0):=by simp[List.getD_eq_getElem?_getD,hk'.2]
        have e1:((zs.take len).map encI)[k].cells=[encI (zs.getD k 0)]:=by rw[e0];rfl
        have hc0:c=0:=by rw[e1] at hcc;simpa using hcc
        subst hc0
        rw[gl e1 hcc]
        simp[encI]
theorem Pure.calls{f:FuncId}{args:List PV}(h:Pure P f args (.atom (.bool true)) []) {vs:Array Value}(hl:vs.size=args.length) (hv:∀i (h:i<args.length),IsPv W args[i] (vs.getD i undef)):
    Calls P f vs W fun e W'=>e=.returned (.bool true)∧Below W.heap.size W W':=by
  refine(h.2 (fun _=>False) (fun _=>none) (oldF W) W vs hl (fun i hi=>hv i hi _ _) (fun b hb=>hb)).mono fun e W' ⟨v,he,hb,ν,F',hr,_⟩=>?_
  refine⟨?_,hb.toBelow⟩
  cases hr
  exact he
theorem Below.trods (hl:laidOutB P=true) {W':World}(hb:Below W.heap.size W W'):∀(ts:List TypeId) (vs:List Value) (ds:List (DataW H)) (ps:List MemPlace),(∀t,t∈ts→P.readableRec t=true∧t<P.types.size)→(∀x,x∈ps→x.block<W.heap.size)→
    DataW.TrodAll enc P W 0 (fun _=>true) true ts vs ds ps→DataW.TrodAll enc P W' 0 (fun b=>decide (b<W.heap.size)) true ts vs ds ps
  | [],[],[],ps,_,_,h=>h
  | t :: ts,v :: vs,d :: ds,ps,ht,hp,⟨p,q,h1,h2,e⟩=>by
    subst e
    exact⟨p,q,Below.trod hl (ht t (List.mem_cons_self ..)).1 (ht t (List.mem_cons_self ..)).2 h1 hb (fun x hx=>hp x (List.mem_append_left _ hx)),
      Below.trods hl hb ts vs ds q (fun t h=>ht t (List.mem_cons_of_mem _ h)) (fun x hx=>hp x (List.mem_append_right _ hx)) h2,rfl⟩
  | [],_ :: _,_,_,_,_,h=>h.elim
  | [],[],_ :: _,_,_,_,h=>h.elim
  | _ :: _,[],_,_,_,_,h=>h.elim
  | _ :: _,_ :: _,[],_,_,_,h=>h.elim
end
end Go.Proofs.Ytehoglapajkabaa
