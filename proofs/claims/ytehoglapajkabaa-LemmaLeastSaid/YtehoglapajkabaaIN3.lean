/-
  Walks: package transducer: large,is,from.
-/
import Derived.Test.YtehoglapajkabaaIM0
import Derived.Test.YtehoglapajkabaaIM39
set_option linter.all false
namespace Go.Proofs.Ytehoglapajkabaa
open Go Go.RowKit
set_option maxRecDepth 20000
set_option maxHeartbeats 1000000
theorem famN1{p:Prop}(h:p:=by(repeat' (first|refine List.forall_mem_cons.2 ⟨?_,?_⟩|(intro p hp;exact absurd hp List.not_mem_nil)|exact .inr ⟨rfl,rfl⟩|exact .inr ⟨_,rfl,rfl⟩|exact .inl ⟨by first|rfl|(simp[PV.pure,zaw,zal,zaq,zau,zat,zaI,za5,zbL];done),rfl⟩));first|done|fail):p:=h
theorem zkR (m:MachD) (hm:HeldM m):Pure Try.prog 53 [encM m] (.atom (.bool (zdY m))) []:=by
  have hn:=hm.narcs
  refine Pure.intro (ts:=[2]) Try.func53 (by kernel_rfl) rfl rfl rfl (Nat.le_of_ble_eq_true rfl) ?_ ?_
  · simp[zaI,PV.pure,zaw]
  refine sZ [1] (fun P S K=>XvBox S.nx (S.get 0) (fun r0 ef0=>K ⟨[(1,r0)],(Eff.hp ef0 S.nx S.hp),(S.nx+ef0.add.length),S.gh⟩)) fun K hK=>?_
  repeat' (first|(refine hK _ ?_;clear hK K)|refine And.intro ?_ ?_|exact cl|(refine st ?_;try simp only[encM,zay])|fail)
  all_goals
  refine sZ [2] (fun P S K=>XvFieldAddr P 58 0 (S.get 1) (fun r0 _=>XvLoad P 3 (M S.hp S.nx) r0 (fun r1 _=>XvBinOV P .gtr 3 (.const (.int .i64 4096)) r1 (.atom (.int .i64 4096)) (fun r2 _=>Xgq r2 false (fun k=>XvFieldAddr P 58 3 (S.get 1) (fun r4 _=>k r4)) (fun g4 r4=>Xgq g4 false (fun k=>XvLoad P 56 (M S.hp S.nx) r4 (fun r5 _=>k r5)) (fun g5 r5=>Xgq g5 false (fun k=>XvLen P 56 (M S.hp S.nx) r5 (fun r6 _=>k r6)) (fun g6 r6=>Xgq g6 false (fun k=>XvBinOV P .gtr 3 (.const (.int .i64 16384)) r6 (.atom (.int .i64 16384)) (fun r7 _=>k r7)) (fun g7 r7=>XvPick g7 (.atom (.bool true)) r7 (fun r8 _=>K ⟨[(2,r8)],S.hp,S.nx,S.gh⟩))))))))) fun K hK=>?_
  repeat' (first|(refine hK _ ?_;clear hK K)|((first|refine zav (fun hg=>?_) (fun hg=>?_)|refine fun(hg:(_:Prop))=>?_)<;>((try simp only[BQ] at hg);try (exfalso;omega)))|(refine st ?_;try simp only[encM,zay])|fail)
  all_goals
  refine Tri.ret ?_
  show ResOk _ _ _ _
  refine ResOk.val (aB ?_) rfl
  unfold zdY
  first
    | (rw[decide_eq_true (show 4096<m.states by omega)];rfl)
    | (rw[decide_eq_false (show ¬4096<m.states by omega),Bool.false_or];exact decide_eq_decide.2 (by omega))
theorem zhX (m:MachD) (k:Int):Pure Try.prog 54 [encM m,encI k] (.atom (.bool (isM m k))) []:=by
  refine Pure.intro (ts:=[4]) Try.func54 (by kernel_rfl) rfl rfl rfl (Nat.le_of_ble_eq_true rfl) ?_ ?_
  · simp[zaI,encI,PV.pure,zaw]
  refine sZ [1,2] (fun P S K=>XvBox S.nx (S.get 0) (fun r0 ef0=>K ⟨[(1,S.get 1),(2,r0)],(Eff.hp ef0 S.nx S.hp),(S.nx+ef0.add.length),S.gh⟩)) fun K hK=>?_
  repeat' (first|(refine hK _ ?_;clear hK K)|refine And.intro ?_ ?_|exact cl|(refine st ?_;try simp only[encM,zay])|fail)
  all_goals
  refine sZ [4] (fun P S K=>XvBinOV P .geq 3 (.const (.int .i64 0)) (S.get 1) (.atom (.int .i64 0)) (fun r1 _=>Xgq r1 true (fun k=>k (S.get 1)) (fun g3 r3=>Xgq g3 true (fun k=>XvFieldAddr P 58 0 (S.get 2) (fun r4 _=>k r4)) (fun g4 r4=>Xgq g4 true (fun k=>XvLoad P 3 (M S.hp S.nx) r4 (fun r5 _=>k r5)) (fun g5 r5=>Xgq g5 true (fun k=>XvBinOV P .lss 3 (.tmp 10) r3 r5 (fun r6 _=>k r6)) (fun g6 r6=>XvPick g6 r6 (.atom (.bool false)) (fun r7 _=>K ⟨[(4,r7)],S.hp,S.nx,S.gh⟩))))))) fun K hK=>?_
  repeat' (first|(refine hK _ ?_;clear hK K)|((first|refine zav (fun hg=>?_) (fun hg=>?_)|refine fun(hg:(_:Prop))=>?_)<;>((try simp only[BQ] at hg);try (exfalso;omega)))|(refine st ?_;try simp only[encM,zay])|fail)
  all_goals
  refine Tri.ret ?_
  show ResOk _ _ _ _
  refine ResOk.val (aB ?_) rfl
  unfold isM
  simp_all<;>omega
theorem push_tr{n k:Nat}(hk:k<n) (D:List (List Nat)) (h:trOk 3 D [⟨3,0,[],[],[]⟩,⟨3,0,[],[],[]⟩,⟨3,0,[1],[],[]⟩,⟨3,0,[],[],[]⟩,⟨3,0,[],[],[]⟩,⟨3,0,[1],[],[]⟩,⟨3,0,[],[],[]⟩,⟨3,0,[0],[],[]⟩,⟨3,0,[],[],[]⟩,⟨3,1,[],[],[]⟩,⟨4,1,[2,3],[2],[]⟩,⟨5,0,[],[],[]⟩]=true):
    trOk (n+2) D [⟨n+2,0,[],[],[]⟩,⟨n+2,0,[],[],[]⟩,⟨n+2,0,[n+1],[],[]⟩,⟨n+2,0,[],[],[]⟩,⟨n+2,0,[],[],[]⟩,⟨n+2,0,[n+1],[],[]⟩,⟨n+2,0,[],[],[]⟩,⟨n+2,0,[0],[],[]⟩,⟨n+2,0,[],[],[]⟩,⟨n+2,1,[],[],[]⟩,⟨n+2+1,1,[1+k,n+2],[1+k],[]⟩,⟨n+2+1+1,0,[],[],[]⟩]=true:=by
  have:=trOk_rn (L:=[0,n+1,1+k]) (nx0:=n+2) (Dl:=D) [⟨3,0,[],[],[]⟩,⟨3,0,[],[],[]⟩,⟨3,0,[1],[],[]⟩,⟨3,0,[],[],[]⟩,⟨3,0,[],[],[]⟩,⟨3,0,[1],[],[]⟩,⟨3,0,[],[],[]⟩,⟨3,0,[0],[],[]⟩,⟨3,0,[],[],[]⟩,⟨3,1,[],[],[]⟩,⟨4,1,[2,3],[2],[]⟩,⟨5,0,[],[],[]⟩]
    (fun j hj=>by simp only[List.mem_cons,List.not_mem_nil,or_false] at hj;omega) (by simp;omega) (fun y hy=>by
      simp only[List.mem_cons,List.not_mem_nil,or_false] at hy
      rcases hy with rfl|rfl|rfl|rfl|rfl|rfl|rfl|rfl|rfl|rfl|rfl|rfl<;>exact Nat.le_of_ble_eq_true rfl) h
  exact this
theorem zfD (m:MachD) (hm:HeldM m) (h0:0≤m.states) (h1:m.states≤4096) (hin:∀a,a∈m.arcs→0≤a.fr∧a.fr<m.states):Pure Try.prog 37 [encM m] (zbb (zbq m)) []:=by
  have hn:=hm.narcs
  refine Pure.intro (ts:=[2]) Try.func37 (by kernel_rfl) rfl rfl rfl (Nat.le_of_ble_eq_true rfl) ?_ ?_
  · simp[zaI,PV.pure,zaw]
  refine sZ [1] (fun P S K=>XvBox S.nx (S.get 0) (fun r0 ef0=>K ⟨[(1,r0)],(Eff.hp ef0 S.nx S.hp),(S.nx+ef0.add.length),S.gh⟩)) fun K hK=>?_
  repeat' (first|(refine hK _ ?_;clear hK K)|refine And.intro ?_ ?_|exact cl|(refine st ?_;try simp only[encM,zay,encC])|fail)
  all_goals
  refine sZ [1,3] (fun P S K=>XvFieldAddr P 58 0 (S.get 1) (fun r0 _=>XvLoad P 3 (M S.hp S.nx) r0 (fun r1 _=>XvMake P 91 (M S.hp S.nx) r1 r1 (fun r2 ef2=>K ⟨[(1,S.get 1),(3,r2)],(Eff.hp ef2 S.nx S.hp),(S.nx+ef2.add.length),S.gh⟩)))) fun K hK=>?_
  repeat' (first|(refine hK _ ?_;clear hK K)|refine And.intro ?_ ?_|exact cl|(refine st ?_;try simp only[encM,zay,encC])|fail)
  all_goals
  refine Tri.seq ?_
  refine sZ [3,10,11,12] (fun P S K=>XvFieldAddr P 58 3 (S.get 1) (fun r0 _=>XvLoad P 56 (M S.hp S.nx) r0 (fun r1 _=>XvLen P 56 (M S.hp S.nx) r1 (fun r2 _=>K ⟨[(3,S.get 3),(10,r1),(11,r2),(12,(.atom (.int .i64 0)))],S.hp,S.nx,S.gh⟩)))) fun K hK=>?_
  repeat' (first|(refine hK _ ?_;clear hK K)|refine And.intro ?_ ?_|exact cl|(refine st ?_;try simp only[encM,zay,encC])|fail)
  refine Tri.bornAll 1 m.states.toNat 1 rfl ?_
  all_goals
  refine Tri.block ?_
  refine Tri.loop (α:=(i:Nat) ×' (i≤m.arcs.length)) (fun z=>(fun(i:Nat)=>(⟨[(3,.ob 0 1 0 m.states.toNat),(10,zay m.arcs),(11,encI m.arcs.length),(12,encI i)],((0,some ⟨1,rfP 1 1 (zgy (ze8 m.arcs m.states.toNat i))⟩) :: za9 1 (rfO 1 (zgy (ze8 m.arcs m.states.toNat i)))),m.states.toNat+1,[]⟩:St)) z.1) (fun z=>(fun(i:Nat)=>m.arcs.length - i) z.1) ⟨0,Nat.zero_le _⟩ (rfL 1 m.states.toNat (2+·)) ?_ ?_
  ·have hr0:∀k,k<m.states.toNat→(zgy (ze8 m.arcs m.states.toNat 0)).getD k []=[]:=fun k hk=>by rw[zb8 (by rw[zbn];exact hk),zbM hk];rfl
   refine leq_rf (by rw[zcw,zbn]) ?_ (fun k hk=>?_) (fun a b _ _ h=>by omega) (fun a _ h=>by omega) (fun k hk=>by rw[hr0 k hk];rfl) famN1 rfl
   · show some _=some _
     congr 2
     exact List.map_congr_left fun k hk=>by rw[hr0 k (List.mem_range.1 hk)];rfl
   · rw[hr0 k hk]
     have a1:¬1=2+k:=by omega
     simp only[St.obj,lk,a1,if_false]
     rw[zex,zcA,if_pos (by omega),List.getElem?_replicate,if_pos (by omega)]
     rfl
  rintro⟨i,hi⟩
  refine sY [3,10,11,12,13] (fun P S K=>XvBinOV P .lss 3 (.tmp 11) (S.get 12) (S.get 11) (fun r0 _=>K ⟨[(3,S.get 3),(10,S.get 10),(11,S.get 11),(12,S.get 12),(13,r0)],S.hp,S.nx,S.gh⟩)) ?_
  all_goals
  refine Tri.seq ?_
  refine Tri.cond rfl (fun h13=>?_) (fun h13=>?_)
  ·try (cases h13;done)
   all_goals (try simp only[CQ] at h13)
   all_goals
   refine Tri.skip ?_
   refine Tri.seq ?_
   refine Tri.block ?_
   have hil:i<m.arcs.length:=by omega
   have hfr:=hin _ (zb5 hil)
   have hk:(fC m.arcs i).fr.toNat<m.states.toNat:=by omega
   have hkr:(fC m.arcs i).fr.toNat<(zgy (ze8 m.arcs m.states.toNat i)).length:=by rw[zcw,zbn];exact hk
   have hrl:=zfv (arcs:=m.arcs) (t:=i) hk
   have hkf:(fC m.arcs i).fr.toNat<(ze8 m.arcs m.states.toNat i).length:=by rw[zbn];exact hk
   have hz0:(0=1+(fC m.arcs i).fr.toNat)=False:=eq_false (by omega)
   have hz4:(1+(fC m.arcs i).fr.toNat=0)=False:=eq_false (by omega)
   have hz1:(m.states.toNat+1=1+(fC m.arcs i).fr.toNat)=False:=eq_false (by omega)
   have hz2:(m.states.toNat+2=1+(fC m.arcs i).fr.toNat)=False:=eq_false (by omega)
   have hz3:(m.states.toNat+1+1=1+(fC m.arcs i).fr.toNat)=False:=eq_false (by omega)
   refine sZ [3,4,5,10,11,12] (fun P S K=>XvIndexAddr P 56 (S.get 10) (S.get 12) (fun r1 _=>XvLoad P 105 (M S.hp S.nx) r1 (fun r2 _=>XvAlloc P 105 S.nx (fun r3 ef3=>XvStore P 105 (M (Eff.hp ef3 S.nx S.hp) (S.nx+ef3.add.length)) r3 r2 (fun r5 ef5=>K ⟨[(3,S.get 3),(4,(S.get 12)),(5,r3),(10,S.get 10),(11,S.get 11),(12,S.get 12)],(Eff.hp ef5 (S.nx+ef3.add.length) (Eff.hp ef3 S.nx S.hp)),((S.nx+ef3.add.length)+ef5.add.length),S.gh⟩))))) fun K hK=>?_
   repeat' (first|(refine hK _ ?_;clear hK K)|refine And.intro ?_ ?_|exact cl|(refine st ?_;try simp only[encM,zay,encC,zd2 hil])|fail)
   all_goals
   refine rD 12 [3,10,11,12] (fun P GD S K=>XvFieldAddr P 105 0 (S.get 5) (fun r1 ef1=>XvLoad P 3 (M S.hp S.nx) r1 (fun r2 ef2=>XvFieldAddr P 105 0 (S.get 5) (fun r4 ef4=>XvLoad P 3 (M S.hp S.nx) r4 (fun r5 ef5=>XvIndexAddr P 91 (S.get 3) r5 (fun r6 ef6=>XvLoad P 22 (M S.hp S.nx) r6 (fun r7 ef7=>XvBuildS P 22 1 S.nx [(0,(S.get 4))] (fun r9 ef9=>(22=22∧XvAppend P 22 (M (Eff.hp ef9 S.nx S.hp) (S.nx+ef9.add.length)) r7 r9 (fun r10 ef10=>XvIndexAddr P 91 (S.get 3) r2 (fun r11 ef11=>(trOk S.nx GD [⟨S.nx,0,[],[],[]⟩,⟨S.nx,0,ef1.rd,[],[]⟩,⟨S.nx,0,ef2.rd,[],[]⟩,⟨S.nx,0,[],[],[]⟩,⟨S.nx,0,ef4.rd,[],[]⟩,⟨S.nx,0,ef5.rd,[],[]⟩,⟨S.nx,0,ef6.rd,[],[]⟩,⟨S.nx,0,ef7.rd,[],[]⟩,⟨S.nx,0,[],[],[]⟩,(Eff.tr ef9 S.nx),(Eff.tr ef10 (S.nx+ef9.add.length)),⟨((S.nx+ef9.add.length)+ef10.add.length),0,ef11.rd,[],[]⟩]=true∧XvStore P 22 (M (Eff.hp ef10 (S.nx+ef9.add.length) (Eff.hp ef9 S.nx S.hp)) ((S.nx+ef9.add.length)+ef10.add.length)) r11 r10 (fun r12 ef12=>K ⟨[(3,S.get 3),(10,S.get 10),(11,S.get 11),(12,S.get 12)],(Eff.hp ef12 ((S.nx+ef9.add.length)+ef10.add.length) (Eff.hp ef10 (S.nx+ef9.add.length) (Eff.hp ef9 S.nx S.hp))),(((S.nx+ef9.add.length)+ef10.add.length)+ef12.add.length),S.gh⟩))))))))))))) fun K hK=>?_
   repeat' (first|(refine hK _ ?_;clear hK K)|(refine(?_:trOk _ _ _=true);exact push_tr hk _ (by kernel_rfl))|refine And.intro ?_ ?_|exact cl|(refine st ?_;try simp only[encM,zay,encC,zer,zcw,zbn,zmo hkr,zmi hkr,hz0,hz1,hz2,hz3,hz4,zb8 hkf])|refine sx ?_ (by simp only[encM,zay,encC,zer,zcw,zbn,zmo hkr,zmi hkr,hz0,hz1,hz2,hz3,hz4,zb8 hkf];exact rfl)|fail)
   all_goals
   refine rY [3,10,11,12] (fun P S K=>XvBinOV P .add 3 (.const (.int .i64 1)) (S.get 12) (.atom (.int .i64 1)) (fun r0 _=>K ⟨[(3,S.get 3),(10,S.get 10),(11,S.get 11),(12,r0)],S.hp,S.nx,S.gh⟩)) ?_
   all_goals try simp (disch:=omega) only[zae,zaf]
   all_goals
   refine⟨⟨i+1,by omega⟩,rfL 0 m.states.toNat (fun j=>if j=(fC m.arcs i).fr.toNat then m.states.toNat+2+1 else 1+j),by dsimp only;omega,?_⟩
   refine zk4 (k:=(fC m.arcs i).fr.toNat) (N:=m.states.toNat+2+1) (x:=encI i) (r:=zgy (ze8 m.arcs m.states.toNat i)) (by rw[zcw,zbn]) (by rw[zcw,zbn]) hk (by omega) (fun j hj=>?_) ?_ ?_ (fun j hj hjk=>?_) (fun j hj=>?_) rfl famN1 rfl
   · rw[zb8 (by rw[zbn];exact hj),zb8 hkf,zb8 (by rw[zbn];exact hj),znR hj]
     by_cases e:j=(fC m.arcs i).fr.toNat
     · subst e;rw[if_pos (by omega),if_pos rfl,List.map_append];rfl
     · rw[if_neg (by omega),if_neg e]
   · rw[zb8 hkf,List.length_map];rfl
   · have a1:¬0=m.states.toNat+2+1:=by omega
     rw[zb8 hkf]
     simp only[St.obj,lk,a1,if_false,if_true]
     rfl
   · have a1:¬0=1+j:=by omega
     have a2:¬m.states.toNat+2+1=1+j:=by omega
     have a3:¬1+(fC m.arcs i).fr.toNat=1+j:=by omega
     have a4:¬m.states.toNat+2=1+j:=by omega
     have a5:¬m.states.toNat+1=1+j:=by omega
     simp only[St.obj,lk,a1,a2,a3,a4,a5,if_false]
     rw[zmi (by rw[zcw,zbn];exact hj)]
     rfl
   · rw[zb8 (by rw[zbn];exact hj)];exact zal _
  try (cases h13;done)
  all_goals (try simp only[CQ] at h13)
  all_goals
  refine Tri.exit ?_
  refine sY [2] (fun P S K=>K ⟨[(2,(S.get 3))],S.hp,S.nx,S.gh⟩) ?_
  all_goals
  refine Tri.ret ?_
  show ResOk _ _ _ _
  have hie:i=m.arcs.length:=by omega
  subst hie
  refine ResOk.frz 5 ((zqr (by rw[zcw];exact zbn _ _ _) rfl (fun j hj=>?_) (fun j hj=>?_)).trans (rowsP_sl _)) (zbk _)
  · have a1:¬0=1+j:=by omega
    simp only[St.obj,lk,a1,if_false]
    rw[zmi (by rw[zcw,zbn];exact hj)]
    rfl
  · rw[zb8 (show j<(zbq m).length from(zbn _ _ _).symm▸hj)];exact zal _
def silB (a:ArcD):Bool:=decide (a.inp=⟨#[]⟩)
def cntS (arcs:List ArcD) (P:Nat→Bool) (v:Int):Nat:=((List.range arcs.length).filter fun j=>silB (fC arcs j) && decide ((fC arcs j).to=v) && P j).length
def cntT (arcs:List ArcD) (t:Nat) (v:Int):Nat:=((List.range t).filter fun j=>silB (fC arcs j) && decide ((fC arcs j).to=v)).length
def zdn (n:Nat) (f:Int→Nat):List Int:=(List.range n).map fun(v:Nat)=>(f v:Int)
theorem zgN{n:Nat}{f:Int→Nat}{k:Nat}(h:k<n):li (zdn n f) k=(f k:Int):=by simp[li,zdn,List.getD_eq_getElem?_getD,h]
theorem zjA{n:Nat}{f g:Int→Nat}{k:Nat}(h:∀v,v<n→g v=if v=k then (g k) else f v):(zdn n f).set k (g k:Int)=zdn n g:=by
  refine List.ext_getElem (by simp[zdn]) fun i h1 h2=>?_
  have hi:i<n:=by simpa[zdn] using h2
  rw[List.getElem_set]
  split
  · rename_i e;subst e;simp[zdn]
  · rename_i e
    have:=h i hi
    rw[if_neg (Ne.symm e)] at this
    simp[zdn,this]
theorem cntT_le (arcs:List ArcD) (t:Nat) (v:Int):cntT arcs t v≤t:=Nat.le_trans (List.length_filter_le _ _) (by simp)
theorem zgW (arcs:List ArcD) (t:Nat) (v:Int):cntT arcs (t+1) v=cntT arcs t v+if silB (fC arcs t) && decide ((fC arcs t).to=v) then 1 else 0:=by
  unfold cntT
  rw[List.range_succ,List.filter_append,List.length_append]
  congr 1
  by_cases h:(silB (fC arcs t) && decide ((fC arcs t).to=v))=true
  · rw[if_pos h];simp only[List.filter_cons,h,if_true];simp
  · rw[if_neg h];simp only[List.filter_cons,if_neg h];simp
theorem zmy (arcs:List ArcD) (v:Int):cntT arcs arcs.length v=cntS arcs (fun _=>true) v:=by simp[cntT,cntS]
theorem cntS_le (arcs:List ArcD) (P:Nat→Bool) (v:Int):cntS arcs P v≤arcs.length:=Nat.le_trans (List.length_filter_le _ _) (by simp)
theorem cntS_zero{arcs:List ArcD}{P:Nat→Bool}{v:Int}:cntS arcs P v=0↔∀j,j<arcs.length→silB (fC arcs j)=true→(fC arcs j).to=v→P j=false:=by
  unfold cntS
  rw[List.length_eq_zero_iff,List.filter_eq_nil_iff]
  constructor
  · intro h j hj h1 h2
    have:=h j (List.mem_range.2 hj)
    simpa[h1,h2] using this
  · intro h j hj
    have:=h j (List.mem_range.1 hj)
    intro h3
    simp only[Bool.and_eq_true,decide_eq_true_eq] at h3
    rw[this h3.1.1 h3.1.2] at h3
    exact absurd h3.2 (by decide)
def zbY (P:Nat→Bool) (j0:Nat):Nat→Bool:=fun j=>P j && !decide (j=j0)
theorem zlf{l:List Nat}(hn:l.Nodup) (f:Nat→Bool) (P:Nat→Bool) (j0:Nat):(l.filter fun j=>f j && zbY P j0 j).length=(l.filter fun j=>f j && P j).length - if j0∈l∧f j0=true∧P j0=true then 1 else 0:=by
  induction l with
  | nil=>rfl
  | cons a l ih=>
    rw[List.nodup_cons] at hn
    have ih:=ih hn.2
    simp only[List.filter_cons,List.mem_cons]
    by_cases e:a=j0
    · subst e
      have hl:¬ (a∈l∧f a=true∧P a=true):=fun h=>hn.1 h.1
      rw[if_neg hl] at ih
      have h0:(f a && zbY P a a)=false:=by simp[zbY]
      rw[h0]
      by_cases h:(f a && P a)=true
      · rw[if_pos h]
        rw[Bool.and_eq_true] at h
        simp only[Bool.false_eq_true,if_false,ih,List.length_cons]
        rw[if_pos ⟨.inl trivial,h⟩];omega
      · rw[if_neg h]
        rw[Bool.and_eq_true] at h
        simp only[Bool.false_eq_true,if_false,ih]
        rw[if_neg (fun g=>h g.2)]
    · have h1:(f a && zbY P j0 a)=(f a && P a):=by simp[zbY,e]
      have h2:(j0=a∨j0∈l)↔j0∈l:=⟨fun h=>h.resolve_left (fun g=>e g.symm),.inr⟩
      simp only[h1,h2]
      by_cases h:(f a && P a)=true
      · simp only[if_pos h,List.length_cons,ih]
        by_cases hj:j0∈l∧f j0=true∧P j0=true
        · rw[if_pos hj]
          have:0<(l.filter fun j=>f j && P j).length:=List.length_pos_iff.2 (List.ne_nil_of_mem (List.mem_filter.2 ⟨hj.1,by rw[hj.2.1,hj.2.2];rfl⟩))
          omega
        · rw[if_neg hj];omega
      · simp only[if_neg h,ih]
theorem zbZ{arcs:List ArcD}{P:Nat→Bool}{j0:Nat}(hj:j0<arcs.length) (hP:P j0=true) (v:Int):cntS arcs (zbY P j0) v=cntS arcs P v - if silB (fC arcs j0)=true∧(fC arcs j0).to=v then 1 else 0:=by
  unfold cntS
  rw[zlf List.nodup_range]
  congr 1
  by_cases h:silB (fC arcs j0)=true∧(fC arcs j0).to=v
  · rw[if_pos h,if_pos ⟨List.mem_range.2 hj,by rw[h.1,decide_eq_true h.2];rfl,hP⟩]
  · rw[if_neg h,if_neg]
    rintro⟨_,h2,_⟩
    rw[Bool.and_eq_true,decide_eq_true_eq] at h2
    exact h h2
theorem zda{arcs:List ArcD}{P:Nat→Bool}{j0:Nat}(hj:j0<arcs.length) (hP:P j0=true) (hs:silB (fC arcs j0)=true):0<cntS arcs P (fC arcs j0).to:=by
  rcases Nat.eq_zero_or_pos (cntS arcs P (fC arcs j0).to) with h|h
  · have:=cntS_zero.1 h j0 hj hs rfl
    rw[hP] at this;cases this
  · exact h
def Acyc (m:MachD):Prop:=∃rank:Int→Nat,∀a,a∈m.arcs→silB a=true→rank a.fr<rank a.to
structure KInv (arcs:List ArcD) (n:Nat) (P:Nat→Bool) (free:List Int):Prop where
  nd:free.Nodup
  rng:∀v,v∈free→0≤v∧v<(n:Int)
  zero:∀v:Nat,v<n→((v:Int)∈free↔cntS arcs P v=0)
  ord:∀q,q<free.length→∀j,j<arcs.length→silB (fC arcs j)=true→(fC arcs j).to=li free q→∃q',q'<q∧li free q'=(fC arcs j).fr
def KLeft (arcs:List ArcD) (P:Nat→Bool) (free:List Int) (i:Nat) (row:List Int) (p:Nat):Prop:=
  ∀j,j<arcs.length→(P j=false↔(∃q,q<i∧li free q=(fC arcs j).fr)∨(li free i=(fC arcs j).fr∧(j:Int)∈row.take p))
theorem zdm{l:List Int}{k:Nat}(h:k<l.length):li l k=l[k]:=by simp[li,List.getD_eq_getElem?_getD,h]
theorem nodup_inj'{α:Type}{L:List α}(h:L.Nodup) {i j:Nat}(hi:i<L.length) (hj:j<L.length) (he:L[i]=L[j]):i=j:=by
  rcases Nat.lt_trichotomy i j with hlt|rfl|hlt
  · exact absurd he (List.pairwise_iff_getElem.1 h i j hi hj hlt)
  · rfl
  · exact absurd he.symm (List.pairwise_iff_getElem.1 h j i hj hi hlt)
theorem zdl{α:Type} [DecidableEq α]:∀ {l r:List α},l.Nodup→(∀x,x∈l→x∈r)→l.length≤r.length
  | [],_,_,_=>Nat.zero_le _
  | a :: l,r,hn,hs=>by
    rw[List.nodup_cons] at hn
    have ha:=hs a (List.mem_cons_self ..)
    have:=zdl (l:=l) (r:=r.erase a) hn.2 fun x hx=>(List.mem_erase_of_ne (fun e:x=a=>hn.1 (by rw[←e];exact hx))).2 (hs x (List.mem_cons_of_mem _ hx))
    rw[List.length_erase_of_mem ha] at this
    have:=List.length_pos_of_mem ha
    simp only[List.length_cons];omega
theorem zqD{α:Type} [DecidableEq α] {l r:List α}(hn:l.Nodup) (hs:∀x,x∈l→x∈r) (he:r.length≤l.length) {x:α}(hx:x∈r):x∈l:=by
  apply Classical.byContradiction
  intro h
  have:=zdl (l:=x :: l) (r:=r) (List.nodup_cons.2 ⟨h,hn⟩) fun y hy=>(List.mem_cons.1 hy).elim (fun e=>e▸hx) (hs y)
  simp only[List.length_cons] at this;omega
theorem li_mem'{l:List Int}{k:Nat}(h:k<l.length):li l k∈l:=zgK h
theorem li_inj{l:List Int}(hn:l.Nodup) {i j:Nat}(hi:i<l.length) (hj:j<l.length) (h:li l i=li l j):i=j:=by
  rw[zdm hi,zdm hj] at h
  exact nodup_inj' hn hi hj h
theorem ze0{l r:List Int}{k:Nat}(h:k<l.length):li (l++r) k=li l k:=by
  rw[zdm h,zdm (by rw[List.length_append];omega),List.getElem_append_left h]
theorem znH (l:List Int) (x:Int):li (l++[x]) l.length=x:=by
  rw[zdm (by simp)];simp
theorem zhx{l:List Int}{x:Int}(h:x∈l):∃q,q<l.length∧li l q=x:=by
  obtain⟨q,hq,e⟩:=List.getElem_of_mem h
  exact⟨q,hq,by rw[zdm hq];exact e⟩
theorem KInv.init{arcs:List ArcD}{n:Nat}:KInv arcs n (fun _=>true) (((List.range n).filter fun v=>decide (cntS arcs (fun _=>true) (v:Nat)=0)).map fun(v:Nat)=>(v:Int)):=by
  refine⟨?_,fun v hv=>?_,fun v hv=>?_,fun q hq j hj hs ht=>?_⟩
  · rw[List.nodup_iff_pairwise_ne,List.pairwise_map]
    exact(List.nodup_range.filter _).imp (fun h e=>h (by omega))
  · obtain⟨k,hk,rfl⟩:=List.mem_map.1 hv
    have:=List.mem_range.1 (List.mem_filter.1 hk).1
    omega
  · rw[List.mem_map]
    constructor
    · rintro⟨k,hk,e⟩
      have:k=v:=by omega
      subst this
      simpa using (List.mem_filter.1 hk).2
    · intro h
      exact⟨v,List.mem_filter.2 ⟨List.mem_range.2 hv,by simpa using h⟩,rfl⟩
  · have hm:=li_mem' hq
    obtain⟨k,hk,e⟩:=List.mem_map.1 hm
    have h0:cntS arcs (fun _=>true) (k:Nat)=0:=by simpa using (List.mem_filter.1 hk).2
    have:=cntS_zero.1 h0 j hj hs (by rw[ht,←e])
    cases this
theorem KLeft.step{arcs:List ArcD}{P:Nat→Bool}{free row:List Int}{i p j0:Nat}(h:KLeft arcs P free i row p) (hp:p<row.length) (hj0:li row p=(j0:Int)) (hfr:(fC arcs j0).fr=li free i):KLeft arcs (zbY P j0) free i row (p+1):=by
  intro j hj
  have ht:row.take (p+1)=row.take p++[(j0:Int)]:=by rw[List.take_succ_eq_append_getElem hp,←zdm hp,hj0]
  rw[ht,List.mem_append,List.mem_singleton]
  by_cases e:j=j0
  · subst e
    constructor
    · intro _;exact .inr ⟨hfr.symm,.inr rfl⟩
    · intro _;simp[zbY]
  · have e1:zbY P j0 j=P j:=by simp[zbY,e]
    have e2:((j:Int)=(j0:Int))↔False:=⟨fun g=>e (by omega),False.elim⟩
    rw[e1,e2,or_false]
    exact h j hj
theorem KLeft.has{arcs:List ArcD}{P:Nat→Bool}{free row:List Int}{i p j0:Nat}(h:KLeft arcs P free i row p) (hn:free.Nodup) (hi:i<free.length) (hr:row.Nodup) (hp:p<row.length) (hj0:li row p=(j0:Int)) (hj:j0<arcs.length) (hfr:(fC arcs j0).fr=li free i):P j0=true:=by
  cases hP:P j0 with
  | true=>rfl
  | false=>
    rcases(h j0 hj).1 hP with ⟨q,hq,e⟩|⟨_,hm⟩
    · rw[hfr] at e
      have:=li_inj hn (by omega) hi e
      omega
    · obtain⟨q,hq,e⟩:=List.getElem_of_mem hm
      have hq':q<p∧q<row.length:=by rw[List.length_take] at hq;omega
      rw[List.getElem_take,←zdm hq'.2] at e
      have:=li_inj hr hq'.2 hp (by rw[e,hj0])
      omega
theorem KLeft.app{arcs:List ArcD}{P:Nat→Bool}{free row:List Int}{i p:Nat}{x:Int}(h:KLeft arcs P free i row p) (hi:i<free.length):KLeft arcs P (free++[x]) i row p:=by
  intro j hj
  rw[h j hj,ze0 hi]
  constructor
  · rintro(⟨q,hq,e⟩|g)
    · exact .inl ⟨q,hq,by rw[ze0 (by omega)];exact e⟩
    · exact .inr g
  · rintro(⟨q,hq,e⟩|g)
    · exact .inl ⟨q,hq,by rw[ze0 (by omega)] at e;exact e⟩
    · exact .inr g
theorem KLeft.next{arcs:List ArcD}{P:Nat→Bool}{free row row':List Int}{i:Nat}(h:KLeft arcs P free i row row.length) (hi:i<free.length) (hrow:∀j,j<arcs.length→((j:Int)∈row↔(fC arcs j).fr=li free i)):KLeft arcs P free (i+1) row' 0:=by
  intro j hj
  rw[h j hj,List.take_length,hrow j hj]
  constructor
  · rintro(⟨q,hq,e⟩|g)
    · exact .inl ⟨q,by omega,e⟩
    · exact .inl ⟨i,by omega,g.1⟩
  · rintro(⟨q,hq,e⟩|g)
    · rcases Nat.lt_succ_iff_lt_or_eq.1 hq with hq|rfl
      · exact .inl ⟨q,hq,e⟩
      · exact .inr ⟨e,e.symm⟩
    · simp at g
theorem KInv.quiet{arcs:List ArcD}{n:Nat}{P:Nat→Bool}{free:List Int}{j0:Nat}(h:KInv arcs n P free) (hj:j0<arcs.length) (hP:P j0=true) (hs:silB (fC arcs j0)=false):KInv arcs n (zbY P j0) free∧∀v,cntS arcs (zbY P j0) v=cntS arcs P v:=by
  have hc:∀v,cntS arcs (zbY P j0) v=cntS arcs P v:=fun v=>by
    rw[zbZ hj hP,if_neg (fun g=>by rw[hs] at g;cases g.1)];rfl
  exact⟨⟨h.nd,h.rng,fun v hv=>by rw[hc];exact h.zero v hv,h.ord⟩,hc⟩
theorem KInv.stays{arcs:List ArcD}{n:Nat}{P:Nat→Bool}{free:List Int}{j0:Nat}(h:KInv arcs n P free) (hj:j0<arcs.length) (hP:P j0=true) (hs:silB (fC arcs j0)=true) (hc:¬cntS arcs (zbY P j0) (fC arcs j0).to=0):KInv arcs n (zbY P j0) free:=by
  refine⟨h.nd,h.rng,fun v hv=>?_,h.ord⟩
  by_cases e:(fC arcs j0).to=(v:Int)
  · rw[h.zero v hv,←e]
    have:=zda hj hP hs
    exact⟨fun g=>by omega,fun g=>absurd g hc⟩
  · rw[zbZ hj hP,if_neg (fun g=>e g.2)]
    exact h.zero v hv
theorem KInv.frees{arcs:List ArcD}{n:Nat}{P:Nat→Bool}{free row:List Int}{j0 i p:Nat}(h:KInv arcs n P free) (hj:j0<arcs.length) (hP:P j0=true) (hs:silB (fC arcs j0)=true) (hc:cntS arcs (zbY P j0) (fC arcs j0).to=0) (h0:0≤(fC arcs j0).to) (h1:(fC arcs j0).to<(n:Int))
    (hi:i<free.length) (hl:KLeft arcs (zbY P j0) free i row p):KInv arcs n (zbY P j0) (free++[(fC arcs j0).to]):=by
  have hnot:¬ (fC arcs j0).to∈free:=fun hm=>by
    have:=(h.zero (fC arcs j0).to.toNat (by omega)).1 (by rw[Int.toNat_of_nonneg h0];exact hm)
    rw[Int.toNat_of_nonneg h0] at this
    have:=zda hj hP hs
    omega
  refine⟨?_,fun v hv=>?_,fun v hv=>?_,fun q hq j hjl hsj ht=>?_⟩
  · rw[List.nodup_append]
    refine⟨h.nd,by simp,fun a ha b hb=>?_⟩
    rw[List.mem_singleton] at hb
    subst hb
    exact fun e=>hnot (e▸ha)
  · rcases List.mem_append.1 hv with hv|hv
    · exact h.rng v hv
    · rw[List.mem_singleton] at hv;subst hv;exact⟨h0,h1⟩
  · rw[List.mem_append,List.mem_singleton]
    by_cases e:(fC arcs j0).to=(v:Int)
    · rw[←e];exact⟨fun _=>hc,fun _=>.inr rfl⟩
    · rw[zbZ hj hP,if_neg (fun g=>e g.2),Nat.sub_zero,←h.zero v hv]
      exact⟨fun g=>g.resolve_right (fun g=>e g.symm),.inl⟩
  · have hq':q<free.length+1:=by simpa using hq
    rcases Nat.lt_succ_iff_lt_or_eq.1 hq' with hq2|rfl
    · rw[ze0 hq2] at ht
      obtain⟨q',h1,h2⟩:=h.ord q hq2 j hjl hsj ht
      exact⟨q',h1,by rw[ze0 (by omega)];exact h2⟩
    · rw[znH] at ht
      have:=cntS_zero.1 hc j hjl hsj ht
      rcases(hl j hjl).1 this with ⟨q',h1,h2⟩|⟨h2,_⟩
      · exact⟨q',by omega,by rw[ze0 (by omega)];exact h2⟩
      · exact⟨i,hi,by rw[ze0 hi];exact h2⟩
theorem zes{n:Nat}{l:List Int}(hn:l.Nodup) (h:∀v,v∈l→0≤v∧v<(n:Int)):l.length≤n∧(l.length=n→∀v:Nat,v<n→(v:Int)∈l):=by
  have hs:∀v,v∈l→v∈(List.range n).map fun(v:Nat)=>(v:Int):=fun v hv=>by
    have:=h v hv
    exact List.mem_map.2 ⟨v.toNat,List.mem_range.2 (by omega),by omega⟩
  refine⟨by have:=zdl hn hs;simpa using this,fun he v hv=>?_⟩
  exact zqD hn hs (by simp[he]) (List.mem_map.2 ⟨v,List.mem_range.2 hv,rfl⟩)
theorem KInv.fin{m:MachD}{P:Nat→Bool}{free row:List Int}(h:KInv m.arcs m.states.toNat P free) (hl:KLeft m.arcs P free free.length row 0) (hin:∀a,a∈m.arcs→0≤a.fr∧a.fr<m.states∧0≤a.to∧a.to<m.states):Acyc m↔free.length=m.states.toNat:=by
  obtain⟨n,hn⟩:∃n,n=m.states.toNat:=⟨_,rfl⟩
  have hrng:=zes h.nd h.rng
  constructor
  · rintro⟨rank,hr⟩
    apply Classical.byContradiction
    intro hne
    have hex:∃v:Nat,v<m.states.toNat∧¬ (v:Int)∈free:=by
      apply Classical.byContradiction
      intro hno
      have hall:∀v:Nat,v<m.states.toNat→(v:Int)∈free:=fun v hv=>Classical.byContradiction fun g=>hno ⟨v,hv,g⟩
      have:∀v,v∈((List.range m.states.toNat).map fun(v:Nat)=>(v:Int))→v∈free:=fun v hv=>by
        obtain⟨k,hk,rfl⟩:=List.mem_map.1 hv
        exact hall k (List.mem_range.1 hk)
      have hnd:((List.range m.states.toNat).map fun(v:Nat)=>(v:Int)).Nodup:=by
        rw[List.nodup_iff_pairwise_ne,List.pairwise_map]
        exact List.nodup_range.imp (fun h e=>h (by omega))
      have:=zdl hnd this
      simp at this
      omega
    have key:∀k:Nat,∀v:Nat,v<m.states.toNat→rank v≤k→(v:Int)∈free:=by
      intro k
      induction k with
      | zero=>
        intro v hv hk
        rw[h.zero v hv,cntS_zero]
        intro j hj hs ht
        have:=hr _ (zb5 hj) hs
        rw[ht] at this
        omega
      | succ k ih=>
        intro v hv hk
        rw[h.zero v hv,cntS_zero]
        intro j hj hs ht
        have h1:=hr _ (zb5 hj) hs
        rw[ht] at h1
        have h2:=hin _ (zb5 hj)
        have:=ih (fC m.arcs j).fr.toNat (by omega) (by rw[Int.toNat_of_nonneg h2.1];omega)
        rw[Int.toNat_of_nonneg h2.1] at this
        obtain⟨q,hq,e⟩:=zhx this
        exact(hl j hj).2 (.inl ⟨q,hq,e⟩)
    obtain⟨v,hv,hno⟩:=hex
    exact hno (key _ v hv (Nat.le_refl _))
  · intro he
    refine⟨fun v=>free.idxOf v,fun a ha hs=>?_⟩
    obtain⟨j,hj,rfl⟩:=List.getElem_of_mem ha
    have h2:=hin _ ha
    rw[←zf1 hj] at hs h2 ⊢
    have hm:(fC m.arcs j).to∈free:=by
      have:=hrng.2 he (fC m.arcs j).to.toNat (by omega)
      rwa [Int.toNat_of_nonneg h2.2.2.1] at this
    have hq:=List.idxOf_lt_length_iff.2 hm
    obtain⟨q',h3,h4⟩:=h.ord _ hq j hj hs (by rw[zdm hq,List.getElem_idxOf])
    refine Nat.lt_of_le_of_lt ?_ h3
    rw[←h4]
    have hq':q'<free.length:=by omega
    rw[zdm hq']
    show List.idxOf free[q'] free≤q'
    rw[List.Nodup.idxOf_getElem h.nd q' hq']
    exact Nat.le_refl _
theorem zcN{p:Prop}(h:p:=by(refine⟨4,?_,?_,rfl,by simp,rfl,fun _ h _=>absurd h (Nat.not_lt_zero _)⟩<;>(simp only[List.forall_mem_cons];repeat' (first|refine And.intro ?_ ?_|(intro p hp;exact absurd hp List.not_mem_nil)|rfl|exact sp (zaI _)|exact sp (zbL _)|exact sp (zbk _)|exact(zas _ _ _ (zah _)).trans (zbQ _ _).symm|exact(zas _ _ _ (zag _)).trans (zbP _ _).symm|exact sp (by assumption)|(intro o ho;cases ho;refine⟨by decide,?_⟩;first|(refine LeqS.row rfl ?_ ?_;(next=>(first|rfl|(simp only[List.map_append,List.map_cons,List.map_nil,List.append_nil,List.nil_append,List.append_assoc,List.cons_append,encI,encS,ints,strs];done)|(simp[encI,encS,ints,strs,encC];done)));(next=>(first|rfl|exact zal _|exact zaq _|exact zau _|exact zat _|exact za5 _|(simp[zar,zal,zaq,zau,zat,zaw,PV.pure,zah,zag,zaI,za5,zbL,zbk];done)));done)|refine⟨_,rfl,rfl,?_⟩)|(simp[St.born,St.known,retV,St.get,St.obj,lk,sealed,PV.ren,renL,rmap,AO.ren,ints,strs,encI,encS,zap,zao,zan,zam,zaC,zaB,zaA,zaz,za1,za0,zaZ,zaY,zbE,zay,zaQ,zaF,zax,encC]<;>omega))));first|done|fail):p:=h
theorem row_get{m:MachD}{v:Nat}(hv:v<m.states.toNat) {p:Nat}(hp:p<((zbq m).getD v []).length):∃j0:Nat,li ((zbq m).getD v []) p=(j0:Int)∧j0<m.arcs.length∧(fC m.arcs j0).fr=(v:Int):=by
  have hm:=zgK hp
  unfold zbq at hm
  rw[zbM hv] at hm
  obtain⟨j,hj,e⟩:=List.mem_map.1 hm
  obtain⟨h1,h2⟩:=List.mem_filter.1 hj
  exact⟨j,by unfold zbq;rw[zbM hv];exact e.symm,List.mem_range.1 h1,of_decide_eq_true h2⟩
theorem zgz{m:MachD}{v:Nat}(hv:v<m.states.toNat):((zbq m).getD v []).Nodup:=by
  unfold zbq
  rw[zbM hv,List.nodup_iff_pairwise_ne,List.pairwise_map]
  exact(List.nodup_range.filter _).imp (fun h e=>h (by omega))
theorem row_mem{m:MachD}{v:Nat}(hv:v<m.states.toNat) {j:Nat}(hj:j<m.arcs.length):(j:Int)∈(zbq m).getD v []↔(fC m.arcs j).fr=(v:Int):=by
  unfold zbq
  rw[zbM hv,List.mem_map]
  constructor
  · rintro⟨k,hk,e⟩
    have:k=j:=by omega
    subst this
    exact of_decide_eq_true (List.mem_filter.1 hk).2
  · intro h
    exact⟨j,List.mem_filter.2 ⟨List.mem_range.2 hj,decide_eq_true h⟩,rfl⟩
theorem zkV (m:MachD) {v:Nat}(hv:v<m.states.toNat):((zbq m).getD v []).length≤m.arcs.length:=zfv hv
def InM (m:MachD):Prop:=∀a,a∈m.arcs→0≤a.fr∧a.fr<m.states∧0≤a.to∧a.to<m.states
theorem zjE{l:List PV}{k:Nat}{x:PV}(h:k<l.length):(l.set k x).getD k .junk=x:=by simp[List.getD_eq_getElem?_getD,h]
theorem zfT{a:ArcD}(h:a.inp=⟨#[]⟩):silB a=true:=decide_eq_true h
theorem zgr{a:ArcD}(h:¬a.inp=⟨#[]⟩):silB a=false:=decide_eq_false h
theorem zq2{arcs:List ArcD}{n t:Nat}(hs:silB (fC arcs t)=true) (h0:0≤(fC arcs t).to):(zdn n (cntT arcs t)).set (fC arcs t).to.toNat ((cntT arcs t (fC arcs t).to:Int)+1)=zdn n (cntT arcs (t+1)):=by
  have e:=Int.toNat_of_nonneg h0
  have h1:((cntT arcs t (fC arcs t).to:Int)+1)=(cntT arcs (t+1) ((fC arcs t).to.toNat:Nat):Nat):=by
    rw[zgW,e,hs,decide_eq_true rfl];simp
  rw[h1]
  refine zjA fun v hv=>?_
  by_cases hk:v=(fC arcs t).to.toNat
  · rw[if_pos hk,hk]
  · rw[if_neg hk,zgW,hs,decide_eq_false (by omega)];rfl
theorem zjz{arcs:List ArcD}{n t:Nat}(hs:silB (fC arcs t)=false):zdn n (cntT arcs t)=zdn n (cntT arcs (t+1)):=by
  unfold zdn
  refine List.map_congr_left fun v _=>?_
  rw[zgW,hs];simp
theorem zd0{arcs:List ArcD}{n j0:Nat}{P:Nat→Bool}(hj:j0<arcs.length) (hP:P j0=true) (hs:silB (fC arcs j0)=true) (h0:0≤(fC arcs j0).to):(zdn n (cntS arcs P)).set (fC arcs j0).to.toNat ((cntS arcs P (fC arcs j0).to:Int) - 1)=zdn n (cntS arcs (zbY P j0)):=by
  have e:=Int.toNat_of_nonneg h0
  have h1:((cntS arcs P (fC arcs j0).to:Int) - 1)=(cntS arcs (zbY P j0) ((fC arcs j0).to.toNat:Nat):Nat):=by
    have:=zda hj hP hs
    rw[zbZ hj hP,e,if_pos ⟨hs,rfl⟩];omega
  rw[h1]
  refine zjA fun v hv=>?_
  by_cases hk:v=(fC arcs j0).to.toNat
  · rw[if_pos hk,hk]
  · rw[if_neg hk,zbZ hj hP,if_neg (fun g=>by have:=g.2;omega)];rfl
theorem zfN{arcs:List ArcD}{n:Nat}{P P':Nat→Bool}(h:∀v,cntS arcs P' v=cntS arcs P v):zdn n (cntS arcs P)=zdn n (cntS arcs P'):=by
  unfold zdn
  exact List.map_congr_left fun v _=>by rw[h]
theorem zjF{arcs:List ArcD}{k:Nat}(h:(cntS arcs (fun _=>true) (k:Nat):Int)=0):((List.range (k+1)).filter fun v=>decide (cntS arcs (fun _=>true) (v:Nat)=0)).map (fun(v:Nat)=>(v:Int))=((List.range k).filter fun v=>decide (cntS arcs (fun _=>true) (v:Nat)=0)).map (fun(v:Nat)=>(v:Int))++[(k:Int)]:=by
  have h':cntS arcs (fun _=>true) (k:Nat)=0:=by omega
  rw[List.range_succ,List.filter_append,List.map_append]
  simp[h']
theorem zmp{arcs:List ArcD}{k:Nat}(h:¬ (cntS arcs (fun _=>true) (k:Nat):Int)=0):((List.range (k+1)).filter fun v=>decide (cntS arcs (fun _=>true) (v:Nat)=0)).map (fun(v:Nat)=>(v:Int))=((List.range k).filter fun v=>decide (cntS arcs (fun _=>true) (v:Nat)=0)).map (fun(v:Nat)=>(v:Int)):=by
  have h':¬cntS arcs (fun _=>true) (k:Nat)=0:=by omega
  rw[List.range_succ,List.filter_append,List.map_append]
  simp[h']
theorem KLeft.start{arcs:List ArcD}{free row:List Int}:KLeft arcs (fun _=>true) free 0 row 0:=fun j hj=>by simp
theorem KLeft.row{arcs:List ArcD}{P:Nat→Bool}{free row row':List Int}{i:Nat}(h:KLeft arcs P free i row 0):KLeft arcs P free i row' 0:=fun j hj=>by have:=h j hj;simpa using this
theorem ziN (m:MachD) (b:Bool) (hb:b=true↔¬Acyc m) (hm:HeldM m) (h0:0≤m.states) (h1:m.states≤4096) (hin:InM m):Pure Try.prog 55 [encM m] (.atom (.bool b)) []:=by
  have hn:=hm.narcs
  refine Pure.intro (ts:=[2]) Try.func55 (by kernel_rfl) rfl rfl rfl (Nat.le_of_ble_eq_true rfl) ?_ ?_
  · simp[zaI,PV.pure,zaw]
  refine sZ [1] (fun P S K=>XvBox S.nx (S.get 0) (fun r0 ef0=>K ⟨[(1,r0)],(Eff.hp ef0 S.nx S.hp),(S.nx+ef0.add.length),S.gh⟩)) fun K hK=>?_
  repeat' (first|(refine hK _ ?_;clear hK K)|refine And.intro ?_ ?_|exact cl|(refine st ?_;try simp only[encM,zay,encC,zbb])|fail)
  all_goals
  refine sZ [1,3] (fun P S K=>XvFieldAddr P 58 0 (S.get 1) (fun r0 _=>XvLoad P 3 (M S.hp S.nx) r0 (fun r1 _=>XvMake P 22 (M S.hp S.nx) r1 r1 (fun r2 ef2=>K ⟨[(1,S.get 1),(3,r2)],(Eff.hp ef2 S.nx S.hp),(S.nx+ef2.add.length),S.gh⟩)))) fun K hK=>?_
  repeat' (first|(refine hK _ ?_;clear hK K)|refine And.intro ?_ ?_|exact cl|(refine st ?_;try simp only[encM,zay,encC,zbb])|fail)
  all_goals
  refine sZ [1,3,4] (fun P S K=>XvLoad P 58 (M S.hp S.nx) (S.get 1) (fun r0 _=>XvFnIV P (M S.hp S.nx) (.fn 37 []) [r0] (fun r1 ef1=>K ⟨[(1,S.get 1),(3,S.get 3),(4,r1)],(Eff.hp ef1 S.nx S.hp),(S.nx+ef1.add.length),S.gh⟩))) fun K hK=>?_
  repeat' (first|(refine hK _ ?_;clear hK K)|refine .inl ⟨_,_,zfD m hm h0 h1 (fun a ha=>⟨(hin a ha).1,(hin a ha).2.1⟩),?_⟩|(refine st ?_;try simp only[encM,zay,encC,zbb])|fail)
  all_goals
  refine Tri.seq ?_
  refine sZ [1,3,4,20,21,22] (fun P S K=>XvFieldAddr P 58 3 (S.get 1) (fun r0 _=>XvLoad P 56 (M S.hp S.nx) r0 (fun r1 _=>XvLen P 56 (M S.hp S.nx) r1 (fun r2 _=>K ⟨[(1,S.get 1),(3,S.get 3),(4,S.get 4),(20,r1),(21,r2),(22,(.atom (.int .i64 0)))],S.hp,S.nx,S.gh⟩)))) fun K hK=>?_
  repeat' (first|(refine hK _ ?_;clear hK K)|refine And.intro ?_ ?_|exact cl|(refine st ?_;try simp only[encM,zay,encC,zbb])|fail)
  all_goals
  refine Tri.block ?_
  refine Tri.loop (α:=(l:List Int) ×' (t:Nat) ×' (t≤m.arcs.length∧l.length=m.states.toNat∧l=zdn m.states.toNat (cntT m.arcs t))) (fun z=>(fun(l:List Int) (t:Nat)=>(⟨[(1,.ptr 0 4 0 0),(3,.ob 1 1 0 m.states.toNat),(4,zbb (zbq m)),(20,zay m.arcs),(21,encI m.arcs.length),(22,encI t)],[(0,some ⟨4,[encM m]⟩),(1,some ⟨1,l.map encI⟩)],2,[]⟩:St)) z.1 z.2.1) (fun z=>(fun(l:List Int) (t:Nat)=>m.arcs.length - t) z.1 z.2.1) ⟨List.replicate m.states.toNat 0,0,⟨Nat.zero_le _,by simp,by unfold zdn cntT;simp[List.map_const']⟩⟩ [0,1] ?_ ?_
  ·exact zcN
  rintro⟨l,t,⟨ht,hll,hl⟩⟩
  refine sY [1,3,4,20,21,22,23] (fun P S K=>XvBinOV P .lss 3 (.tmp 21) (S.get 22) (S.get 21) (fun r0 _=>K ⟨[(1,S.get 1),(3,S.get 3),(4,S.get 4),(20,S.get 20),(21,S.get 21),(22,S.get 22),(23,r0)],S.hp,S.nx,S.gh⟩)) ?_
  all_goals
  refine Tri.seq ?_
  refine Tri.cond rfl (fun h23=>?_) (fun h23=>?_)
  ·try (cases h23;done)
   all_goals (try simp only[CQ] at h23)
   all_goals
   refine Tri.skip ?_
   refine Tri.seq ?_
   refine Tri.block ?_
   have htl:t<m.arcs.length:=by omega
   have hfr:=hin _ (zb5 htl)
   have hk:(fC m.arcs t).to.toNat<l.length:=by rw[hll];omega
   have hlv:li l (fC m.arcs t).to.toNat=(cntT m.arcs t (fC m.arcs t).to:Int):=by rw[hl,zgN (by omega),Int.toNat_of_nonneg hfr.2.2.1]
   have hcl:=cntT_le m.arcs t (fC m.arcs t).to
   refine sZ [1,3,4,6,20,21,22] (fun P S K=>XvIndexAddr P 56 (S.get 20) (S.get 22) (fun r0 _=>XvLoad P 105 (M S.hp S.nx) r0 (fun r1 _=>XvAlloc P 105 S.nx (fun r2 ef2=>XvStore P 105 (M (Eff.hp ef2 S.nx S.hp) (S.nx+ef2.add.length)) r2 r1 (fun r3 ef3=>K ⟨[(1,S.get 1),(3,S.get 3),(4,S.get 4),(6,r2),(20,S.get 20),(21,S.get 21),(22,S.get 22)],(Eff.hp ef3 (S.nx+ef2.add.length) (Eff.hp ef2 S.nx S.hp)),((S.nx+ef2.add.length)+ef3.add.length),S.gh⟩))))) fun K hK=>?_
   repeat' (first|(refine hK _ ?_;clear hK K)|refine And.intro ?_ ?_|exact cl|(refine st ?_;try simp only[encM,zay,encC,zbb,zd2 htl])|fail)
   all_goals
   refine sZ [1,3,4,6,20,21,22,28] (fun P S K=>XvFieldAddr P 105 2 (S.get 6) (fun r0 _=>XvLoad P 9 (M S.hp S.nx) r0 (fun r1 _=>XvBinOV P .eql 9 (.const (.string { data := #[] })) r1 (.atom (.string { data := #[] })) (fun r2 _=>K ⟨[(1,S.get 1),(3,S.get 3),(4,S.get 4),(6,S.get 6),(20,S.get 20),(21,S.get 21),(22,S.get 22),(28,r2)],S.hp,S.nx,S.gh⟩)))) fun K hK=>?_
   repeat' (first|(refine hK _ ?_;clear hK K)|refine And.intro ?_ ?_|exact cl|(refine st ?_;try simp only[encM,zay,encC,zbb])|fail)
   all_goals
   refine Tri.cond rfl (fun h28=>?_) (fun h28=>?_)
   ·try (cases h28;done)
    all_goals (try simp only[CQ] at h28)
    all_goals
    refine rZ [1,3,4,20,21,22] (fun P S K=>XvFieldAddr P 105 1 (S.get 6) (fun r1 _=>XvLoad P 3 (M S.hp S.nx) r1 (fun r2 _=>XvIndexAddr P 22 (S.get 3) r2 (fun r3 _=>XvLoad P 3 (M S.hp S.nx) r3 (fun r4 _=>XvBinOV P .add 3 (.const (.int .i64 1)) r4 (.atom (.int .i64 1)) (fun r5 _=>XvIndexAddr P 22 (S.get 3) r2 (fun r6 _=>XvStore P 3 (M S.hp S.nx) r6 r5 (fun r7 ef7=>K ⟨[(1,S.get 1),(3,S.get 3),(4,S.get 4),(20,S.get 20),(21,S.get 21),(22,S.get 22)],(Eff.hp ef7 S.nx S.hp),(S.nx+ef7.add.length),S.gh⟩)))))))) fun K hK=>?_
    repeat' (first|(refine hK _ ?_;clear hK K)|refine And.intro ?_ ?_|exact cl|(refine st ?_;try simp only[encM,zay,encC,zbb,zbi hk,hlv])|fail)
    all_goals try simp (disch:=omega) only[zae,zaf]
    all_goals
    refine rY [1,3,4,20,21,22] (fun P S K=>XvBinOV P .add 3 (.const (.int .i64 1)) (S.get 22) (.atom (.int .i64 1)) (fun r0 _=>K ⟨[(1,S.get 1),(3,S.get 3),(4,S.get 4),(20,S.get 20),(21,S.get 21),(22,r0)],S.hp,S.nx,S.gh⟩)) ?_
    all_goals try simp (disch:=omega) only[zae,zaf]
    all_goals
    first
    | (have hs:=zfT (a:=fC m.arcs t) (by assumption)
       refine⟨⟨l.set (fC m.arcs t).to.toNat ((cntT m.arcs t (fC m.arcs t).to:Int)+1),t+1,by omega,by rw[List.length_set];exact hll,by rw[hl];exact zq2 hs hfr.2.2.1⟩,[0,1],by dsimp only;omega,?_⟩
       exact zcN)
    | (have hs:=zgr (a:=fC m.arcs t) (by assumption)
       refine⟨⟨l,t+1,by omega,hll,by rw[hl];exact zjz hs⟩,[0,1],by dsimp only;omega,?_⟩
       exact zcN)
   try (cases h28;done)
   all_goals (try simp only[CQ] at h28)
   all_goals
   refine Tri.skip ?_
   refine rY [1,3,4,20,21,22] (fun P S K=>XvBinOV P .add 3 (.const (.int .i64 1)) (S.get 22) (.atom (.int .i64 1)) (fun r0 _=>K ⟨[(1,S.get 1),(3,S.get 3),(4,S.get 4),(20,S.get 20),(21,S.get 21),(22,r0)],S.hp,S.nx,S.gh⟩)) ?_
   all_goals try simp (disch:=omega) only[zae,zaf]
   all_goals
   first
   | (have hs:=zfT (a:=fC m.arcs t) (by assumption)
      refine⟨⟨l.set (fC m.arcs t).to.toNat ((cntT m.arcs t (fC m.arcs t).to:Int)+1),t+1,by omega,by rw[List.length_set];exact hll,by rw[hl];exact zq2 hs hfr.2.2.1⟩,[0,1],by dsimp only;omega,?_⟩
      exact zcN)
   | (have hs:=zgr (a:=fC m.arcs t) (by assumption)
      refine⟨⟨l,t+1,by omega,hll,by rw[hl];exact zjz hs⟩,[0,1],by dsimp only;omega,?_⟩
      exact zcN)
  try (cases h23;done)
  all_goals (try simp only[CQ] at h23)
  all_goals
  refine Tri.exit ?_
  refine sY [1,3,4,7] (fun P S K=>K ⟨[(1,S.get 1),(3,S.get 3),(4,S.get 4),(7,(.atom (.slice none 0 0)))],S.hp,S.nx,S.gh⟩) ?_
  refine Tri.born 7 1 rfl ?_
  all_goals
  refine Tri.seq ?_
  refine sZ [1,3,4,7,37,38,39] (fun P S K=>XvLen P 22 (M S.hp S.nx) (S.get 3) (fun r1 _=>K ⟨[(1,S.get 1),(3,S.get 3),(4,S.get 4),(7,S.get 7),(37,(S.get 3)),(38,r1),(39,(.atom (.int .i64 0)))],S.hp,S.nx,S.gh⟩)) fun K hK=>?_
  repeat' (first|(refine hK _ ?_;clear hK K)|refine And.intro ?_ ?_|exact cl|(refine st ?_;try simp only[encM,zay,encC,zbb])|fail)
  all_goals
  refine Tri.block ?_
  refine Tri.loop (α:=(free:List Int) ×' (k:Nat) ×' (k≤m.states.toNat∧free.length≤k∧free=((List.range k).filter fun v=>decide (cntS m.arcs (fun _=>true) (v:Nat)=0)).map (fun(v:Nat)=>(v:Int)))) (fun z=>(fun(free:List Int) (k:Nat)=>(⟨[(1,.ptr 0 4 0 0),(3,.ob 1 1 0 m.states.toNat),(4,zbb (zbq m)),(7,.ob 2 1 0 free.length),(37,.ob 1 1 0 m.states.toNat),(38,encI m.states.toNat),(39,encI k)],[(0,some ⟨4,[encM m]⟩),(1,some ⟨1,l.map encI⟩),(2,some ⟨1,free.map encI⟩)],3,[]⟩:St)) z.1 z.2.1) (fun z=>(fun(free:List Int) (k:Nat)=>m.states.toNat - k) z.1 z.2.1) ⟨[],0,⟨Nat.zero_le _,Nat.le_refl _,rfl⟩⟩ [0,1,2] ?_ ?_
  ·exact zcN
  rintro⟨free,k,⟨hk,hfl,hf⟩⟩
  refine sY [1,3,4,7,37,38,39,40] (fun P S K=>XvBinOV P .lss 3 (.tmp 38) (S.get 39) (S.get 38) (fun r0 _=>K ⟨[(1,S.get 1),(3,S.get 3),(4,S.get 4),(7,S.get 7),(37,S.get 37),(38,S.get 38),(39,S.get 39),(40,r0)],S.hp,S.nx,S.gh⟩)) ?_
  all_goals
  refine Tri.seq ?_
  refine Tri.cond rfl (fun h40=>?_) (fun h40=>?_)
  ·try (cases h40;done)
   all_goals (try simp only[CQ] at h40)
   all_goals
   refine Tri.skip ?_
   refine Tri.seq ?_
   refine Tri.block ?_
   have hkl:k<l.length:=by omega
   have hlv:li l k=(cntS m.arcs (fun _=>true) (k:Nat):Int):=by rw[hl,zgN (by omega),show t=m.arcs.length by omega,zmy]
   refine sZ [1,3,4,7,8,9,37,38,39] (fun P S K=>XvIndexAddr P 22 (S.get 37) (S.get 39) (fun r1 _=>XvLoad P 3 (M S.hp S.nx) r1 (fun r2 _=>K ⟨[(1,S.get 1),(3,S.get 3),(4,S.get 4),(7,S.get 7),(8,(S.get 39)),(9,r2),(37,S.get 37),(38,S.get 38),(39,S.get 39)],S.hp,S.nx,S.gh⟩))) fun K hK=>?_
   repeat' (first|(refine hK _ ?_;clear hK K)|refine And.intro ?_ ?_|exact cl|(refine st ?_;try simp only[encM,zay,encC,zbb,zbi hkl,hlv])|fail)
   all_goals
   refine sY [1,3,4,7,8,37,38,39,45] (fun P S K=>XvBinOV P .eql 3 (.const (.int .i64 0)) (S.get 9) (.atom (.int .i64 0)) (fun r1 _=>K ⟨[(1,S.get 1),(3,S.get 3),(4,S.get 4),(7,S.get 7),(8,S.get 8),(37,S.get 37),(38,S.get 38),(39,S.get 39),(45,r1)],S.hp,S.nx,S.gh⟩)) ?_
   all_goals
   refine Tri.cond rfl (fun h45=>?_) (fun h45=>?_)
   ·try (cases h45;done)
    all_goals (try simp only[CQ] at h45)
    all_goals
    refine rZ [1,3,4,7,37,38,39] (fun P S K=>XvBuildS P 22 1 S.nx [(0,(S.get 8))] (fun r2 ef2=>(22=22∧XvAppend P 22 (M (Eff.hp ef2 S.nx S.hp) (S.nx+ef2.add.length)) (S.get 7) r2 (fun r3 ef3=>K ⟨[(1,S.get 1),(3,S.get 3),(4,S.get 4),(7,r3),(37,S.get 37),(38,S.get 38),(39,S.get 39)],(Eff.hp ef3 (S.nx+ef2.add.length) (Eff.hp ef2 S.nx S.hp)),((S.nx+ef2.add.length)+ef3.add.length),S.gh⟩)))) fun K hK=>?_
    repeat' (first|(refine hK _ ?_;clear hK K)|refine And.intro ?_ ?_|exact cl|(refine st ?_;try simp only[encM,zay,encC,zbb])|fail)
    all_goals
    refine rY [1,3,4,7,37,38,39] (fun P S K=>XvBinOV P .add 3 (.const (.int .i64 1)) (S.get 39) (.atom (.int .i64 1)) (fun r0 _=>K ⟨[(1,S.get 1),(3,S.get 3),(4,S.get 4),(7,S.get 7),(37,S.get 37),(38,S.get 38),(39,r0)],S.hp,S.nx,S.gh⟩)) ?_
    all_goals try simp (disch:=omega) only[zae,zaf]
    all_goals
    first
    | (refine⟨⟨free++[(k:Int)],k+1,by omega,by simp;omega,by rw[zjF (by assumption),←hf]⟩,[0,1,4],by dsimp only;omega,?_⟩
       exact zcN)
    | (refine⟨⟨free,k+1,by omega,by omega,by rw[zmp (by assumption),←hf]⟩,[0,1,2],by dsimp only;omega,?_⟩
       exact zcN)
   try (cases h45;done)
   all_goals (try simp only[CQ] at h45)
   all_goals
   refine Tri.skip ?_
   refine rY [1,3,4,7,37,38,39] (fun P S K=>XvBinOV P .add 3 (.const (.int .i64 1)) (S.get 39) (.atom (.int .i64 1)) (fun r0 _=>K ⟨[(1,S.get 1),(3,S.get 3),(4,S.get 4),(7,S.get 7),(37,S.get 37),(38,S.get 38),(39,r0)],S.hp,S.nx,S.gh⟩)) ?_
   all_goals try simp (disch:=omega) only[zae,zaf]
   all_goals
   first
   | (refine⟨⟨free++[(k:Int)],k+1,by omega,by simp;omega,by rw[zjF (by assumption),←hf]⟩,[0,1,4],by dsimp only;omega,?_⟩
      exact zcN)
   | (refine⟨⟨free,k+1,by omega,by omega,by rw[zmp (by assumption),←hf]⟩,[0,1,2],by dsimp only;omega,?_⟩
      exact zcN)
  try (cases h40;done)
  all_goals (try simp only[CQ] at h40)
  all_goals
  refine Tri.exit ?_
  refine Tri.seq ?_
  refine sY [1,3,4,7,10] (fun P S K=>K ⟨[(1,S.get 1),(3,S.get 3),(4,S.get 4),(7,S.get 7),(10,(.atom (.int .i64 0)))],S.hp,S.nx,S.gh⟩) ?_
  all_goals
  refine Tri.block ?_
  refine Tri.loop (α:=(into:List Int) ×' (free:List Int) ×' (i:Nat) ×' (Pl:Nat→Bool) ×' (into.length=m.states.toNat∧into=zdn m.states.toNat (cntS m.arcs Pl)∧KInv m.arcs m.states.toNat Pl free∧KLeft m.arcs Pl free i [] 0∧i≤free.length∧free.length≤m.states.toNat)) (fun z=>(fun(into:List Int) (free:List Int) (i:Nat) (Pl:Nat→Bool)=>(⟨[(1,.ptr 0 4 0 0),(3,.ob 1 1 0 m.states.toNat),(4,zbb (zbq m)),(7,.ob 2 1 0 free.length),(10,encI i)],[(0,some ⟨4,[encM m]⟩),(1,some ⟨1,into.map encI⟩),(2,some ⟨1,free.map encI⟩)],3,[]⟩:St)) z.1 z.2.1 z.2.2.1 z.2.2.2.1) (fun z=>(fun(into:List Int) (free:List Int) (i:Nat) (Pl:Nat→Bool)=>m.states.toNat - i) z.1 z.2.1 z.2.2.1 z.2.2.2.1) ⟨l,free,0,fun _=>true,by(have hkk:k=m.states.toNat:=by omega);(have htt:t=m.arcs.length:=by omega);subst hkk;exact⟨hll,by rw[hl,htt];unfold zdn;exact List.map_congr_left (fun v _=>by rw[zmy]),by rw[hf];exact KInv.init,KLeft.start,Nat.zero_le _,hfl⟩⟩ [0,1,2] ?_ ?_
  ·exact zcN
  rintro⟨into,free,i,Pl,⟨hil,hi,hki,hkl,hif,hfn⟩⟩
  refine Tri.seq ?_
  refine sZ [1,3,4,7,10,54] (fun P S K=>XvLen P 22 (M S.hp S.nx) (S.get 7) (fun r2 _=>XvBinOV P .lss 3 (.tmp 53) (S.get 10) r2 (fun r3 _=>K ⟨[(1,S.get 1),(3,S.get 3),(4,S.get 4),(7,S.get 7),(10,S.get 10),(54,r3)],S.hp,S.nx,S.gh⟩))) fun K hK=>?_
  repeat' (first|(refine hK _ ?_;clear hK K)|refine And.intro ?_ ?_|exact cl|(refine st ?_;try simp only[encM,zay,encC,zbb])|fail)
  all_goals
  refine Tri.cond rfl (fun h54=>?_) (fun h54=>?_)
  ·try (cases h54;done)
   all_goals (try simp only[CQ] at h54)
   all_goals
   refine Tri.skip ?_
   refine Tri.seq ?_
   refine Tri.block ?_
   have hii:i<free.length:=by omega
   have hvr:=hki.rng _ (zgK hii)
   have hvl:(li free i).toNat<(zbq m).length:=by rw[zbq,zbn];omega
   have hvn:(li free i).toNat<m.states.toNat:=by omega
   have hrl:=zkV m hvn
   refine sZ [1,3,4,7,10,63,64,65] (fun P S K=>XvIndexAddr P 22 (S.get 7) (S.get 10) (fun r3 _=>XvLoad P 3 (M S.hp S.nx) r3 (fun r4 _=>XvIndexAddr P 91 (S.get 4) r4 (fun r5 _=>XvLoad P 22 (M S.hp S.nx) r5 (fun r6 _=>XvLen P 22 (M S.hp S.nx) r6 (fun r7 _=>K ⟨[(1,S.get 1),(3,S.get 3),(4,S.get 4),(7,S.get 7),(10,S.get 10),(63,r6),(64,r7),(65,(.atom (.int .i64 0)))],S.hp,S.nx,S.gh⟩)))))) fun K hK=>?_
   repeat' (first|(refine hK _ ?_;clear hK K)|refine And.intro ?_ ?_|exact cl|(refine st ?_;try simp only[encM,zay,encC,zbb,zbi hii,zdd hvl])|refine sx ?_ (by simp only[encM,zay,encC,zbb,zbi hii,zdd hvl];exact rfl)|fail)
   all_goals
   refine Tri.block ?_
   refine Tri.loop (α:=(into:List Int) ×' (fr2:List Int) ×' (p:Nat) ×' (Pl:Nat→Bool) ×' (p≤((zbq m).getD (li free i).toNat []).length∧into.length=m.states.toNat∧into=zdn m.states.toNat (cntS m.arcs Pl)∧KInv m.arcs m.states.toNat Pl fr2∧KLeft m.arcs Pl fr2 i ((zbq m).getD (li free i).toNat []) p∧i<fr2.length∧fr2.length≤m.states.toNat∧li fr2 i=li free i)) (fun z=>(fun(into:List Int) (fr2:List Int) (p:Nat) (Pl:Nat→Bool)=>(⟨[(1,.ptr 0 4 0 0),(3,.ob 1 1 0 m.states.toNat),(4,zbb (zbq m)),(7,.ob 2 1 0 fr2.length),(10,encI i),(63,ints ((zbq m).getD (li free i).toNat [])),(64,encI ((zbq m).getD (li free i).toNat []).length),(65,encI p)],[(0,some ⟨4,[encM m]⟩),(1,some ⟨1,into.map encI⟩),(2,some ⟨1,fr2.map encI⟩)],3,[]⟩:St)) z.1 z.2.1 z.2.2.1 z.2.2.2.1) (fun z=>(fun(into:List Int) (fr2:List Int) (p:Nat) (Pl:Nat→Bool)=>((zbq m).getD (li free i).toNat []).length - p) z.1 z.2.1 z.2.2.1 z.2.2.2.1) ⟨into,free,0,Pl,⟨Nat.zero_le _,hil,hi,hki,hkl.row,hii,hfn,rfl⟩⟩ [0,1,2] ?_ ?_
   ·exact zcN
   rintro⟨into,fr2,p,Pl,⟨hp,hil2,hi2,hki2,hkl2,hif2,hfn2,hlf⟩⟩
   refine sY [1,3,4,7,10,63,64,65,66] (fun P S K=>XvBinOV P .lss 3 (.tmp 64) (S.get 65) (S.get 64) (fun r0 _=>K ⟨[(1,S.get 1),(3,S.get 3),(4,S.get 4),(7,S.get 7),(10,S.get 10),(63,S.get 63),(64,S.get 64),(65,S.get 65),(66,r0)],S.hp,S.nx,S.gh⟩)) ?_
   all_goals
   refine Tri.seq ?_
   refine Tri.cond rfl (fun h66=>?_) (fun h66=>?_)
   ·try (cases h66;done)
    all_goals (try simp only[CQ] at h66)
    all_goals
    refine Tri.skip ?_
    refine Tri.seq ?_
    refine Tri.block ?_
    have hpl:p<((zbq m).getD (li free i).toNat []).length:=by omega
    obtain⟨j0,hj0,hj0l,hj0f⟩:=row_get hvn hpl
    have hfr:=hin _ (zb5 hj0l)
    have hk:(fC m.arcs j0).to.toNat<into.length:=by rw[hil2];omega
    have hlv:li into (fC m.arcs j0).to.toNat=(cntS m.arcs Pl (fC m.arcs j0).to:Int):=by rw[hi2,zgN (by omega),Int.toNat_of_nonneg hfr.2.2.1]
    have hcl:=cntS_le m.arcs Pl (fC m.arcs j0).to
    refine sZ [1,3,4,7,10,12,63,64,65] (fun P S K=>XvIndexAddr P 22 (S.get 63) (S.get 65) (fun r0 _=>XvLoad P 3 (M S.hp S.nx) r0 (fun r1 _=>K ⟨[(1,S.get 1),(3,S.get 3),(4,S.get 4),(7,S.get 7),(10,S.get 10),(12,r1),(63,S.get 63),(64,S.get 64),(65,S.get 65)],S.hp,S.nx,S.gh⟩))) fun K hK=>?_
    repeat' (first|(refine hK _ ?_;clear hK K)|refine And.intro ?_ ?_|exact cl|(refine st ?_;try simp only[encM,zay,encC,zbb,zbi hpl,hj0])|fail)
    all_goals
    refine sZ [1,3,4,7,10,13,63,64,65] (fun P S K=>XvFieldAddr P 58 3 (S.get 1) (fun r0 _=>XvLoad P 56 (M S.hp S.nx) r0 (fun r1 _=>XvIndexAddr P 56 r1 (S.get 12) (fun r3 _=>XvLoad P 105 (M S.hp S.nx) r3 (fun r4 _=>XvAlloc P 105 S.nx (fun r5 ef5=>XvStore P 105 (M (Eff.hp ef5 S.nx S.hp) (S.nx+ef5.add.length)) r5 r4 (fun r6 ef6=>K ⟨[(1,S.get 1),(3,S.get 3),(4,S.get 4),(7,S.get 7),(10,S.get 10),(13,r5),(63,S.get 63),(64,S.get 64),(65,S.get 65)],(Eff.hp ef6 (S.nx+ef5.add.length) (Eff.hp ef5 S.nx S.hp)),((S.nx+ef5.add.length)+ef6.add.length),S.gh⟩))))))) fun K hK=>?_
    repeat' (first|(refine hK _ ?_;clear hK K)|refine And.intro ?_ ?_|exact cl|(refine st ?_;try simp only[encM,zay,encC,zbb,zd2 hj0l])|fail)
    all_goals
    refine Tri.seq ?_
    refine sZ [1,3,4,7,10,13,63,64,65,76] (fun P S K=>XvFieldAddr P 105 2 (S.get 13) (fun r0 _=>XvLoad P 9 (M S.hp S.nx) r0 (fun r1 _=>XvBinOV P .neq 9 (.const (.string { data := #[] })) r1 (.atom (.string { data := #[] })) (fun r2 _=>K ⟨[(1,S.get 1),(3,S.get 3),(4,S.get 4),(7,S.get 7),(10,S.get 10),(13,S.get 13),(63,S.get 63),(64,S.get 64),(65,S.get 65),(76,r2)],S.hp,S.nx,S.gh⟩)))) fun K hK=>?_
    repeat' (first|(refine hK _ ?_;clear hK K)|refine And.intro ?_ ?_|exact cl|(refine st ?_;try simp only[encM,zay,encC,zbb])|fail)
    all_goals
    refine Tri.cond rfl (fun h76=>?_) (fun h76=>?_)
    ·try (cases h76;done)
     all_goals (try simp only[CQ] at h76)
     all_goals
     refine Tri.exit ?_
     refine rY [1,3,4,7,10,63,64,65] (fun P S K=>XvBinOV P .add 3 (.const (.int .i64 1)) (S.get 65) (.atom (.int .i64 1)) (fun r0 _=>K ⟨[(1,S.get 1),(3,S.get 3),(4,S.get 4),(7,S.get 7),(10,S.get 10),(63,S.get 63),(64,S.get 64),(65,r0)],S.hp,S.nx,S.gh⟩)) ?_
     all_goals try simp (disch:=omega) only[zae,zaf]
     all_goals
     have hlf':(fC m.arcs j0).fr=li fr2 i:=by rw[hj0f,hlf];omega
     have hP:=hkl2.has hki2.nd hif2 (zgz hvn) hpl hj0 hj0l hlf'
     have hkl3:=hkl2.step hpl hj0 hlf'
     first
       | (have hs:=zgr (a:=fC m.arcs j0) (by assumption)
          obtain⟨g1,g2⟩:=hki2.quiet hj0l hP hs
          refine⟨⟨into,fr2,p+1,zbY Pl j0,by omega,hil2,by rw[hi2];exact zfN g2,g1,hkl3,hif2,hfn2,hlf⟩,[0,1,2],by dsimp only;omega,?_⟩
          exact zcN)
       | (have hs:=zfT (a:=fC m.arcs j0) (by assumption)
          have hpos:=zda hj0l hP hs
          have hz:cntS m.arcs (zbY Pl j0) (fC m.arcs j0).to=0:=by rw[zbZ hj0l hP,if_pos ⟨hs,rfl⟩];omega
          have g1:=hki2.frees hj0l hP hs hz hfr.2.2.1 (by omega) hif2 hkl3
          have g2:=(zes g1.nd g1.rng).1
          refine⟨⟨into.set (fC m.arcs j0).to.toNat ((cntS m.arcs Pl (fC m.arcs j0).to:Int) - 1),fr2++[(fC m.arcs j0).to],p+1,zbY Pl j0,by omega,by rw[List.length_set];exact hil2,by rw[hi2];exact zd0 hj0l hP hs hfr.2.2.1,g1,hkl3.app hif2,by rw[List.length_append];omega,g2,by rw[ze0 hif2];exact hlf⟩,[0,1,5],by dsimp only;omega,?_⟩
          exact zcN)
       | (have hs:=zfT (a:=fC m.arcs j0) (by assumption)
          have hpos:=zda hj0l hP hs
          have hz:¬cntS m.arcs (zbY Pl j0) (fC m.arcs j0).to=0:=by rw[zbZ hj0l hP,if_pos ⟨hs,rfl⟩];omega
          refine⟨⟨into.set (fC m.arcs j0).to.toNat ((cntS m.arcs Pl (fC m.arcs j0).to:Int) - 1),fr2,p+1,zbY Pl j0,by omega,by rw[List.length_set];exact hil2,by rw[hi2];exact zd0 hj0l hP hs hfr.2.2.1,hki2.stays hj0l hP hs hz,hkl3,hif2,hfn2,hlf⟩,[0,1,2],by dsimp only;omega,?_⟩
          exact zcN)
    try (cases h76;done)
    all_goals (try simp only[CQ] at h76)
    all_goals
    refine Tri.skip ?_
    refine sZ [1,3,4,7,10,13,63,64,65] (fun P S K=>XvFieldAddr P 105 1 (S.get 13) (fun r1 _=>XvLoad P 3 (M S.hp S.nx) r1 (fun r2 _=>XvIndexAddr P 22 (S.get 3) r2 (fun r3 _=>XvLoad P 3 (M S.hp S.nx) r3 (fun r4 _=>XvBinOV P .sub 3 (.const (.int .i64 1)) r4 (.atom (.int .i64 1)) (fun r5 _=>XvIndexAddr P 22 (S.get 3) r2 (fun r6 _=>XvStore P 3 (M S.hp S.nx) r6 r5 (fun r7 ef7=>K ⟨[(1,S.get 1),(3,S.get 3),(4,S.get 4),(7,S.get 7),(10,S.get 10),(13,S.get 13),(63,S.get 63),(64,S.get 64),(65,S.get 65)],(Eff.hp ef7 S.nx S.hp),(S.nx+ef7.add.length),S.gh⟩)))))))) fun K hK=>?_
    repeat' (first|(refine hK _ ?_;clear hK K)|refine And.intro ?_ ?_|exact cl|(refine st ?_;try simp only[encM,zay,encC,zbb,List.length_set,zbi hk,hlv])|fail)
    all_goals try simp (disch:=omega) only[zae,zaf]
    all_goals
    refine sZ [1,3,4,7,10,13,63,64,65,89] (fun P S K=>XvFieldAddr P 105 1 (S.get 13) (fun r1 _=>XvLoad P 3 (M S.hp S.nx) r1 (fun r2 _=>XvIndexAddr P 22 (S.get 3) r2 (fun r3 _=>XvLoad P 3 (M S.hp S.nx) r3 (fun r4 _=>XvBinOV P .eql 3 (.const (.int .i64 0)) r4 (.atom (.int .i64 0)) (fun r5 _=>K ⟨[(1,S.get 1),(3,S.get 3),(4,S.get 4),(7,S.get 7),(10,S.get 10),(13,S.get 13),(63,S.get 63),(64,S.get 64),(65,S.get 65),(89,r5)],S.hp,S.nx,S.gh⟩)))))) fun K hK=>?_
    repeat' (first|(refine hK _ ?_;clear hK K)|refine And.intro ?_ ?_|exact cl|(refine st ?_;try simp only[encM,zay,encC,zbb,List.length_set,List.length_map,zjE (l:=into.map encI) (by rw[List.length_map];exact hk)])|fail)
    all_goals
    refine Tri.cond rfl (fun h89=>?_) (fun h89=>?_)
    ·try (cases h89;done)
     all_goals (try simp only[CQ] at h89)
     all_goals
     refine rZ [1,3,4,7,10,63,64,65] (fun P S K=>XvFieldAddr P 105 1 (S.get 13) (fun r1 _=>XvLoad P 3 (M S.hp S.nx) r1 (fun r2 _=>XvBuildS P 22 1 S.nx [(0,r2)] (fun r3 ef3=>(22=22∧XvAppend P 22 (M (Eff.hp ef3 S.nx S.hp) (S.nx+ef3.add.length)) (S.get 7) r3 (fun r4 ef4=>K ⟨[(1,S.get 1),(3,S.get 3),(4,S.get 4),(7,r4),(10,S.get 10),(63,S.get 63),(64,S.get 64),(65,S.get 65)],(Eff.hp ef4 (S.nx+ef3.add.length) (Eff.hp ef3 S.nx S.hp)),((S.nx+ef3.add.length)+ef4.add.length),S.gh⟩)))))) fun K hK=>?_
     repeat' (first|(refine hK _ ?_;clear hK K)|refine And.intro ?_ ?_|exact cl|(refine st ?_;try simp only[encM,zay,encC,zbb])|fail)
     all_goals
     refine rY [1,3,4,7,10,63,64,65] (fun P S K=>XvBinOV P .add 3 (.const (.int .i64 1)) (S.get 65) (.atom (.int .i64 1)) (fun r0 _=>K ⟨[(1,S.get 1),(3,S.get 3),(4,S.get 4),(7,S.get 7),(10,S.get 10),(63,S.get 63),(64,S.get 64),(65,r0)],S.hp,S.nx,S.gh⟩)) ?_
     all_goals try simp (disch:=omega) only[zae,zaf]
     all_goals
     have hlf':(fC m.arcs j0).fr=li fr2 i:=by rw[hj0f,hlf];omega
     have hP:=hkl2.has hki2.nd hif2 (zgz hvn) hpl hj0 hj0l hlf'
     have hkl3:=hkl2.step hpl hj0 hlf'
     first
       | (have hs:=zgr (a:=fC m.arcs j0) (by assumption)
          obtain⟨g1,g2⟩:=hki2.quiet hj0l hP hs
          refine⟨⟨into,fr2,p+1,zbY Pl j0,by omega,hil2,by rw[hi2];exact zfN g2,g1,hkl3,hif2,hfn2,hlf⟩,[0,1,2],by dsimp only;omega,?_⟩
          exact zcN)
       | (have hs:=zfT (a:=fC m.arcs j0) (by assumption)
          have hpos:=zda hj0l hP hs
          have hz:cntS m.arcs (zbY Pl j0) (fC m.arcs j0).to=0:=by rw[zbZ hj0l hP,if_pos ⟨hs,rfl⟩];omega
          have g1:=hki2.frees hj0l hP hs hz hfr.2.2.1 (by omega) hif2 hkl3
          have g2:=(zes g1.nd g1.rng).1
          refine⟨⟨into.set (fC m.arcs j0).to.toNat ((cntS m.arcs Pl (fC m.arcs j0).to:Int) - 1),fr2++[(fC m.arcs j0).to],p+1,zbY Pl j0,by omega,by rw[List.length_set];exact hil2,by rw[hi2];exact zd0 hj0l hP hs hfr.2.2.1,g1,hkl3.app hif2,by rw[List.length_append];omega,g2,by rw[ze0 hif2];exact hlf⟩,[0,1,5],by dsimp only;omega,?_⟩
          exact zcN)
       | (have hs:=zfT (a:=fC m.arcs j0) (by assumption)
          have hpos:=zda hj0l hP hs
          have hz:¬cntS m.arcs (zbY Pl j0) (fC m.arcs j0).to=0:=by rw[zbZ hj0l hP,if_pos ⟨hs,rfl⟩];omega
          refine⟨⟨into.set (fC m.arcs j0).to.toNat ((cntS m.arcs Pl (fC m.arcs j0).to:Int) - 1),fr2,p+1,zbY Pl j0,by omega,by rw[List.length_set];exact hil2,by rw[hi2];exact zd0 hj0l hP hs hfr.2.2.1,hki2.stays hj0l hP hs hz,hkl3,hif2,hfn2,hlf⟩,[0,1,2],by dsimp only;omega,?_⟩
          exact zcN)
    try (cases h89;done)
    all_goals (try simp only[CQ] at h89)
    all_goals
    refine Tri.skip ?_
    refine rY [1,3,4,7,10,63,64,65] (fun P S K=>XvBinOV P .add 3 (.const (.int .i64 1)) (S.get 65) (.atom (.int .i64 1)) (fun r0 _=>K ⟨[(1,S.get 1),(3,S.get 3),(4,S.get 4),(7,S.get 7),(10,S.get 10),(63,S.get 63),(64,S.get 64),(65,r0)],S.hp,S.nx,S.gh⟩)) ?_
    all_goals try simp (disch:=omega) only[zae,zaf]
    all_goals
    have hlf':(fC m.arcs j0).fr=li fr2 i:=by rw[hj0f,hlf];omega
    have hP:=hkl2.has hki2.nd hif2 (zgz hvn) hpl hj0 hj0l hlf'
    have hkl3:=hkl2.step hpl hj0 hlf'
    first
      | (have hs:=zgr (a:=fC m.arcs j0) (by assumption)
         obtain⟨g1,g2⟩:=hki2.quiet hj0l hP hs
         refine⟨⟨into,fr2,p+1,zbY Pl j0,by omega,hil2,by rw[hi2];exact zfN g2,g1,hkl3,hif2,hfn2,hlf⟩,[0,1,2],by dsimp only;omega,?_⟩
         exact zcN)
      | (have hs:=zfT (a:=fC m.arcs j0) (by assumption)
         have hpos:=zda hj0l hP hs
         have hz:cntS m.arcs (zbY Pl j0) (fC m.arcs j0).to=0:=by rw[zbZ hj0l hP,if_pos ⟨hs,rfl⟩];omega
         have g1:=hki2.frees hj0l hP hs hz hfr.2.2.1 (by omega) hif2 hkl3
         have g2:=(zes g1.nd g1.rng).1
         refine⟨⟨into.set (fC m.arcs j0).to.toNat ((cntS m.arcs Pl (fC m.arcs j0).to:Int) - 1),fr2++[(fC m.arcs j0).to],p+1,zbY Pl j0,by omega,by rw[List.length_set];exact hil2,by rw[hi2];exact zd0 hj0l hP hs hfr.2.2.1,g1,hkl3.app hif2,by rw[List.length_append];omega,g2,by rw[ze0 hif2];exact hlf⟩,[0,1,5],by dsimp only;omega,?_⟩
         exact zcN)
      | (have hs:=zfT (a:=fC m.arcs j0) (by assumption)
         have hpos:=zda hj0l hP hs
         have hz:¬cntS m.arcs (zbY Pl j0) (fC m.arcs j0).to=0:=by rw[zbZ hj0l hP,if_pos ⟨hs,rfl⟩];omega
         refine⟨⟨into.set (fC m.arcs j0).to.toNat ((cntS m.arcs Pl (fC m.arcs j0).to:Int) - 1),fr2,p+1,zbY Pl j0,by omega,by rw[List.length_set];exact hil2,by rw[hi2];exact zd0 hj0l hP hs hfr.2.2.1,hki2.stays hj0l hP hs hz,hkl3,hif2,hfn2,hlf⟩,[0,1,2],by dsimp only;omega,?_⟩
         exact zcN)
   try (cases h66;done)
   all_goals (try simp only[CQ] at h66)
   all_goals
   refine Tri.exit ?_
   refine rY [1,3,4,7,10] (fun P S K=>XvBinOV P .add 3 (.const (.int .i64 1)) (S.get 10) (.atom (.int .i64 1)) (fun r1 _=>K ⟨[(1,S.get 1),(3,S.get 3),(4,S.get 4),(7,S.get 7),(10,r1)],S.hp,S.nx,S.gh⟩)) ?_
   all_goals try simp (disch:=omega) only[zae,zaf]
   all_goals
   have hpe:p=((zbq m).getD (li free i).toNat []).length:=by omega
   subst hpe
   refine⟨⟨into,fr2,i+1,Pl,hil2,hi2,hki2,hkl2.next hif2 (fun j hj=>by rw[row_mem hvn hj,hlf,Int.toNat_of_nonneg hvr.1]),by omega,hfn2⟩,[0,1,2],by dsimp only;omega,?_⟩
   exact zcN
  try (cases h54;done)
  all_goals (try simp only[CQ] at h54)
  all_goals
  refine Tri.exit ?_
  refine sZ [2] (fun P S K=>XvLen P 22 (M S.hp S.nx) (S.get 7) (fun r1 _=>XvFieldAddr P 58 0 (S.get 1) (fun r2 _=>XvLoad P 3 (M S.hp S.nx) r2 (fun r3 _=>XvBinOV P .lss 3 (.tmp 99) r1 r3 (fun r4 _=>K ⟨[(2,r4)],S.hp,S.nx,S.gh⟩))))) fun K hK=>?_
  repeat' (first|(refine hK _ ?_;clear hK K)|refine And.intro ?_ ?_|exact cl|(refine st ?_;try simp only[encM,zay,encC,zbb])|fail)
  all_goals
  refine Tri.ret ?_
  show ResOk _ _ _ _
  have hie:i=free.length:=by omega
  subst hie
  have hfin:=hki.fin hkl hin
  refine ResOk.val (aB ?_) rfl
  rw[Bool.eq_iff_iff,hb,hfin,decide_eq_true_eq]
  omega
end Go.Proofs.Ytehoglapajkabaa
