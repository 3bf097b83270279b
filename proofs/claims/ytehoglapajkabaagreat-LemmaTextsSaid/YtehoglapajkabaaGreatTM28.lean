/-
  Walks: strings.CutSuffix;rules of package lemma.
-/
import Derived.Test.YtehoglapajkabaaGreatTM0
import Derived.Test.YtehoglapajkabaaGreatTM10
set_option linter.all false
namespace Go.Proofs.YtehoglapajkabaaGreat
open Go Go.RowKit
set_option maxRecDepth 20000
set_option maxHeartbeats 1000000
def zh7 (s t:ByteArray):Bool:=decide (t.size≤s.size) && decide (s.extract (s.size - t.size) s.size=t)
theorem zhE (s t:ByteArray) (hs:s.size≤140737488355328) (ht:t.size≤140737488355328):Pure Tryz.prog 128 [encS s,encS t] (.atom (.bool (zh7 s t))) []:=by
  refine Pure.intro (ts:=[4]) Tryz.func128 (by kernel_rfl) rfl rfl rfl (Nat.le_of_ble_eq_true rfl) ?_ ?_
  · simp[zah,zag,encI,encS,PV.pure,zax]
  refine sY [0,1] (fun P S K=>K ⟨[(0,S.get 0),(1,S.get 1)],S.hp,S.nx,S.gh⟩) ?_
  all_goals
  refine sZ [4] (fun P S K=>XvLen P 9 (M S.hp S.nx) (S.get 0) (fun r1 _=>XvLen P 9 (M S.hp S.nx) (S.get 1) (fun r3 _=>XvBinOV P .geq 3 (.tmp 8) r1 r3 (fun r4 _=>Xgq r4 true (fun k=>k (S.get 0)) (fun g6 r6=>Xgq g6 true (fun k=>k (S.get 0)) (fun g7 r7=>Xgq g7 true (fun k=>XvLen P 9 (M S.hp S.nx) r7 (fun r8 _=>k r8)) (fun g8 r8=>Xgq g8 true (fun k=>k (S.get 1)) (fun g9 r9=>Xgq g9 true (fun k=>XvLen P 9 (M S.hp S.nx) r9 (fun r10 _=>k r10)) (fun g10 r10=>Xgq g10 true (fun k=>XvBinOV P .sub 3 (.tmp 15) r8 r10 (fun r11 _=>k r11)) (fun g11 r11=>Xgq g11 true (fun k=>XvSliceV P 9 r6 (some r11) none (fun r12 _=>k r12)) (fun g12 r12=>Xgq g12 true (fun k=>k (S.get 1)) (fun g13 r13=>Xgq g13 true (fun k=>XvBinOV P .eql 9 (.tmp 18) r12 r13 (fun r14 _=>k r14)) (fun g14 r14=>XvPick g14 r14 (.atom (.bool false)) (fun r15 _=>K ⟨[(4,r15)],S.hp,S.nx,S.gh⟩)))))))))))))) fun K hK=>?_
  repeat' (first|(refine hK _ ?_;clear hK K)|((first|refine zaw (fun hg=>?_) (fun hg=>?_)|refine fun(hg:(_:Prop))=>?_)<;>((try simp only[BQ] at hg);try (exfalso;omega)))|refine And.intro ?_ ?_|exact cl|(refine st ?_;try simp only[zae (x:=(s.size:Int) - t.size) (by omega) (by omega)])|fail)
  all_goals try simp (disch:=omega) only[zae,zaf]
  all_goals
  refine Tri.ret ?_
  show ResOk _ _ _ _
  refine ResOk.val (aB ?_) rfl
  unfold zh7
  first
    | rw[decide_eq_true (show t.size≤s.size by omega),show((s.size:Int) - t.size).toNat=s.size - t.size by omega,Bool.true_and]
    | rw[decide_eq_false (show ¬t.size≤s.size by omega),Bool.false_and]
def cutT (s t:ByteArray):ByteArray×Bool:=if zh7 s t then (s.extract 0 (s.size - t.size),true) else (s,false)
theorem ztk (s t:ByteArray) (hs:s.size≤140737488355328) (ht:t.size≤140737488355328):Pure Tryz.prog 111 [encS s,encS t] (.tup [encS (cutT s t).1,.atom (.bool (cutT s t).2)]) []:=by
  have hz:zh7 s t=true→t.size≤s.size:=fun h=>by
    unfold zh7 at h;rw[Bool.and_eq_true,decide_eq_true_eq] at h;exact h.1
  refine Pure.intro (ts:=[4,5]) Tryz.func111 (by kernel_rfl) rfl rfl rfl (Nat.le_of_ble_eq_true rfl) ?_ ?_
  · simp[zah,zag,encI,encS,PV.pure,zax]
  refine sY [0,1] (fun P S K=>K ⟨[(0,S.get 0),(1,S.get 1)],S.hp,S.nx,S.gh⟩) ?_
  all_goals
  refine Tri.seq ?_
  refine sZ [0,1,9] (fun P S K=>XvFnIV P (M S.hp S.nx) (.fn 128 []) [(S.get 0),(S.get 1)] (fun r2 ef2=>XvUn .not r2 (fun r3 _=>K ⟨[(0,S.get 0),(1,S.get 1),(9,r3)],(Eff.hp ef2 S.nx S.hp),(S.nx+ef2.add.length),S.gh⟩))) fun K hK=>?_
  repeat' (first|(refine hK _ ?_;clear hK K)|refine .inl ⟨_,_,zhE s t hs ht,?_⟩|refine st ?_|fail)
  all_goals try simp (disch:=omega) only[zae,zaf]
  all_goals
  refine Tri.cond rfl (fun h9=>?_) (fun h9=>?_)
  ·try (cases h9;done)
   all_goals (try simp only[CQ] at h9)
   all_goals
   refine sY [4,5] (fun P S K=>K ⟨[(4,(S.get 0)),(5,(.atom (.bool false)))],S.hp,S.nx,S.gh⟩) ?_
   all_goals
   refine Tri.ret ?_
   show ResOk _ _ _ _
   rw[show cutT s t=(s,false) from if_neg (by simp_all)]
   exact ResOk.val zce zb7
  try (cases h9;done)
  all_goals (try simp only[CQ] at h9)
  all_goals
  refine Tri.skip ?_
  have hz2:t.size≤s.size:=hz (by simp_all)
  refine sZ [4,5] (fun P S K=>XvLen P 9 (M S.hp S.nx) (S.get 0) (fun r2 _=>XvLen P 9 (M S.hp S.nx) (S.get 1) (fun r4 _=>XvBinOV P .sub 3 (.tmp 15) r2 r4 (fun r5 _=>XvSliceV P 9 (S.get 0) none (some r5) (fun r6 _=>K ⟨[(4,r6),(5,(.atom (.bool true)))],S.hp,S.nx,S.gh⟩))))) fun K hK=>?_
  repeat' (first|(refine hK _ ?_;clear hK K)|((first|refine zaw (fun hg=>?_) (fun hg=>?_)|refine fun(hg:(_:Prop))=>?_)<;>((try simp only[BQ] at hg);try (exfalso;omega)))|refine And.intro ?_ ?_|exact cl|(refine st ?_;try simp only[zae (x:=(s.size:Int) - t.size) (by omega) (by omega)])|fail)
  all_goals try simp (disch:=omega) only[zae,zaf]
  all_goals
  refine Tri.ret ?_
  show ResOk _ _ _ _
  rw[show cutT s t=(s.extract 0 ((s.size:Int) - t.size).toNat,true) by unfold cutT;rw[if_pos (by simp_all),show((s.size:Int) - t.size).toNat=s.size - t.size by omega]]
  exact ResOk.val zce zb7
theorem Cut_pure (s t:ByteArray) (hs:s.size≤140737488355328) (ht:t.size≤140737488355328):Pure Tryz.prog 92 [encS s,encS t] (.tup [encS (cutT s t).1,.atom (.bool (cutT s t).2)]) []:=by
  refine Pure.intro (ts:=[4,5]) Tryz.func92 (by kernel_rfl) rfl rfl rfl (Nat.le_of_ble_eq_true rfl) ?_ ?_
  · simp[zah,zag,encI,encS,PV.pure,zax]
  refine sY [0,1] (fun P S K=>K ⟨[(0,S.get 0),(1,S.get 1)],S.hp,S.nx,S.gh⟩) ?_
  all_goals
  refine sZ [4,5] (fun P S K=>XvFnIV P (M S.hp S.nx) (.fn 111 []) [(S.get 0),(S.get 1)] (fun r2 ef2=>XvExtract r2 0 (fun r3 _=>XvExtract r2 1 (fun r4 _=>K ⟨[(4,r3),(5,r4)],(Eff.hp ef2 S.nx S.hp),(S.nx+ef2.add.length),S.gh⟩)))) fun K hK=>?_
  repeat' (first|(refine hK _ ?_;clear hK K)|refine And.intro ?_ ?_|exact cl|refine .inl ⟨_,_,ztk s t hs ht,?_⟩|refine st ?_|fail)
  all_goals
  refine Tri.ret ?_
  show ResOk _ _ _ _
  exact ResOk.val zce zb7
def zez (r:RuleD) (w:ByteArray):ByteArray×Bool:=((cutT w r.suf).1++r.put,(cutT w r.suf).2 && decide (r.least≤(cutT w r.suf).1.size) && !decide ((cutT w r.suf).1++r.put=⟨#[]⟩))
theorem zsW (s t:ByteArray):(cutT s t).1.size≤s.size:=by
  unfold cutT;split
  · show(s.extract _ _).size≤_
    rw[ByteArray.size_extract];omega
  · exact Nat.le_refl _
theorem zl4 (r:RuleD) (w:ByteArray) (hr:HeldR r) (hw:w.size≤140737488355328):Pure Tryz.prog 72 [encR r,encS w] (.tup [encS (zez r w).1,.atom (.bool (zez r w).2)]) []:=by
  have hr2:=hr.put
  have hcs:=zsW w r.suf
  refine Pure.intro (ts:=[4,5]) Tryz.func72 (by kernel_rfl) rfl rfl rfl (Nat.le_of_ble_eq_true rfl) ?_ ?_
  · simp[encR,encS,encI,PV.pure,zax]
  refine sZ [1,2] (fun P S K=>XvBox S.nx (S.get 0) (fun r0 ef0=>K ⟨[(1,S.get 1),(2,r0)],(Eff.hp ef0 S.nx S.hp),(S.nx+ef0.add.length),S.gh⟩)) fun K hK=>?_
  repeat' (first|(refine hK _ ?_;clear hK K)|refine And.intro ?_ ?_|exact cl|(refine st ?_;try simp only[encR])|fail)
  all_goals
  refine sZ [2,6,7] (fun P S K=>XvFieldAddr P 90 0 (S.get 2) (fun r1 _=>XvLoad P 9 (M S.hp S.nx) r1 (fun r2 _=>XvFnIV P (M S.hp S.nx) (.fn 92 []) [(S.get 1),r2] (fun r3 ef3=>XvExtract r3 0 (fun r5 _=>XvExtract r3 1 (fun r6 _=>K ⟨[(2,S.get 2),(6,r5),(7,r6)],(Eff.hp ef3 S.nx S.hp),(S.nx+ef3.add.length),S.gh⟩)))))) fun K hK=>?_
  repeat' (first|(refine hK _ ?_;clear hK K)|refine And.intro ?_ ?_|refine .inl ⟨_,_,Cut_pure w r.suf hw hr.suf,?_⟩|(refine st ?_;try simp only[encR])|fail)
  all_goals
  refine sD 21 [4,5] (fun P GD S K=>XvFieldAddr P 90 1 (S.get 2) (fun r1 ef1=>XvLoad P 9 (M S.hp S.nx) r1 (fun r2 ef2=>XvBinOV P .add 9 (.tmp 17) (S.get 6) r2 (fun r3 ef3=>Xge (S.get 7) true (fun k=>k (S.get 6) e0) (fun g6 r6 ef6=>Xge g6 true (fun k=>XvLen P 9 (M S.hp S.nx) r6 k) (fun g7 r7 ef7=>Xge g7 true (fun k=>XvFieldAddr P 90 3 (S.get 2) k) (fun g8 r8 ef8=>Xge g8 true (fun k=>XvLoad P 3 (M S.hp S.nx) r8 k) (fun g9 r9 ef9=>Xge g9 true (fun k=>XvBinOV P .geq 3 (.tmp 24) r7 r9 k) (fun g10 r10 ef10=>XvPick g10 r10 (.atom (.bool false)) (fun r11 ef11=>Xge r11 true (fun k=>k (S.get 6) e0) (fun g13 r13 ef13=>Xge g13 true (fun k=>XvFieldAddr P 90 1 (S.get 2) k) (fun g14 r14 ef14=>Xge g14 true (fun k=>XvLoad P 9 (M S.hp S.nx) r14 k) (fun g15 r15 ef15=>Xge g15 true (fun k=>XvBinOV P .add 9 (.tmp 30) r13 r15 k) (fun g16 r16 ef16=>Xge g16 true (fun k=>XvBinOV P .neq 9 (.const (.string { data := #[] })) r16 (.atom (.string { data := #[] })) k) (fun g17 r17 ef17=>XvPick g17 r17 (.atom (.bool false)) (fun r18 ef18=>(trOk S.nx GD [⟨S.nx,0,[],[],[]⟩,⟨S.nx,0,ef1.rd,[],[]⟩,⟨S.nx,0,ef2.rd,[],[]⟩,⟨S.nx,0,ef3.rd,[],[]⟩,⟨S.nx,0,[],[],[]⟩,⟨S.nx,0,[],[],[]⟩,⟨S.nx,0,ef6.rd,[],[]⟩,⟨S.nx,0,ef7.rd,[],[]⟩,⟨S.nx,0,ef8.rd,[],[]⟩,⟨S.nx,0,ef9.rd,[],[]⟩,⟨S.nx,0,ef10.rd,[],[]⟩,⟨S.nx,0,ef11.rd,[],[]⟩,⟨S.nx,0,[],[],[]⟩,⟨S.nx,0,ef13.rd,[],[]⟩,⟨S.nx,0,ef14.rd,[],[]⟩,⟨S.nx,0,ef15.rd,[],[]⟩,⟨S.nx,0,ef16.rd,[],[]⟩,⟨S.nx,0,ef17.rd,[],[]⟩,⟨S.nx,0,ef18.rd,[],[]⟩,⟨S.nx,0,[],[],[]⟩,⟨S.nx,0,[],[],[]⟩]=true∧K ⟨[(4,r3),(5,r18)],S.hp,S.nx,S.gh⟩))))))))))))))))) fun K hK=>?_
  repeat' (first|(refine hK _ ?_;clear hK K)|(refine(?_:trOk _ _ _=true);kernel_rfl)|((first|refine zaw (fun hg=>?_) (fun hg=>?_)|refine fun(hg:(_:Prop))=>?_)<;>((try simp only[BQ] at hg);try (exfalso;omega)))|refine And.intro ?_ ?_|exact cl|(refine st ?_;try simp only[encR])|fail)
  all_goals try simp (disch:=omega) only[zae,zaf]
  all_goals
  refine Tri.ret ?_
  show ResOk _ _ _ _
  refine ResOk.val ?_ rfl
  unfold zez
  simp_all[retV,St.get,lk,encS]<;>omega
theorem zl2 (s:ByteArray) (hs:s.size≤9223372036854775807):Pure Tryz.prog 71 [encS s] (.atom (.bool (!zbp s))) []:=by
  refine Pure.intro (ts:=[2]) Tryz.func71 (by kernel_rfl) rfl rfl rfl (Nat.le_of_ble_eq_true rfl) ?_ ?_
  · simp[zah,zag,encI,encS,PV.pure,zax]
  refine sY [0] (fun P S K=>K ⟨[(0,S.get 0)],S.hp,S.nx,S.gh⟩) ?_
  all_goals
  refine sZ [2] (fun P S K=>XvFnIV P (M S.hp S.nx) (.fn 42 []) [(S.get 0),(.atom (.int .i64 1)),(.atom (.int .i64 4096))] (fun r1 ef1=>XvUn .not r1 (fun r2 _=>K ⟨[(2,r2)],(Eff.hp ef1 S.nx S.hp),(S.nx+ef1.add.length),S.gh⟩))) fun K hK=>?_
  repeat' (first|(refine hK _ ?_;clear hK K)|refine .inl ⟨_,_,zb9 s 1 4096 hs,?_⟩|refine st ?_|fail)
  all_goals try simp (disch:=omega) only[zae,zaf]
  all_goals
  refine Tri.ret ?_
  show ResOk _ _ _ _
  exact ResOk.val zce zb7
def idxF (g:ByteArray→Bool) (l:List ByteArray):Int:=match l.findIdx? g with|some k=>k|none => -1
theorem zst{g:ByteArray→Bool}{l:List ByteArray}(h:∀j,j<l.length→g (ls l j)=false):idxF g l = -1:=by
  unfold idxF
  rw[List.findIdx?_eq_none_iff.2 fun x hx=>by
    obtain⟨j,hj,rfl⟩:=List.getElem_of_mem hx
    have:=h j hj
    rwa [show ls l j=l[j] by simp[ls,List.getD_eq_getElem?_getD,hj]] at this]
theorem idxF_at{g:ByteArray→Bool}{l:List ByteArray}{k:Nat}(hk:k<l.length) (h:∀j,j<k→g (ls l j)=false) (hg:g (ls l k)=true):idxF g l=k:=by
  unfold idxF
  have e:∀j (hj:j<l.length),ls l j=l[j]:=fun j hj=>by simp[ls,List.getD_eq_getElem?_getD,hj]
  rw[List.findIdx?_eq_some_iff_getElem.2 ⟨hk,by rw[←e k hk];exact hg,fun j hj=>by rw[←e j (by omega),h j hj];decide⟩]
theorem idxF_any (g:ByteArray→Bool) (l:List ByteArray):decide (0≤idxF g l)=l.any g:=by
  unfold idxF
  cases h:l.findIdx? g with
  | none=>
    rw[List.findIdx?_eq_none_iff] at h
    rw[decide_eq_false (by decide)]
    exact(List.any_eq_false.2 fun x hx=>by rw[h x hx];decide).symm
  | some k=>
    obtain⟨hk,hg,_⟩:=List.findIdx?_eq_some_iff_getElem.1 h
    have h0:(0:Int)≤(k:Int):=by omega
    refine(decide_eq_true h0).trans ?_
    exact(List.any_eq_true.2 ⟨_,List.getElem_mem hk,hg⟩).symm
theorem zmD (l:List ByteArray) (g:ByteArray→Bool) (f:FuncId) (hg:∀s,s∈l→Pure Tryz.prog f [encS s] (.atom (.bool (g s))) []) (hl:l.length≤1000000000):Pure Tryz.prog 91 [strs l,.fn f []] (encI (idxF g l)) []:=by
  refine Pure.intro (ts:=[4]) Tryz.func91 (by kernel_rfl) rfl rfl rfl (Nat.le_of_ble_eq_true rfl) ?_ ?_
  · simp[zah,zag,encI,encS,PV.pure,zax]
  refine sY [0,1] (fun P S K=>K ⟨[(0,S.get 0),(1,S.get 1)],S.hp,S.nx,S.gh⟩) ?_
  all_goals
  refine Tri.seq ?_
  refine sY [0,1,7,8] (fun P S K=>XvLen P 37 (M S.hp S.nx) (S.get 0) (fun r1 _=>K ⟨[(0,S.get 0),(1,S.get 1),(7,r1),(8,(.atom (.int .i64 0)))],S.hp,S.nx,S.gh⟩)) ?_
  all_goals
  refine Tri.block ?_
  refine Tri.loop (α:=(i:Nat) ×' (i≤l.length∧∀j,j<i→g (ls l j)=false)) (fun z=>(fun(i:Nat)=>(⟨[(0,strs l),(1,.fn f []),(7,encI l.length),(8,encI i)],[],0,[]⟩:St)) z.1) (fun z=>(fun(i:Nat)=>l.length - i) z.1) ⟨0,⟨Nat.zero_le _,fun j hj=>absurd hj (Nat.not_lt_zero _)⟩⟩ [] ?_ ?_
  ·exact zbh
  rintro⟨i,⟨hi,hno⟩⟩
  refine sY [0,1,7,8,9] (fun P S K=>XvBinOV P .lss 3 (.tmp 7) (S.get 8) (S.get 7) (fun r0 _=>K ⟨[(0,S.get 0),(1,S.get 1),(7,S.get 7),(8,S.get 8),(9,r0)],S.hp,S.nx,S.gh⟩)) ?_
  all_goals
  refine Tri.seq ?_
  refine Tri.cond rfl (fun h9=>?_) (fun h9=>?_)
  ·try (cases h9;done)
   all_goals (try simp only[CQ] at h9)
   all_goals
   refine Tri.skip ?_
   refine Tri.seq ?_
   refine Tri.block ?_
   have hil:i<l.length:=by omega
   refine sY [0,1,5,7,8] (fun P S K=>K ⟨[(0,S.get 0),(1,S.get 1),(5,(S.get 8)),(7,S.get 7),(8,S.get 8)],S.hp,S.nx,S.gh⟩) ?_
   all_goals
   refine sZ [0,1,5,7,8,16] (fun P S K=>XvIndexAddr P 37 (S.get 0) (S.get 5) (fun r3 _=>XvLoad P 9 (M S.hp S.nx) r3 (fun r4 _=>XvFnIV P (M S.hp S.nx) (S.get 1) [r4] (fun r5 ef5=>K ⟨[(0,S.get 0),(1,S.get 1),(5,S.get 5),(7,S.get 7),(8,S.get 8),(16,r5)],(Eff.hp ef5 S.nx S.hp),(S.nx+ef5.add.length),S.gh⟩)))) fun K hK=>?_
   repeat' (first|(refine hK _ ?_;clear hK K)|refine And.intro ?_ ?_|exact cl|refine .inl ⟨_,_,hg _ (zf3 hil),?_⟩|(refine st ?_;try simp only[zbn hil])|fail)
   all_goals
   refine Tri.cond rfl (fun h16=>?_) (fun h16=>?_)
   ·try (cases h16;done)
    all_goals (try simp only[CQ] at h16)
    all_goals
    refine sY [4] (fun P S K=>K ⟨[(4,(S.get 5))],S.hp,S.nx,S.gh⟩) ?_
    all_goals
    refine Tri.ret ?_
    show ResOk _ _ _ _
    rw[idxF_at hil hno (by assumption)]
    exact ResOk.val zce zb7
   try (cases h16;done)
   all_goals (try simp only[CQ] at h16)
   all_goals
   refine Tri.skip ?_
   refine rY [0,1,7,8] (fun P S K=>XvBinOV P .add 3 (.const (.int .i64 1)) (S.get 8) (.atom (.int .i64 1)) (fun r0 _=>K ⟨[(0,S.get 0),(1,S.get 1),(7,S.get 7),(8,r0)],S.hp,S.nx,S.gh⟩)) ?_
   all_goals try simp (disch:=omega) only[zae,zaf]
   all_goals
   refine⟨⟨i+1,by omega,fun j hj=>?_⟩,[],by dsimp only;omega,?_⟩
   · rcases Nat.lt_succ_iff_lt_or_eq.1 hj with hj|rfl
     · exact hno j hj
     · assumption
   · exact zbh
  try (cases h9;done)
  all_goals (try simp only[CQ] at h9)
  all_goals
  refine Tri.exit ?_
  refine sY [4] (fun P S K=>K ⟨[(4,(.atom (.int .i64 (-1))))],S.hp,S.nx,S.gh⟩) ?_
  all_goals
  refine Tri.ret ?_
  show ResOk _ _ _ _
  rw[zst fun j hj=>hno j (by omega)]
  exact ResOk.val zce zb7
theorem zti (l:List ByteArray) (g:ByteArray→Bool) (f:FuncId) (hg:∀s,s∈l→Pure Tryz.prog f [encS s] (.atom (.bool (g s))) []) (hl:l.length≤1000000000):Pure Tryz.prog 70 [strs l,.fn f []] (.atom (.bool (l.any g))) []:=by
  refine Pure.intro (ts:=[4]) Tryz.func70 (by kernel_rfl) rfl rfl rfl (Nat.le_of_ble_eq_true rfl) ?_ ?_
  · simp[zah,zag,encI,encS,PV.pure,zax]
  refine sY [0,1] (fun P S K=>K ⟨[(0,S.get 0),(1,S.get 1)],S.hp,S.nx,S.gh⟩) ?_
  all_goals
  refine sZ [4] (fun P S K=>XvFnIV P (M S.hp S.nx) (.fn 91 []) [(S.get 0),(S.get 1)] (fun r2 ef2=>XvBinOV P .geq 3 (.const (.int .i64 0)) r2 (.atom (.int .i64 0)) (fun r3 _=>K ⟨[(4,r3)],(Eff.hp ef2 S.nx S.hp),(S.nx+ef2.add.length),S.gh⟩))) fun K hK=>?_
  repeat' (first|(refine hK _ ?_;clear hK K)|refine .inl ⟨_,_,zmD l g f hg hl,?_⟩|refine st ?_|fail)
  all_goals
  refine Tri.ret ?_
  show ResOk _ _ _ _
  rw[←idxF_any]
  exact ResOk.val zce zb7
theorem zfL (l:List ByteArray) (hl:l.length≤1000000000) (hs:∀s,s∈l→s.size≤9223372036854775807):Pure Tryz.prog 44 [strs l] (.atom (.bool (l.all zbp))) []:=by
  refine Pure.intro (ts:=[2]) Tryz.func44 (by kernel_rfl) rfl rfl rfl (Nat.le_of_ble_eq_true rfl) ?_ ?_
  · simp[zah,zag,encI,encS,PV.pure,zax]
  refine sY [0] (fun P S K=>K ⟨[(0,S.get 0)],S.hp,S.nx,S.gh⟩) ?_
  all_goals
  refine sZ [2] (fun P S K=>XvFnIV P (M S.hp S.nx) (.fn 70 []) [(S.get 0),(.fn 71 [])] (fun r1 ef1=>XvUn .not r1 (fun r2 _=>K ⟨[(2,r2)],(Eff.hp ef1 S.nx S.hp),(S.nx+ef1.add.length),S.gh⟩))) fun K hK=>?_
  repeat' (first|(refine hK _ ?_;clear hK K)|refine .inl ⟨_,_,zti l (fun s => !zbp s) _ (fun s hm=>zl2 s (hs s hm)) hl,?_⟩|refine st ?_|fail)
  all_goals try simp (disch:=omega) only[zae,zaf]
  all_goals
  refine Tri.ret ?_
  show ResOk _ _ _ _
  refine ResOk.val (aB ?_) rfl
  rw[List.all_eq_not_any_not]
def orI:List Int→Int
  | []=>0
  | a :: l=>if a≠0 then a else orI l
theorem orI_none{l:List Int}(h:∀j,j<l.length→li l j=0):orI l=0:=by
  induction l with
  | nil=>rfl
  | cons a l ih=>
    have h0:=h 0 (by simp)
    rw[orI,if_neg (by simpa[li] using h0)]
    exact ih fun j hj=>by have:=h (j+1) (by simp;omega);simpa[li] using this
theorem orI_at{l:List Int}{k:Nat}(hk:k<l.length) (h:∀j,j<k→li l j=0) (hg:¬li l k=0):orI l=li l k:=by
  induction l generalizing k with
  | nil=>simp at hk
  | cons a l ih=>
    cases k with
    | zero=>rw[orI,if_pos (by simpa[li] using hg)];simp[li]
    | succ k=>
      have h0:=h 0 (by omega)
      rw[orI,if_neg (by simpa[li] using h0),ih (k:=k) (by simpa using hk) (fun j hj=>by have:=h (j+1) (by omega);simpa[li] using this) (by simpa[li] using hg)]
      simp[li]
theorem OrI_pure (l:List Int) (hl:l.length≤1000000):Pure Tryz.prog 94 [ints l] (encI (orI l)) []:=by
  refine Pure.intro (ts:=[2]) Tryz.func94 (by kernel_rfl) rfl rfl rfl (Nat.le_of_ble_eq_true rfl) ?_ ?_
  · simp[zah,zag,encI,encS,PV.pure,zax]
  refine sY [0] (fun P S K=>K ⟨[(0,S.get 0)],S.hp,S.nx,S.gh⟩) ?_
  all_goals
  refine sY [0,3] (fun P S K=>K ⟨[(0,S.get 0),(3,(.atom (.int .i64 0)))],S.hp,S.nx,S.gh⟩) ?_
  all_goals
  refine Tri.seq ?_
  refine sY [3,6,7,8] (fun P S K=>XvLen P 22 (M S.hp S.nx) (S.get 0) (fun r1 _=>K ⟨[(3,S.get 3),(6,(S.get 0)),(7,r1),(8,(.atom (.int .i64 0)))],S.hp,S.nx,S.gh⟩)) ?_
  all_goals
  refine Tri.block ?_
  refine Tri.loop (α:=(i:Nat) ×' (i≤l.length∧∀j,j<i→li l j=0)) (fun z=>(fun(i:Nat)=>(⟨[(3,encI 0),(6,ints l),(7,encI l.length),(8,encI i)],[],0,[]⟩:St)) z.1) (fun z=>(fun(i:Nat)=>l.length - i) z.1) ⟨0,⟨Nat.zero_le _,fun j hj=>absurd hj (Nat.not_lt_zero _)⟩⟩ [] ?_ ?_
  ·exact zbh
  rintro⟨i,⟨hi,ha⟩⟩
  refine sY [3,6,7,8,9] (fun P S K=>XvBinOV P .lss 3 (.tmp 7) (S.get 8) (S.get 7) (fun r0 _=>K ⟨[(3,S.get 3),(6,S.get 6),(7,S.get 7),(8,S.get 8),(9,r0)],S.hp,S.nx,S.gh⟩)) ?_
  all_goals
  refine Tri.seq ?_
  refine Tri.cond rfl (fun h9=>?_) (fun h9=>?_)
  ·try (cases h9;done)
   all_goals (try simp only[CQ] at h9)
   all_goals
   refine Tri.skip ?_
   refine Tri.seq ?_
   refine Tri.block ?_
   have hil:i<l.length:=by omega
   refine sZ [3,5,6,7,8] (fun P S K=>XvIndexAddr P 22 (S.get 6) (S.get 8) (fun r0 _=>XvLoad P 3 (M S.hp S.nx) r0 (fun r1 _=>K ⟨[(3,S.get 3),(5,r1),(6,S.get 6),(7,S.get 7),(8,S.get 8)],S.hp,S.nx,S.gh⟩))) fun K hK=>?_
   repeat' (first|(refine hK _ ?_;clear hK K)|refine And.intro ?_ ?_|exact cl|(refine st ?_;try simp only[zba hil])|fail)
   all_goals
   refine sY [3,5,6,7,8,14] (fun P S K=>XvBinOV P .neq 3 (.tmp 13) (S.get 5) (S.get 3) (fun r2 _=>K ⟨[(3,S.get 3),(5,S.get 5),(6,S.get 6),(7,S.get 7),(8,S.get 8),(14,r2)],S.hp,S.nx,S.gh⟩)) ?_
   all_goals
   refine Tri.cond rfl (fun h14=>?_) (fun h14=>?_)
   ·try (cases h14;done)
    all_goals (try simp only[CQ] at h14)
    all_goals
    refine sY [2] (fun P S K=>K ⟨[(2,(S.get 5))],S.hp,S.nx,S.gh⟩) ?_
    all_goals
    refine Tri.ret ?_
    show ResOk _ _ _ _
    rw[orI_at hil ha (by assumption)]
    exact ResOk.val zce zb7
   try (cases h14;done)
   all_goals (try simp only[CQ] at h14)
   all_goals
   refine Tri.skip ?_
   refine rY [3,6,7,8] (fun P S K=>XvBinOV P .add 3 (.const (.int .i64 1)) (S.get 8) (.atom (.int .i64 1)) (fun r0 _=>K ⟨[(3,S.get 3),(6,S.get 6),(7,S.get 7),(8,r0)],S.hp,S.nx,S.gh⟩)) ?_
   all_goals try simp (disch:=omega) only[zae,zaf]
   all_goals
   refine⟨⟨i+1,by omega,fun j hj=>?_⟩,[],by dsimp only;omega,?_⟩
   · rcases Nat.lt_succ_iff_lt_or_eq.1 hj with hj|rfl
     · exact ha j hj
     · omega
   · exact zbh
  try (cases h9;done)
  all_goals (try simp only[CQ] at h9)
  all_goals
  refine Tri.exit ?_
  refine sY [2] (fun P S K=>K ⟨[(2,(S.get 3))],S.hp,S.nx,S.gh⟩) ?_
  all_goals
  refine Tri.ret ?_
  show ResOk _ _ _ _
  rw[orI_none fun j hj=>ha j (by omega)]
  exact ResOk.val zce zb7
theorem zgc:∀(x y:List UInt8),Op.bytesLess x y=decide (x<y)
  | [],[]=>by simp[Op.bytesLess]
  | _ :: _,[]=>by simp[Op.bytesLess]
  | [],_ :: _=>by simp[Op.bytesLess]
  | a :: x,b :: y=>by
    rw[Op.bytesLess,zgc x y]
    simp only[List.cons_lt_cons_iff]
    by_cases h1:a<b
    · simp[h1]
    · by_cases h2:a=b
      · subst h2;simp
      · simp[h1,h2]
theorem zrN (a b:ByteArray):sLt a b=decide (a.data.toList<b.data.toList):=by
  unfold sLt
  rw[zgc,ByteArray.toList_eq,ByteArray.toList_eq]
theorem zdB (a:ByteArray):sLt a a=false:=by rw[zrN];exact decide_eq_false (List.lt_irrefl _)
theorem zjP{a b c:ByteArray}(h:sLt a b=true) (k:sLt b c=true):sLt a c=true:=by
  rw[zrN,decide_eq_true_eq] at *;exact List.lt_trans h k
theorem zfb{a b:ByteArray}(h:sLt a b=false) (h2:¬a=b):sLt b a=true:=by
  rw[zrN] at *
  rw[decide_eq_false_iff_not] at h
  rw[decide_eq_true_eq]
  rcases List.le_total a.data.toList b.data.toList with g|g
  · apply Classical.byContradiction
    intro g2
    exact h2 (ByteArray.ext (Array.ext' (List.le_antisymm g (List.not_lt.1 h))))
  · apply Classical.byContradiction
    intro g2
    exact h2 (ByteArray.ext (Array.ext' (List.le_antisymm (List.not_lt.1 g2) g)))
def cmpS (a b:ByteArray):Int:=if sLt a b=true then -1 else if sLt b a=true then 1 else 0
theorem zeI (x:ByteArray):Pure Tryz.prog 120 [encS x] (.atom (.bool false)) []:=by
  refine Pure.intro (ts:=[2]) Tryz.func120 (by kernel_rfl) rfl rfl rfl (Nat.le_of_ble_eq_true rfl) ?_ ?_
  · simp[zah,zag,encI,encS,PV.pure,zax]
  refine sY [0] (fun P S K=>K ⟨[(0,S.get 0)],S.hp,S.nx,S.gh⟩) ?_
  all_goals
  refine sY [2] (fun P S K=>XvBinOV P .neq 9 (.tmp 4) (S.get 0) (S.get 0) (fun r2 _=>K ⟨[(2,r2)],S.hp,S.nx,S.gh⟩)) ?_
  all_goals
  refine Tri.ret ?_
  show ResOk _ _ _ _
  refine ResOk.val (aB ?_) rfl
  simp
theorem zk2 (a b:ByteArray):Pure Tryz.prog 95 [encS a,encS b] (encI (cmpS a b)) []:=by
  refine Pure.intro (ts:=[4]) Tryz.func95 (by kernel_rfl) rfl rfl rfl (Nat.le_of_ble_eq_true rfl) ?_ ?_
  · simp[zah,zag,encI,encS,PV.pure,zax]
  refine sY [0,1] (fun P S K=>K ⟨[(0,S.get 0),(1,S.get 1)],S.hp,S.nx,S.gh⟩) ?_
  all_goals
  refine sZ [0,1,5] (fun P S K=>XvFnIV P (M S.hp S.nx) (.fn 120 []) [(S.get 0)] (fun r1 ef1=>K ⟨[(0,S.get 0),(1,S.get 1),(5,r1)],(Eff.hp ef1 S.nx S.hp),(S.nx+ef1.add.length),S.gh⟩)) fun K hK=>?_
  repeat' (first|(refine hK _ ?_;clear hK K)|refine .inl ⟨_,_,zeI a,?_⟩|refine .inl ⟨_,_,zeI b,?_⟩|refine st ?_|fail)
  all_goals
  refine sZ [0,1,5,6] (fun P S K=>XvFnIV P (M S.hp S.nx) (.fn 120 []) [(S.get 1)] (fun r1 ef1=>K ⟨[(0,S.get 0),(1,S.get 1),(5,S.get 5),(6,r1)],(Eff.hp ef1 S.nx S.hp),(S.nx+ef1.add.length),S.gh⟩)) fun K hK=>?_
  repeat' (first|(refine hK _ ?_;clear hK K)|refine .inl ⟨_,_,zeI a,?_⟩|refine .inl ⟨_,_,zeI b,?_⟩|refine st ?_|fail)
  all_goals
  refine Tri.seq ?_
  refine sY [0,1,6,11] (fun P S K=>K ⟨[(0,S.get 0),(1,S.get 1),(6,S.get 6),(11,(S.get 5))],S.hp,S.nx,S.gh⟩) ?_
  all_goals
  refine Tri.cond rfl (fun h11=>?_) (fun h11=>?_)
  ·try (cases h11;done)
   all_goals (try simp only[CQ] at h11)
   all_goals
   refine Tri.seq ?_
   refine sY [12] (fun P S K=>K ⟨[(12,(S.get 6))],S.hp,S.nx,S.gh⟩) ?_
   all_goals
   refine Tri.cond rfl (fun h12=>?_) (fun h12=>?_)
   ·try (cases h12;done)
    all_goals (try simp only[CQ] at h12)
    all_goals
    refine sY [4] (fun P S K=>K ⟨[(4,(.atom (.int .i64 0)))],S.hp,S.nx,S.gh⟩) ?_
    all_goals
    refine Tri.ret ?_
    show ResOk _ _ _ _
    done
   try (cases h12;done)
   all_goals (try simp only[CQ] at h12)
   all_goals
   refine Tri.skip ?_
   refine sY [4] (fun P S K=>K ⟨[(4,(.atom (.int .i64 (-1))))],S.hp,S.nx,S.gh⟩) ?_
   all_goals
   refine Tri.ret ?_
   show ResOk _ _ _ _
   done
  try (cases h11;done)
  all_goals (try simp only[CQ] at h11)
  all_goals
  refine Tri.skip ?_
  refine Tri.seq ?_
  refine sY [0,1,13] (fun P S K=>K ⟨[(0,S.get 0),(1,S.get 1),(13,(S.get 6))],S.hp,S.nx,S.gh⟩) ?_
  all_goals
  refine Tri.cond rfl (fun h13=>?_) (fun h13=>?_)
  ·try (cases h13;done)
   all_goals (try simp only[CQ] at h13)
   all_goals
   refine sY [4] (fun P S K=>K ⟨[(4,(.atom (.int .i64 1)))],S.hp,S.nx,S.gh⟩) ?_
   all_goals
   refine Tri.ret ?_
   show ResOk _ _ _ _
   done
  try (cases h13;done)
  all_goals (try simp only[CQ] at h13)
  all_goals
  refine Tri.skip ?_
  refine Tri.seq ?_
  refine sY [0,1,16] (fun P S K=>XvBinOV P .lss 9 (.tmp 15) (S.get 0) (S.get 1) (fun r2 _=>K ⟨[(0,S.get 0),(1,S.get 1),(16,r2)],S.hp,S.nx,S.gh⟩)) ?_
  all_goals
  refine Tri.cond rfl (fun h16=>?_) (fun h16=>?_)
  ·try (cases h16;done)
   all_goals (try simp only[CQ] at h16)
   all_goals
   refine sY [4] (fun P S K=>K ⟨[(4,(.atom (.int .i64 (-1))))],S.hp,S.nx,S.gh⟩) ?_
   all_goals
   refine Tri.ret ?_
   show ResOk _ _ _ _
   rw[show cmpS a b = -1 from if_pos (by assumption)]
   exact ResOk.val zce zb7
  try (cases h16;done)
  all_goals (try simp only[CQ] at h16)
  all_goals
  refine Tri.skip ?_
  refine Tri.seq ?_
  refine sY [19] (fun P S K=>XvBinOV P .gtr 9 (.tmp 18) (S.get 0) (S.get 1) (fun r2 _=>K ⟨[(19,r2)],S.hp,S.nx,S.gh⟩)) ?_
  all_goals
  refine Tri.cond rfl (fun h19=>?_) (fun h19=>?_)
  ·try (cases h19;done)
   all_goals (try simp only[CQ] at h19)
   all_goals
   refine sY [4] (fun P S K=>K ⟨[(4,(.atom (.int .i64 1)))],S.hp,S.nx,S.gh⟩) ?_
   all_goals
   refine Tri.ret ?_
   show ResOk _ _ _ _
   have h0:sLt a b=false:=by assumption
   rw[show cmpS a b=1 by unfold cmpS;rw[if_neg (by rw[h0];decide),if_pos (zfb h0 (by simp_all))]]
   exact ResOk.val zce zb7
  try (cases h19;done)
  all_goals (try simp only[CQ] at h19)
  all_goals
  refine Tri.skip ?_
  refine sY [4] (fun P S K=>K ⟨[(4,(.atom (.int .i64 0)))],S.hp,S.nx,S.gh⟩) ?_
  all_goals
  refine Tri.ret ?_
  show ResOk _ _ _ _
  have h0:sLt a b=false:=by assumption
  have e:a=b:=by
    apply Classical.byContradiction
    intro hne
    have h0':Op.bytesLess a.toList b.toList=false:=h0
    simp_all
  subst e
  rw[show cmpS a a=0 by unfold cmpS;rw[if_neg (by rw[h0];decide),if_neg (by rw[h0];decide)]]
  exact ResOk.val zce zb7
def cmpF (f g:FormD):Int:=orI [cmpS f.lem g.lem,cmpS f.cls g.cls]
theorem zpB (f g:FormD):Pure Tryz.prog 74 [encF f,encF g] (encI (cmpF f g)) []:=by
  refine Pure.intro (ts:=[4]) Tryz.func74 (by kernel_rfl) rfl rfl rfl (Nat.le_of_ble_eq_true rfl) ?_ ?_
  · simp[encF,encS,PV.pure,zax]
  refine sZ [2,3] (fun P S K=>XvBox S.nx (S.get 0) (fun r0 ef0=>XvBox (S.nx+ef0.add.length) (S.get 1) (fun r1 ef1=>K ⟨[(2,r0),(3,r1)],(Eff.hp ef1 (S.nx+ef0.add.length) (Eff.hp ef0 S.nx S.hp)),((S.nx+ef0.add.length)+ef1.add.length),S.gh⟩))) fun K hK=>?_
  repeat' (first|(refine hK _ ?_;clear hK K)|refine And.intro ?_ ?_|exact cl|(refine st ?_;try simp only[encF])|fail)
  all_goals
  refine sD 13 [4] (fun P GD S K=>XvFieldAddr P 73 1 (S.get 2) (fun r0 ef0=>XvLoad P 9 (M S.hp S.nx) r0 (fun r1 ef1=>XvFieldAddr P 73 1 (S.get 3) (fun r2 ef2=>XvLoad P 9 (M S.hp S.nx) r2 (fun r3 ef3=>XvFnDV P (M S.hp S.nx) (.fn 95 []) [r1,r3] (fun r4 ef4=>XvFieldAddr P 73 2 (S.get 2) (fun r5 ef5=>XvLoad P 9 (M (Eff.hp ef4 S.nx S.hp) (S.nx+ef4.add.length)) r5 (fun r6 ef6=>XvFieldAddr P 73 2 (S.get 3) (fun r7 ef7=>XvLoad P 9 (M (Eff.hp ef4 S.nx S.hp) (S.nx+ef4.add.length)) r7 (fun r8 ef8=>XvFnDV P (M (Eff.hp ef4 S.nx S.hp) (S.nx+ef4.add.length)) (.fn 95 []) [r6,r8] (fun r9 ef9=>XvBuildS P 22 2 ((S.nx+ef4.add.length)+ef9.add.length) [(0,r4),(1,r9)] (fun r10 ef10=>XvFnDV P (M (Eff.hp ef10 ((S.nx+ef4.add.length)+ef9.add.length) (Eff.hp ef9 (S.nx+ef4.add.length) (Eff.hp ef4 S.nx S.hp))) (((S.nx+ef4.add.length)+ef9.add.length)+ef10.add.length)) (.fn 94 []) [r10] (fun r11 ef11=>(trOk S.nx GD [⟨S.nx,0,ef0.rd,[],[]⟩,⟨S.nx,0,ef1.rd,[],[]⟩,⟨S.nx,0,ef2.rd,[],[]⟩,⟨S.nx,0,ef3.rd,[],[]⟩,(Eff.tr ef4 S.nx),⟨(S.nx+ef4.add.length),0,ef5.rd,[],[]⟩,⟨(S.nx+ef4.add.length),0,ef6.rd,[],[]⟩,⟨(S.nx+ef4.add.length),0,ef7.rd,[],[]⟩,⟨(S.nx+ef4.add.length),0,ef8.rd,[],[]⟩,(Eff.tr ef9 (S.nx+ef4.add.length)),(Eff.tr ef10 ((S.nx+ef4.add.length)+ef9.add.length)),(Eff.tr ef11 (((S.nx+ef4.add.length)+ef9.add.length)+ef10.add.length)),⟨((((S.nx+ef4.add.length)+ef9.add.length)+ef10.add.length)+ef11.add.length),0,[],[],[]⟩]=true∧K ⟨[(4,r11)],(Eff.hp ef11 (((S.nx+ef4.add.length)+ef9.add.length)+ef10.add.length) (Eff.hp ef10 ((S.nx+ef4.add.length)+ef9.add.length) (Eff.hp ef9 (S.nx+ef4.add.length) (Eff.hp ef4 S.nx S.hp)))),((((S.nx+ef4.add.length)+ef9.add.length)+ef10.add.length)+ef11.add.length),S.gh⟩)))))))))))))) fun K hK=>?_
  repeat' (first|(refine hK _ ?_;clear hK K)|(refine(?_:trOk _ _ _=true);kernel_rfl)|refine And.intro ?_ ?_|exact cl|refine .inl ⟨_,_,zk2 f.lem g.lem,?_⟩|refine .inl ⟨_,_,zk2 f.cls g.cls,?_⟩|refine .inl ⟨_,_,OrI_pure [cmpS f.lem g.lem,cmpS f.cls g.cls] (Nat.le_of_ble_eq_true rfl),?_⟩|(refine st ?_;try simp only[encF])|fail)
  all_goals
  refine Tri.ret ?_
  show ResOk _ _ _ _
  exact ResOk.val zce zb7
def nilV:PV:=.atom (.slice none 0 0)
theorem lex_eta{x:LexD}{o:List FormD}{p:List RuleD}{q:List PrefD}{i j k:Nat}(ho:o=x.forms.take i) (hi:x.forms.length≤i) (hp:p=x.rules.take j) (hj:x.rules.length≤j) (hq:q=x.prefs.take k) (hk:x.prefs.length≤k):x=⟨o,p,q⟩:=by
  rw[ho,hp,hq,List.take_of_length_le hi,List.take_of_length_le hj,List.take_of_length_le hk]
theorem own_pure (x:LexD) (hx:HeldX x):Pure Tryz.prog 14 [encX x] (encX x) []:=by
  have hnf:=hx.nforms
  have hnr:=hx.nrules
  have hnp:=hx.nprefs
  refine Pure.introR (rv:=[.cell 2 27]) Tryz.func14 (by kernel_rfl) rfl rfl rfl (Nat.le_of_ble_eq_true rfl) ?_ ?_
  · simp[zaQ]
  refine sZ [1,2] (fun P S K=>XvBox S.nx (S.get 0) (fun r0 ef0=>XvAlloc P 27 (S.nx+ef0.add.length) (fun r1 ef1=>K ⟨[(1,r0),(2,r1)],(Eff.hp ef1 (S.nx+ef0.add.length) (Eff.hp ef0 S.nx S.hp)),((S.nx+ef0.add.length)+ef1.add.length),S.gh⟩))) fun K hK=>?_
  repeat' (first|(refine hK _ ?_;clear hK K)|refine And.intro ?_ ?_|exact cl|(refine st ?_;try simp only[encX,zaa,zac,zad,encF,encR,encA])|refine sx ?_ (by simp only[encX,zaa,zac,zad,encF,encR,encA];exact rfl)|fail)
  all_goals
  refine sZ [1,2,3] (fun P S K=>XvAlloc P 27 S.nx (fun r0 ef0=>K ⟨[(1,S.get 1),(2,S.get 2),(3,r0)],(Eff.hp ef0 S.nx S.hp),(S.nx+ef0.add.length),S.gh⟩)) fun K hK=>?_
  repeat' (first|(refine hK _ ?_;clear hK K)|refine And.intro ?_ ?_|exact cl|(refine st ?_;try simp only[encX,zaa,zac,zad,encF,encR,encA])|refine sx ?_ (by simp only[encX,zaa,zac,zad,encF,encR,encA];exact rfl)|fail)
  refine Tri.bornF 2 0 3 3 [nilV,nilV,nilV] rfl rfl ?_
  refine Tri.bornF 2 1 4 3 [.ob 3 3 0 0,nilV,nilV] rfl rfl ?_
  refine Tri.bornF 2 2 3 3 [.ob 3 3 0 0,.ob 4 4 0 0,nilV] rfl rfl ?_
  all_goals
  refine Tri.seq ?_
  refine sY [1,2,3,4] (fun P S K=>K ⟨[(1,S.get 1),(2,S.get 2),(3,S.get 3),(4,(.atom (.int .i64 0)))],S.hp,S.nx,S.gh⟩) ?_
  all_goals
  refine Tri.block ?_
  refine Tri.loop (α:=(o:List FormD) ×' (i:Nat) ×' (i≤x.forms.length∧o.length=i∧o=x.forms.take i)) (fun z=>(fun(o:List FormD) (i:Nat)=>(⟨[(1,.ptr 0 3 0 0),(2,.ptr 1 3 0 0),(3,.ptr 2 3 0 0),(4,encI i)],[(0,some ⟨3,[encX x]⟩),(1,some ⟨3,[.agg [nilV,nilV,nilV]]⟩),(2,some ⟨3,[.agg [.ob 3 3 0 o.length,.ob 4 4 0 0,.ob 5 3 0 0]]⟩),(3,some ⟨3,o.map encF⟩),(4,some ⟨4,[]⟩),(5,some ⟨3,[]⟩)],6,[]⟩:St)) z.1 z.2.1) (fun z=>(fun(o:List FormD) (i:Nat)=>x.forms.length - i) z.1 z.2.1) ⟨[],0,⟨Nat.zero_le _,rfl,rfl⟩⟩ [0,1,2,3,4,5] ?_ ?_
  ·exact zbh
  rintro⟨o,i,⟨hi,hol,ho⟩⟩
  refine Tri.seq ?_
  refine sZ [1,2,3,4,14] (fun P S K=>XvFieldAddr P 32 0 (S.get 1) (fun r1 _=>XvLoad P 28 (M S.hp S.nx) r1 (fun r2 _=>XvLen P 28 (M S.hp S.nx) r2 (fun r3 _=>XvBinOV P .lss 3 (.tmp 13) (S.get 4) r3 (fun r4 _=>K ⟨[(1,S.get 1),(2,S.get 2),(3,S.get 3),(4,S.get 4),(14,r4)],S.hp,S.nx,S.gh⟩))))) fun K hK=>?_
  repeat' (first|(refine hK _ ?_;clear hK K)|refine And.intro ?_ ?_|exact cl|(refine st ?_;try simp only[encX,zaa,zac,zad,encF,encR,encA])|refine sx ?_ (by simp only[encX,zaa,zac,zad,encF,encR,encA];exact rfl)|fail)
  all_goals
  refine Tri.cond rfl (fun h14=>?_) (fun h14=>?_)
  ·try (cases h14;done)
   all_goals (try simp only[CQ] at h14)
   all_goals
   refine Tri.skip ?_
   refine Tri.seq ?_
   refine Tri.block ?_
   have hil:i<x.forms.length:=by omega
   refine sZ [1,2,3,4,5] (fun P S K=>XvFieldAddr P 32 0 (S.get 1) (fun r0 _=>XvLoad P 28 (M S.hp S.nx) r0 (fun r1 _=>XvIndexAddr P 28 r1 (S.get 4) (fun r3 _=>XvLoad P 76 (M S.hp S.nx) r3 (fun r4 _=>XvAlloc P 76 S.nx (fun r5 ef5=>XvStore P 76 (M (Eff.hp ef5 S.nx S.hp) (S.nx+ef5.add.length)) r5 r4 (fun r6 ef6=>K ⟨[(1,S.get 1),(2,S.get 2),(3,S.get 3),(4,S.get 4),(5,r5)],(Eff.hp ef6 (S.nx+ef5.add.length) (Eff.hp ef5 S.nx S.hp)),((S.nx+ef5.add.length)+ef6.add.length),S.gh⟩))))))) fun K hK=>?_
   repeat' (first|(refine hK _ ?_;clear hK K)|refine And.intro ?_ ?_|exact cl|(refine st ?_;try simp only[encX,zaa,zac,zad,encF,encR,encA,zbg hil])|fail)
   all_goals
   refine rZ [1,2,3,4] (fun P S K=>XvFieldAddr P 27 0 (S.get 3) (fun r0 _=>XvLoad P 23 (M S.hp S.nx) r0 (fun r1 _=>XvFieldAddr P 76 0 (S.get 5) (fun r2 _=>XvLoad P 9 (M S.hp S.nx) r2 (fun r3 _=>XvFieldAddr P 76 1 (S.get 5) (fun r4 _=>XvLoad P 9 (M S.hp S.nx) r4 (fun r5 _=>XvFieldAddr P 76 2 (S.get 5) (fun r6 _=>XvLoad P 9 (M S.hp S.nx) r6 (fun r7 _=>XvBuild P 73 [(0,r3),(1,r5),(2,r7)] (fun r8 _=>XvBuildS P 23 1 S.nx [(0,r8)] (fun r9 ef9=>(23=23∧XvAppend P 23 (M (Eff.hp ef9 S.nx S.hp) (S.nx+ef9.add.length)) r1 r9 (fun r10 ef10=>XvFieldAddr P 27 0 (S.get 3) (fun r11 _=>XvStore P 23 (M (Eff.hp ef10 (S.nx+ef9.add.length) (Eff.hp ef9 S.nx S.hp)) ((S.nx+ef9.add.length)+ef10.add.length)) r11 r10 (fun r12 ef12=>K ⟨[(1,S.get 1),(2,S.get 2),(3,S.get 3),(4,S.get 4)],(Eff.hp ef12 ((S.nx+ef9.add.length)+ef10.add.length) (Eff.hp ef10 (S.nx+ef9.add.length) (Eff.hp ef9 S.nx S.hp))),(((S.nx+ef9.add.length)+ef10.add.length)+ef12.add.length),S.gh⟩))))))))))))))) fun K hK=>?_
   repeat' (first|(refine hK _ ?_;clear hK K)|refine And.intro ?_ ?_|exact cl|(refine st ?_;try simp only[encX,zaa,zac,zad,encF,encR,encA,zbg hil])|fail)
   all_goals
   refine rY [1,2,3,4] (fun P S K=>XvBinOV P .add 3 (.const (.int .i64 1)) (S.get 4) (.atom (.int .i64 1)) (fun r1 _=>K ⟨[(1,S.get 1),(2,S.get 2),(3,S.get 3),(4,r1)],S.hp,S.nx,S.gh⟩)) ?_
   all_goals try simp (disch:=omega) only[zae,zaf]
   all_goals
   refine⟨⟨o++[fF x.forms i],i+1,by omega,by simp[hol],by rw[ziD hil,←ho]⟩,[0,1,2,8,4,5],by dsimp only;omega,?_⟩
   exact zbh
  try (cases h14;done)
  all_goals (try simp only[CQ] at h14)
  all_goals
  refine Tri.exit ?_
  refine Tri.seq ?_
  refine sY [1,2,3,6] (fun P S K=>K ⟨[(1,S.get 1),(2,S.get 2),(3,S.get 3),(6,(.atom (.int .i64 0)))],S.hp,S.nx,S.gh⟩) ?_
  all_goals
  refine Tri.block ?_
  refine Tri.loop (α:=(p:List RuleD) ×' (j:Nat) ×' (j≤x.rules.length∧p.length=j∧p=x.rules.take j)) (fun z=>(fun(p:List RuleD) (j:Nat)=>(⟨[(1,.ptr 0 3 0 0),(2,.ptr 1 3 0 0),(3,.ptr 2 3 0 0),(6,encI j)],[(0,some ⟨3,[encX x]⟩),(1,some ⟨3,[.agg [nilV,nilV,nilV]]⟩),(2,some ⟨3,[.agg [.ob 3 3 0 o.length,.ob 4 4 0 p.length,.ob 5 3 0 0]]⟩),(3,some ⟨3,o.map encF⟩),(4,some ⟨4,p.map encR⟩),(5,some ⟨3,[]⟩)],6,[]⟩:St)) z.1 z.2.1) (fun z=>(fun(p:List RuleD) (j:Nat)=>x.rules.length - j) z.1 z.2.1) ⟨[],0,⟨Nat.zero_le _,rfl,rfl⟩⟩ [0,1,2,3,4,5] ?_ ?_
  ·exact zbh
  rintro⟨p,j,⟨hj,hpl,hp⟩⟩
  refine Tri.seq ?_
  refine sZ [1,2,3,6,38] (fun P S K=>XvFieldAddr P 32 1 (S.get 1) (fun r1 _=>XvLoad P 29 (M S.hp S.nx) r1 (fun r2 _=>XvLen P 29 (M S.hp S.nx) r2 (fun r3 _=>XvBinOV P .lss 3 (.tmp 37) (S.get 6) r3 (fun r4 _=>K ⟨[(1,S.get 1),(2,S.get 2),(3,S.get 3),(6,S.get 6),(38,r4)],S.hp,S.nx,S.gh⟩))))) fun K hK=>?_
  repeat' (first|(refine hK _ ?_;clear hK K)|refine And.intro ?_ ?_|exact cl|(refine st ?_;try simp only[encX,zaa,zac,zad,encF,encR,encA])|refine sx ?_ (by simp only[encX,zaa,zac,zad,encF,encR,encA];exact rfl)|fail)
  all_goals
  refine Tri.cond rfl (fun h38=>?_) (fun h38=>?_)
  ·try (cases h38;done)
   all_goals (try simp only[CQ] at h38)
   all_goals
   refine Tri.skip ?_
   refine Tri.seq ?_
   refine Tri.block ?_
   have hjl:j<x.rules.length:=by omega
   refine sZ [1,2,3,6,7] (fun P S K=>XvFieldAddr P 32 1 (S.get 1) (fun r0 _=>XvLoad P 29 (M S.hp S.nx) r0 (fun r1 _=>XvIndexAddr P 29 r1 (S.get 6) (fun r3 _=>XvLoad P 87 (M S.hp S.nx) r3 (fun r4 _=>XvAlloc P 87 S.nx (fun r5 ef5=>XvStore P 87 (M (Eff.hp ef5 S.nx S.hp) (S.nx+ef5.add.length)) r5 r4 (fun r6 ef6=>K ⟨[(1,S.get 1),(2,S.get 2),(3,S.get 3),(6,S.get 6),(7,r5)],(Eff.hp ef6 (S.nx+ef5.add.length) (Eff.hp ef5 S.nx S.hp)),((S.nx+ef5.add.length)+ef6.add.length),S.gh⟩))))))) fun K hK=>?_
   repeat' (first|(refine hK _ ?_;clear hK K)|refine And.intro ?_ ?_|exact cl|(refine st ?_;try simp only[encX,zaa,zac,zad,encF,encR,encA,zdM hjl])|fail)
   all_goals
   refine rZ [1,2,3,6] (fun P S K=>XvFieldAddr P 27 1 (S.get 3) (fun r0 _=>XvLoad P 24 (M S.hp S.nx) r0 (fun r1 _=>XvFieldAddr P 87 0 (S.get 7) (fun r2 _=>XvLoad P 9 (M S.hp S.nx) r2 (fun r3 _=>XvFieldAddr P 87 1 (S.get 7) (fun r4 _=>XvLoad P 9 (M S.hp S.nx) r4 (fun r5 _=>XvFieldAddr P 87 2 (S.get 7) (fun r6 _=>XvLoad P 9 (M S.hp S.nx) r6 (fun r7 _=>XvFieldAddr P 87 3 (S.get 7) (fun r8 _=>XvLoad P 3 (M S.hp S.nx) r8 (fun r9 _=>XvBuild P 90 [(0,r3),(1,r5),(2,r7),(3,r9)] (fun r10 _=>XvBuildS P 24 1 S.nx [(0,r10)] (fun r11 ef11=>(24=24∧XvAppend P 24 (M (Eff.hp ef11 S.nx S.hp) (S.nx+ef11.add.length)) r1 r11 (fun r12 ef12=>XvFieldAddr P 27 1 (S.get 3) (fun r13 _=>XvStore P 24 (M (Eff.hp ef12 (S.nx+ef11.add.length) (Eff.hp ef11 S.nx S.hp)) ((S.nx+ef11.add.length)+ef12.add.length)) r13 r12 (fun r14 ef14=>K ⟨[(1,S.get 1),(2,S.get 2),(3,S.get 3),(6,S.get 6)],(Eff.hp ef14 ((S.nx+ef11.add.length)+ef12.add.length) (Eff.hp ef12 (S.nx+ef11.add.length) (Eff.hp ef11 S.nx S.hp))),(((S.nx+ef11.add.length)+ef12.add.length)+ef14.add.length),S.gh⟩))))))))))))))))) fun K hK=>?_
   repeat' (first|(refine hK _ ?_;clear hK K)|refine And.intro ?_ ?_|exact cl|(refine st ?_;try simp only[encX,zaa,zac,zad,encF,encR,encA,zdM hjl])|fail)
   all_goals
   refine rY [1,2,3,6] (fun P S K=>XvBinOV P .add 3 (.const (.int .i64 1)) (S.get 6) (.atom (.int .i64 1)) (fun r1 _=>K ⟨[(1,S.get 1),(2,S.get 2),(3,S.get 3),(6,r1)],S.hp,S.nx,S.gh⟩)) ?_
   all_goals try simp (disch:=omega) only[zae,zaf]
   all_goals
   refine⟨⟨p++[fR x.rules j],j+1,by omega,by simp[hpl],by rw[zpU hjl,←hp]⟩,[0,1,2,3,8,5],by dsimp only;omega,?_⟩
   exact zbh
  try (cases h38;done)
  all_goals (try simp only[CQ] at h38)
  all_goals
  refine Tri.exit ?_
  refine Tri.seq ?_
  refine sY [1,2,3,8] (fun P S K=>K ⟨[(1,S.get 1),(2,S.get 2),(3,S.get 3),(8,(.atom (.int .i64 0)))],S.hp,S.nx,S.gh⟩) ?_
  all_goals
  refine Tri.block ?_
  refine Tri.loop (α:=(q:List PrefD) ×' (k:Nat) ×' (k≤x.prefs.length∧q.length=k∧q=x.prefs.take k)) (fun z=>(fun(q:List PrefD) (k:Nat)=>(⟨[(1,.ptr 0 3 0 0),(2,.ptr 1 3 0 0),(3,.ptr 2 3 0 0),(8,encI k)],[(0,some ⟨3,[encX x]⟩),(1,some ⟨3,[.agg [nilV,nilV,nilV]]⟩),(2,some ⟨3,[.agg [.ob 3 3 0 o.length,.ob 4 4 0 p.length,.ob 5 3 0 q.length]]⟩),(3,some ⟨3,o.map encF⟩),(4,some ⟨4,p.map encR⟩),(5,some ⟨3,q.map encA⟩)],6,[]⟩:St)) z.1 z.2.1) (fun z=>(fun(q:List PrefD) (k:Nat)=>x.prefs.length - k) z.1 z.2.1) ⟨[],0,⟨Nat.zero_le _,rfl,rfl⟩⟩ [0,1,2,3,4,5] ?_ ?_
  ·exact zbh
  rintro⟨q,k,⟨hk,hql,hq⟩⟩
  refine Tri.seq ?_
  refine sZ [1,2,3,8,64] (fun P S K=>XvFieldAddr P 32 2 (S.get 1) (fun r1 _=>XvLoad P 30 (M S.hp S.nx) r1 (fun r2 _=>XvLen P 30 (M S.hp S.nx) r2 (fun r3 _=>XvBinOV P .lss 3 (.tmp 63) (S.get 8) r3 (fun r4 _=>K ⟨[(1,S.get 1),(2,S.get 2),(3,S.get 3),(8,S.get 8),(64,r4)],S.hp,S.nx,S.gh⟩))))) fun K hK=>?_
  repeat' (first|(refine hK _ ?_;clear hK K)|refine And.intro ?_ ?_|exact cl|(refine st ?_;try simp only[encX,zaa,zac,zad,encF,encR,encA])|refine sx ?_ (by simp only[encX,zaa,zac,zad,encF,encR,encA];exact rfl)|fail)
  all_goals
  refine Tri.cond rfl (fun h64=>?_) (fun h64=>?_)
  ·try (cases h64;done)
   all_goals (try simp only[CQ] at h64)
   all_goals
   refine Tri.skip ?_
   refine Tri.seq ?_
   refine Tri.block ?_
   have hkl:k<x.prefs.length:=by omega
   refine sZ [1,2,3,8,9] (fun P S K=>XvFieldAddr P 32 2 (S.get 1) (fun r0 _=>XvLoad P 30 (M S.hp S.nx) r0 (fun r1 _=>XvIndexAddr P 30 r1 (S.get 8) (fun r3 _=>XvLoad P 89 (M S.hp S.nx) r3 (fun r4 _=>XvAlloc P 89 S.nx (fun r5 ef5=>XvStore P 89 (M (Eff.hp ef5 S.nx S.hp) (S.nx+ef5.add.length)) r5 r4 (fun r6 ef6=>K ⟨[(1,S.get 1),(2,S.get 2),(3,S.get 3),(8,S.get 8),(9,r5)],(Eff.hp ef6 (S.nx+ef5.add.length) (Eff.hp ef5 S.nx S.hp)),((S.nx+ef5.add.length)+ef6.add.length),S.gh⟩))))))) fun K hK=>?_
   repeat' (first|(refine hK _ ?_;clear hK K)|refine And.intro ?_ ?_|exact cl|(refine st ?_;try simp only[encX,zaa,zac,zad,encF,encR,encA,zfq hkl])|fail)
   all_goals
   refine rZ [1,2,3,8] (fun P S K=>XvFieldAddr P 27 2 (S.get 3) (fun r0 _=>XvLoad P 25 (M S.hp S.nx) r0 (fun r1 _=>XvFieldAddr P 89 0 (S.get 9) (fun r2 _=>XvLoad P 9 (M S.hp S.nx) r2 (fun r3 _=>XvFieldAddr P 89 1 (S.get 9) (fun r4 _=>XvLoad P 9 (M S.hp S.nx) r4 (fun r5 _=>XvFieldAddr P 89 2 (S.get 9) (fun r6 _=>XvLoad P 9 (M S.hp S.nx) r6 (fun r7 _=>XvBuild P 91 [(0,r3),(1,r5),(2,r7)] (fun r8 _=>XvBuildS P 25 1 S.nx [(0,r8)] (fun r9 ef9=>(25=25∧XvAppend P 25 (M (Eff.hp ef9 S.nx S.hp) (S.nx+ef9.add.length)) r1 r9 (fun r10 ef10=>XvFieldAddr P 27 2 (S.get 3) (fun r11 _=>XvStore P 25 (M (Eff.hp ef10 (S.nx+ef9.add.length) (Eff.hp ef9 S.nx S.hp)) ((S.nx+ef9.add.length)+ef10.add.length)) r11 r10 (fun r12 ef12=>K ⟨[(1,S.get 1),(2,S.get 2),(3,S.get 3),(8,S.get 8)],(Eff.hp ef12 ((S.nx+ef9.add.length)+ef10.add.length) (Eff.hp ef10 (S.nx+ef9.add.length) (Eff.hp ef9 S.nx S.hp))),(((S.nx+ef9.add.length)+ef10.add.length)+ef12.add.length),S.gh⟩))))))))))))))) fun K hK=>?_
   repeat' (first|(refine hK _ ?_;clear hK K)|refine And.intro ?_ ?_|exact cl|(refine st ?_;try simp only[encX,zaa,zac,zad,encF,encR,encA,zfq hkl])|fail)
   all_goals
   refine rY [1,2,3,8] (fun P S K=>XvBinOV P .add 3 (.const (.int .i64 1)) (S.get 8) (.atom (.int .i64 1)) (fun r1 _=>K ⟨[(1,S.get 1),(2,S.get 2),(3,S.get 3),(8,r1)],S.hp,S.nx,S.gh⟩)) ?_
   all_goals try simp (disch:=omega) only[zae,zaf]
   all_goals
   refine⟨⟨q++[fA x.prefs k],k+1,by omega,by simp[hql],by rw[take_fA hkl,←hq]⟩,[0,1,2,3,4,8],by dsimp only;omega,?_⟩
   exact zbh
  try (cases h64;done)
  all_goals (try simp only[CQ] at h64)
  all_goals
  refine Tri.exit ?_
  refine sZ [2] (fun P S K=>XvLoad P 27 (M S.hp S.nx) (S.get 3) (fun r0 _=>XvStore P 27 (M S.hp S.nx) (S.get 2) r0 (fun r1 ef1=>K ⟨[(2,S.get 2)],(Eff.hp ef1 S.nx S.hp),(S.nx+ef1.add.length),S.gh⟩))) fun K hK=>?_
  repeat' (first|(refine hK _ ?_;clear hK K)|refine And.intro ?_ ?_|exact cl|(refine st ?_;try simp only[encX,zaa,zac,zad,encF,encR,encA])|refine sx ?_ (by simp only[encX,zaa,zac,zad,encF,encR,encA];exact rfl)|fail)
  all_goals
  refine Tri.ret ?_
  show ResR _ _ _ _ _
  rw[lex_eta ho (by omega) hp (by omega) hq (by omega)]
  refine ResR.cell1 (PV.agg [_,_,_]) rfl ?_ (zaQ _)
  simp[-List.map_map,sealed,St.obj,lk,encX,zaa,zac,zad,zaE,zaH,zaI,zap]
end Go.Proofs.YtehoglapajkabaaGreat
