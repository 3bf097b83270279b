/-
  Walks: the reference model of lexicons: what is found.
-/
import Derived.Test.YtehoglapajkabaaGreatJM0
import Derived.Test.YtehoglapajkabaaGreatJM2
import Derived.Test.YtehoglapajkabaaGreatJV14
set_option linter.all false
namespace Go.Proofs.YtehoglapajkabaaGreat
open Go Go.RowKit
set_option maxRecDepth 20000
set_option maxHeartbeats 1000000
def zfK (r:RuleD) (w:ByteArray):ByteArray×Bool:=match zdi r w with
  | some s=>(s,true)
  | none=>(.empty,false)
theorem ruleV_T (r:RuleD) (w:ByteArray):zk2 r w=.tup [encS (zfK r w).1,.atom (.bool (zfK r w).2)]:=by
  unfold zk2 zfK;cases zdi r w<;>rfl
theorem zje (r:RuleD) (w:ByteArray) (hr:HeldR r) (hw:w.size≤140737488355328):Pure Tryz.prog 77 [encR r,encS w] (.tup [encS (zfK r w).1,.atom (.bool (zfK r w).2)]) []:=ruleV_T r w▸zk3 r w hr hw
theorem zeU{x:LexD}{w:ByteArray}{i:Nat}(hi:i<x.forms.length):((x.forms.take (i+1)).filter fun f=>decide (f.word=w)).foldl putF []=
    if (fF x.forms i).word=w then putF (((x.forms.take i).filter fun f=>decide (f.word=w)).foldl putF []) (fF x.forms i) else ((x.forms.take i).filter fun f=>decide (f.word=w)).foldl putF []:=by
  rw[ze3 hi,List.filter_append,List.foldl_append]
  by_cases h:(fF x.forms i).word=w
  · rw[if_pos h];simp[h]
  · rw[if_neg h];simp[h]
theorem zeL{x:LexD}{w:ByteArray}{i:Nat}(hi:i<x.rules.length):((x.rules.take (i+1)).filterMap fun r=>(zdi r w).map fun s=>(⟨w,s,r.cls⟩:FormD)).foldl putF []=
    if (zfK (fR x.rules i) w).2=true then putF (((x.rules.take i).filterMap fun r=>(zdi r w).map fun s=>(⟨w,s,r.cls⟩:FormD)).foldl putF []) ⟨w,(zfK (fR x.rules i) w).1,(fR x.rules i).cls⟩ else ((x.rules.take i).filterMap fun r=>(zdi r w).map fun s=>(⟨w,s,r.cls⟩:FormD)).foldl putF []:=by
  rw[zh3 hi,List.filterMap_append,List.foldl_append]
  unfold zfK
  cases h:zdi (fR x.rules i) w<;>simp[h]
theorem zk4 (x:LexD) (w:ByteArray) (hx:HeldX x) (hw:w.size≤140737488355328):Pure Tryz.prog 47 [encX x,encS w] (.tup [zaa (zcJ x w),zaa (zcI x w)]) []:=by
  have hnf:=hx.nforms
  have hnr:=hx.nrules
  refine Pure.intro (ts:=[4,5]) Tryz.func47 (by kernel_rfl) rfl rfl rfl (Nat.le_of_ble_eq_true rfl) ?_ ?_
  · simp[zaF,encS,PV.pure,zaE]
  refine sZ [1,2] (fun P S K=>XvBox S.nx (S.get 0) (fun r0 ef0=>K ⟨[(1,S.get 1),(2,r0)],(Eff.hp ef0 S.nx S.hp),(S.nx+ef0.add.length),S.gh⟩)) fun K hK=>?_
  repeat' (first|(refine hK _ ?_;clear hK K)|refine And.intro ?_ ?_|exact cl|(refine st ?_;try simp only[encX,zaa,zab,zac,encF,encR])|fail)
  all_goals
  refine sY [1,2,6] (fun P S K=>K ⟨[(1,S.get 1),(2,S.get 2),(6,(.atom (.slice none 0 0)))],S.hp,S.nx,S.gh⟩) ?_
  refine Tri.asSl 6 3 rfl ?_
  all_goals
  refine sY [1,2,6,7] (fun P S K=>K ⟨[(1,S.get 1),(2,S.get 2),(6,S.get 6),(7,(.atom (.slice none 0 0)))],S.hp,S.nx,S.gh⟩) ?_
  refine Tri.asSl 7 3 rfl ?_
  all_goals
  refine Tri.seq ?_
  refine sY [1,2,6,7,8] (fun P S K=>K ⟨[(1,S.get 1),(2,S.get 2),(6,S.get 6),(7,S.get 7),(8,(.atom (.int .i64 0)))],S.hp,S.nx,S.gh⟩) ?_
  all_goals
  refine Tri.block ?_
  refine Tri.loop (α:=(o:List FormD) ×' (i:Nat) ×' (i≤x.forms.length∧o.length≤i∧o=((x.forms.take i).filter fun f=>decide (f.word=w)).foldl putF [])) (fun z=>(fun(o:List FormD) (i:Nat)=>(⟨[(1,encS w),(2,.ptr 0 3 0 0),(6,zaa o),(7,zaa []),(8,encI i)],[(0,some ⟨3,[encX x]⟩)],1,[]⟩:St)) z.1 z.2.1) (fun z=>(fun(o:List FormD) (i:Nat)=>x.forms.length - i) z.1 z.2.1) ⟨[],0,⟨Nat.zero_le _,Nat.le_refl _,rfl⟩⟩ [0] ?_ ?_
  ·exact za0
  rintro⟨o,i,⟨hi,hol,ho⟩⟩
  refine Tri.seq ?_
  refine sZ [1,2,6,7,8,16] (fun P S K=>XvFieldAddr P 32 0 (S.get 2) (fun r1 _=>XvLoad P 28 (M S.hp S.nx) r1 (fun r2 _=>XvLen P 28 (M S.hp S.nx) r2 (fun r3 _=>XvBinOV P .lss 3 (.tmp 15) (S.get 8) r3 (fun r4 _=>K ⟨[(1,S.get 1),(2,S.get 2),(6,S.get 6),(7,S.get 7),(8,S.get 8),(16,r4)],S.hp,S.nx,S.gh⟩))))) fun K hK=>?_
  repeat' (first|(refine hK _ ?_;clear hK K)|refine And.intro ?_ ?_|exact cl|(refine st ?_;try simp only[encX,zaa,zab,zac,encF,encR])|fail)
  all_goals
  refine Tri.cond rfl (fun h16=>?_) (fun h16=>?_)
  ·try (cases h16;done)
   all_goals (try simp only[CQ] at h16)
   all_goals
   refine Tri.skip ?_
   refine Tri.seq ?_
   refine Tri.block ?_
   have hil:i<x.forms.length:=by omega
   refine sZ [1,2,6,7,8,26] (fun P S K=>XvFieldAddr P 32 0 (S.get 2) (fun r0 _=>XvLoad P 28 (M S.hp S.nx) r0 (fun r1 _=>XvIndexAddr P 28 r1 (S.get 8) (fun r3 _=>XvFieldAddr P 76 0 r3 (fun r4 _=>XvLoad P 9 (M S.hp S.nx) r4 (fun r5 _=>XvBinOV P .eql 9 (.tmp 25) r5 (S.get 1) (fun r7 _=>K ⟨[(1,S.get 1),(2,S.get 2),(6,S.get 6),(7,S.get 7),(8,S.get 8),(26,r7)],S.hp,S.nx,S.gh⟩))))))) fun K hK=>?_
   repeat' (first|(refine hK _ ?_;clear hK K)|refine And.intro ?_ ?_|exact cl|(refine st ?_;try simp only[encX,zaa,zab,zac,encF,encR,zaS hil])|fail)
   all_goals
   refine Tri.cond rfl (fun h26=>?_) (fun h26=>?_)
   ·try (cases h26;done)
    all_goals (try simp only[CQ] at h26)
    all_goals
    refine rZ [1,2,6,7,8] (fun P S K=>XvFieldAddr P 32 0 (S.get 2) (fun r1 _=>XvLoad P 28 (M S.hp S.nx) r1 (fun r2 _=>XvIndexAddr P 28 r2 (S.get 8) (fun r4 _=>XvLoad P 76 (M S.hp S.nx) r4 (fun r5 _=>XvFnIV P (M S.hp S.nx) (.fn 76 []) [(S.get 6),r5] (fun r6 ef6=>K ⟨[(1,S.get 1),(2,S.get 2),(6,r6),(7,S.get 7),(8,S.get 8)],(Eff.hp ef6 S.nx S.hp),(S.nx+ef6.add.length),S.gh⟩)))))) fun K hK=>?_
    repeat' (first|(refine hK _ ?_;clear hK K)|refine And.intro ?_ ?_|exact cl|refine .inl ⟨_,_,zjd o (fF x.forms i) (by omega),?_⟩|(refine st ?_;try simp only[encX,zaa,zab,zac,encF,encR,zaS hil])|fail)
    all_goals
    refine rY [1,2,6,7,8] (fun P S K=>XvBinOV P .add 3 (.const (.int .i64 1)) (S.get 8) (.atom (.int .i64 1)) (fun r1 _=>K ⟨[(1,S.get 1),(2,S.get 2),(6,S.get 6),(7,S.get 7),(8,r1)],S.hp,S.nx,S.gh⟩)) ?_
    all_goals try simp (disch:=omega) only[zaf,zae]
    all_goals
    first
    | (refine⟨⟨putF o (fF x.forms i),i+1,by omega,by have:=zfo o (fF x.forms i);omega,by rw[zeU hil,if_pos (by assumption),←ho]⟩,[0],by dsimp only;omega,?_⟩
       exact za0)
    | (refine⟨⟨o,i+1,by omega,by omega,by rw[zeU hil,if_neg (by assumption),←ho]⟩,[0],by dsimp only;omega,?_⟩
       exact za0)
   try (cases h26;done)
   all_goals (try simp only[CQ] at h26)
   all_goals
   refine Tri.skip ?_
   refine rY [1,2,6,7,8] (fun P S K=>XvBinOV P .add 3 (.const (.int .i64 1)) (S.get 8) (.atom (.int .i64 1)) (fun r1 _=>K ⟨[(1,S.get 1),(2,S.get 2),(6,S.get 6),(7,S.get 7),(8,r1)],S.hp,S.nx,S.gh⟩)) ?_
   all_goals try simp (disch:=omega) only[zaf,zae]
   all_goals
   first
   | (refine⟨⟨putF o (fF x.forms i),i+1,by omega,by have:=zfo o (fF x.forms i);omega,by rw[zeU hil,if_pos (by assumption),←ho]⟩,[0],by dsimp only;omega,?_⟩
      exact za0)
   | (refine⟨⟨o,i+1,by omega,by omega,by rw[zeU hil,if_neg (by assumption),←ho]⟩,[0],by dsimp only;omega,?_⟩
      exact za0)
  try (cases h16;done)
  all_goals (try simp only[CQ] at h16)
  all_goals
  refine Tri.exit ?_
  refine Tri.seq ?_
  refine sY [1,2,6,7,9] (fun P S K=>K ⟨[(1,S.get 1),(2,S.get 2),(6,S.get 6),(7,S.get 7),(9,(.atom (.int .i64 0)))],S.hp,S.nx,S.gh⟩) ?_
  all_goals
  refine Tri.block ?_
  refine Tri.loop (α:=(q:List FormD) ×' (j:Nat) ×' (j≤x.rules.length∧q.length≤j∧q=((x.rules.take j).filterMap fun r=>(zdi r w).map fun s=>(⟨w,s,r.cls⟩:FormD)).foldl putF [])) (fun z=>(fun(q:List FormD) (j:Nat)=>(⟨[(1,encS w),(2,.ptr 0 3 0 0),(6,zaa o),(7,zaa q),(9,encI j)],[(0,some ⟨3,[encX x]⟩)],1,[]⟩:St)) z.1 z.2.1) (fun z=>(fun(q:List FormD) (j:Nat)=>x.rules.length - j) z.1 z.2.1) ⟨[],0,⟨Nat.zero_le _,Nat.le_refl _,rfl⟩⟩ [0] ?_ ?_
  ·exact za0
  rintro⟨q,j,⟨hj,hql,hq⟩⟩
  refine Tri.seq ?_
  refine sZ [1,2,6,7,9,38] (fun P S K=>XvFieldAddr P 32 1 (S.get 2) (fun r1 _=>XvLoad P 29 (M S.hp S.nx) r1 (fun r2 _=>XvLen P 29 (M S.hp S.nx) r2 (fun r3 _=>XvBinOV P .lss 3 (.tmp 37) (S.get 9) r3 (fun r4 _=>K ⟨[(1,S.get 1),(2,S.get 2),(6,S.get 6),(7,S.get 7),(9,S.get 9),(38,r4)],S.hp,S.nx,S.gh⟩))))) fun K hK=>?_
  repeat' (first|(refine hK _ ?_;clear hK K)|refine And.intro ?_ ?_|exact cl|(refine st ?_;try simp only[encX,zaa,zab,zac,encF,encR])|fail)
  all_goals
  refine Tri.cond rfl (fun h38=>?_) (fun h38=>?_)
  ·try (cases h38;done)
   all_goals (try simp only[CQ] at h38)
   all_goals
   refine Tri.skip ?_
   refine Tri.seq ?_
   refine Tri.block ?_
   have hjl:j<x.rules.length:=by omega
   refine sZ [1,2,6,7,9,10,11] (fun P S K=>XvFieldAddr P 32 1 (S.get 2) (fun r0 _=>XvLoad P 29 (M S.hp S.nx) r0 (fun r1 _=>XvIndexAddr P 29 r1 (S.get 9) (fun r3 _=>XvLoad P 87 (M S.hp S.nx) r3 (fun r4 _=>XvFnIV P (M S.hp S.nx) (.fn 77 []) [r4,(S.get 1)] (fun r6 ef6=>XvExtract r6 0 (fun r8 _=>XvExtract r6 1 (fun r9 _=>K ⟨[(1,S.get 1),(2,S.get 2),(6,S.get 6),(7,S.get 7),(9,S.get 9),(10,r8),(11,r9)],(Eff.hp ef6 S.nx S.hp),(S.nx+ef6.add.length),S.gh⟩)))))))) fun K hK=>?_
   repeat' (first|(refine hK _ ?_;clear hK K)|refine And.intro ?_ ?_|exact cl|refine .inl ⟨_,_,zje (fR x.rules j) w (hx.rules _ (zcD hjl)) hw,?_⟩|(refine st ?_;try simp only[encX,zaa,zab,zac,encF,encR,zcf hjl])|fail)
   all_goals
   refine sY [1,2,6,7,9,10,51] (fun P S K=>K ⟨[(1,S.get 1),(2,S.get 2),(6,S.get 6),(7,S.get 7),(9,S.get 9),(10,S.get 10),(51,(S.get 11))],S.hp,S.nx,S.gh⟩) ?_
   all_goals
   refine Tri.cond rfl (fun h51=>?_) (fun h51=>?_)
   ·try (cases h51;done)
    all_goals (try simp only[CQ] at h51)
    all_goals
    refine rZ [1,2,6,7,9] (fun P S K=>XvFieldAddr P 32 1 (S.get 2) (fun r3 _=>XvLoad P 29 (M S.hp S.nx) r3 (fun r4 _=>XvIndexAddr P 29 r4 (S.get 9) (fun r6 _=>XvFieldAddr P 87 2 r6 (fun r7 _=>XvLoad P 9 (M S.hp S.nx) r7 (fun r8 _=>XvBuild P 76 [(0,(S.get 1)),(1,(S.get 10)),(2,r8)] (fun r9 _=>XvFnIV P (M S.hp S.nx) (.fn 76 []) [(S.get 7),r9] (fun r10 ef10=>K ⟨[(1,S.get 1),(2,S.get 2),(6,S.get 6),(7,r10),(9,S.get 9)],(Eff.hp ef10 S.nx S.hp),(S.nx+ef10.add.length),S.gh⟩)))))))) fun K hK=>?_
    repeat' (first|(refine hK _ ?_;clear hK K)|refine And.intro ?_ ?_|exact cl|refine .inl ⟨_,_,zjd q ⟨w,(zfK (fR x.rules j) w).1,(fR x.rules j).cls⟩ (by omega),?_⟩|(refine st ?_;try simp only[encX,zaa,zab,zac,encF,encR,zcf hjl])|fail)
    all_goals
    refine rY [1,2,6,7,9] (fun P S K=>XvBinOV P .add 3 (.const (.int .i64 1)) (S.get 9) (.atom (.int .i64 1)) (fun r1 _=>K ⟨[(1,S.get 1),(2,S.get 2),(6,S.get 6),(7,S.get 7),(9,r1)],S.hp,S.nx,S.gh⟩)) ?_
    all_goals try simp (disch:=omega) only[zaf,zae]
    all_goals
    first
    | (refine⟨⟨putF q ⟨w,(zfK (fR x.rules j) w).1,(fR x.rules j).cls⟩,j+1,by omega,by have:=zfo q ⟨w,(zfK (fR x.rules j) w).1,(fR x.rules j).cls⟩;omega,by rw[zeL hjl,if_pos (by assumption),←hq]⟩,[0],by dsimp only;omega,?_⟩
       exact za0)
    | (refine⟨⟨q,j+1,by omega,by omega,by rw[zeL hjl,if_neg (by simp_all),←hq]⟩,[0],by dsimp only;omega,?_⟩
       exact za0)
   try (cases h51;done)
   all_goals (try simp only[CQ] at h51)
   all_goals
   refine Tri.skip ?_
   refine rY [1,2,6,7,9] (fun P S K=>XvBinOV P .add 3 (.const (.int .i64 1)) (S.get 9) (.atom (.int .i64 1)) (fun r1 _=>K ⟨[(1,S.get 1),(2,S.get 2),(6,S.get 6),(7,S.get 7),(9,r1)],S.hp,S.nx,S.gh⟩)) ?_
   all_goals try simp (disch:=omega) only[zaf,zae]
   all_goals
   first
   | (refine⟨⟨putF q ⟨w,(zfK (fR x.rules j) w).1,(fR x.rules j).cls⟩,j+1,by omega,by have:=zfo q ⟨w,(zfK (fR x.rules j) w).1,(fR x.rules j).cls⟩;omega,by rw[zeL hjl,if_pos (by assumption),←hq]⟩,[0],by dsimp only;omega,?_⟩
      exact za0)
   | (refine⟨⟨q,j+1,by omega,by omega,by rw[zeL hjl,if_neg (by simp_all),←hq]⟩,[0],by dsimp only;omega,?_⟩
      exact za0)
  try (cases h38;done)
  all_goals (try simp only[CQ] at h38)
  all_goals
  refine Tri.exit ?_
  have h1:o=zcJ x w:=by rw[ho,List.take_of_length_le (by omega)];rfl
  have h2:q=zcI x w:=by rw[hq,List.take_of_length_le (by omega)];rfl
  refine sY [4,5] (fun P S K=>K ⟨[(4,(S.get 6)),(5,(S.get 7))],S.hp,S.nx,S.gh⟩) ?_
  all_goals
  refine Tri.ret ?_
  show ResOk _ _ _ _
  rw[←h1,←h2]
  exact ResOk.val zbX zbL
theorem zn3 (x:LexD) (w:ByteArray):(zcJ x w).length≤x.forms.length:=by
  have h:=zbO (zbC x w) []
  have h2:(zbC x w).length≤x.forms.length:=List.length_filter_le _ _
  unfold zcJ;simp at h;omega
theorem znx (x:LexD) (w:ByteArray):(zcI x w).length≤x.rules.length:=by
  have h:=zbO (zbP x w) []
  have h2:(zbP x w).length≤x.rules.length:=List.length_filterMap_le _ _
  unfold zcI;simp at h;omega
theorem allX_len (x:LexD) (w:ByteArray) (hx:HeldX x):(allX x w).length≤1000000:=by
  have h1:=zn3 x w
  have h2:=znx x w
  have h3:=hx.nforms
  have h4:=hx.nrules
  unfold allX;split
  · omega
  · split
    · omega
    · simp
theorem allX_pos (x:LexD) (w:ByteArray):0<(allX x w).length:=by
  unfold allX;split
  · rename_i h;exact List.length_pos_iff.2 h
  · split
    · rename_i h;exact List.length_pos_iff.2 h
    · simp
theorem allF_no{l:List FormD}{p:FormD→Bool}{j:Nat}(hj:j<l.length) (h:p (fF l j)=false):l.all p=false:=by
  rw[Bool.eq_false_iff]
  intro ha
  have:=List.all_eq_true.1 ha _ (zb0 hj)
  rw[h] at this;cases this
theorem allF_yes{l:List FormD}{p:FormD→Bool}(h:∀j,j<l.length→p (fF l j)=true):l.all p=true:=List.all_eq_true.2 fun y hy=>by
  obtain⟨j,hj,rfl⟩:=List.getElem_of_mem hy
  rw[←zek hj];exact h j hj
def zfL (P:Program) (S:St):List ResultVar→Option (List PV)
  | []=>some []
  | .tmp t :: l=>(zfL P S l).map (S.get t :: ·)
  | .cell a t :: l=>match S.get a,tAgg P t,zaZ P t with
    | .ptr i sz k c,some ag,some m=>match S.obj i with
      | some o=>if o.sz=sz∧k<o.els.length∧(bif ag then decide (c+m≤(o.els.getD k .junk).cells.length) else decide (c<(o.els.getD k .junk).cells.length))=true then (zfL P S l).map ((o.els.getD k .junk).part ag c m :: ·) else none
      | none=>none
    | _,_,_=>none
def znC (S:St) (vs:List PV):St:=⟨zbN 0 vs,S.hp,S.nx,S.gh⟩
def ResR (P:Program) (S:St) (rv:List ResultVar) (r:PV) (os:List AO):Prop:=∃vs,zfL P S rv=some vs∧ResOk (znC S vs) (List.range vs.length) r os
def ResPR (P:Program) (S:St) (rv:List ResultVar) (r:PV) (hp:List AO) (hp':List (Option AO)) (os:List AO):Prop:=∃vs,zfL P S rv=some vs∧ResP (znC S vs) (List.range vs.length) r hp hp' os
def retQR (P:Program) (rv:List ResultVar) (r:PV) (os:List AO):Exit→St→Prop
  | .normal,S=>ResR P S rv r os
  | .ret,S=>ResR P S rv r os
  | _,_=>False
def retPR (P:Program) (rv:List ResultVar) (r:PV) (hp:List AO) (hp':List (Option AO)) (os:List AO):Exit→St→Prop
  | .normal,S=>ResPR P S rv r hp hp' os
  | .ret,S=>ResPR P S rv r hp hp' os
  | _,_=>False
theorem zj6 (S:St) (vs:List PV):(List.range vs.length).map (znC S vs).get=vs:=by
  apply List.ext_getElem
  · simp
  · intro i h1 h2
    simp only[List.getElem_map,List.getElem_range]
    show(lk (zbN 0 vs) i).getD .junk=_
    rw[zdY];simp[h2]
theorem zeN (S:St) (vs:List PV):retV (znC S vs) (List.range vs.length)=match vs with | [v]=>v|vs=>.tup vs:=by
  have:=zj6 S vs
  match vs,this with
  | [],_=>rfl
  | [v],_=>rfl
  | a :: b :: l,h=>
    have e:List.range (a :: b :: l).length=0 :: 1 :: (List.range l.length).map (·+2):=by
      have h1:=List.range_succ_eq_map (n:=(b :: l).length)
      simp only[List.length_cons] at h1 ⊢
      rw[h1,List.range_succ_eq_map];simp
    rw[e] at h ⊢
    show PV.tup _=_
    rw[h]
section
variable {P:Program} {n:Nat} {S:St} {Q:Exit→St→Prop}
theorem tup_rep{D:Nat→Prop}{μ:Nat→Option Nat}{F:Nat→Prop}{w:World}{xs:List Value}{vs:List PV}(hl:xs.length=vs.length) (h:∀i (h:i<vs.length),Rep D μ F w vs[i] (xs.getD i undef)):
    Rep D μ F w (match vs with | [v]=>v|vs=>.tup vs) (if h:xs.toArray.size=1 then xs.toArray[0] else .tuple xs.toArray):=by
  match vs,xs with
  | [v],[x]=>simpa using h 0 (by simp)
  | [],[]=>simp;exact .tup _ _ rfl (fun i hi=>by simp at hi)
  | a :: b :: r,x :: y :: z=>
    rw[dif_neg (by simp)]
    refine .tup _ _ (by simpa using hl) fun i hi=>?_
    have:=h i hi
    simpa[Array.getD_eq_getD_getElem?,List.getD_eq_getElem?_getD] using this
  | [],x :: z=>simp at hl
  | [v],[]=>simp at hl
  | [v],x :: y :: z=>simp at hl
  | a :: b :: r,[]=>simp at hl
  | a :: b :: r,[x]=>simp at hl
theorem zi0 {w0 : Home}{F0 D:Nat→Prop}{μ:Nat→Option Nat}{F:Nat→Prop}{w:World}{fn:Func}{rv:List ResultVar}(hr:fn.results=rv.toArray) {tmps:Array Value}(hH:HeapSim w0 F0 D μ F S.obj w) (he:∀s,Rep D μ F w (S.get s) (tmps.getD s undef)) {vs:List PV}(hvs:zfL P S rv=some vs):
    ∃v,(results fn tmps).run P w=.ok v w∧Rep D μ F w (retV (znC S vs) (List.range vs.length)) v:=by
  let f:ResultVar→Sem Value:=fun
    | .tmp t=>pure (tmps.getD t undef)
    | .cell a t=>do loadVar t (←asAddr (tmps.getD a undef))
  have key : ∀ (l:List ResultVar) (vs:List PV),zfL P S l=some vs→∃xs:List Value,(l.mapM f).run P w=.ok xs w∧xs.length=vs.length∧∀i (h:i<vs.length),Rep D μ F w vs[i] (xs.getD i undef):=by
    intro l
    induction l with
    | nil=>intro vs h;cases h;exact⟨[],by simp,rfl,fun i h=>by simp at h⟩
    | cons x l ih=>
      intro vs h
      cases x with
      | tmp t=>
        simp only[zfL] at h
        cases hl:zfL P S l with
        | none=>rw[hl] at h;cases h
        | some vs'=>
          rw[hl] at h;cases h
          obtain⟨xs,h1,h2,h3⟩:=ih vs' hl
          refine⟨tmps.getD t undef :: xs,?_,by simp[h2],fun i hi=>?_⟩
          · rw[List.mapM_cons,Sem.run_bind,show(f (.tmp t)).run P w=.ok (tmps.getD t undef) w from rfl]
            simp only[Result.andThen_ok,Sem.run_bind,h1,Sem.run_pure]
          · cases i with
            | zero=>simpa using he t
            | succ i=>simpa using h3 i (by simpa using hi)
      | cell a t=>
        simp only[zfL] at h
        split at h<;>try (cases h;done)
        rename_i i sz k c ag m hp ha hm
        split at h<;>try (cases h;done)
        rename_i o ho
        split at h<;>try (cases h;done)
        rename_i hc
        cases hl:zfL P S l with
        | none=>rw[hl] at h;cases h
        | some vs'=>
          rw[hl] at h;cases h
          obtain⟨xs,h1,h2,h3⟩:=ih vs' hl
          have hrep:=he a
          rw[hp] at hrep
          generalize hu:tmps.getD a undef=u at hrep
          cases hrep with
          | ptr _ _ _ _ b hD hb hkd=>
            have hok:=hH.cellsOk ho hb hkd
            have hk:=hc.2.1
            have hin:=hc.2.2
            rw[zfa _ _ hk] at hin ⊢
            have hin':bif ag then c+m≤o.els[k].cells.length else c<o.els[k].cells.length:=by
              cases ag
              · simp only[cond_false] at hin ⊢;exact of_decide_eq_true hin
              · simp only[cond_true] at hin ⊢;exact of_decide_eq_true hin
            obtain⟨v,g1,g2⟩:=zcY (D:=D) (μ:=μ) (F:=F) (w:=w) (ad:=⟨b,k * sz+c,none⟩) ha hm hin' rfl (fun j hj hcj=>by
              obtain⟨v,g1,_,g3⟩:=hok.cell hk hj
              refine⟨v,?_,g3⟩
              rw[←hc.1]
              rw[show k * o.sz+c+(j - c)=k * o.sz+j by omega];exact g1)
            refine⟨v :: xs,?_,by simp[h2],fun i hi=>?_⟩
            · rw[List.mapM_cons,Sem.run_bind,show(f (.cell a t)).run P w=.ok v w by
                show(do loadVar t (←asAddr (tmps.getD a undef)):Sem Value).run P w=_
                rw[hu];simpa[asAddr] using g1]
              simp only[Result.andThen_ok,Sem.run_bind,h1,Sem.run_pure]
            · cases i with
              | zero=>simpa using g2
              | succ i=>simpa using h3 i (by simpa using hi)
  obtain⟨xs,h1,h2,h3⟩:=key rv vs hvs
  refine⟨if h:xs.toArray.size=1 then xs.toArray[0] else .tuple xs.toArray,?_,?_⟩
  · have e:results fn tmps=(do let vs ←fn.results.mapM f;pure (if h:vs.size=1 then vs[0] else .tuple vs)):=rfl
    rw[e,hr,Array.mapM_eq_mapM_toList,Sem.run_bind,Sem.run_map,show(rv.toArray.toList.mapM f).run P w=.ok xs w by simpa using h1]
    rfl
  · rw[zeN];exact tup_rep h2 h3
theorem PureCall.introR{f:FuncId}{fn:Func}{c:Code}{args:List PV}{r:PV}{os:List AO}{rv:List ResultVar}(hf:P.funcs[f]? = some fn) (hb:fn.body=some c) (hr:fn.results=rv.toArray) (hn:fn.ntmps=n) (hla:args.length≤n) (hpure:args.all PV.pure=true)
    (h:Tri P n c ⟨zbN 0 args,[],0,[]⟩ (retQR P rv r os)):PureCall P f args r os:=by
  intro D μ F w vs hvs hargs hFs
  refine calls_of_wp hf hb ?_
  have hS:Sim ⟨w,fun _=>False⟩ F (fun _=>False) μ F [] ⟨zbN 0 args,[],0,[]⟩ n { tmps:=vs++Array.replicate (fn.ntmps - vs.size) undef,defers:=[] } w:=by
    refine⟨rfl,by simp[hvs,hn];omega,fun s=>?_,⟨fun i o hi=>(by cases hi),fun i j o o' b hi=>(by cases hi),fun i o b hi=>(by cases hi),Ext.refl _ _,fun b hb=>.inl hb,hFs⟩,fun i hi=>hi.elim,rfl,fun i hi=>by simp at hi⟩
    show Rep _ μ F w ((lk (zbN 0 args) s).getD .junk) _
    rw[zdY]
    simp only[Nat.zero_le,if_true,Nat.sub_zero]
    by_cases hs:s<args.length
    · rw[List.getElem?_eq_getElem hs]
      simp only[Option.getD_some]
      have e:(vs++Array.replicate (fn.ntmps - vs.size) undef).getD s undef=vs.getD s undef:=by
        simp only[Array.getD_eq_getD_getElem?]
        rw[Array.getElem?_append_left (by omega)]
      rw[e]
      exact(hargs s hs).pureAny (zbk hpure s hs)
    · rw[List.getElem?_eq_none (by omega)]
      exact .junk _
  refine wp_mono (h _ F _ μ F [] _ w hS) fun e a' w' ⟨S',D',μ',F',h1,h2⟩=>?_
  have fin:ResR P S' rv r os→a'.defers=[]∧∃v,(results fn a'.tmps).run P w'=.ok v w'∧∃v',Ending.returned v=.returned v'∧Bel w w'∧ResIs F w w' r os v':=fun⟨vs,hvs,hres⟩=>by
    obtain⟨v,hv,hrep⟩:=zi0 (P:=P) (S:=S') hr h2.heap h2.env hvs
    exact⟨h2.defers,v,hv,v,rfl,h2.heap.ext.below (fun _ h=>h),hres.is h2.heap h2.ids hrep⟩
  cases e with
  | normal=>exact fin h1
  | ret=>exact fin h1
  | exit id=>exact h1.elim
  | goto l=>exact h1.elim
  | panic ch=>exact h1.elim
  | outgrown=>exact h1.elim
theorem ProcCall.introR{f:FuncId}{fn:Func}{c:Code}{args:List PV}{hp:List AO}{r:PV}{hp':List (Option AO)}{os:List AO}{rv:List ResultVar}(hf:P.funcs[f]? = some fn) (hb:fn.body=some c) (hr:fn.results=rv.toArray) (hn:fn.ntmps=n) (hla:args.length≤n)
    (hlen:hp'.length=hp.length) (h:Tri P n c ⟨zbN 0 args,zbe 0 (hp.map some),hp.length,zbv 0 hp⟩ (retPR P rv r hp hp' os)):ProcCall P f args hp r hp' os:=by
  refine⟨hlen,fun μ F w vs hH hvs hargs=>calls_of_wp hf hb ?_⟩
  have hobj:(St.mk (zbN 0 args) (zbe 0 (hp.map some)) hp.length (zbv 0 hp)).obj=fun i=>hp[i]? := by
    funext i
    show(lk (zbe 0 (hp.map some)) i).join=_
    rw[zcB]
    simp only[Nat.zero_le,if_true,Nat.sub_zero,List.getElem?_map]
    cases hp[i]? <;> rfl
  have hS : Sim ⟨w,fun b=>∃i,i<hp.length∧μ i=some b⟩ F (· < hp.length) μ F ((List.range hp.length).map fun i=>zc7 (μ i)) ⟨zbN 0 args,zbe 0 (hp.map some),hp.length,zbv 0 hp⟩ n { tmps:=vs++Array.replicate (fn.ntmps - vs.size) undef,defers:=[] } w:=by
    refine⟨rfl,by simp[hvs,hn];omega,fun s=>?_,by rw[hobj];exact hH,fun i hi=>hi,by simp[zbJ],fun i hi=>?_⟩
    · show Rep _ μ F w ((lk (zbN 0 args) s).getD .junk) _
      rw[zdY]
      simp only[Nat.zero_le,if_true,Nat.sub_zero]
      by_cases hs:s<args.length
      · rw[List.getElem?_eq_getElem hs]
        simp only[Option.getD_some]
        have e:(vs++Array.replicate (fn.ntmps - vs.size) undef).getD s undef=vs.getD s undef:=by
          simp only[Array.getD_eq_getD_getElem?]
          rw[Array.getElem?_append_left (by omega)]
        rw[e]
        exact hargs s hs
      · rw[List.getElem?_eq_none (by omega)]
        exact .junk _
    · simp only at hi
      have hi':i<hp.length:=by rwa [zbJ] at hi
      have e1:(zbv 0 hp)[i]'hi=.mark i:=by
        have:=zdW hp 0 i
        rw[List.getElem?_eq_getElem hi,List.getElem?_eq_getElem hi'] at this
        simpa using this
      have e2:((List.range hp.length).map fun i=>zc7 (μ i)).getD i undef=zc7 (μ i):=by simp[List.getD_eq_getElem?_getD,hi']
      rw[e1,e2]
      exact .mark i _ hi' rfl
  refine wp_mono (h _ F _ μ F _ _ w hS) fun e a' w' ⟨S',D',μ',F',h1,h2⟩=>?_
  have fin:ResPR P S' rv r hp hp' os→a'.defers=[]∧∃v,(results fn a'.tmps).run P w'=.ok v w'∧∃v',Ending.returned v=.returned v'∧∃(μ2:Nat→Option Nat) (F2:Nat→Prop),Rep (· < hp.length+os.length) μ2 F2 w' r v'∧
      HeapSim ⟨w,fun b=>∃i,i<hp.length∧μ i=some b⟩ F (· < hp.length+os.length) μ2 F2 (fun i=>((hp'++os.map some)[i]?).join) w'∧(∀i,i<hp.length→μ2 i=μ i):=fun⟨vs,hvs,L,k,hr1,hl0⟩=>by
    have hl:LeqS k L S' ⟨[],zbe 0 (hp'++os.map some),hp'.length+os.length,zbv 0 hp⟩:=⟨fun p hp=>(by cases hp),hl0.hp,hl0.nx,hl0.nodup,hl0.ghl,hl0.gh⟩
    have hr1:sealed S'.obj (fun i=>L.contains i) k (retV (znC S' vs) (List.range vs.length))=r.ren (rmap L S'.nx):=hr1
    obtain⟨v,hv,hrep⟩:=zi0 (P:=P) (S:=S') hr h2.heap h2.env hvs
    have h3:=h2.leq ⟨k,hl⟩
    have hD:∀i,D' (rmap L S'.nx i)→i<hp.length+os.length∧μ' (rmap L S'.nx i)=μ' (rmap L S'.nx i):=fun i hi=>⟨by
      have:=h3.ids i hi
      have e:(St.mk [] (zbe 0 (hp'++os.map some)) (hp'.length+os.length) (zbv 0 hp)).nx=hp'.length+os.length:=rfl
      rw[e] at this;omega,rfl⟩
    refine⟨h2.defers,v,hv,v,rfl,fun i=>μ' (rmap L S'.nx i),frz S' L μ' F',?_,?_,fun i hi=>?_⟩
    · have:=Rep.sealed h2.heap (fun i=>L.contains i) (frz S' L μ' F') (fun b h=>.inl h) (fun i o b h1 h2 h3=>.inr ⟨i,o,h1,h2,h3⟩) k _ _ hrep
      rw[hr1] at this
      exact this.ren_inv hD _ rfl
    · have:=h3.heap.widen (D':=(· < hp.length+os.length)) (fun i hi=>(hD i hi).1)
      have e:(St.mk [] (zbe 0 (hp'++os.map some)) (hp'.length+os.length) (zbv 0 hp)).obj=fun i=>((hp'++os.map some)[i]?).join:=by
        funext i
        show(lk (zbe 0 (hp'++os.map some)) i).join=_
        rw[zcB];simp
      rw[e] at this
      exact this
    · have hi2:i<(zbv 0 hp).length:=by rw[zbJ];exact hi
      have:=h3.gh i hi2
      have e1:(zbv 0 hp)[i]'hi2=.mark i:=by
        have:=zdW hp 0 i
        rw[List.getElem?_eq_getElem hi2,List.getElem?_eq_getElem hi] at this
        simpa using this
      have e2:((List.range hp.length).map fun i=>zc7 (μ i)).getD i undef=zc7 (μ i):=by simp[List.getD_eq_getElem?_getD,hi]
      simp only[e1,e2] at this
      generalize hpv:zc7 (μ i)=pv at this
      cases this with
      | mark _ _ g1 g2=>
        show μ' (rmap L S'.nx i)=μ i
        exact(zhD (hpv.trans g2)).symm
  cases e with
  | normal=>exact fin h1
  | ret=>exact fin h1
  | exit id=>exact h1.elim
  | goto l=>exact h1.elim
  | panic ch=>exact h1.elim
  | outgrown=>exact h1.elim
theorem Pure.introR {f : FuncId} {fn : Func} {c : Code} {args : List PV} {r : PV} {os : List AO} {rv : List ResultVar} (hf : P.funcs[f]? = some fn) (hname : (fn.name == "runtime.NumGoroutine") = false) (hb : fn.body = some c) (hr : fn.results = rv.toArray) (hn : fn.ntmps = n) (hla : args.length ≤ n) (hpure : args.all PV.pure = true)
    (h:Tri P n c ⟨zbN 0 args,[],0,[]⟩ (retQR P rv r os)):Pure P f args r os:=⟨Go.Proofs.enters_of hf hname hb,PureCall.introR hf hb hr hn hla hpure h⟩
theorem Proc.introR {f : FuncId} {fn : Func} {c : Code} {args : List PV} {hp : List AO} {r : PV} {hp' : List (Option AO)} {os : List AO} {rv : List ResultVar} (hf : P.funcs[f]? = some fn) (hname : (fn.name == "runtime.NumGoroutine") = false) (hb : fn.body = some c) (hr : fn.results = rv.toArray) (hn : fn.ntmps = n) (hla : args.length ≤ n)
    (hlen:hp'.length=hp.length) (h:Tri P n c ⟨zbN 0 args,zbe 0 (hp.map some),hp.length,zbv 0 hp⟩ (retPR P rv r hp hp' os)):Proc P f args hp r hp' os:=⟨Go.Proofs.enters_of hf hname hb,ProcCall.introR hf hb hr hn hla hlen h⟩
end
theorem Tri.nilF{P:Program}{n:Nat}{c:Code}{S:St}{Q:Exit→St→Prop}(i k sz osz:Nat) (cs:List PV) (h:S.obj i=some ⟨osz,[.agg cs]⟩) (hk:cs[k]? = some (.atom (.slice none 0 0)))
    (ht:Tri P n c ⟨S.env,(i,some ⟨osz,[.agg (cs.set k (.sl sz []))]⟩) :: S.hp,S.nx,S.gh⟩ Q):Tri P n c S Q:=fun w0 F0 D μ F G a w hS=>by
  refine ht w0 F0 D μ F G a w ⟨hS.defers,hS.size,hS.env,?_,hS.ids,hS.ghl,hS.gh⟩
  have h2 := hS.heap.swap i ⟨osz,[.agg cs]⟩ ⟨osz,[.agg (cs.set k (.sl sz []))]⟩ h (fun hst=>by
      cases hm:μ i with
      | none=>rw[hm] at hst;have:([.agg cs]:List PV)=[]:=hst;cases this
      | some b=>
        rw[hm] at hst
        obtain⟨A,e,g1,g2,g3,g4⟩:=ObjOk.cellsOf (k:=0) (hst:ObjOk _ _ _ _ b _) rfl rfl
        show ObjOk D μ F w b ⟨osz,[.agg (cs.set k (.sl sz []))]⟩
        refine .inl ⟨A,e,g1,g2,fun m hm2=>?_,fun m hm2 c hc=>?_⟩
        · have:m=0:=by simp at hm2;omega
          subst this
          have:=g3 0 (by simp)
          simpa[PV.cells] using this
        · have:m=0:=by simp at hm2;omega
          subst this
          have hc':c<cs.length:=by simpa[PV.cells] using hc
          have hr:=g4 0 (by simp) c (by simpa[PV.cells] using hc')
          simp only[List.getElem_cons_zero,PV.cells] at hr ⊢
          rw[List.getElem_set]
          split
          · rename_i hkc
            subst hkc
            have e1:cs[k]=.atom (.slice none 0 0):=by
              have:=List.getElem?_eq_getElem hc'
              rw[hk] at this;exact(Option.some.inj this).symm
            rw[e1] at hr
            rw[zfP hr]
            exact .sl0 sz none 0 (by unfold maxLen;omega) (fun _=>rfl) (fun x hx=>by cases hx)
          · exact hr)
  have e:(St.mk S.env ((i,some ⟨osz,[.agg (cs.set k (.sl sz []))]⟩) :: S.hp) S.nx S.gh).obj=upd S.obj i (some ⟨osz,[.agg (cs.set k (.sl sz []))]⟩):=by
    funext j
    show(lk ((i,_) :: S.hp) j).join=_
    unfold upd
    by_cases hj:i=j
    · rw[lk,if_pos hj,if_pos hj.symm];rfl
    · rw[lk,if_neg hj,if_neg (Ne.symm hj)];rfl
  rw[e];exact h2
theorem ResR.cell1{P:Program}{S:St}{rv:ResultVar}{r:PV}(x:PV) (h:zfL P S [rv]=some [x]) (hs:sealed S.obj (fun _=>false) 5 x=r) (hp:r.pure=true):ResR P S [rv] r []:=
  ⟨[x],h,ResOk.frz 5 (by rw[zeN];exact hs) hp⟩
theorem ResR.cells{P:Program}{S:St}{rv:List ResultVar}{r:PV}(x y:PV) (l:List PV) (h:zfL P S rv=some (x :: y :: l)) (hs:sealed S.obj (fun _=>false) 6 (.tup (x :: y :: l))=r) (hp:r.pure=true):ResR P S rv r []:=
  ⟨x :: y :: l,h,ResOk.frz 6 (by rw[zeN];exact hs) hp⟩
def choT (x:LexD) (ws:List ByteArray) (k:Nat):FormD×Bool:=match zlq x ws k with
  | some f=>(f,true)
  | none=>(noF,false)
theorem zfX{l:List PrefD}{i:Nat}(h:i<l.length):l.drop i=fA l i :: l.drop (i+1):=by rw[List.drop_eq_getElem_cons h,zmu h]
def znM (x:LexD) (ws:List ByteArray) (n:Nat):List Int:=((List.range n).filter fun k => !(choT x ws k).2).map fun(k:Nat)=>(k:Int)
theorem zeP (x:LexD) (ws:List ByteArray) (n:Nat):znM x ws (n+1)=if (choT x ws n).2=true then znM x ws n else znM x ws n++[(n:Int)]:=by
  unfold znM
  rw[List.range_succ,List.filter_append,List.map_append]
  cases h:(choT x ws n).2<;>simp[h]
def zqG (x:LexD) (ws:List ByteArray):List Int:=if errX x ws≠0 then [] else znM x ws ws.length
def zku (x:LexD) (ws:List ByteArray) (n:Nat):List FormD:=(List.range n).map fun k=>(choT x ws k).1
theorem zmR (x:LexD) (ws:List ByteArray) (n:Nat):zku x ws (n+1)=zku x ws n++[(choT x ws n).1]:=by
  unfold zku;rw[List.range_succ,List.map_append];rfl
def sureX (x:LexD) (ws:List ByteArray):Bool:=(List.range ws.length).all fun k=>(choT x ws k).2
def zf8 (x:LexD) (ws:List ByteArray):List FormD×Int:=if errX x ws≠0 then ([],errX x ws) else if sureX x ws then (zku x ws ws.length,0) else ([],14)
theorem zoJ{x:LexD}{ws:List ByteArray}(h:errX x ws≠0):zf8 x ws=([],errX x ws):=if_pos h
theorem zmQ{x:LexD}{ws:List ByteArray}(h:¬errX x ws≠0) {i:Nat}(hi:i<ws.length) (h2:(choT x ws i).2=false):zf8 x ws=([],14):=by
  unfold zf8;rw[if_neg h,if_neg]
  intro ha
  have:=List.all_eq_true.1 ha i (List.mem_range.2 hi)
  rw[h2] at this;cases this
theorem zmP{x:LexD}{ws:List ByteArray}(h:¬errX x ws≠0) (h2:∀j,j<ws.length→(choT x ws j).2=true):zf8 x ws=(zku x ws ws.length,0):=by
  unfold zf8;rw[if_neg h,if_pos]
  exact List.all_eq_true.2 fun j hj=>h2 j (List.mem_range.1 hj)
def zcF (x:LexD) (ws:List ByteArray) (k:Int):FormD×Int:=
  if errX x ws≠0 then (noF,errX x ws) else if k<0∨(ws.length:Int)≤k then (noF,5) else if (choT x ws k.toNat).2 then ((choT x ws k.toNat).1,0) else (noF,14)
theorem zlp{x:LexD}{ws:List ByteArray}{k:Int}(h:errX x ws≠0):zcF x ws k=(noF,errX x ws):=if_pos h
theorem zlo{x:LexD}{ws:List ByteArray}{k:Int}(h:¬errX x ws≠0) (h2:k<0∨(ws.length:Int)≤k):zcF x ws k=(noF,5):=by
  unfold zcF;rw[if_neg h,if_pos h2]
theorem zj1{x:LexD}{ws:List ByteArray}{k:Int}(h:¬errX x ws≠0) (h2:¬ (k<0∨(ws.length:Int)≤k)) (h3:(choT x ws k.toNat).2=false):zcF x ws k=(noF,14):=by
  unfold zcF;rw[if_neg h,if_neg h2,h3];rfl
theorem zj0{x:LexD}{ws:List ByteArray}{k:Int}(h:¬errX x ws≠0) (h2:¬ (k<0∨(ws.length:Int)≤k)) (h3:(choT x ws k.toNat).2=true):zcF x ws k=((choT x ws k.toNat).1,0):=by
  unfold zcF;rw[if_neg h,if_neg h2,h3];rfl
def zir:List ByteArray:=[⟨#[110,111,117,110]⟩,⟨#[118,101,114,98]⟩,⟨#[110,97,109,101]⟩]
def zkm:List ByteArray:=[⟨#[97,110,110,97]⟩,⟨#[114,111,109,101]⟩,⟨#[107,105,110,103]⟩,⟨#[116,104,101]⟩,⟨#[111,102]⟩,⟨#[111,100,101]⟩,⟨#[108,121,114,101]⟩,⟨#[120]⟩,⟨#[111,100,101,115]⟩,⟨#[107,105,110,103,115]⟩,⟨#[97,110,110,97,115]⟩,⟨#[108,121,114,101,115]⟩,⟨#[115]⟩,⟨#[104,105,115]⟩]
def zaO (n:Int):ByteArray:=ls zir (zaM n 3).toNat
def zg8 (n:Int):ByteArray:=ls zkm (zaM n 14).toNat
theorem zea (n:Int) (hn:I64 n):Pure Tryz.prog 40 [encI n] (encS (zaO n)) []:=by
  have h0:=zbH (n:=n) (most:=3) (by decide)
  have h3:=zbI (n:=n) (most:=3) (by decide)
  have hg:([.atom (.string ⟨#[110,111,117,110]⟩),.atom (.string ⟨#[118,101,114,98]⟩),.atom (.string ⟨#[110,97,109,101]⟩)]:List PV).getD (zaM n 3).toNat .junk=.atom (.string (zaO n)):=zbf (l:=zir) (k:=(zaM n 3).toNat) (by show _<3;omega)
  refine Pure.intro (ts:=[2]) Tryz.func40 (by kernel_rfl) rfl rfl rfl (Nat.le_of_ble_eq_true rfl) ?_ ?_
  · simp[zah,zag,encI,encS,PV.pure,zaE]
  refine sY [0] (fun P S K=>K ⟨[(0,S.get 0)],S.hp,S.nx,S.gh⟩) ?_
  all_goals
  refine sZ [2] (fun P S K=>XvBuildS P 37 3 S.nx [(0,(.atom (.string { data := #[110,111,117,110] }))),(1,(.atom (.string { data := #[118,101,114,98] }))),(2,(.atom (.string { data := #[110,97,109,101] })))] (fun r0 ef0=>XvFnIV P (M (Eff.hp ef0 S.nx S.hp) (S.nx+ef0.add.length)) (.fn 31 []) [(S.get 0),(.atom (.int .i64 3))] (fun r2 ef2=>XvIndexAddr P 37 r0 r2 (fun r3 _=>XvLoad P 9 (M (Eff.hp ef2 (S.nx+ef0.add.length) (Eff.hp ef0 S.nx S.hp)) ((S.nx+ef0.add.length)+ef2.add.length)) r3 (fun r4 _=>K ⟨[(2,r4)],(Eff.hp ef2 (S.nx+ef0.add.length) (Eff.hp ef0 S.nx S.hp)),((S.nx+ef0.add.length)+ef2.add.length),S.gh⟩))))) fun K hK=>?_
  repeat' (first|(refine hK _ ?_;clear hK K)|refine And.intro ?_ ?_|exact cl|refine .inl ⟨_,_,za8 n 3 hn (by decide),?_⟩|(refine st ?_;try simp only[hg])|fail)
  all_goals
  refine Tri.ret ?_
  show ResOk _ _ _ _
  exact ResOk.val zbX zbL
theorem zhv (n:Int) (hn:I64 n):Pure Tryz.prog 39 [encI n] (encS (zg8 n)) []:=by
  have h0:=zbH (n:=n) (most:=14) (by decide)
  have h3:=zbI (n:=n) (most:=14) (by decide)
  have hg:([.atom (.string ⟨#[97,110,110,97]⟩),.atom (.string ⟨#[114,111,109,101]⟩),.atom (.string ⟨#[107,105,110,103]⟩),.atom (.string ⟨#[116,104,101]⟩),.atom (.string ⟨#[111,102]⟩),.atom (.string ⟨#[111,100,101]⟩),.atom (.string ⟨#[108,121,114,101]⟩),.atom (.string ⟨#[120]⟩),.atom (.string ⟨#[111,100,101,115]⟩),.atom (.string ⟨#[107,105,110,103,115]⟩),.atom (.string ⟨#[97,110,110,97,115]⟩),.atom (.string ⟨#[108,121,114,101,115]⟩),.atom (.string ⟨#[115]⟩),.atom (.string ⟨#[104,105,115]⟩)]:List PV).getD (zaM n 14).toNat .junk=.atom (.string (zg8 n)):=zbf (l:=zkm) (k:=(zaM n 14).toNat) (by show _<14;omega)
  refine Pure.intro (ts:=[2]) Tryz.func39 (by kernel_rfl) rfl rfl rfl (Nat.le_of_ble_eq_true rfl) ?_ ?_
  · simp[zah,zag,encI,encS,PV.pure,zaE]
  refine sY [0] (fun P S K=>K ⟨[(0,S.get 0)],S.hp,S.nx,S.gh⟩) ?_
  all_goals
  refine sY [0,3] (fun P S K=>XvBuildS P 37 14 S.nx [(0,(.atom (.string { data := #[97,110,110,97] }))),(1,(.atom (.string { data := #[114,111,109,101] }))),(2,(.atom (.string { data := #[107,105,110,103] }))),(3,(.atom (.string { data := #[116,104,101] }))),(4,(.atom (.string { data := #[111,102] }))),(5,(.atom (.string { data := #[111,100,101] }))),(6,(.atom (.string { data := #[108,121,114,101] }))),(7,(.atom (.string { data := #[120] }))),(8,(.atom (.string { data := #[111,100,101,115] }))),(9,(.atom (.string { data := #[107,105,110,103,115] }))),(10,(.atom (.string { data := #[97,110,110,97,115] }))),(11,(.atom (.string { data := #[108,121,114,101,115] }))),(12,(.atom (.string { data := #[115] }))),(13,(.atom (.string { data := #[104,105,115] })))] (fun r0 ef0=>K ⟨[(0,S.get 0),(3,r0)],(Eff.hp ef0 S.nx S.hp),(S.nx+ef0.add.length),S.gh⟩)) ?_
  all_goals
  refine sZ [2] (fun P S K=>XvLen P 37 (M S.hp S.nx) (S.get 3) (fun r3 _=>XvFnIV P (M S.hp S.nx) (.fn 31 []) [(S.get 0),r3] (fun r4 ef4=>XvIndexAddr P 37 (S.get 3) r4 (fun r5 _=>XvLoad P 9 (M (Eff.hp ef4 S.nx S.hp) (S.nx+ef4.add.length)) r5 (fun r6 _=>K ⟨[(2,r6)],(Eff.hp ef4 S.nx S.hp),(S.nx+ef4.add.length),S.gh⟩))))) fun K hK=>?_
  repeat' (first|(refine hK _ ?_;clear hK K)|refine And.intro ?_ ?_|exact cl|refine .inl ⟨_,_,za8 n 14 hn (by decide),?_⟩|(refine st ?_;try simp only[hg])|refine sx ?_ (by simp only[hg];exact rfl)|fail)
  all_goals
  refine Tri.ret ?_
  show ResOk _ _ _ _
  exact ResOk.val zbX zbL
def zfd (l:List Int):List ByteArray:=(l.take 7).map zg8
theorem take_liM{l:List Int}{k:Nat}(h:k<l.length):l.take (k+1)=l.take k++[li l k]:=by rw[List.take_succ_eq_append_getElem h];simp[li,List.getD_eq_getElem?_getD,h]
end Go.Proofs.YtehoglapajkabaaGreat
