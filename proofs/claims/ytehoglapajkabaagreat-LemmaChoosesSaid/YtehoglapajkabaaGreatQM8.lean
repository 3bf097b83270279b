/-
  The clean machine: a nil field of an own struct,seen as a frozen row that is empty;a nil result seen so.
-/
import Derived.Test.YtehoglapajkabaaGreatQM0
import Derived.Test.YtehoglapajkabaaGreatQVR
set_option linter.all false
namespace Go.Proofs.YtehoglapajkabaaGreat
open Go Go.RowKit
theorem Tri.nilE{P:Program}{n:Nat}{c:Code}{S:St}{Q:Exit→St→Prop}(i k sz osz:Nat) (els:List PV) (h:S.obj i=some ⟨osz,els⟩) (hk:els[k]? = some (.atom (.slice none 0 0)))
    (ht:Tri P n c ⟨S.env,(i,some ⟨osz,els.set k (.sl sz [])⟩) :: S.hp,S.nx,S.gh⟩ Q):Tri P n c S Q:=fun w0 F0 D μ F G a w hS=>by
  refine ht w0 F0 D μ F G a w ⟨hS.defers,hS.size,hS.env,?_,hS.ids,hS.ghl,hS.gh⟩
  have h2 := hS.heap.swap i ⟨osz,els⟩ ⟨osz,els.set k (.sl sz [])⟩ h (fun hst=>by
      cases hm:μ i with
      | none=>rw[hm] at hst;have:els=[]:=hst;subst this;simp at hk
      | some b=>
        rw[hm] at hst
        obtain⟨A,e,g1,g2,g3,g4⟩:=ObjOk.cellsOf (hst:ObjOk _ _ _ _ b _) hk rfl
        have hke:∀(hm2:k<els.length),els[k]=.atom (.slice none 0 0):=fun hm2=>by
          rw[List.getElem?_eq_getElem hm2] at hk;exact Option.some.inj hk
        show ObjOk D μ F w b ⟨osz,els.set k (.sl sz [])⟩
        refine .inl ⟨A,e,g1,by simpa using g2,fun m hm2=>?_,fun m hm2 c hc=>?_⟩
        · have hm3:m<els.length:=by simpa using hm2
          simp only
          rw[List.getElem_set]
          split
          · rename_i hkm
            subst hkm
            have:=g3 k hm3
            rw[hke hm3] at this
            exact this
          · exact g3 m hm3
        · have hm3:m<els.length:=by simpa using hm2
          simp only at hc ⊢
          by_cases hkm:k=m
          · subst hkm
            have e2:(els.set k (PV.sl sz []))[k]'(by simpa using hm3)=.sl sz []:=by simp
            have hc0:c=0:=by
              rw[e2] at hc
              have:c<1:=hc
              omega
            subst hc0
            have hr:=g4 k hm3 0 (by rw[hke hm3];exact Nat.zero_lt_one)
            have e3:(els[k].cells)[0]'(by rw[hke hm3];exact Nat.zero_lt_one)=.atom (.slice none 0 0):=by
              rw[gl (congrArg PV.cells (hke hm3)) _];rfl
            simp only at hr
            rw[e3] at hr
            have e4:((els.set k (PV.sl sz []))[k]'(by simpa using hm3)).cells[0]'hc=.sl sz []:=by
              rw[gl (congrArg PV.cells e2) _];rfl
            rw[e4,zgJ hr]
            exact .sl0 sz none 0 (by unfold maxLen;omega) (fun _=>rfl) (fun x hx=>by cases hx)
          · have e2:(els.set k (PV.sl sz []))[m]'(by simpa using hm3)=els[m]:=by rw[List.getElem_set,if_neg hkm]
            rw[gl (congrArg PV.cells e2) hc]
            exact g4 m hm3 c _)
  have e:(St.mk S.env ((i,some ⟨osz,els.set k (.sl sz [])⟩) :: S.hp) S.nx S.gh).obj=upd S.obj i (some ⟨osz,els.set k (.sl sz [])⟩):=by
    funext j
    show(lk ((i,_) :: S.hp) j).join=_
    unfold upd
    by_cases hj:i=j
    · rw[lk,if_pos hj,if_pos hj.symm];rfl
    · rw[lk,if_neg hj,if_neg (Ne.symm hj)];rfl
  rw[e];exact h2
theorem ResR.cell1{P:Program}{S:St}{rv:ResultVar}{r:PV}(x:PV) (h:zeN P S [rv]=some [x]) (hs:sealed S.obj (fun _=>false) 5 x=r) (hp:r.pure=true):ResR P S [rv] r []:=
  ⟨[x],h,ResOk.frz 5 (by rw[zdH];exact hs) hp⟩
theorem ResR.cells{P:Program}{S:St}{rv:List ResultVar}{r:PV}(x y:PV) (l:List PV) (h:zeN P S rv=some (x :: y :: l)) (hs:sealed S.obj (fun _=>false) 6 (.tup (x :: y :: l))=r) (hp:r.pure=true):ResR P S rv r []:=
  ⟨x :: y :: l,h,ResOk.frz 6 (by rw[zdH];exact hs) hp⟩
set_option maxRecDepth 20000
set_option maxHeartbeats 1000000
def choT (x:LexD) (ws:List ByteArray) (k:Nat):FormD×Bool:=match zfT x ws k with
  | some f=>(f,true)
  | none=>(noF,false)
def zgG (c:ByteArray) (l:List FormD):List FormD:=l.filter fun f=>decide (f.cls=c)
theorem zco{c:ByteArray}{l:List FormD}{j:Nat}(h:j<l.length):zgG c (l.take (j+1))=if (fF l j).cls=c then zgG c (l.take j)++[fF l j] else zgG c (l.take j):=by
  unfold zgG
  rw[zdU h,List.filter_append]
  by_cases hc:(fF l j).cls=c
  · rw[if_pos hc];simp[hc]
  · rw[if_neg hc];simp[hc]
theorem zex{l:List PrefD}{i:Nat}(h:i<l.length):l.drop i=fA l i :: l.drop (i+1):=by rw[List.drop_eq_getElem_cons h,zmJ h]
theorem zg2{x:LexD}{ws:List ByteArray}{k i:Nat}{l:List FormD}(hi:i<x.prefs.length) (h:zbq x ws ((k:Int) - 1) (fA x.prefs i).after=false∨zbq x ws ((k:Int)+1) (fA x.prefs i).before=false∨(zgG (fA x.prefs i).cls l).length≠1):
    zdT x ws k l (x.prefs.drop i)=zdT x ws k l (x.prefs.drop (i+1)):=by
  rw[zex hi,zdT,if_neg]
  rw[Bool.and_eq_true,Bool.and_eq_true,decide_eq_true_eq]
  rintro⟨⟨h1,h2⟩,h3⟩
  rcases h with h|h|h
  · rw[h1] at h;cases h
  · rw[h2] at h;cases h
  · exact h h3
theorem zlC{x:LexD}{ws:List ByteArray}{k i:Nat}{l:List FormD}{f:FormD}(hi:i<x.prefs.length) (h1:zbq x ws ((k:Int) - 1) (fA x.prefs i).after=true) (h2:zbq x ws ((k:Int)+1) (fA x.prefs i).before=true) (h3:(zgG (fA x.prefs i).cls l).length=1) (h4:(zgG (fA x.prefs i).cls l).getLast? = some f):
    zdT x ws k l (x.prefs.drop i)=some f:=by
  rw[zex hi,zdT,if_pos (by rw[h1,h2];exact decide_eq_true h3)]
  show(zgG (fA x.prefs i).cls l).head? = some f
  match hp:zgG (fA x.prefs i).cls l,h3,h4 with
  | [y],_,h4=>simpa using h4
  | [],h3,_=>cases h3
  | _ :: _ :: _,h3,_=>simp at h3
theorem choT_one{x:LexD}{ws:List ByteArray}{k:Nat}(h:(allX x (ls ws k)).length=1):choT x ws k=(fF (allX x (ls ws k)) 0,true):=by
  unfold choT zfT
  rw[if_pos h]
  match hp:allX x (ls ws k),h with
  | [y],_=>rfl
  | [],h=>cases h
  | _ :: _ :: _,h=>simp at h
theorem zrQ{x:LexD}{ws:List ByteArray}{k:Nat}{f:FormD}(h:¬ (allX x (ls ws k)).length=1) (h2:zdT x ws k (allX x (ls ws k)) x.prefs=some f):choT x ws k=(f,true):=by
  unfold choT zfT;rw[if_neg h,h2]
theorem zrR{x:LexD}{ws:List ByteArray}{k:Nat}(h:¬ (allX x (ls ws k)).length=1) (h2:zdT x ws k (allX x (ls ws k)) x.prefs=none):choT x ws k=(noF,false):=by
  unfold choT zfT;rw[if_neg h,h2]
theorem zeh (x:LexD) (ws:List ByteArray) (k:Nat) (hx:HeldX x) (hn:ws.length≤4294967296) (hw:∀w,w∈ws→w.size≤140737488355328) (hk:k<ws.length):
    Pure Tryz.prog 65 [encX x,strs ws,encI k] (.tup [encF (choT x ws k).1,.atom (.bool (choT x ws k).2)]) []:=by
  have hal:=ziK x (ls ws k) hx
  have hnp:=hx.nprefs
  refine Pure.introR (rv:=[.cell 6 76,.tmp 7]) Tryz.func65 (by kernel_rfl) rfl rfl rfl (Nat.le_of_ble_eq_true rfl) ?_ ?_
  · simp[zay,zag,encS,encI,PV.pure,zan]
  refine sZ [1,2,3,6] (fun P S K=>XvBox S.nx (S.get 0) (fun r0 ef0=>XvAlloc P 76 (S.nx+ef0.add.length) (fun r1 ef1=>K ⟨[(1,S.get 1),(2,S.get 2),(3,r0),(6,r1)],(Eff.hp ef1 (S.nx+ef0.add.length) (Eff.hp ef0 S.nx S.hp)),((S.nx+ef0.add.length)+ef1.add.length),S.gh⟩))) fun K hK=>?_
  repeat' (first|(refine hK _ ?_;clear hK K)|refine And.intro ?_ ?_|exact cl|(refine st ?_;try simp only[encX,zaa,zac,zad,encF,encA,zab])|fail)
  all_goals
  refine sD 7 [1,2,3,6,8] (fun P GD S K=>XvLoad P 32 (M S.hp S.nx) (S.get 3) (fun r0 ef0=>XvIndexAddr P 37 (S.get 1) (S.get 2) (fun r3 ef3=>XvLoad P 9 (M S.hp S.nx) r3 (fun r4 ef4=>XvFnDV P (M S.hp S.nx) (.fn 19 []) [r0,r4] (fun r5 ef5=>(trOk S.nx GD [⟨S.nx,0,ef0.rd,[],[]⟩,⟨S.nx,0,[],[],[]⟩,⟨S.nx,0,[],[],[]⟩,⟨S.nx,0,ef3.rd,[],[]⟩,⟨S.nx,0,ef4.rd,[],[]⟩,(Eff.tr ef5 S.nx),⟨(S.nx+ef5.add.length),0,[],[],[]⟩]=true∧K ⟨[(1,S.get 1),(2,S.get 2),(3,S.get 3),(6,S.get 6),(8,r5)],(Eff.hp ef5 S.nx S.hp),(S.nx+ef5.add.length),S.gh⟩)))))) fun K hK=>?_
  repeat' (first|(refine hK _ ?_;clear hK K)|(refine(?_:trOk _ _ _=true);(try simp only[zbl hk]);kernel_rfl)|refine And.intro ?_ ?_|exact cl|refine .inl ⟨_,_,zjs x (ls ws k) hx (hw _ (zfp hk)),?_⟩|(refine st ?_;try simp only[encX,zaa,zac,zad,encF,encA,zab,zbl hk])|fail)
  all_goals
  refine Tri.seq ?_
  refine sZ [1,2,3,6,8,22] (fun P S K=>XvLen P 28 (M S.hp S.nx) (S.get 8) (fun r1 _=>XvBinOV P .eql 3 (.const (.int .i64 1)) r1 (.atom (.int .i64 1)) (fun r2 _=>K ⟨[(1,S.get 1),(2,S.get 2),(3,S.get 3),(6,S.get 6),(8,S.get 8),(22,r2)],S.hp,S.nx,S.gh⟩))) fun K hK=>?_
  repeat' (first|(refine hK _ ?_;clear hK K)|refine And.intro ?_ ?_|exact cl|(refine st ?_;try simp only[encX,zaa,zac,zad,encF,encA,zab])|fail)
  all_goals
  refine Tri.cond rfl (fun h22=>?_) (fun h22=>?_)
  ·try (cases h22;done)
   all_goals (try simp only[CQ] at h22)
   all_goals
   have hpos:=zmT x (ls ws k)
   refine sZ [6,7] (fun P S K=>XvIndexAddr P 28 (S.get 8) (.atom (.int .i64 0)) (fun r1 _=>XvLoad P 76 (M S.hp S.nx) r1 (fun r2 _=>XvStore P 76 (M S.hp S.nx) (S.get 6) r2 (fun r3 ef3=>K ⟨[(6,S.get 6),(7,(.atom (.bool true)))],(Eff.hp ef3 S.nx S.hp),(S.nx+ef3.add.length),S.gh⟩)))) fun K hK=>?_
   repeat' (first|(refine hK _ ?_;clear hK K)|refine And.intro ?_ ?_|exact cl|(refine st ?_;try simp only[encX,zaa,zac,zad,encF,encA,zab,zaB hpos])|fail)
   all_goals
   refine Tri.ret ?_
   show ResR _ _ _ _ _
   rw[choT_one (by omega)]
   refine ResR.cells (encF (fF (allX x (ls ws k)) 0)) (.atom (.bool true)) [] rfl rfl rfl
  try (cases h22;done)
  all_goals (try simp only[CQ] at h22)
  all_goals
  refine Tri.skip ?_
  refine Tri.seq ?_
  refine sY [1,2,3,6,8,9] (fun P S K=>K ⟨[(1,S.get 1),(2,S.get 2),(3,S.get 3),(6,S.get 6),(8,S.get 8),(9,(.atom (.int .i64 0)))],S.hp,S.nx,S.gh⟩) ?_
  all_goals
  refine Tri.block ?_
  refine Tri.loop (α:=(i:Nat) ×' (i≤x.prefs.length∧zdT x ws k (allX x (ls ws k)) x.prefs=zdT x ws k (allX x (ls ws k)) (x.prefs.drop i))) (fun z=>(fun(i:Nat)=>(⟨[(1,strs ws),(2,encI k),(3,.ptr 0 3 0 0),(6,.ptr 1 3 0 0),(8,zaa (allX x (ls ws k))),(9,encI i)],[(0,some ⟨3,[encX x]⟩),(1,some ⟨3,[encF noF]⟩)],2,[]⟩:St)) z.1) (fun z=>(fun(i:Nat)=>x.prefs.length - i) z.1) ⟨0,⟨Nat.zero_le _,rfl⟩⟩ [0,1] ?_ ?_
  ·exact zaD
  rintro⟨i,⟨hi,hb⟩⟩
  refine Tri.seq ?_
  refine sZ [1,2,3,6,8,9,30] (fun P S K=>XvFieldAddr P 32 2 (S.get 3) (fun r1 _=>XvLoad P 30 (M S.hp S.nx) r1 (fun r2 _=>XvLen P 30 (M S.hp S.nx) r2 (fun r3 _=>XvBinOV P .lss 3 (.tmp 29) (S.get 9) r3 (fun r4 _=>K ⟨[(1,S.get 1),(2,S.get 2),(3,S.get 3),(6,S.get 6),(8,S.get 8),(9,S.get 9),(30,r4)],S.hp,S.nx,S.gh⟩))))) fun K hK=>?_
  repeat' (first|(refine hK _ ?_;clear hK K)|refine And.intro ?_ ?_|exact cl|(refine st ?_;try simp only[encX,zaa,zac,zad,encF,encA,zab])|fail)
  all_goals
  refine Tri.cond rfl (fun h30=>?_) (fun h30=>?_)
  ·try (cases h30;done)
   all_goals (try simp only[CQ] at h30)
   all_goals
   refine Tri.skip ?_
   refine Tri.seq ?_
   refine Tri.block ?_
   have hil:i<x.prefs.length:=by omega
   refine sZ [1,2,3,6,8,9,10] (fun P S K=>XvFieldAddr P 32 2 (S.get 3) (fun r0 _=>XvLoad P 30 (M S.hp S.nx) r0 (fun r1 _=>XvIndexAddr P 30 r1 (S.get 9) (fun r3 _=>XvLoad P 89 (M S.hp S.nx) r3 (fun r4 _=>XvAlloc P 89 S.nx (fun r5 ef5=>XvStore P 89 (M (Eff.hp ef5 S.nx S.hp) (S.nx+ef5.add.length)) r5 r4 (fun r6 ef6=>K ⟨[(1,S.get 1),(2,S.get 2),(3,S.get 3),(6,S.get 6),(8,S.get 8),(9,S.get 9),(10,r5)],(Eff.hp ef6 (S.nx+ef5.add.length) (Eff.hp ef5 S.nx S.hp)),((S.nx+ef5.add.length)+ef6.add.length),S.gh⟩))))))) fun K hK=>?_
   repeat' (first|(refine hK _ ?_;clear hK K)|refine And.intro ?_ ?_|exact cl|(refine st ?_;try simp only[encX,zaa,zac,zad,encF,encA,zab,zdR hil])|fail)
   all_goals
   refine Tri.seq ?_
   refine sZ [1,2,3,6,8,9,10,55] (fun P S K=>XvLoad P 32 (M S.hp S.nx) (S.get 3) (fun r0 _=>XvBinOV P .sub 3 (.const (.int .i64 1)) (S.get 2) (.atom (.int .i64 1)) (fun r3 _=>XvFieldAddr P 89 0 (S.get 10) (fun r4 _=>XvLoad P 9 (M S.hp S.nx) r4 (fun r5 _=>XvFnIV P (M S.hp S.nx) (.fn 85 []) [r0,(S.get 1),r3,r5] (fun r6 ef6=>XvUn .not r6 (fun r7 _=>Xgq r7 false (fun k=>XvLoad P 32 (M (Eff.hp ef6 S.nx S.hp) (S.nx+ef6.add.length)) (S.get 3) (fun r9 _=>k r9)) (fun g9 r9=>Xgq g9 false (fun k=>k (S.get 1)) (fun g10 r10=>Xgq g10 false (fun k=>k (S.get 2)) (fun g11 r11=>Xgq g11 false (fun k=>XvBinOV P .add 3 (.const (.int .i64 1)) r11 (.atom (.int .i64 1)) (fun r12 _=>k r12)) (fun g12 r12=>Xgq g12 false (fun k=>XvFieldAddr P 89 1 (S.get 10) (fun r13 _=>k r13)) (fun g13 r13=>Xgq g13 false (fun k=>XvLoad P 9 (M (Eff.hp ef6 S.nx S.hp) (S.nx+ef6.add.length)) r13 (fun r14 _=>k r14)) (fun g14 r14=>Xge g14 false (fun k=>XvFnIV P (M (Eff.hp ef6 S.nx S.hp) (S.nx+ef6.add.length)) (.fn 85 []) [r9,r10,r12,r14] k) (fun g15 r15 ef15=>Xgq g15 false (fun k=>XvUn .not r15 (fun r16 _=>k r16)) (fun g16 r16=>XvPick g16 (.atom (.bool true)) r16 (fun r17 _=>K ⟨[(1,S.get 1),(2,S.get 2),(3,S.get 3),(6,S.get 6),(8,S.get 8),(9,S.get 9),(10,S.get 10),(55,r17)],(Eff.hp ef15 (S.nx+ef6.add.length) (Eff.hp ef6 S.nx S.hp)),((S.nx+ef6.add.length)+ef15.add.length),S.gh⟩)))))))))))))))) fun K hK=>?_
   repeat' (first|(refine hK _ ?_;clear hK K)|((first|refine zak (fun hg=>?_) (fun hg=>?_)|refine fun(hg:(_:Prop))=>?_)<;>((try simp only[BQ] at hg);try (exfalso;omega)))|refine And.intro ?_ ?_|exact cl|refine .inl ⟨_,_,zfX x ws ((k:Int) - 1) (fA x.prefs i).after hx hn hw ⟨by omega,by omega⟩ (hx.prefs _ (zcA hil)).after,?_⟩|refine .inl ⟨_,_,zfX x ws ((k:Int)+1) (fA x.prefs i).before hx hn hw ⟨by omega,by omega⟩ (hx.prefs _ (zcA hil)).before,?_⟩|(refine st ?_;try simp only[encX,zaa,zac,zad,encF,encA,zab,zaf (x:=(k:Int) - 1) (by omega) (by omega),zaf (x:=(k:Int)+1) (by omega) (by omega)])|fail)
   all_goals try simp (disch:=omega) only[zaf,zae]
   all_goals
   refine Tri.cond rfl (fun h55=>?_) (fun h55=>?_)
   ·try (cases h55;done)
    all_goals (try simp only[CQ] at h55)
    all_goals
    refine Tri.exit ?_
    refine rY [1,2,3,6,8,9] (fun P S K=>XvBinOV P .add 3 (.const (.int .i64 1)) (S.get 9) (.atom (.int .i64 1)) (fun r1 _=>K ⟨[(1,S.get 1),(2,S.get 2),(3,S.get 3),(6,S.get 6),(8,S.get 8),(9,r1)],S.hp,S.nx,S.gh⟩)) ?_
    all_goals try simp (disch:=omega) only[zaf,zae]
    all_goals
    refine⟨⟨i+1,by omega,by rw[hb];exact zg2 hil (by first|exact .inl (by assumption)|exact .inr (.inl (by assumption))|exact .inr (.inr (by omega)))⟩,[0,1],by dsimp only;omega,?_⟩
    exact zaD
   try (cases h55;done)
   all_goals (try simp only[CQ] at h55)
   all_goals
   refine Tri.skip ?_
   refine sY [1,2,3,6,8,9,10,11] (fun P S K=>K ⟨[(1,S.get 1),(2,S.get 2),(3,S.get 3),(6,S.get 6),(8,S.get 8),(9,S.get 9),(10,S.get 10),(11,(.atom (.int .i64 0)))],S.hp,S.nx,S.gh⟩) ?_
   all_goals
   refine sY [1,2,3,6,8,9,10,11,12] (fun P S K=>K ⟨[(1,S.get 1),(2,S.get 2),(3,S.get 3),(6,S.get 6),(8,S.get 8),(9,S.get 9),(10,S.get 10),(11,S.get 11),(12,(.atom (.int .i64 0)))],S.hp,S.nx,S.gh⟩) ?_
   all_goals
   refine Tri.seq ?_
   refine sY [1,2,3,6,8,9,10,11,12,13] (fun P S K=>K ⟨[(1,S.get 1),(2,S.get 2),(3,S.get 3),(6,S.get 6),(8,S.get 8),(9,S.get 9),(10,S.get 10),(11,S.get 11),(12,S.get 12),(13,(.atom (.int .i64 0)))],S.hp,S.nx,S.gh⟩) ?_
   all_goals
   refine Tri.block ?_
   refine Tri.loop (α:=(n:Nat) ×' (a:Nat) ×' (j:Nat) ×' (j≤(allX x (ls ws k)).length∧n≤j∧n=(zgG (fA x.prefs i).cls ((allX x (ls ws k)).take j)).length∧(n=0∨(a<(allX x (ls ws k)).length∧(zgG (fA x.prefs i).cls ((allX x (ls ws k)).take j)).getLast? = some (fF (allX x (ls ws k)) a))))) (fun z=>(fun(n:Nat) (a:Nat) (j:Nat)=>(⟨[(1,strs ws),(2,encI k),(3,.ptr 0 3 0 0),(6,.ptr 1 3 0 0),(8,zaa (allX x (ls ws k))),(9,encI i),(10,.ptr 2 3 0 0),(11,encI n),(12,encI a),(13,encI j)],[(0,some ⟨3,[encX x]⟩),(1,some ⟨3,[encF noF]⟩),(2,some ⟨3,[encA (fA x.prefs i)]⟩)],3,[]⟩:St)) z.1 z.2.1 z.2.2.1) (fun z=>(fun(n:Nat) (a:Nat) (j:Nat)=>(allX x (ls ws k)).length - j) z.1 z.2.1 z.2.2.1) ⟨0,0,0,⟨Nat.zero_le _,Nat.le_refl _,rfl,.inl rfl⟩⟩ [0,1,2] ?_ ?_
   ·exact zaD
   rintro⟨n,a,j,⟨hj,hnj,hne,hna⟩⟩
   refine Tri.seq ?_
   refine sZ [1,2,3,6,8,9,10,11,12,13,59] (fun P S K=>XvLen P 28 (M S.hp S.nx) (S.get 8) (fun r2 _=>XvBinOV P .lss 3 (.tmp 58) (S.get 13) r2 (fun r3 _=>K ⟨[(1,S.get 1),(2,S.get 2),(3,S.get 3),(6,S.get 6),(8,S.get 8),(9,S.get 9),(10,S.get 10),(11,S.get 11),(12,S.get 12),(13,S.get 13),(59,r3)],S.hp,S.nx,S.gh⟩))) fun K hK=>?_
   repeat' (first|(refine hK _ ?_;clear hK K)|refine And.intro ?_ ?_|exact cl|(refine st ?_;try simp only[encX,zaa,zac,zad,encF,encA,zab])|fail)
   all_goals
   refine Tri.cond rfl (fun h59=>?_) (fun h59=>?_)
   ·try (cases h59;done)
    all_goals (try simp only[CQ] at h59)
    all_goals
    refine Tri.skip ?_
    refine Tri.seq ?_
    refine Tri.block ?_
    have hjl:j<(allX x (ls ws k)).length:=by omega
    refine sD 8 [1,2,3,6,8,9,10,11,12,13,69] (fun P GD S K=>XvIndexAddr P 28 (S.get 8) (S.get 13) (fun r2 ef2=>XvFieldAddr P 76 2 r2 (fun r3 ef3=>XvLoad P 9 (M S.hp S.nx) r3 (fun r4 ef4=>XvFieldAddr P 89 2 (S.get 10) (fun r5 ef5=>XvLoad P 9 (M S.hp S.nx) r5 (fun r6 ef6=>XvBinOV P .eql 9 (.tmp 68) r4 r6 (fun r7 ef7=>(trOk S.nx GD [⟨S.nx,0,[],[],[]⟩,⟨S.nx,0,[],[],[]⟩,⟨S.nx,0,ef2.rd,[],[]⟩,⟨S.nx,0,ef3.rd,[],[]⟩,⟨S.nx,0,ef4.rd,[],[]⟩,⟨S.nx,0,ef5.rd,[],[]⟩,⟨S.nx,0,ef6.rd,[],[]⟩,⟨S.nx,0,ef7.rd,[],[]⟩]=true∧K ⟨[(1,S.get 1),(2,S.get 2),(3,S.get 3),(6,S.get 6),(8,S.get 8),(9,S.get 9),(10,S.get 10),(11,S.get 11),(12,S.get 12),(13,S.get 13),(69,r7)],S.hp,S.nx,S.gh⟩)))))))) fun K hK=>?_
    repeat' (first|(refine hK _ ?_;clear hK K)|(refine(?_:trOk _ _ _=true);(try simp only[zaB hjl]);kernel_rfl)|refine And.intro ?_ ?_|exact cl|(refine st ?_;try simp only[encX,zaa,zac,zad,encF,encA,zab,zaB hjl])|fail)
    all_goals
    refine Tri.cond rfl (fun h69=>?_) (fun h69=>?_)
    ·try (cases h69;done)
     all_goals (try simp only[CQ] at h69)
     all_goals
     refine sY [1,2,3,6,8,9,10,11,13] (fun P S K=>XvBinOV P .add 3 (.const (.int .i64 1)) (S.get 11) (.atom (.int .i64 1)) (fun r1 _=>K ⟨[(1,S.get 1),(2,S.get 2),(3,S.get 3),(6,S.get 6),(8,S.get 8),(9,S.get 9),(10,S.get 10),(11,r1),(13,S.get 13)],S.hp,S.nx,S.gh⟩)) ?_
     all_goals try simp (disch:=omega) only[zaf,zae]
     all_goals
     refine rY [1,2,3,6,8,9,10,11,12,13] (fun P S K=>K ⟨[(1,S.get 1),(2,S.get 2),(3,S.get 3),(6,S.get 6),(8,S.get 8),(9,S.get 9),(10,S.get 10),(11,S.get 11),(12,(S.get 13)),(13,S.get 13)],S.hp,S.nx,S.gh⟩) ?_
     all_goals
     refine rY [1,2,3,6,8,9,10,11,12,13] (fun P S K=>XvBinOV P .add 3 (.const (.int .i64 1)) (S.get 13) (.atom (.int .i64 1)) (fun r1 _=>K ⟨[(1,S.get 1),(2,S.get 2),(3,S.get 3),(6,S.get 6),(8,S.get 8),(9,S.get 9),(10,S.get 10),(11,S.get 11),(12,S.get 12),(13,r1)],S.hp,S.nx,S.gh⟩)) ?_
     all_goals try simp (disch:=omega) only[zaf,zae]
     all_goals
     first
     | (refine⟨⟨n+1,j,j+1,by omega,by omega,by rw[zco hjl,if_pos (by assumption),List.length_append,←hne];rfl,.inr ⟨hjl,by rw[zco hjl,if_pos (by assumption)];simp⟩⟩,[0,1,2],by dsimp only;omega,?_⟩
        exact zaD)
     | (refine⟨⟨n,a,j+1,by omega,by omega,by rw[zco hjl,if_neg (by assumption)];exact hne,by rw[zco hjl,if_neg (by assumption)];exact hna⟩,[0,1,2],by dsimp only;omega,?_⟩
        exact zaD)
    try (cases h69;done)
    all_goals (try simp only[CQ] at h69)
    all_goals
    refine Tri.skip ?_
    refine rY [1,2,3,6,8,9,10,11,12,13] (fun P S K=>XvBinOV P .add 3 (.const (.int .i64 1)) (S.get 13) (.atom (.int .i64 1)) (fun r1 _=>K ⟨[(1,S.get 1),(2,S.get 2),(3,S.get 3),(6,S.get 6),(8,S.get 8),(9,S.get 9),(10,S.get 10),(11,S.get 11),(12,S.get 12),(13,r1)],S.hp,S.nx,S.gh⟩)) ?_
    all_goals try simp (disch:=omega) only[zaf,zae]
    all_goals
    first
    | (refine⟨⟨n+1,j,j+1,by omega,by omega,by rw[zco hjl,if_pos (by assumption),List.length_append,←hne];rfl,.inr ⟨hjl,by rw[zco hjl,if_pos (by assumption)];simp⟩⟩,[0,1,2],by dsimp only;omega,?_⟩
       exact zaD)
    | (refine⟨⟨n,a,j+1,by omega,by omega,by rw[zco hjl,if_neg (by assumption)];exact hne,by rw[zco hjl,if_neg (by assumption)];exact hna⟩,[0,1,2],by dsimp only;omega,?_⟩
       exact zaD)
   try (cases h59;done)
   all_goals (try simp only[CQ] at h59)
   all_goals
   refine Tri.exit ?_
   rw[List.take_of_length_le (show(allX x (ls ws k)).length≤j by omega)] at hne hna
   refine sY [1,2,3,6,8,9,12,74] (fun P S K=>XvBinOV P .eql 3 (.const (.int .i64 1)) (S.get 11) (.atom (.int .i64 1)) (fun r1 _=>K ⟨[(1,S.get 1),(2,S.get 2),(3,S.get 3),(6,S.get 6),(8,S.get 8),(9,S.get 9),(12,S.get 12),(74,r1)],S.hp,S.nx,S.gh⟩)) ?_
   all_goals
   refine Tri.cond rfl (fun h74=>?_) (fun h74=>?_)
   ·try (cases h74;done)
    all_goals (try simp only[CQ] at h74)
    all_goals
    have hal2:a<(allX x (ls ws k)).length:=by rcases hna with h|h;omega;exact h.1
    refine sZ [6,7] (fun P S K=>XvIndexAddr P 28 (S.get 8) (S.get 12) (fun r2 _=>XvLoad P 76 (M S.hp S.nx) r2 (fun r3 _=>XvStore P 76 (M S.hp S.nx) (S.get 6) r3 (fun r4 ef4=>K ⟨[(6,S.get 6),(7,(.atom (.bool true)))],(Eff.hp ef4 S.nx S.hp),(S.nx+ef4.add.length),S.gh⟩)))) fun K hK=>?_
    repeat' (first|(refine hK _ ?_;clear hK K)|refine And.intro ?_ ?_|exact cl|(refine st ?_;try simp only[encX,zaa,zac,zad,encF,encA,zab,zaB hal2])|fail)
    all_goals
    refine Tri.ret ?_
    show ResR _ _ _ _ _
    rw[zrQ (f:=fF (allX x (ls ws k)) a) (by omega) (by rw[hb];exact zlC hil (by first|assumption|simp_all) (by first|assumption|simp_all) (by omega) (by rcases hna with h|h;omega;exact h.2))]
    refine ResR.cells (encF (fF (allX x (ls ws k)) a)) (.atom (.bool true)) [] rfl rfl rfl
   try (cases h74;done)
   all_goals (try simp only[CQ] at h74)
   all_goals
   refine Tri.skip ?_
   refine rY [1,2,3,6,8,9] (fun P S K=>XvBinOV P .add 3 (.const (.int .i64 1)) (S.get 9) (.atom (.int .i64 1)) (fun r1 _=>K ⟨[(1,S.get 1),(2,S.get 2),(3,S.get 3),(6,S.get 6),(8,S.get 8),(9,r1)],S.hp,S.nx,S.gh⟩)) ?_
   all_goals try simp (disch:=omega) only[zaf,zae]
   all_goals
   refine⟨⟨i+1,by omega,by rw[hb];exact zg2 hil (by first|exact .inl (by assumption)|exact .inr (.inl (by assumption))|exact .inr (.inr (by omega)))⟩,[0,1],by dsimp only;omega,?_⟩
   exact zaD
  try (cases h30;done)
  all_goals (try simp only[CQ] at h30)
  all_goals
  refine Tri.exit ?_
  refine sZ [6,7] (fun P S K=>XvBuild P 76 [] (fun r0 _=>XvStore P 76 (M S.hp S.nx) (S.get 6) r0 (fun r1 ef1=>K ⟨[(6,S.get 6),(7,(.atom (.bool false)))],(Eff.hp ef1 S.nx S.hp),(S.nx+ef1.add.length),S.gh⟩))) fun K hK=>?_
  repeat' (first|(refine hK _ ?_;clear hK K)|refine And.intro ?_ ?_|exact cl|(refine st ?_;try simp only[encX,zaa,zac,zad,encF,encA,zab])|fail)
  all_goals
  refine Tri.ret ?_
  show ResR _ _ _ _ _
  rw[zrR (by omega) (by rw[hb,List.drop_of_length_le (by omega)];rfl)]
  refine ResR.cells (encF noF) (.atom (.bool false)) [] rfl rfl rfl
def zeY (x:LexD) (ws:List ByteArray) (n:Nat):List Int:=((List.range n).filter fun k => !(choT x ws k).2).map fun(k:Nat)=>(k:Int)
theorem zbz (x:LexD) (ws:List ByteArray) (n:Nat):zeY x ws (n+1)=if (choT x ws n).2=true then zeY x ws n else zeY x ws n++[(n:Int)]:=by
  unfold zeY
  rw[List.range_succ,List.filter_append,List.map_append]
  cases h:(choT x ws n).2<;>simp[h]
theorem zqR (x:LexD) (ws:List ByteArray) (n:Nat):(zeY x ws n).length≤n:=by
  unfold zeY;rw[List.length_map]
  exact Nat.le_trans (List.length_filter_le _ _) (by simp)
def zdk (x:LexD) (ws:List ByteArray):List Int:=if errX x ws≠0 then [] else zeY x ws ws.length
theorem znO (x:LexD) (ws:List ByteArray) (hx:HeldX x) (hn:ws.length≤1000000) (hw:∀w,w∈ws→w.size≤9223372036854775807):
    Pure Tryz.prog 29 [encX x,strs ws] (.tup [ints (zdk x ws),encI (errX x ws)]) []:=by
  refine Pure.intro (ts:=[4,5]) Tryz.func29 (by kernel_rfl) rfl rfl rfl (Nat.le_of_ble_eq_true rfl) ?_ ?_
  · simp[zay,zag,encS,encI,PV.pure,zan]
  refine sZ [1,2] (fun P S K=>XvBox S.nx (S.get 0) (fun r0 ef0=>K ⟨[(1,S.get 1),(2,r0)],(Eff.hp ef0 S.nx S.hp),(S.nx+ef0.add.length),S.gh⟩)) fun K hK=>?_
  repeat' (first|(refine hK _ ?_;clear hK K)|refine And.intro ?_ ?_|exact cl|(refine st ?_;try simp only[encX,zaa,zac,zad,encF,zab])|fail)
  all_goals
  refine sZ [1,2,6] (fun P S K=>XvLoad P 32 (M S.hp S.nx) (S.get 2) (fun r0 _=>XvFnIV P (M S.hp S.nx) (.fn 16 []) [r0,(S.get 1)] (fun r2 ef2=>K ⟨[(1,S.get 1),(2,S.get 2),(6,r2)],(Eff.hp ef2 S.nx S.hp),(S.nx+ef2.add.length),S.gh⟩))) fun K hK=>?_
  repeat' (first|(refine hK _ ?_;clear hK K)|refine .inl ⟨_,_,zeX x ws hx (by omega) hw,?_⟩|(refine st ?_;try simp only[encX,zaa,zac,zad,encF,zab])|fail)
  all_goals
  refine Tri.seq ?_
  refine sY [1,2,6,15] (fun P S K=>XvBinOV P .neq 40 (.const (.int .i64 0)) (S.get 6) (.atom (.int .i64 0)) (fun r1 _=>K ⟨[(1,S.get 1),(2,S.get 2),(6,S.get 6),(15,r1)],S.hp,S.nx,S.gh⟩)) ?_
  all_goals
  refine Tri.cond rfl (fun h15=>?_) (fun h15=>?_)
  ·try (cases h15;done)
   all_goals (try simp only[CQ] at h15)
   all_goals
   refine sY [4,5] (fun P S K=>K ⟨[(4,(.atom (.slice none 0 0))),(5,(S.get 6))],S.hp,S.nx,S.gh⟩) ?_
   refine Tri.asSl 4 1 rfl ?_
   all_goals
   refine Tri.ret ?_
   show ResOk _ _ _ _
   rw[show zdk x ws=[] from if_pos (by omega)]
   exact ResOk.frz 5 zgc zbi
  try (cases h15;done)
  all_goals (try simp only[CQ] at h15)
  all_goals
  refine Tri.skip ?_
  refine sY [1,2,7] (fun P S K=>K ⟨[(1,S.get 1),(2,S.get 2),(7,(.atom (.slice none 0 0)))],S.hp,S.nx,S.gh⟩) ?_
  refine Tri.born 7 1 rfl ?_
  all_goals
  refine Tri.seq ?_
  refine sY [1,2,7,8] (fun P S K=>K ⟨[(1,S.get 1),(2,S.get 2),(7,S.get 7),(8,(.atom (.int .i64 0)))],S.hp,S.nx,S.gh⟩) ?_
  all_goals
  refine Tri.block ?_
  refine Tri.loop (α:=(o:List Int) ×' (i:Nat) ×' (i≤ws.length∧o.length≤i∧o=zeY x ws i)) (fun z=>(fun(o:List Int) (i:Nat)=>(⟨[(1,strs ws),(2,.ptr 0 3 0 0),(7,.ob 1 1 0 o.length),(8,encI i)],[(0,some ⟨3,[encX x]⟩),(1,some ⟨1,o.map encI⟩)],2,[]⟩:St)) z.1 z.2.1) (fun z=>(fun(o:List Int) (i:Nat)=>ws.length - i) z.1 z.2.1) ⟨[],0,⟨Nat.zero_le _,Nat.le_refl _,rfl⟩⟩ [0,1] ?_ ?_
  ·exact zaD
  rintro⟨o,i,⟨hi,hol,ho⟩⟩
  refine Tri.seq ?_
  refine sZ [1,2,7,8,20] (fun P S K=>XvLen P 37 (M S.hp S.nx) (S.get 1) (fun r2 _=>XvBinOV P .lss 3 (.tmp 19) (S.get 8) r2 (fun r3 _=>K ⟨[(1,S.get 1),(2,S.get 2),(7,S.get 7),(8,S.get 8),(20,r3)],S.hp,S.nx,S.gh⟩))) fun K hK=>?_
  repeat' (first|(refine hK _ ?_;clear hK K)|refine And.intro ?_ ?_|exact cl|(refine st ?_;try simp only[encX,zaa,zac,zad,encF,zab])|fail)
  all_goals
  refine Tri.cond rfl (fun h20=>?_) (fun h20=>?_)
  ·try (cases h20;done)
   all_goals (try simp only[CQ] at h20)
   all_goals
   refine Tri.skip ?_
   refine Tri.seq ?_
   refine Tri.block ?_
   refine sZ [1,2,7,8,10] (fun P S K=>XvLoad P 32 (M S.hp S.nx) (S.get 2) (fun r0 _=>XvFnIV P (M S.hp S.nx) (.fn 65 []) [r0,(S.get 1),(S.get 8)] (fun r3 ef3=>XvExtract r3 0 (fun r5 _=>XvExtract r3 1 (fun r6 _=>XvAlloc P 76 (S.nx+ef3.add.length) (fun r7 ef7=>XvStore P 76 (M (Eff.hp ef7 (S.nx+ef3.add.length) (Eff.hp ef3 S.nx S.hp)) ((S.nx+ef3.add.length)+ef7.add.length)) r7 r5 (fun r8 ef8=>K ⟨[(1,S.get 1),(2,S.get 2),(7,S.get 7),(8,S.get 8),(10,r6)],(Eff.hp ef8 ((S.nx+ef3.add.length)+ef7.add.length) (Eff.hp ef7 (S.nx+ef3.add.length) (Eff.hp ef3 S.nx S.hp))),(((S.nx+ef3.add.length)+ef7.add.length)+ef8.add.length),S.gh⟩))))))) fun K hK=>?_
   repeat' (first|(refine hK _ ?_;clear hK K)|refine And.intro ?_ ?_|exact cl|refine .inl ⟨_,_,zeh x ws i hx (by omega) (zdh (by omega)) (by omega),?_⟩|(refine st ?_;try simp only[encX,zaa,zac,zad,encF,zab])|fail)
   all_goals
   refine sY [1,2,7,8,31] (fun P S K=>XvUn .not (S.get 10) (fun r1 _=>K ⟨[(1,S.get 1),(2,S.get 2),(7,S.get 7),(8,S.get 8),(31,r1)],S.hp,S.nx,S.gh⟩)) ?_
   all_goals try simp (disch:=omega) only[zaf,zae]
   all_goals
   refine Tri.cond rfl (fun h31=>?_) (fun h31=>?_)
   ·try (cases h31;done)
    all_goals (try simp only[CQ] at h31)
    all_goals
    refine rZ [1,2,7,8] (fun P S K=>XvBuildS P 22 1 S.nx [(0,(S.get 8))] (fun r2 ef2=>(22=22∧XvAppend P 22 (M (Eff.hp ef2 S.nx S.hp) (S.nx+ef2.add.length)) (S.get 7) r2 (fun r3 ef3=>K ⟨[(1,S.get 1),(2,S.get 2),(7,r3),(8,S.get 8)],(Eff.hp ef3 (S.nx+ef2.add.length) (Eff.hp ef2 S.nx S.hp)),((S.nx+ef2.add.length)+ef3.add.length),S.gh⟩)))) fun K hK=>?_
    repeat' (first|(refine hK _ ?_;clear hK K)|((first|refine zak (fun hg=>?_) (fun hg=>?_)|refine fun(hg:(_:Prop))=>?_)<;>((try simp only[BQ] at hg);try (exfalso;omega)))|refine And.intro ?_ ?_|exact cl|(refine st ?_;try simp only[encX,zaa,zac,zad,encF,zab])|fail)
    all_goals
    refine rY [1,2,7,8] (fun P S K=>XvBinOV P .add 3 (.const (.int .i64 1)) (S.get 8) (.atom (.int .i64 1)) (fun r1 _=>K ⟨[(1,S.get 1),(2,S.get 2),(7,S.get 7),(8,r1)],S.hp,S.nx,S.gh⟩)) ?_
    all_goals try simp (disch:=omega) only[zaf,zae]
    all_goals
    first
    | (refine⟨⟨o++[(i:Int)],i+1,by omega,by simp;omega,by rw[zbz,if_neg (by simp_all),ho]⟩,[0,4],by dsimp only;omega,?_⟩
       exact zaD)
    | (refine⟨⟨o,i+1,by omega,by omega,by rw[zbz,if_pos (by simp_all),ho]⟩,[0,1],by dsimp only;omega,?_⟩
       exact zaD)
   try (cases h31;done)
   all_goals (try simp only[CQ] at h31)
   all_goals
   refine Tri.skip ?_
   refine rY [1,2,7,8] (fun P S K=>XvBinOV P .add 3 (.const (.int .i64 1)) (S.get 8) (.atom (.int .i64 1)) (fun r1 _=>K ⟨[(1,S.get 1),(2,S.get 2),(7,S.get 7),(8,r1)],S.hp,S.nx,S.gh⟩)) ?_
   all_goals try simp (disch:=omega) only[zaf,zae]
   all_goals
   first
   | (refine⟨⟨o++[(i:Int)],i+1,by omega,by simp;omega,by rw[zbz,if_neg (by simp_all),ho]⟩,[0,4],by dsimp only;omega,?_⟩
      exact zaD)
   | (refine⟨⟨o,i+1,by omega,by omega,by rw[zbz,if_pos (by simp_all),ho]⟩,[0,1],by dsimp only;omega,?_⟩
      exact zaD)
  try (cases h20;done)
  all_goals (try simp only[CQ] at h20)
  all_goals
  refine Tri.exit ?_
  refine sY [4,5] (fun P S K=>K ⟨[(4,(S.get 7)),(5,(.atom (.int .i64 0)))],S.hp,S.nx,S.gh⟩) ?_
  all_goals
  refine Tri.ret ?_
  show ResOk _ _ _ _
  rw[show zdk x ws=o by unfold zdk;rw[if_neg (by omega),ho];congr 1;omega,show errX x ws=0 by omega]
  exact ResOk.frz 5 zgc zbi
def zgr (x:LexD) (ws:List ByteArray) (n:Nat):List FormD:=(List.range n).map fun k=>(choT x ws k).1
theorem zhr (x:LexD) (ws:List ByteArray) (n:Nat):zgr x ws (n+1)=zgr x ws n++[(choT x ws n).1]:=by
  unfold zgr;rw[List.range_succ,List.map_append];rfl
def sureX (x:LexD) (ws:List ByteArray):Bool:=(List.range ws.length).all fun k=>(choT x ws k).2
def zdv (x:LexD) (ws:List ByteArray):List FormD×Int:=if errX x ws≠0 then ([],errX x ws) else if sureX x ws then (zgr x ws ws.length,0) else ([],14)
theorem ziY{x:LexD}{ws:List ByteArray}(h:errX x ws≠0):zdv x ws=([],errX x ws):=if_pos h
theorem zhq{x:LexD}{ws:List ByteArray}(h:¬errX x ws≠0) {i:Nat}(hi:i<ws.length) (h2:(choT x ws i).2=false):zdv x ws=([],14):=by
  unfold zdv;rw[if_neg h,if_neg]
  intro ha
  have:=List.all_eq_true.1 ha i (List.mem_range.2 hi)
  rw[h2] at this;cases this
theorem zhp{x:LexD}{ws:List ByteArray}(h:¬errX x ws≠0) (h2:∀j,j<ws.length→(choT x ws j).2=true):zdv x ws=(zgr x ws ws.length,0):=by
  unfold zdv;rw[if_neg h,if_pos]
  exact List.all_eq_true.2 fun j hj=>h2 j (List.mem_range.1 hj)
theorem znM (x:LexD) (ws:List ByteArray) (hx:HeldX x) (hn:ws.length≤1000000) (hw:∀w,w∈ws→w.size≤9223372036854775807):
    Pure Tryz.prog 27 [encX x,strs ws] (.tup [zaa (zdv x ws).1,encI (zdv x ws).2]) []:=by
  refine Pure.intro (ts:=[4,5]) Tryz.func27 (by kernel_rfl) rfl rfl rfl (Nat.le_of_ble_eq_true rfl) ?_ ?_
  · simp[zay,zag,encS,encI,PV.pure,zan]
  refine sZ [1,2] (fun P S K=>XvBox S.nx (S.get 0) (fun r0 ef0=>K ⟨[(1,S.get 1),(2,r0)],(Eff.hp ef0 S.nx S.hp),(S.nx+ef0.add.length),S.gh⟩)) fun K hK=>?_
  repeat' (first|(refine hK _ ?_;clear hK K)|refine And.intro ?_ ?_|exact cl|(refine st ?_;try simp only[encX,zaa,zac,zad,encF,zab])|fail)
  all_goals
  refine sZ [1,2,6] (fun P S K=>XvLoad P 32 (M S.hp S.nx) (S.get 2) (fun r0 _=>XvFnIV P (M S.hp S.nx) (.fn 16 []) [r0,(S.get 1)] (fun r2 ef2=>K ⟨[(1,S.get 1),(2,S.get 2),(6,r2)],(Eff.hp ef2 S.nx S.hp),(S.nx+ef2.add.length),S.gh⟩))) fun K hK=>?_
  repeat' (first|(refine hK _ ?_;clear hK K)|refine .inl ⟨_,_,zeX x ws hx (by omega) hw,?_⟩|(refine st ?_;try simp only[encX,zaa,zac,zad,encF,zab])|fail)
  all_goals
  refine Tri.seq ?_
  refine sZ [1,2,6,15] (fun P S K=>XvBinOV P .neq 40 (.const (.int .i64 0)) (S.get 6) (.atom (.int .i64 0)) (fun r1 _=>K ⟨[(1,S.get 1),(2,S.get 2),(6,S.get 6),(15,r1)],S.hp,S.nx,S.gh⟩)) fun K hK=>?_
  repeat' (first|(refine hK _ ?_;clear hK K)|refine And.intro ?_ ?_|exact cl|(refine st ?_;try simp only[encX,zaa,zac,zad,encF,zab])|fail)
  all_goals
  refine Tri.cond rfl (fun h15=>?_) (fun h15=>?_)
  ·try (cases h15;done)
   all_goals (try simp only[CQ] at h15)
   all_goals
   refine sZ [4,5] (fun P S K=>K ⟨[(4,(.atom (.slice none 0 0))),(5,(S.get 6))],S.hp,S.nx,S.gh⟩) fun K hK=>?_
   repeat' (first|(refine hK _ ?_;clear hK K)|refine And.intro ?_ ?_|exact cl|(refine st ?_;try simp only[encX,zaa,zac,zad,encF,zab])|fail)
   refine Tri.asSl 4 3 rfl ?_
   all_goals
   refine Tri.ret ?_
   show ResOk _ _ _ _
   rw[ziY (by omega)]
   exact ResOk.frz 5 zgc zbi
  try (cases h15;done)
  all_goals (try simp only[CQ] at h15)
  all_goals
  refine Tri.skip ?_
  refine sZ [1,2,7] (fun P S K=>K ⟨[(1,S.get 1),(2,S.get 2),(7,(.atom (.slice none 0 0)))],S.hp,S.nx,S.gh⟩) fun K hK=>?_
  repeat' (first|(refine hK _ ?_;clear hK K)|refine And.intro ?_ ?_|exact cl|(refine st ?_;try simp only[encX,zaa,zac,zad,encF,zab])|fail)
  refine Tri.born 7 3 rfl ?_
  all_goals
  refine Tri.seq ?_
  refine sZ [1,2,7,8] (fun P S K=>K ⟨[(1,S.get 1),(2,S.get 2),(7,S.get 7),(8,(.atom (.int .i64 0)))],S.hp,S.nx,S.gh⟩) fun K hK=>?_
  repeat' (first|(refine hK _ ?_;clear hK K)|refine And.intro ?_ ?_|exact cl|(refine st ?_;try simp only[encX,zaa,zac,zad,encF,zab])|fail)
  all_goals
  refine Tri.block ?_
  refine Tri.loop (α:=(o:List FormD) ×' (i:Nat) ×' (i≤ws.length∧o.length≤i∧(∀j,j<i→(choT x ws j).2=true)∧o=zgr x ws i)) (fun z=>(fun(o:List FormD) (i:Nat)=>(⟨[(1,strs ws),(2,.ptr 0 3 0 0),(7,.ob 1 3 0 o.length),(8,encI i)],[(0,some ⟨3,[encX x]⟩),(1,some ⟨3,o.map encF⟩)],2,[]⟩:St)) z.1 z.2.1) (fun z=>(fun(o:List FormD) (i:Nat)=>ws.length - i) z.1 z.2.1) ⟨[],0,⟨Nat.zero_le _,Nat.le_refl _,fun j hj=>absurd hj (Nat.not_lt_zero _),rfl⟩⟩ [0,1] ?_ ?_
  ·exact zaD
  rintro⟨o,i,⟨hi,hol,hs,ho⟩⟩
  refine Tri.seq ?_
  refine sZ [1,2,7,8,20] (fun P S K=>XvLen P 37 (M S.hp S.nx) (S.get 1) (fun r2 _=>XvBinOV P .lss 3 (.tmp 19) (S.get 8) r2 (fun r3 _=>K ⟨[(1,S.get 1),(2,S.get 2),(7,S.get 7),(8,S.get 8),(20,r3)],S.hp,S.nx,S.gh⟩))) fun K hK=>?_
  repeat' (first|(refine hK _ ?_;clear hK K)|refine And.intro ?_ ?_|exact cl|(refine st ?_;try simp only[encX,zaa,zac,zad,encF,zab])|fail)
  all_goals
  refine Tri.cond rfl (fun h20=>?_) (fun h20=>?_)
  ·try (cases h20;done)
   all_goals (try simp only[CQ] at h20)
   all_goals
   refine Tri.skip ?_
   refine Tri.seq ?_
   refine Tri.block ?_
   have hiw:i<ws.length:=by omega
   refine sZ [1,2,7,8,9,10] (fun P S K=>XvLoad P 32 (M S.hp S.nx) (S.get 2) (fun r0 _=>XvFnIV P (M S.hp S.nx) (.fn 65 []) [r0,(S.get 1),(S.get 8)] (fun r3 ef3=>XvExtract r3 0 (fun r5 _=>XvExtract r3 1 (fun r6 _=>XvAlloc P 76 (S.nx+ef3.add.length) (fun r7 ef7=>XvStore P 76 (M (Eff.hp ef7 (S.nx+ef3.add.length) (Eff.hp ef3 S.nx S.hp)) ((S.nx+ef3.add.length)+ef7.add.length)) r7 r5 (fun r8 ef8=>K ⟨[(1,S.get 1),(2,S.get 2),(7,S.get 7),(8,S.get 8),(9,r7),(10,r6)],(Eff.hp ef8 ((S.nx+ef3.add.length)+ef7.add.length) (Eff.hp ef7 (S.nx+ef3.add.length) (Eff.hp ef3 S.nx S.hp))),(((S.nx+ef3.add.length)+ef7.add.length)+ef8.add.length),S.gh⟩))))))) fun K hK=>?_
   repeat' (first|(refine hK _ ?_;clear hK K)|refine And.intro ?_ ?_|exact cl|refine .inl ⟨_,_,zeh x ws i hx (by omega) (zdh (by omega)) (by omega),?_⟩|(refine st ?_;try simp only[encX,zaa,zac,zad,encF,zab])|fail)
   all_goals
   refine Tri.seq ?_
   refine sZ [1,2,7,8,9,31] (fun P S K=>XvUn .not (S.get 10) (fun r1 _=>K ⟨[(1,S.get 1),(2,S.get 2),(7,S.get 7),(8,S.get 8),(9,S.get 9),(31,r1)],S.hp,S.nx,S.gh⟩)) fun K hK=>?_
   repeat' (first|(refine hK _ ?_;clear hK K)|refine And.intro ?_ ?_|exact cl|(refine st ?_;try simp only[encX,zaa,zac,zad,encF,zab])|fail)
   all_goals try simp (disch:=omega) only[zaf,zae]
   all_goals
   refine Tri.cond rfl (fun h31=>?_) (fun h31=>?_)
   ·try (cases h31;done)
    all_goals (try simp only[CQ] at h31)
    all_goals
    refine sZ [4,5] (fun P S K=>K ⟨[(4,(.atom (.slice none 0 0))),(5,(.atom (.int .i64 14)))],S.hp,S.nx,S.gh⟩) fun K hK=>?_
    repeat' (first|(refine hK _ ?_;clear hK K)|refine And.intro ?_ ?_|exact cl|(refine st ?_;try simp only[encX,zaa,zac,zad,encF,zab])|fail)
    refine Tri.asSl 4 3 rfl ?_
    all_goals
    refine Tri.ret ?_
    show ResOk _ _ _ _
    rw[zhq (by omega) hiw (by assumption)]
    exact ResOk.frz 5 zgc zbi
   try (cases h31;done)
   all_goals (try simp only[CQ] at h31)
   all_goals
   refine Tri.skip ?_
   refine rZ [1,2,7,8] (fun P S K=>XvLoad P 76 (M S.hp S.nx) (S.get 9) (fun r1 _=>XvBuildS P 28 1 S.nx [(0,r1)] (fun r2 ef2=>(28=28∧XvAppend P 28 (M (Eff.hp ef2 S.nx S.hp) (S.nx+ef2.add.length)) (S.get 7) r2 (fun r3 ef3=>K ⟨[(1,S.get 1),(2,S.get 2),(7,r3),(8,S.get 8)],(Eff.hp ef3 (S.nx+ef2.add.length) (Eff.hp ef2 S.nx S.hp)),((S.nx+ef2.add.length)+ef3.add.length),S.gh⟩))))) fun K hK=>?_
   repeat' (first|(refine hK _ ?_;clear hK K)|refine And.intro ?_ ?_|exact cl|(refine st ?_;try simp only[encX,zaa,zac,zad,encF,zab])|fail)
   all_goals
   refine rZ [1,2,7,8] (fun P S K=>XvBinOV P .add 3 (.const (.int .i64 1)) (S.get 8) (.atom (.int .i64 1)) (fun r1 _=>K ⟨[(1,S.get 1),(2,S.get 2),(7,S.get 7),(8,r1)],S.hp,S.nx,S.gh⟩)) fun K hK=>?_
   repeat' (first|(refine hK _ ?_;clear hK K)|refine And.intro ?_ ?_|exact cl|(refine st ?_;try simp only[encX,zaa,zac,zad,encF,zab])|fail)
   all_goals try simp (disch:=omega) only[zaf,zae]
   all_goals
   refine⟨⟨o++[(choT x ws i).1],i+1,by omega,by simp;omega,fun j hj=>?_,by rw[zhr,ho]⟩,[0,4],by dsimp only;omega,?_⟩
   · rcases Nat.lt_succ_iff_lt_or_eq.1 hj with hj|rfl
     · exact hs j hj
     · assumption
   · exact zaD
  try (cases h20;done)
  all_goals (try simp only[CQ] at h20)
  all_goals
  refine Tri.exit ?_
  refine sZ [4,5] (fun P S K=>K ⟨[(4,(S.get 7)),(5,(.atom (.int .i64 0)))],S.hp,S.nx,S.gh⟩) fun K hK=>?_
  repeat' (first|(refine hK _ ?_;clear hK K)|refine And.intro ?_ ?_|exact cl|(refine st ?_;try simp only[encX,zaa,zac,zad,encF,zab])|fail)
  all_goals
  refine Tri.ret ?_
  show ResOk _ _ _ _
  rw[zhp (by omega) (fun j hj=>hs j (by omega)),show zgr x ws ws.length=o by rw[ho];congr 1;omega]
  exact ResOk.frz 5 zgc zbi
def zbY (x:LexD) (ws:List ByteArray) (k:Int):FormD×Int:=
  if errX x ws≠0 then (noF,errX x ws) else if k<0∨(ws.length:Int)≤k then (noF,5) else if (choT x ws k.toNat).2 then ((choT x ws k.toNat).1,0) else (noF,14)
theorem ze8{x:LexD}{ws:List ByteArray}{k:Int}(h:errX x ws≠0):zbY x ws k=(noF,errX x ws):=if_pos h
theorem ze7{x:LexD}{ws:List ByteArray}{k:Int}(h:¬errX x ws≠0) (h2:k<0∨(ws.length:Int)≤k):zbY x ws k=(noF,5):=by
  unfold zbY;rw[if_neg h,if_pos h2]
theorem zez{x:LexD}{ws:List ByteArray}{k:Int}(h:¬errX x ws≠0) (h2:¬ (k<0∨(ws.length:Int)≤k)) (h3:(choT x ws k.toNat).2=false):zbY x ws k=(noF,14):=by
  unfold zbY;rw[if_neg h,if_neg h2,h3];rfl
theorem zey{x:LexD}{ws:List ByteArray}{k:Int}(h:¬errX x ws≠0) (h2:¬ (k<0∨(ws.length:Int)≤k)) (h3:(choT x ws k.toNat).2=true):zbY x ws k=((choT x ws k.toNat).1,0):=by
  unfold zbY;rw[if_neg h,if_neg h2,h3];rfl
theorem zfj (x:LexD) (ws:List ByteArray) (k:Int) (hx:HeldX x) (hn:ws.length≤4294967296) (hw:∀w,w∈ws→w.size≤140737488355328) (h0:0≤k) (hk:k<(ws.length:Int)):
    Pure Tryz.prog 65 [encX x,strs ws,encI k] (.tup [encF (choT x ws k.toNat).1,.atom (.bool (choT x ws k.toNat).2)]) []:=by
  have:=zeh x ws k.toNat hx hn hw (by omega)
  rwa [Int.toNat_of_nonneg h0] at this
theorem zjr (x:LexD) (ws:List ByteArray) (k:Int) (hx:HeldX x) (hn:ws.length≤1000000) (hw:∀w,w∈ws→w.size≤9223372036854775807) (hk:I64 k):
    Pure Tryz.prog 33 [encX x,strs ws,encI k] (.tup [encF (zbY x ws k).1,encI (zbY x ws k).2]) []:=by
  obtain⟨hk1,hk2⟩:=hk
  refine Pure.introR (rv:=[.cell 6 76,.tmp 7]) Tryz.func33 (by kernel_rfl) rfl rfl rfl (Nat.le_of_ble_eq_true rfl) ?_ ?_
  · simp[zay,zag,encS,encI,PV.pure,zan]
  refine sZ [1,2,3,6] (fun P S K=>XvBox S.nx (S.get 0) (fun r0 ef0=>XvAlloc P 76 (S.nx+ef0.add.length) (fun r1 ef1=>K ⟨[(1,S.get 1),(2,S.get 2),(3,r0),(6,r1)],(Eff.hp ef1 (S.nx+ef0.add.length) (Eff.hp ef0 S.nx S.hp)),((S.nx+ef0.add.length)+ef1.add.length),S.gh⟩))) fun K hK=>?_
  repeat' (first|(refine hK _ ?_;clear hK K)|refine And.intro ?_ ?_|exact cl|(refine st ?_;try simp only[encX,zaa,zac,zad,encF,zab])|fail)
  all_goals
  refine sZ [1,2,3,6,8] (fun P S K=>XvLoad P 32 (M S.hp S.nx) (S.get 3) (fun r0 _=>XvFnIV P (M S.hp S.nx) (.fn 16 []) [r0,(S.get 1)] (fun r2 ef2=>K ⟨[(1,S.get 1),(2,S.get 2),(3,S.get 3),(6,S.get 6),(8,r2)],(Eff.hp ef2 S.nx S.hp),(S.nx+ef2.add.length),S.gh⟩))) fun K hK=>?_
  repeat' (first|(refine hK _ ?_;clear hK K)|refine .inl ⟨_,_,zeX x ws hx (by omega) hw,?_⟩|(refine st ?_;try simp only[encX,zaa,zac,zad,encF,zab])|fail)
  all_goals
  refine Tri.seq ?_
  refine sZ [1,2,3,6,8,25] (fun P S K=>XvBinOV P .eql 40 (.const (.int .i64 0)) (S.get 8) (.atom (.int .i64 0)) (fun r1 _=>Xgq r1 true (fun k=>k (S.get 2)) (fun g3 r3=>Xgq g3 true (fun k=>XvBinOV P .lss 3 (.const (.int .i64 0)) r3 (.atom (.int .i64 0)) (fun r4 _=>k r4)) (fun g4 r4=>Xgq g4 true (fun k=>k r4) (fun g5 r5=>Xgq r5 false (fun k=>k (S.get 2)) (fun g6 r6=>Xgq g6 false (fun k=>k (S.get 1)) (fun g7 r7=>Xgq g7 false (fun k=>XvLen P 37 (M S.hp S.nx) r7 (fun r8 _=>k r8)) (fun g8 r8=>Xgq g8 false (fun k=>XvBinOV P .geq 3 (.tmp 22) r6 r8 (fun r9 _=>k r9)) (fun g9 r9=>Xgq g5 true (fun k=>XvPick g9 (.atom (.bool true)) r9 (fun r10 _=>k r10)) (fun g10 r10=>XvPick g10 r10 (.atom (.bool false)) (fun r11 _=>K ⟨[(1,S.get 1),(2,S.get 2),(3,S.get 3),(6,S.get 6),(8,S.get 8),(25,r11)],S.hp,S.nx,S.gh⟩))))))))))) fun K hK=>?_
  repeat' (first|(refine hK _ ?_;clear hK K)|((first|refine zak (fun hg=>?_) (fun hg=>?_)|refine fun(hg:(_:Prop))=>?_)<;>((try simp only[BQ] at hg);try (exfalso;omega)))|refine And.intro ?_ ?_|exact cl|(refine st ?_;try simp only[encX,zaa,zac,zad,encF,zab])|fail)
  all_goals
  refine Tri.cond rfl (fun h25=>?_) (fun h25=>?_)
  ·try (cases h25;done)
   all_goals (try simp only[CQ] at h25)
   all_goals
   refine rY [1,2,3,6,8] (fun P S K=>K ⟨[(1,S.get 1),(2,S.get 2),(3,S.get 3),(6,S.get 6),(8,(.atom (.int .i64 5)))],S.hp,S.nx,S.gh⟩) ?_
   all_goals
   refine Tri.seq ?_
   refine sY [1,2,3,6,8,27] (fun P S K=>XvBinOV P .neq 40 (.const (.int .i64 0)) (S.get 8) (.atom (.int .i64 0)) (fun r1 _=>K ⟨[(1,S.get 1),(2,S.get 2),(3,S.get 3),(6,S.get 6),(8,S.get 8),(27,r1)],S.hp,S.nx,S.gh⟩)) ?_
   all_goals
   refine Tri.cond rfl (fun h27=>?_) (fun h27=>?_)
   ·try (cases h27;done)
    all_goals (try simp only[CQ] at h27)
    all_goals
    refine sZ [6,7] (fun P S K=>XvBuild P 76 [] (fun r0 _=>XvStore P 76 (M S.hp S.nx) (S.get 6) r0 (fun r2 ef2=>K ⟨[(6,S.get 6),(7,(S.get 8))],(Eff.hp ef2 S.nx S.hp),(S.nx+ef2.add.length),S.gh⟩))) fun K hK=>?_
    repeat' (first|(refine hK _ ?_;clear hK K)|refine And.intro ?_ ?_|exact cl|(refine st ?_;try simp only[encX,zaa,zac,zad,encF,zab])|fail)
    all_goals
    refine Tri.ret ?_
    show ResR _ _ _ _ _
    first
    | (rw[ze8 (by omega)];refine ResR.cells (encF noF) (encI (errX x ws)) [] rfl rfl rfl)
    | (rw[ze7 (by omega) (by omega)];refine ResR.cells (encF noF) (encI 5) [] rfl rfl rfl)
   try (cases h27;done)
   all_goals (try simp only[CQ] at h27)
   all_goals
   refine Tri.skip ?_
   refine sZ [6,9,10] (fun P S K=>XvLoad P 32 (M S.hp S.nx) (S.get 3) (fun r0 _=>XvFnIV P (M S.hp S.nx) (.fn 65 []) [r0,(S.get 1),(S.get 2)] (fun r3 ef3=>XvExtract r3 0 (fun r5 _=>XvExtract r3 1 (fun r6 _=>XvAlloc P 76 (S.nx+ef3.add.length) (fun r7 ef7=>XvStore P 76 (M (Eff.hp ef7 (S.nx+ef3.add.length) (Eff.hp ef3 S.nx S.hp)) ((S.nx+ef3.add.length)+ef7.add.length)) r7 r5 (fun r8 ef8=>K ⟨[(6,S.get 6),(9,r7),(10,r6)],(Eff.hp ef8 ((S.nx+ef3.add.length)+ef7.add.length) (Eff.hp ef7 (S.nx+ef3.add.length) (Eff.hp ef3 S.nx S.hp))),(((S.nx+ef3.add.length)+ef7.add.length)+ef8.add.length),S.gh⟩))))))) fun K hK=>?_
   repeat' (first|(refine hK _ ?_;clear hK K)|refine And.intro ?_ ?_|exact cl|refine .inl ⟨_,_,zfj x ws k hx (by omega) (zdh (by omega)) (by omega) (by omega),?_⟩|(refine st ?_;try simp only[encX,zaa,zac,zad,encF,zab])|fail)
   all_goals
   refine Tri.seq ?_
   refine sY [6,9,38] (fun P S K=>XvUn .not (S.get 10) (fun r1 _=>K ⟨[(6,S.get 6),(9,S.get 9),(38,r1)],S.hp,S.nx,S.gh⟩)) ?_
   all_goals try simp (disch:=omega) only[zaf,zae]
   all_goals
   refine Tri.cond rfl (fun h38=>?_) (fun h38=>?_)
   ·try (cases h38;done)
    all_goals (try simp only[CQ] at h38)
    all_goals
    refine sZ [6,7] (fun P S K=>XvBuild P 76 [] (fun r0 _=>XvStore P 76 (M S.hp S.nx) (S.get 6) r0 (fun r1 ef1=>K ⟨[(6,S.get 6),(7,(.atom (.int .i64 14)))],(Eff.hp ef1 S.nx S.hp),(S.nx+ef1.add.length),S.gh⟩))) fun K hK=>?_
    repeat' (first|(refine hK _ ?_;clear hK K)|refine And.intro ?_ ?_|exact cl|(refine st ?_;try simp only[encX,zaa,zac,zad,encF,zab])|fail)
    all_goals
    refine Tri.ret ?_
    show ResR _ _ _ _ _
    rw[zez (by omega) (by omega) (by assumption)]
    refine ResR.cells (encF noF) (encI 14) [] rfl rfl rfl
   try (cases h38;done)
   all_goals (try simp only[CQ] at h38)
   all_goals
   refine Tri.skip ?_
   refine sZ [6,7] (fun P S K=>XvLoad P 76 (M S.hp S.nx) (S.get 9) (fun r0 _=>XvStore P 76 (M S.hp S.nx) (S.get 6) r0 (fun r1 ef1=>K ⟨[(6,S.get 6),(7,(.atom (.int .i64 0)))],(Eff.hp ef1 S.nx S.hp),(S.nx+ef1.add.length),S.gh⟩))) fun K hK=>?_
   repeat' (first|(refine hK _ ?_;clear hK K)|refine And.intro ?_ ?_|exact cl|(refine st ?_;try simp only[encX,zaa,zac,zad,encF,zab])|fail)
   all_goals
   refine Tri.ret ?_
   show ResR _ _ _ _ _
   rw[zey (by omega) (by omega) (by assumption)]
   refine ResR.cells (encF (choT x ws k.toNat).1) (encI 0) [] rfl rfl rfl
  try (cases h25;done)
  all_goals (try simp only[CQ] at h25)
  all_goals
  refine Tri.skip ?_
  refine Tri.seq ?_
  refine sY [1,2,3,6,8,27] (fun P S K=>XvBinOV P .neq 40 (.const (.int .i64 0)) (S.get 8) (.atom (.int .i64 0)) (fun r1 _=>K ⟨[(1,S.get 1),(2,S.get 2),(3,S.get 3),(6,S.get 6),(8,S.get 8),(27,r1)],S.hp,S.nx,S.gh⟩)) ?_
  all_goals
  refine Tri.cond rfl (fun h27=>?_) (fun h27=>?_)
  ·try (cases h27;done)
   all_goals (try simp only[CQ] at h27)
   all_goals
   refine sZ [6,7] (fun P S K=>XvBuild P 76 [] (fun r0 _=>XvStore P 76 (M S.hp S.nx) (S.get 6) r0 (fun r2 ef2=>K ⟨[(6,S.get 6),(7,(S.get 8))],(Eff.hp ef2 S.nx S.hp),(S.nx+ef2.add.length),S.gh⟩))) fun K hK=>?_
   repeat' (first|(refine hK _ ?_;clear hK K)|refine And.intro ?_ ?_|exact cl|(refine st ?_;try simp only[encX,zaa,zac,zad,encF,zab])|fail)
   all_goals
   refine Tri.ret ?_
   show ResR _ _ _ _ _
   first
   | (rw[ze8 (by omega)];refine ResR.cells (encF noF) (encI (errX x ws)) [] rfl rfl rfl)
   | (rw[ze7 (by omega) (by omega)];refine ResR.cells (encF noF) (encI 5) [] rfl rfl rfl)
  try (cases h27;done)
  all_goals (try simp only[CQ] at h27)
  all_goals
  refine Tri.skip ?_
  refine sZ [6,9,10] (fun P S K=>XvLoad P 32 (M S.hp S.nx) (S.get 3) (fun r0 _=>XvFnIV P (M S.hp S.nx) (.fn 65 []) [r0,(S.get 1),(S.get 2)] (fun r3 ef3=>XvExtract r3 0 (fun r5 _=>XvExtract r3 1 (fun r6 _=>XvAlloc P 76 (S.nx+ef3.add.length) (fun r7 ef7=>XvStore P 76 (M (Eff.hp ef7 (S.nx+ef3.add.length) (Eff.hp ef3 S.nx S.hp)) ((S.nx+ef3.add.length)+ef7.add.length)) r7 r5 (fun r8 ef8=>K ⟨[(6,S.get 6),(9,r7),(10,r6)],(Eff.hp ef8 ((S.nx+ef3.add.length)+ef7.add.length) (Eff.hp ef7 (S.nx+ef3.add.length) (Eff.hp ef3 S.nx S.hp))),(((S.nx+ef3.add.length)+ef7.add.length)+ef8.add.length),S.gh⟩))))))) fun K hK=>?_
  repeat' (first|(refine hK _ ?_;clear hK K)|refine And.intro ?_ ?_|exact cl|refine .inl ⟨_,_,zfj x ws k hx (by omega) (zdh (by omega)) (by omega) (by omega),?_⟩|(refine st ?_;try simp only[encX,zaa,zac,zad,encF,zab])|fail)
  all_goals
  refine Tri.seq ?_
  refine sY [6,9,38] (fun P S K=>XvUn .not (S.get 10) (fun r1 _=>K ⟨[(6,S.get 6),(9,S.get 9),(38,r1)],S.hp,S.nx,S.gh⟩)) ?_
  all_goals try simp (disch:=omega) only[zaf,zae]
  all_goals
  refine Tri.cond rfl (fun h38=>?_) (fun h38=>?_)
  ·try (cases h38;done)
   all_goals (try simp only[CQ] at h38)
   all_goals
   refine sZ [6,7] (fun P S K=>XvBuild P 76 [] (fun r0 _=>XvStore P 76 (M S.hp S.nx) (S.get 6) r0 (fun r1 ef1=>K ⟨[(6,S.get 6),(7,(.atom (.int .i64 14)))],(Eff.hp ef1 S.nx S.hp),(S.nx+ef1.add.length),S.gh⟩))) fun K hK=>?_
   repeat' (first|(refine hK _ ?_;clear hK K)|refine And.intro ?_ ?_|exact cl|(refine st ?_;try simp only[encX,zaa,zac,zad,encF,zab])|fail)
   all_goals
   refine Tri.ret ?_
   show ResR _ _ _ _ _
   rw[zez (by omega) (by omega) (by assumption)]
   refine ResR.cells (encF noF) (encI 14) [] rfl rfl rfl
  try (cases h38;done)
  all_goals (try simp only[CQ] at h38)
  all_goals
  refine Tri.skip ?_
  refine sZ [6,7] (fun P S K=>XvLoad P 76 (M S.hp S.nx) (S.get 9) (fun r0 _=>XvStore P 76 (M S.hp S.nx) (S.get 6) r0 (fun r1 ef1=>K ⟨[(6,S.get 6),(7,(.atom (.int .i64 0)))],(Eff.hp ef1 S.nx S.hp),(S.nx+ef1.add.length),S.gh⟩))) fun K hK=>?_
  repeat' (first|(refine hK _ ?_;clear hK K)|refine And.intro ?_ ?_|exact cl|(refine st ?_;try simp only[encX,zaa,zac,zad,encF,zab])|fail)
  all_goals
  refine Tri.ret ?_
  show ResR _ _ _ _ _
  rw[zey (by omega) (by omega) (by assumption)]
  refine ResR.cells (encF (choT x ws k.toNat).1) (encI 0) [] rfl rfl rfl
def ziG:List ByteArray:=[⟨#[110,111,117,110]⟩,⟨#[118,101,114,98]⟩,⟨#[110,97,109,101]⟩]
def zkp:List ByteArray:=[⟨#[97,110,110,97]⟩,⟨#[114,111,109,101]⟩,⟨#[107,105,110,103]⟩,⟨#[116,104,101]⟩,⟨#[111,102]⟩,⟨#[111,100,101]⟩,⟨#[108,121,114,101]⟩,⟨#[120]⟩,⟨#[111,100,101,115]⟩,⟨#[107,105,110,103,115]⟩,⟨#[97,110,110,97,115]⟩,⟨#[108,121,114,101,115]⟩,⟨#[115]⟩,⟨#[104,105,115]⟩]
def zaM (n:Int):ByteArray:=ls ziG (zaJ n 3).toNat
def zgo (n:Int):ByteArray:=ls zkp (zaJ n 14).toNat
theorem zdX (n:Int) (hn:I64 n):Pure Tryz.prog 40 [encI n] (encS (zaM n)) []:=by
  have h0:=zbH (n:=n) (most:=3) (by decide)
  have h3:=zbI (n:=n) (most:=3) (by decide)
  have hg:([.atom (.string ⟨#[110,111,117,110]⟩),.atom (.string ⟨#[118,101,114,98]⟩),.atom (.string ⟨#[110,97,109,101]⟩)]:List PV).getD (zaJ n 3).toNat .junk=.atom (.string (zaM n)):=zbl (l:=ziG) (k:=(zaJ n 3).toNat) (by show _<3;omega)
  refine Pure.intro (ts:=[2]) Tryz.func40 (by kernel_rfl) rfl rfl rfl (Nat.le_of_ble_eq_true rfl) ?_ ?_
  · simp[zaj,zag,encI,encS,PV.pure,zan]
  refine sY [0] (fun P S K=>K ⟨[(0,S.get 0)],S.hp,S.nx,S.gh⟩) ?_
  all_goals
  refine sZ [2] (fun P S K=>XvBuildS P 37 3 S.nx [(0,(.atom (.string { data := #[110,111,117,110] }))),(1,(.atom (.string { data := #[118,101,114,98] }))),(2,(.atom (.string { data := #[110,97,109,101] })))] (fun r0 ef0=>XvFnIV P (M (Eff.hp ef0 S.nx S.hp) (S.nx+ef0.add.length)) (.fn 31 []) [(S.get 0),(.atom (.int .i64 3))] (fun r2 ef2=>XvIndexAddr P 37 r0 r2 (fun r3 _=>XvLoad P 9 (M (Eff.hp ef2 (S.nx+ef0.add.length) (Eff.hp ef0 S.nx S.hp)) ((S.nx+ef0.add.length)+ef2.add.length)) r3 (fun r4 _=>K ⟨[(2,r4)],(Eff.hp ef2 (S.nx+ef0.add.length) (Eff.hp ef0 S.nx S.hp)),((S.nx+ef0.add.length)+ef2.add.length),S.gh⟩))))) fun K hK=>?_
  repeat' (first|(refine hK _ ?_;clear hK K)|refine And.intro ?_ ?_|exact cl|refine .inl ⟨_,_,zaY n 3 hn (by decide),?_⟩|(refine st ?_;try simp only[hg])|fail)
  all_goals
  refine Tri.ret ?_
  show ResOk _ _ _ _
  exact ResOk.val zby zbi
theorem zhC (n:Int) (hn:I64 n):Pure Tryz.prog 39 [encI n] (encS (zgo n)) []:=by
  have h0:=zbH (n:=n) (most:=14) (by decide)
  have h3:=zbI (n:=n) (most:=14) (by decide)
  have hg:([.atom (.string ⟨#[97,110,110,97]⟩),.atom (.string ⟨#[114,111,109,101]⟩),.atom (.string ⟨#[107,105,110,103]⟩),.atom (.string ⟨#[116,104,101]⟩),.atom (.string ⟨#[111,102]⟩),.atom (.string ⟨#[111,100,101]⟩),.atom (.string ⟨#[108,121,114,101]⟩),.atom (.string ⟨#[120]⟩),.atom (.string ⟨#[111,100,101,115]⟩),.atom (.string ⟨#[107,105,110,103,115]⟩),.atom (.string ⟨#[97,110,110,97,115]⟩),.atom (.string ⟨#[108,121,114,101,115]⟩),.atom (.string ⟨#[115]⟩),.atom (.string ⟨#[104,105,115]⟩)]:List PV).getD (zaJ n 14).toNat .junk=.atom (.string (zgo n)):=zbl (l:=zkp) (k:=(zaJ n 14).toNat) (by show _<14;omega)
  refine Pure.intro (ts:=[2]) Tryz.func39 (by kernel_rfl) rfl rfl rfl (Nat.le_of_ble_eq_true rfl) ?_ ?_
  · simp[zaj,zag,encI,encS,PV.pure,zan]
  refine sY [0] (fun P S K=>K ⟨[(0,S.get 0)],S.hp,S.nx,S.gh⟩) ?_
  all_goals
  refine sY [0,3] (fun P S K=>XvBuildS P 37 14 S.nx [(0,(.atom (.string { data := #[97,110,110,97] }))),(1,(.atom (.string { data := #[114,111,109,101] }))),(2,(.atom (.string { data := #[107,105,110,103] }))),(3,(.atom (.string { data := #[116,104,101] }))),(4,(.atom (.string { data := #[111,102] }))),(5,(.atom (.string { data := #[111,100,101] }))),(6,(.atom (.string { data := #[108,121,114,101] }))),(7,(.atom (.string { data := #[120] }))),(8,(.atom (.string { data := #[111,100,101,115] }))),(9,(.atom (.string { data := #[107,105,110,103,115] }))),(10,(.atom (.string { data := #[97,110,110,97,115] }))),(11,(.atom (.string { data := #[108,121,114,101,115] }))),(12,(.atom (.string { data := #[115] }))),(13,(.atom (.string { data := #[104,105,115] })))] (fun r0 ef0=>K ⟨[(0,S.get 0),(3,r0)],(Eff.hp ef0 S.nx S.hp),(S.nx+ef0.add.length),S.gh⟩)) ?_
  all_goals
  refine sZ [2] (fun P S K=>XvLen P 37 (M S.hp S.nx) (S.get 3) (fun r3 _=>XvFnIV P (M S.hp S.nx) (.fn 31 []) [(S.get 0),r3] (fun r4 ef4=>XvIndexAddr P 37 (S.get 3) r4 (fun r5 _=>XvLoad P 9 (M (Eff.hp ef4 S.nx S.hp) (S.nx+ef4.add.length)) r5 (fun r6 _=>K ⟨[(2,r6)],(Eff.hp ef4 S.nx S.hp),(S.nx+ef4.add.length),S.gh⟩))))) fun K hK=>?_
  repeat' (first|(refine hK _ ?_;clear hK K)|refine And.intro ?_ ?_|exact cl|refine .inl ⟨_,_,zaY n 14 hn (by decide),?_⟩|(refine st ?_;try simp only[hg])|refine sx ?_ (by simp only[hg];exact rfl)|fail)
  all_goals
  refine Tri.ret ?_
  show ResOk _ _ _ _
  exact ResOk.val zby zbi
def zbM (l:List Int):List ByteArray:=(l.take 7).map zgo
theorem take_liM{l:List Int}{k:Nat}(h:k<l.length):l.take (k+1)=l.take k++[li l k]:=by rw[List.take_succ_eq_append_getElem h];simp[li,List.getD_eq_getElem?_getD,h]
theorem zla (l:List Int) (hl:Fits l):Pure Tryz.prog 10 [ints l] (strs (zbM l)) []:=by
  have hll:=hl.2
  refine Pure.intro (ts:=[2]) Tryz.func10 (by kernel_rfl) rfl rfl rfl (Nat.le_of_ble_eq_true rfl) ?_ ?_
  · simp[zaj,zag,encI,encS,PV.pure,zan]
  refine sY [0] (fun P S K=>K ⟨[(0,S.get 0)],S.hp,S.nx,S.gh⟩) ?_
  all_goals
  refine sY [0,3] (fun P S K=>K ⟨[(0,S.get 0),(3,(.atom (.slice none 0 0)))],S.hp,S.nx,S.gh⟩) ?_
  refine Tri.born 3 1 rfl ?_
  all_goals
  refine Tri.seq ?_
  refine sY [0,3,4] (fun P S K=>K ⟨[(0,S.get 0),(3,S.get 3),(4,(.atom (.int .i64 0)))],S.hp,S.nx,S.gh⟩) ?_
  all_goals
  refine Tri.block ?_
  refine Tri.loop (α:=(o:List ByteArray) ×' (i:Nat) ×' (i≤l.length∧i≤7∧o.length=i∧o=(l.take i).map zgo)) (fun z=>(fun(o:List ByteArray) (i:Nat)=>(⟨[(0,ints l),(3,.ob 0 1 0 o.length),(4,encI i)],[(0,some ⟨1,o.map encS⟩)],1,[]⟩:St)) z.1 z.2.1) (fun z=>(fun(o:List ByteArray) (i:Nat)=>7 - i) z.1 z.2.1) ⟨[],0,⟨Nat.zero_le _,by omega,rfl,rfl⟩⟩ [0] ?_ ?_
  ·exact zaD
  rintro⟨o,i,⟨hi,hi7,hol,ho⟩⟩
  refine Tri.seq ?_
  refine sZ [0,3,4,12] (fun P S K=>XvLen P 22 (M S.hp S.nx) (S.get 0) (fun r2 _=>XvBinOV P .lss 3 (.tmp 7) (S.get 4) r2 (fun r3 _=>Xgq r3 true (fun k=>k (S.get 4)) (fun g5 r5=>Xgq g5 true (fun k=>XvBinOV P .lss 3 (.const (.int .i64 7)) r5 (.atom (.int .i64 7)) (fun r6 _=>k r6)) (fun g6 r6=>XvPick g6 r6 (.atom (.bool false)) (fun r7 _=>K ⟨[(0,S.get 0),(3,S.get 3),(4,S.get 4),(12,r7)],S.hp,S.nx,S.gh⟩)))))) fun K hK=>?_
  repeat' (first|(refine hK _ ?_;clear hK K)|((first|refine zak (fun hg=>?_) (fun hg=>?_)|refine fun(hg:(_:Prop))=>?_)<;>((try simp only[BQ] at hg);try (exfalso;omega)))|refine And.intro ?_ ?_|exact cl|refine st ?_|fail)
  all_goals
  refine Tri.cond rfl (fun h12=>?_) (fun h12=>?_)
  ·try (cases h12;done)
   all_goals (try simp only[CQ] at h12)
   all_goals
   refine Tri.skip ?_
   refine Tri.seq ?_
   refine Tri.block ?_
   have hil:i<l.length:=by omega
   refine rZ [0,3,4] (fun P S K=>XvIndexAddr P 22 (S.get 0) (S.get 4) (fun r3 _=>XvLoad P 3 (M S.hp S.nx) r3 (fun r4 _=>XvFnIV P (M S.hp S.nx) (.fn 39 []) [r4] (fun r5 ef5=>XvBuildS P 37 1 (S.nx+ef5.add.length) [(0,r5)] (fun r6 ef6=>(37=37∧XvAppend P 37 (M (Eff.hp ef6 (S.nx+ef5.add.length) (Eff.hp ef5 S.nx S.hp)) ((S.nx+ef5.add.length)+ef6.add.length)) (S.get 3) r6 (fun r7 ef7=>K ⟨[(0,S.get 0),(3,r7),(4,S.get 4)],(Eff.hp ef7 ((S.nx+ef5.add.length)+ef6.add.length) (Eff.hp ef6 (S.nx+ef5.add.length) (Eff.hp ef5 S.nx S.hp))),(((S.nx+ef5.add.length)+ef6.add.length)+ef7.add.length),S.gh⟩))))))) fun K hK=>?_
   repeat' (first|(refine hK _ ?_;clear hK K)|refine And.intro ?_ ?_|exact cl|refine .inl ⟨_,_,zhC (li l i) (hl.1 _ (zf1 hil)),?_⟩|(refine st ?_;try simp only[za9 hil])|fail)
   all_goals
   refine rY [0,3,4] (fun P S K=>XvBinOV P .add 3 (.const (.int .i64 1)) (S.get 4) (.atom (.int .i64 1)) (fun r1 _=>K ⟨[(0,S.get 0),(3,S.get 3),(4,r1)],S.hp,S.nx,S.gh⟩)) ?_
   all_goals try simp (disch:=omega) only[zaf,zae]
   all_goals
   refine⟨⟨o++[zgo (li l i)],i+1,by omega,by omega,by simp[hol],by rw[take_liM hil,List.map_append,←ho];rfl⟩,[2],by dsimp only;omega,?_⟩
   exact zaD
  try (cases h12;done)
  all_goals (try simp only[CQ] at h12)
  all_goals
  refine Tri.exit ?_
  refine sY [2] (fun P S K=>K ⟨[(2,(S.get 3))],S.hp,S.nx,S.gh⟩) ?_
  all_goals
  refine Tri.ret ?_
  show ResOk _ _ _ _
  rw[show zbM l=o by unfold zbM;rw[ho];(by_cases h7:i=7;rw[h7];rw[List.take_of_length_le (show l.length≤7 by omega),List.take_of_length_le (by omega)])]
  exact ResOk.frz 5 zgc zbi
end Go.Proofs.YtehoglapajkabaaGreat
