/-
  Walks: package transducer: Apply.
-/
import Derived.Test.YtehoglapajkabaaIM0
import Derived.Test.YtehoglapajkabaaIN8
import Derived.Test.YtehoglapajkabaaIA11
import Derived.Test.YtehoglapajkabaaIM9
import Derived.Test.YtehoglapajkabaaIShelf
import Derived.Test.YtehoglapajkabaaIM42
import Derived.Test.YtehoglapajkabaaIM12
set_option linter.all false
namespace Go.Proofs.Ytehoglapajkabaa
open Go Go.RowKit
set_option maxRecDepth 20000
set_option maxHeartbeats 1000000
theorem leqN9{p:Prop}(h:p:=by(refine⟨4,?_,?_,rfl,by simp,rfl,fun _ h _=>absurd h (Nat.not_lt_zero _)⟩<;>(simp only[List.forall_mem_cons];repeat' (first|refine And.intro ?_ ?_|(intro p hp;exact absurd hp List.not_mem_nil)|rfl|exact sp (zaI _)|exact sp (zbL _)|exact sp (zbk _)|exact sp (zdi _)|exact sp (zdQ _)|exact sp (zb9 _)|exact(zas _ _ _ (zah _)).trans (zbQ _ _).symm|exact(zas _ _ _ (zag _)).trans (zbP _ _).symm|exact sp (by assumption)|(intro o ho;cases ho;refine⟨by decide,?_⟩;first|(refine LeqS.row rfl ?_ ?_;(next=>(first|rfl|(simp only[List.map_append,List.map_cons,List.map_nil,List.append_nil,List.nil_append,List.append_assoc,List.cons_append,encI,encS,ints,strs];done)|(simp[encI,encS,ints,strs,encC];done)));(next=>(first|rfl|exact zal _|exact zaq _|exact zau _|exact zat _|exact za5 _|exact zb3 _|exact zcp _|(simp[zar,zal,zaq,zau,zat,zaw,PV.pure,zah,zag,zaI,za5,zbL,zbk,zdi,zb3,zcp,zdQ,zb9];done)));done)|refine⟨_,rfl,rfl,?_⟩)|(simp[St.born,St.known,retV,St.get,St.obj,lk,sealed,PV.ren,renL,rmap,AO.ren,ints,strs,encI,encS,zap,zao,zan,zam,zaC,zaB,zaA,zaz,za1,za0,zaZ,zaY,zbE,zbB,zay,zaQ,zaF,zax,encC,zga,zd6,zbT,zcv,zbG,zbt,zcl,zbK,zfl,zdu,zfj,zdv,zfk,zde,zf9]<;>omega))));first|done|fail):p:=h
theorem lstN9{p:Prop}(h:p:=by(first|rfl|(simp[St.born,St.known,retV,St.get,St.obj,lk,sealed,PV.ren,renL,rmap,AO.ren,ints,strs,encI,encS,zap,zao,zan,zam,zaC,zaB,zaA,zaz,za1,za0,zaZ,zaY,zbE,zbB,zay,zaQ,zaF,zax,encC,zga,zd6,zbT,zcv,zbG,zbt,zcl,zbK,zfl,zdu,zfj,zdv,zfk,zde,zf9,zaL,List.take_length];done));first|done|fail):p:=h
theorem lpvN9{p:Prop}(h:p:=by(first|rfl|(simp[zah,zag,PV.pure,zaw,zal,zaq,zau,zat,zaI,za5,zbL,zbk,zdi,zb3,zcp,zdQ,zb9];done));first|done|fail):p:=h
theorem lsrN9{p:Prop}(h:p:=by(first|rfl|(simp[St.born,St.known,retV,St.get,St.obj,lk,sealed,PV.ren,renL,rmap,AO.ren,ints,strs,encI,encS,zap,zao,zan,zam,zaC,zaB,zaA,zaz,za1,za0,zaZ,zaY,zbE,zbB,zay,zaQ,zaF,zax,encC,zga,zd6,zbT,zcv,zbG,zbt,zcl,zbK,zfl,zdu,zfj,zdv,zfk,zde,zf9];done));first|done|fail):p:=h
theorem zoh (ks:List ByteArray) (hl:ks.length<4611686018427387904):Proc Try.prog 42 [.ob 0 1 0 ks.length] [⟨1,ks.map encS⟩] (.tup []) [some ⟨1,(zb2 ks).map encS⟩] []:=
  zqv (Go.Proofs.enters_of Try.func42 (by kernel_rfl) rfl) Try.slices_Sort_string Try.slices_Sort_string_none ks hl
noncomputable def zeL (m:MachD) (s:ByteArray):List ByteArray×Int:=if zbx m≠0 then ([],zbx m) else if 256<s.size then ([],4) else if zch (outL m s m.start 0)=true then ([],4) else (zb2 (outL m s m.start 0),0)
theorem zn5{m:MachD}{s:ByteArray}(h:zbx m≠0):zeL m s=([],zbx m):=if_pos h
theorem zls{m:MachD}{s:ByteArray}(h:¬zbx m≠0) (h2:256<s.size):zeL m s=([],4):=by unfold zeL;rw[if_neg h,if_pos h2]
theorem zg0{m:MachD}{s:ByteArray}(h:¬zbx m≠0) (h2:¬256<s.size) (h3:zch (outL m s m.start 0)=true):zeL m s=([],4):=by unfold zeL;rw[if_neg h,if_neg h2,if_pos h3]
theorem zj0{m:MachD}{s:ByteArray}(h:¬zbx m≠0) (h2:¬256<s.size) (h3:zch (outL m s m.start 0)=false):zeL m s=(zb2 (outL m s m.start 0),0):=by unfold zeL;rw[if_neg h,if_neg h2,if_neg (by rw[h3];decide)]
theorem zhj{a b:List ByteArray}(h:a.Perm b):zb2 a=zb2 b:=by
  unfold zb2
  congr 1
  have tr:∀a b c:List UInt8,decide (a≤b)=true→decide (b≤c)=true→decide (a≤c)=true:=fun a b c h1 h2=>by
    rw[decide_eq_true_eq] at *;exact List.le_trans h1 h2
  have to:∀a b:List UInt8,(decide (a≤b) || decide (b≤a))=true:=fun a b=>by
    rw[Bool.or_eq_true,decide_eq_true_eq,decide_eq_true_eq];exact List.le_total a b
  refine List.Perm.eq_of_pairwise (le:=fun a b=>decide (a≤b)=true) (fun a b _ _ h1 h2=>?_) (List.pairwise_mergeSort tr to _) (List.pairwise_mergeSort tr to _) ((List.mergeSort_perm _ _).trans ((h.map _).trans (List.mergeSort_perm _ _).symm))
  rw[decide_eq_true_eq] at h1 h2
  exact List.le_antisymm h1 h2
theorem zhL{α:Type}:∀(l:List α) (j:Nat) (h:j<l.length),(l[j] :: l.eraseIdx j).Perm l
  | a :: l,0,_=>by simp
  | a :: l,j+1,h=>by
    simp only[List.getElem_cons_succ,List.eraseIdx_cons_succ]
    exact(List.Perm.swap _ _ _).trans ((zhL l j (by simpa using h)).cons a)
theorem vProc.afterL{P:Program}{S:St}{f:FuncId}{vals:List PV}{K:PV→Eff→Prop}{m:MachD}{s:ByteArray}{l l':List ((Int×Nat)×EV)}{k:Int×Nat}{L:List ByteArray}(a b c d e g:Nat) (hpr:Proc P f (ziq k) (hpA f m s l) (finV L) ((hpA f m s l').map some) []) (hn:[a,b,c,d,e,g].Nodup)
    (hv:vals=[encI k.1,encI k.2,.ptr a 1 0 0,.ptr b 4 0 0,.ptr c 1 0 0,.ptr d 1 0 0,.ptr e 1 0 0])
    (h0:S.obj a=some ⟨1,[.mp g]⟩) (h1:S.obj b=some ⟨4,[encM m]⟩) (h2:S.obj c=some ⟨1,[encS s]⟩) (h3:S.obj d=some ⟨1,[zbb (zbq m)]⟩) (h4:S.obj e=some ⟨1,[.fn f [.ptr a 1 0 0,.ptr b 4 0 0,.ptr c 1 0 0,.ptr d 1 0 0,.ptr e 1 0 0]]⟩) (h5:S.obj g=some ⟨0,l.map entE⟩)
    (hk:K (finV L) ⟨[],[],[(a,⟨1,[.mp g]⟩),(b,⟨4,[encM m]⟩),(c,⟨1,[encS s]⟩),(d,⟨1,[zbb (zbq m)]⟩),(e,⟨1,[.fn f [.ptr a 1 0 0,.ptr b 4 0 0,.ptr c 1 0 0,.ptr d 1 0 0,.ptr e 1 0 0]]⟩),(g,⟨0,l'.map entE⟩)],[]⟩):vProc P S f vals K:=by
  subst hv
  refine vProc.of [a,b,c,d,e,g] hpr hn rfl ?_ (fun i o hi=>?_) ?_
  · simp[ziq,encI,PV.ren,rmap]
  · match i,hi with
    | 0,hi=>cases hi;exact h0
    | 1,hi=>cases hi;rw[show rmap [a,b,c,d,e,g] S.nx 1=b from rfl,h1];simp[AO.ren,zbE]
    | 2,hi=>cases hi;exact h2
    | 3,hi=>cases hi;rw[show rmap [a,b,c,d,e,g] S.nx 3=d from rfl,h3];simp[AO.ren,zbK]
    | 4,hi=>cases hi;exact h4
    | 5,hi=>cases hi;rw[show rmap [a,b,c,d,e,g] S.nx 5=g from rfl,h5];simp only[AO.ren,zbt]
  · rw[za8 _ _ (zb9 L)]
    have e:zaW (pmap [a,b,c,d,e,g] S.nx) [a,b,c,d,e,g] ((hpA f m s l').map some)=[(a,⟨1,[.mp g]⟩),(b,⟨4,[encM m]⟩),(c,⟨1,[encS s]⟩),(d,⟨1,[zbb (zbq m)]⟩),(e,⟨1,[.fn f [.ptr a 1 0 0,.ptr b 4 0 0,.ptr c 1 0 0,.ptr d 1 0 0,.ptr e 1 0 0]]⟩),(g,⟨0,l'.map entE⟩)]:=by
      simp only[hpA,List.map_cons,List.map_nil,zaW,AO.ren,zbE,zbK,zbt]
      rfl
    rw[e]
    exact hk
theorem znX (m:MachD) (s:ByteArray) (mu:Int→Nat→Nat) (hR:RunM m s mu):∃l',Proc Try.prog 38 (ziq (m.start,0)) (hpA 38 m s []) (finV (outL m s m.start 0)) ((hpA 38 m s l').map some) []:=
  ⟨_,zn6 m s mu hR _ (m.start,0) [] (Nat.lt_succ_self _) hR.valid.start.1 hR.valid.start.2 (Nat.zero_le _) (fun e he=>by cases he)⟩
theorem zgp (m:MachD) (s:ByteArray) (hm:HeldM m) (hs:s.size≤4294967296):Pure Try.prog 17 [encM m,encS s] (.tup [strs (zeL m s).1,encI (zeL m s).2]) []:=by
  refine Pure.intro (ts:=[4,5]) Try.func17 (by kernel_rfl) rfl rfl rfl (Nat.le_of_ble_eq_true rfl) ?_ ?_
  · simp[zaI,encS,PV.pure,zaw]
  refine sZ [2,3] (fun P S K=>XvBox S.nx (S.get 0) (fun r0 ef0=>XvBox (S.nx+ef0.add.length) (S.get 1) (fun r1 ef1=>K ⟨[(2,r0),(3,r1)],(Eff.hp ef1 (S.nx+ef0.add.length) (Eff.hp ef0 S.nx S.hp)),((S.nx+ef0.add.length)+ef1.add.length),S.gh⟩))) fun K hK=>?_
  repeat' (first|(refine hK _ ?_;clear hK K)|refine And.intro ?_ ?_|exact cl|(refine st ?_;try simp only[encM,zay,encC,finV,tV])|fail)
  all_goals
  refine Tri.seq ?_
  refine sZ [2,3,6] (fun P S K=>XvLoad P 58 (M S.hp S.nx) (S.get 2) (fun r0 _=>XvFnIV P (M S.hp S.nx) (.fn 36 []) [r0] (fun r1 ef1=>K ⟨[(2,S.get 2),(3,S.get 3),(6,r1)],(Eff.hp ef1 S.nx S.hp),(S.nx+ef1.add.length),S.gh⟩))) fun K hK=>?_
  repeat' (first|(refine hK _ ?_;clear hK K)|refine .inl ⟨_,_,zgo m hm,?_⟩|(refine st ?_;try simp only[encM,zay,encC,finV,tV])|fail)
  all_goals
  refine sY [2,3,6,16] (fun P S K=>XvBinOV P .neq 41 (.const (.int .i64 0)) (S.get 6) (.atom (.int .i64 0)) (fun r1 _=>K ⟨[(2,S.get 2),(3,S.get 3),(6,S.get 6),(16,r1)],S.hp,S.nx,S.gh⟩)) ?_
  all_goals
  refine Tri.cond rfl (fun h16=>?_) (fun h16=>?_)
  ·try (cases h16;done)
   all_goals (try simp only[CQ] at h16)
   all_goals
   refine sY [4,5] (fun P S K=>K ⟨[(4,(.atom (.slice none 0 0))),(5,(S.get 6))],S.hp,S.nx,S.gh⟩) ?_
   refine Tri.asSl 4 1 rfl ?_
   all_goals
   refine Tri.ret ?_
   show ResOk _ _ _ _
   rw[zn5 (by omega)]
   exact ResOk.val lsrN9 lpvN9
  try (cases h16;done)
  all_goals (try simp only[CQ] at h16)
  all_goals
  refine Tri.skip ?_
  refine Tri.seq ?_
  refine sZ [2,3,20] (fun P S K=>XvLoad P 9 (M S.hp S.nx) (S.get 3) (fun r0 _=>XvLen P 9 (M S.hp S.nx) r0 (fun r1 _=>XvBinOV P .gtr 3 (.const (.int .i64 256)) r1 (.atom (.int .i64 256)) (fun r2 _=>K ⟨[(2,S.get 2),(3,S.get 3),(20,r2)],S.hp,S.nx,S.gh⟩)))) fun K hK=>?_
  repeat' (first|(refine hK _ ?_;clear hK K)|refine And.intro ?_ ?_|exact cl|(refine st ?_;try simp only[encM,zay,encC,finV,tV])|fail)
  all_goals
  refine Tri.cond rfl (fun h20=>?_) (fun h20=>?_)
  ·try (cases h20;done)
   all_goals (try simp only[CQ] at h20)
   all_goals
   refine sY [4,5] (fun P S K=>K ⟨[(4,(.atom (.slice none 0 0))),(5,(.atom (.int .i64 4)))],S.hp,S.nx,S.gh⟩) ?_
   refine Tri.asSl 4 1 rfl ?_
   all_goals
   refine Tri.ret ?_
   show ResOk _ _ _ _
   rw[zls (by omega) (by omega)]
   exact ResOk.val lsrN9 lpvN9
  try (cases h20;done)
  all_goals (try simp only[CQ] at h20)
  all_goals
  refine Tri.skip ?_
  have hval:=validM_0.1 (show zbx m=0 by omega)
  have hst:=hval.states
  have hin:=InM.of hval.arcs
  obtain⟨mu,hmu⟩:=FarM.ex hval.acyc hin s
  have hR:RunM m s mu:=⟨hm,hval,by omega,hmu⟩
  obtain⟨l',hfirst⟩:=znX m s mu hR
  refine sZ [2,3,7] (fun P S K=>XvLoad P 58 (M S.hp S.nx) (S.get 2) (fun r0 _=>XvFnIV P (M S.hp S.nx) (.fn 37 []) [r0] (fun r1 ef1=>XvAlloc P 91 (S.nx+ef1.add.length) (fun r2 ef2=>XvStore P 91 (M (Eff.hp ef2 (S.nx+ef1.add.length) (Eff.hp ef1 S.nx S.hp)) ((S.nx+ef1.add.length)+ef2.add.length)) r2 r1 (fun r3 ef3=>K ⟨[(2,S.get 2),(3,S.get 3),(7,r2)],(Eff.hp ef3 ((S.nx+ef1.add.length)+ef2.add.length) (Eff.hp ef2 (S.nx+ef1.add.length) (Eff.hp ef1 S.nx S.hp))),(((S.nx+ef1.add.length)+ef2.add.length)+ef3.add.length),S.gh⟩))))) fun K hK=>?_
  repeat' (first|(refine hK _ ?_;clear hK K)|refine And.intro ?_ ?_|exact cl|refine .inl ⟨_,_,zfD m hm (by omega) (by omega) (fun a ha=>⟨(hin a ha).1,(hin a ha).2.1⟩),?_⟩|(refine st ?_;try simp only[encM,zay,encC,finV,tV,zbK,zbb])|refine sx ?_ (by simp only[encM,zay,encC,finV,tV,zbK,zbb];exact rfl)|fail)
  all_goals
  refine sZ [2,3,7,8] (fun P S K=>XvMakeMap none S.nx (fun r0 ef0=>XvAlloc P 93 (S.nx+ef0.add.length) (fun r1 ef1=>XvStore P 93 (M (Eff.hp ef1 (S.nx+ef0.add.length) (Eff.hp ef0 S.nx S.hp)) ((S.nx+ef0.add.length)+ef1.add.length)) r1 r0 (fun r2 ef2=>K ⟨[(2,S.get 2),(3,S.get 3),(7,S.get 7),(8,r1)],(Eff.hp ef2 ((S.nx+ef0.add.length)+ef1.add.length) (Eff.hp ef1 (S.nx+ef0.add.length) (Eff.hp ef0 S.nx S.hp))),(((S.nx+ef0.add.length)+ef1.add.length)+ef2.add.length),S.gh⟩)))) fun K hK=>?_
  repeat' (first|(refine hK _ ?_;clear hK K)|refine And.intro ?_ ?_|exact cl|(refine st ?_;try simp only[encM,zay,encC,finV,tV])|fail)
  all_goals
  refine sZ [2,3,7,8,9] (fun P S K=>XvAlloc P 94 S.nx (fun r0 ef0=>K ⟨[(2,S.get 2),(3,S.get 3),(7,S.get 7),(8,S.get 8),(9,r0)],(Eff.hp ef0 S.nx S.hp),(S.nx+ef0.add.length),S.gh⟩)) fun K hK=>?_
  repeat' (first|(refine hK _ ?_;clear hK K)|refine And.intro ?_ ?_|exact cl|(refine st ?_;try simp only[encM,zay,encC,finV,tV])|fail)
  all_goals
  refine sZ [2,9] (fun P S K=>XvMakeFV (.func 38) [] [(S.get 8),(S.get 2),(S.get 3),(S.get 7),(S.get 9)] (fun r0 _=>XvStore P 94 (M S.hp S.nx) (S.get 9) r0 (fun r1 ef1=>K ⟨[(2,S.get 2),(9,S.get 9)],(Eff.hp ef1 S.nx S.hp),(S.nx+ef1.add.length),S.gh⟩))) fun K hK=>?_
  repeat' (first|(refine hK _ ?_;clear hK K)|refine And.intro ?_ ?_|exact cl|(refine st ?_;try simp only[encM,zay,encC,finV,tV])|fail)
  all_goals
  refine sZ [10] (fun P S K=>XvLoad P 94 (M S.hp S.nx) (S.get 9) (fun r0 _=>XvFieldAddr P 58 1 (S.get 2) (fun r1 _=>XvLoad P 3 (M S.hp S.nx) r1 (fun r2 _=>XvFnIV P (M S.hp S.nx) r0 [r2,(.atom (.int .i64 0))] (fun r3 ef3=>K ⟨[(10,r3)],(Eff.hp ef3 S.nx S.hp),(S.nx+ef3.add.length),S.gh⟩))))) fun K hK=>?_
  repeat' (first|(refine hK _ ?_;clear hK K)|refine .inr (vProc.afterL 4 0 1 2 5 3 hfirst (by decide) rfl rfl rfl rfl rfl rfl rfl ?_)|(refine st ?_;try simp only[encM,zay,encC,finV,tV])|fail)
  all_goals
  refine Tri.seq ?_
  refine sZ [10,32] (fun P S K=>XvNil (S.get 10) (fun r1 _=>XvFieldAddr P 100 1 r1 (fun r2 _=>XvLoad P 4 (M S.hp S.nx) r2 (fun r3 _=>K ⟨[(10,S.get 10),(32,r3)],S.hp,S.nx,S.gh⟩)))) fun K hK=>?_
  repeat' (first|(refine hK _ ?_;clear hK K)|refine And.intro ?_ ?_|exact cl|(refine st ?_;try simp only[encM,zay,encC,finV,tV])|fail)
  all_goals
  refine Tri.cond rfl (fun h32=>?_) (fun h32=>?_)
  ·try (cases h32;done)
   all_goals (try simp only[CQ] at h32)
   all_goals
   refine sY [4,5] (fun P S K=>K ⟨[(4,(.atom (.slice none 0 0))),(5,(.atom (.int .i64 4)))],S.hp,S.nx,S.gh⟩) ?_
   refine Tri.asSl 4 1 rfl ?_
   all_goals
   refine Tri.ret ?_
   show ResOk _ _ _ _
   rw[zg0 (by omega) (by omega) (by assumption)]
   exact ResOk.val lsrN9 lpvN9
  try (cases h32;done)
  all_goals (try simp only[CQ] at h32)
  all_goals
  refine Tri.skip ?_
  have hm0:zch (outL m s m.start 0)=false:=by assumption
  have hlen:(outL m s m.start 0).length≤64:=by unfold zch at hm0;rw[decide_eq_false_iff_not] at hm0;omega
  refine sY [10,11] (fun P S K=>K ⟨[(10,S.get 10),(11,(.atom (.slice none 0 0)))],S.hp,S.nx,S.gh⟩) ?_
  refine Tri.born 11 1 rfl ?_
  all_goals
  refine Tri.seq ?_
  refine Tri.cut (α:=(remS:List ByteArray) ×' (remS=outL m s m.start 0)) (fun z=>(fun(remS:List ByteArray)=>(⟨[(11,.ob 0 1 0 0),(37,.it 1)],[(0,some ⟨1,[]⟩),(1,some ⟨0,[.fmp (remS.map setE),.junk]⟩)],2,[]⟩:St)) z.1) ?_ ?_
  ·skip
   rcases zhE (outL m s m.start 0) with ⟨hmm,hhas⟩|⟨hmm,hl,hhas⟩|⟨hmm,hl,hhas⟩
   · rw[hm0] at hmm;cases hmm
   all_goals
   refine rZ [11,37] (fun P S K=>XvNil (S.get 10) (fun r1 _=>XvFieldAddr P 100 0 r1 (fun r2 _=>XvLoad P 98 (M S.hp S.nx) r2 (fun r3 _=>XvRange P 98 r3 S.nx (fun r4 ef4=>K ⟨[(11,S.get 11),(37,r4)],(Eff.hp ef4 S.nx S.hp),(S.nx+ef4.add.length),S.gh⟩))))) fun K hK=>?_
   repeat' (first|(refine hK _ ?_;clear hK K)|(refine st ?_;try simp only[encM,zay,encC,finV,tV,hhas])|fail)
   all_goals
   first|(refine⟨⟨[],hl.symm⟩,[6,7],?_⟩;exact leqN9)|(refine⟨⟨_,rfl⟩,[6,7],?_⟩;exact leqN9)
  rintro⟨remS,hrem0⟩
  refine Tri.block ?_
  refine Tri.loop (α:=(rem2:List ByteArray) ×' (out:List ByteArray) ×' (cur:Option ByteArray) ×' ((out++rem2).Perm (outL m s m.start 0))) (fun z=>(fun(rem2:List ByteArray) (out:List ByteArray) (cur:Option ByteArray)=>(⟨[(11,.ob 0 1 0 out.length),(37,.it 1)],[(0,some ⟨1,out.map encS⟩),(1,some ⟨0,[.fmp (rem2.map setE),curV cur]⟩)],2,[]⟩:St)) z.1 z.2.1 z.2.2.1) (fun z=>(fun(rem2:List ByteArray) (out:List ByteArray) (cur:Option ByteArray)=>rem2.length) z.1 z.2.1 z.2.2.1) ⟨remS,[],none,by rw[hrem0];exact List.Perm.refl _⟩ [0,1] ?_ ?_
  ·exact leqN9
  rintro⟨rem2,out,cur,hpm⟩
  refine sZ [11,37,39] (fun P S K=>XvNext (M S.hp S.nx) (S.get 37) (fun r0 ef0=>XvExtract r0 0 (fun r1 _=>K ⟨[(11,S.get 11),(37,S.get 37),(39,r1)],(Eff.hp ef0 S.nx S.hp),(S.nx+ef0.add.length),S.gh⟩))) fun K hK=>?_
  repeat' (first|(refine hK _ ?_;clear hK K)|(refine(⟨fun hrem=>?_,fun jn hjn=>?_⟩:zot _ _ _))|(refine st ?_;try simp only[encM,zay,encC,finV,tV,zfy,zhk])|fail)
  all_goals
  refine Tri.seq ?_
  refine Tri.cond rfl (fun h39=>?_) (fun h39=>?_)
  ·try (cases h39;done)
   all_goals (try simp only[CQ] at h39)
   all_goals
   refine Tri.skip ?_
   refine Tri.block ?_
   have hjl:jn<rem2.length:=by simpa using hjn
   have hcur:rem2[jn]? = some rem2[jn]:=List.getElem?_eq_getElem hjl
   have hlo:=hpm.length_eq
   rw[List.length_append] at hlo
   refine sZ [11,12,37] (fun P S K=>XvEntry (M S.hp S.nx) (S.get 37) (fun r0 _=>XvExtract r0 0 (fun r1 _=>K ⟨[(11,S.get 11),(12,r1),(37,S.get 37)],S.hp,S.nx,S.gh⟩))) fun K hK=>?_
   repeat' (first|(refine hK _ ?_;clear hK K)|refine And.intro ?_ ?_|(refine st ?_;try simp only[encM,zay,encC,finV,tV,hcur,curV,setE])|fail)
   all_goals
   refine rZ [11,37] (fun P S K=>XvBuildS P 35 1 S.nx [(0,(S.get 12))] (fun r2 ef2=>(35=35∧XvAppend P 35 (M (Eff.hp ef2 S.nx S.hp) (S.nx+ef2.add.length)) (S.get 11) r2 (fun r3 ef3=>K ⟨[(11,r3),(37,S.get 37)],(Eff.hp ef3 (S.nx+ef2.add.length) (Eff.hp ef2 S.nx S.hp)),((S.nx+ef2.add.length)+ef3.add.length),S.gh⟩)))) fun K hK=>?_
   repeat' (first|(refine hK _ ?_;clear hK K)|refine And.intro ?_ ?_|exact cl|(refine st ?_;try simp only[encM,zay,encC,finV,tV])|fail)
   all_goals
   refine⟨⟨rem2.eraseIdx jn,out++[rem2[jn]],some rem2[jn],?_⟩,[3,1],by dsimp only;rw[List.length_eraseIdx_of_lt hjl];omega,?_⟩
   · rw[List.append_assoc]
     exact((zhL rem2 jn hjl).append_left out).trans hpm
   · exact leqN9
  try (cases h39;done)
  all_goals (try simp only[CQ] at h39)
  all_goals
  refine Tri.exit ?_
  have hlo:=hpm.length_eq
  rw[List.length_append] at hlo
  refine sZ [11] (fun P S K=>XvFnIV P (M S.hp S.nx) (.fn 42 []) [(S.get 11)] (fun r1 ef1=>K ⟨[(11,S.get 11)],(Eff.hp ef1 S.nx S.hp),(S.nx+ef1.add.length),S.gh⟩)) fun K hK=>?_
  repeat' (first|(refine hK _ ?_;clear hK K)|refine .inr (vProc.row 0 1 (zoh _ (by omega)) rfl (zaq _) (zaq _) rfl rfl rfl (zrb _) ?_)|(refine st ?_;try simp only[encM,zay,encC,finV,tV])|fail)
  all_goals
  refine sY [4,5] (fun P S K=>K ⟨[(4,(S.get 11)),(5,(.atom (.int .i64 0)))],S.hp,S.nx,S.gh⟩) ?_
  all_goals
  refine Tri.ret ?_
  show ResOk _ _ _ _
  obtain rfl:rem2=[]:=by simpa using hrem
  rw[List.append_nil] at hpm
  rw[zj0 (by omega) (by omega) hm0,←zhj hpm,←zcu out]
  exact ResOk.frz 5 lstN9 lpvN9
def resF (c:UInt8) (f:FormD):ByteArray:=mkB c++f.lem++slB++f.cls
def resl (x:LexD) (w:ByteArray):List ByteArray:=(zcc x w).map (resF 49)++(zb7 x w).map (resF 50)++[mkB 51++w++slB]
def resR (x:LexD) (w:ByteArray):List ByteArray:=if zbv w=true then zb2 (resl x w) else []
def leS (a b:ByteArray):Prop:=bl a≤bl b
theorem leS_refl (a:ByteArray):leS a a:=List.le_refl _
def SelI (o:List ByteArray) (i:Nat):Prop:=∀a b,a<i→a<b→b<o.length→leS (ls o a) (ls o b)
theorem zk3{o:List ByteArray}{k:Nat}(h:k<o.length):ls o k=o[k]:=by simp[ls,List.getD_eq_getElem?_getD,h]
theorem ls_set{o:List ByteArray}{i k:Nat}{v:ByteArray}(h:k<o.length):ls (o.set i v) k=if i=k then v else ls o k:=by
  rw[zk3 (by rw[List.length_set];exact h),List.getElem_set,zk3 h]
def zqk (o:List ByteArray) (i k:Nat):List ByteArray:=(o.set i (ls o k)).set k (ls o i)
theorem swap_len (o:List ByteArray) (i k:Nat):(zqk o i k).length=o.length:=by simp[zqk]
theorem zqj{o:List ByteArray}{i k j:Nat}(hj:j<o.length):ls (zqk o i k) j=if k=j then ls o i else if i=j then ls o k else ls o j:=by
  unfold zqk;rw[ls_set (by rw[List.length_set];exact hj),ls_set hj]
theorem SelI.swap{o:List ByteArray}{i k:Nat}(h:SelI o i) (hik:i<k) (hk:k<o.length):SelI (zqk o i k) i:=by
  intro a b ha hab hb
  rw[swap_len] at hb
  rw[zqj (by omega),zqj hb,if_neg (by omega),if_neg (by omega)]
  split
  · exact h a i ha ha (by omega)
  · split
    · exact h a k ha (by omega) hk
    · exact h a b ha hab hb
theorem mem_found{x:LexD}{w:ByteArray}{f:FormD}:f∈zcc x w↔f∈x.forms∧f.word=w:=by
  unfold zcc zbs;rw[mem_foldl_putF,List.mem_filter,decide_eq_true_eq];simp
theorem mem_ruled{x:LexD}{w:ByteArray}{f:FormD}:f∈zb7 x w↔∃r,r∈x.rules∧∃s,zgw r w=some s∧f=⟨w,s,r.cls⟩:=by
  unfold zb7 zbC;rw[mem_foldl_putF,List.mem_filterMap]
  simp only[Option.map_eq_some_iff,List.not_mem_nil,or_false]
  constructor
  · rintro⟨r,hr,s,hs,e⟩;exact⟨r,hr,s,hs,e.symm⟩
  · rintro⟨r,hr,s,hs,e⟩;exact⟨r,hr,s,hs,e.symm⟩
theorem znr{r:RuleD}{w s:ByteArray}(h:zgw r w=some s):s.size≤w.size+r.put.size:=by
  unfold zgw at h
  simp only[] at h
  split at h
  · cases h
  · cases h
    rw[ByteArray.size_append,ByteArray.size_extract];omega
theorem zle{x:LexD}{w:ByteArray}(hv:zbc x=0) {k:Nat}(hk:k<(zcc x w).length):(fF (zcc x w) k).lem.size≤24∧(fF (zcc x w) k).cls.size≤8:=by
  have:=mem_found.1 (zdp hk)
  have h:=zgb ((zcB hv).1 _ this.1) ⟨2,[]⟩
  exact⟨h.2.2.2.2.1,h.2.2.2.2.2.1⟩
theorem zkU{x:LexD}{w:ByteArray}(hv:zbc x=0) {k:Nat}(hk:k<(zb7 x w).length):(fF (zb7 x w) k).lem.size≤w.size+8∧(fF (zb7 x w) k).cls.size≤8:=by
  obtain⟨r,hr,s,hs,e⟩:=mem_ruled.1 (zdp hk)
  have h:=zd8 ((zcB hv).2.1 _ hr) ⟨2,[]⟩
  have:=znr hs
  rw[e]
  exact⟨by have:=h.2.2.2.2.2.2.2.2.1;show s.size≤_;omega,h.2.2.2.2.2.2.2.2.2.1⟩
theorem zq7{x:LexD}{w:ByteArray}(hv:zbc x=0):(zcc x w).length≤64∧(zb7 x w).length≤32:=by
  have h:=zcB hv
  have h1:=zbu (zbs x w) []
  have h2:=zbu (zbC x w) []
  have h3:(zbs x w).length≤x.forms.length:=List.length_filter_le _ _
  have h4:(zbC x w).length≤x.rules.length:=List.length_filterMap_le _ _
  have e1:(zcc x w).length=((zbs x w).foldl putF []).length:=rfl
  have e2:(zb7 x w).length=((zbC x w).foldl putF []).length:=rfl
  have:=h.2.2.1
  have:=h.2.2.2
  simp only[List.length_nil] at h1 h2
  omega
theorem resl_len{x:LexD}{w:ByteArray}(hv:zbc x=0):(resl x w).length≤97:=by
  have:=zq7 (w:=w) hv
  unfold resl;simp only[List.length_append,List.length_map,List.length_cons,List.length_nil];omega
theorem zeV{s:ByteArray}{a b:Int}(h:letS s a b=true):lowW (bl s):=by
  unfold letS at h
  rw[Bool.and_eq_true,Bool.and_eq_true] at h
  exact(lowS_L s).1 h.1.1
theorem zh6{w:ByteArray}(hw:w.size≤4096):zbv w=true↔lowW (bl w)∧1≤w.size:=by
  unfold zbv letS
  rw[Bool.and_eq_true,Bool.and_eq_true,lowS_L,decide_eq_true_eq,decide_eq_true_eq]
  constructor
  · rintro⟨⟨h1,h2⟩,_⟩;exact⟨h1,by omega⟩
  · rintro⟨h1,h2⟩;exact⟨⟨h1,by omega⟩,by omega⟩
theorem zjH{r:RuleD}(h:zd3 r=true):lowW (bl r.suf)∧lowW (bl r.put)∧lowW (bl r.cls):=by
  unfold zd3 at h
  simp only[Bool.and_eq_true] at h
  exact⟨zeV h.1.1.1.1,zeV h.1.1.1.2,zeV h.1.1.2⟩
theorem zjI{f:FormD}(h:zeD f=true):lowW (bl f.word)∧lowW (bl f.lem)∧lowW (bl f.cls)∧1≤f.word.size:=by
  unfold zeD at h
  simp only[Bool.and_eq_true] at h
  have:=(letS_iff.1 h.1.1).2.1
  exact⟨zeV h.1.1,zeV h.1.2,zeV h.2,by omega⟩
theorem size_0{s:ByteArray}(h:s.size=0):s=⟨#[]⟩:=zcE (List.length_eq_zero_iff.1 h)
theorem zgv {r:RuleD}{w s:ByteArray}(hr:zd3 r=true) (hw:1≤w.size):zgw r w=some s↔∃p:List UInt8,bl w=p++bl r.suf∧(zcL r).toNat≤p.length∧s=ofl p++r.put:=by
  have hl:=(zd8 hr ⟨2,[]⟩).2.2.2.2.2.2.1
  unfold zgw
  simp only[]
  constructor
  · intro h
    split at h
    · cases h
    · rename_i hn
      cases h
      simp only[not_or,not_and] at hn
      obtain⟨h1,h2,h3,h4⟩:=hn
      have h3:=Classical.not_not.1 h3
      obtain⟨n,hn⟩:∃n,w.size - r.suf.size=n:=⟨_,rfl⟩
      have hnn:((w.size:Int) - r.suf.size).toNat=n:=by omega
      rw[hnn] at h3 ⊢
      have e:(bl w).drop n=bl r.suf:=by rw[←zdr,h3]
      refine⟨(bl w).take n,by rw[←e,List.take_append_drop],?_,?_⟩
      · rw[List.length_take,zc4]
        unfold zcL
        split
        · rename_i hc
          have:n≠0:=fun h0=>by
            rcases hc with hc|hc
            · exact h4 (by omega) hc
            · rw[hc] at hn
              have:(⟨#[]⟩:ByteArray).size=0:=rfl
              omega
          omega
        · omega
      · congr 1
        refine zcE ?_
        rw[zeG,List.drop_zero,Nat.sub_zero,zrv]
  · rintro⟨p,h1,h2,rfl⟩
    have hsz:w.size=p.length+r.suf.size:=by rw[←zc4,h1,List.length_append,zc4]
    have hnn:((w.size:Int) - r.suf.size).toNat=p.length:=by omega
    have hlen:r.least≤p.length:=by
      unfold zcL at h2
      split at h2<;>omega
    rw[if_neg,hnn]
    · congr 2
      refine zcE ?_
      rw[zeG,List.drop_zero,Nat.sub_zero,h1,List.take_left',zrv];rfl
    · rw[hnn]
      simp only[not_or,not_and]
      refine⟨by omega,by omega,fun hne=>hne (zcE ?_),fun h0 hp=>?_⟩
      · rw[zdr,h1,List.drop_left'];rfl
      · have:(1:Int)≤zcL r:=by
          unfold zcL
          rw[if_pos (.inl hp)];omega
        omega
theorem zi2 (f:FormD):resF 49 f=mkB 49++zcs f:=by unfold resF zcs;simp only[zfA]
theorem zi1 (w:ByteArray) (r:RuleD) (p:List UInt8):resF 50 ⟨w,ofl p++r.put,r.cls⟩=mkB 50++(ofl p++rulT r):=by unfold resF rulT;simp only[zfA]
theorem zmg{a b:List UInt8}(h:lowW (a++b)):lowW a:=fun c hc=>h c (List.mem_append.2 (.inl hc))
theorem zmh{a b:List UInt8}(h:lowW a) (k:lowW b):lowW (a++b):=fun c hc=>(List.mem_append.1 hc).elim (h c) (k c)
theorem zqt{x:LexD}{w y:ByteArray}(hv:zbc x=0) (h:ResL x w y):lowW (bl w)∧1≤w.size:=by
  obtain⟨hf,hr,_,_⟩:=zcB hv
  rcases h with ⟨f,hfm,rfl,_⟩|⟨r,hrm,p,h1,h2,h3,_⟩|⟨h1,h2,_⟩
  · have:=zjI (hf f hfm);exact⟨this.1,this.2.2.2⟩
  · refine⟨by rw[h1];exact zmh h2 (zjH (hr r hrm)).1,?_⟩
    have hsz:w.size=p.length+r.suf.size:=by rw[←zc4,h1,List.length_append,zc4]
    have hl:=(zd8 (hr r hrm) ⟨2,[]⟩).2.2.2.2.1
    unfold zcL at h3 hl
    by_cases hs:r.suf.size=0
    · rw[if_pos (.inr (size_0 hs))] at h3;omega
    · omega
  · exact⟨h1,h2⟩
theorem zl9{x:LexD}{w y:ByteArray}(hv:zbc x=0) (hw:lowW (bl w)) (hw1:1≤w.size):y∈resl x w↔ResL x w y:=by
  obtain⟨hf,hr,_,_⟩:=zcB hv
  unfold resl ResL
  rw[List.mem_append,List.mem_append,or_assoc,List.mem_singleton,List.mem_map,List.mem_map]
  refine or_congr ⟨?_,?_⟩ (or_congr ⟨?_,?_⟩ ⟨?_,?_⟩)
  · rintro⟨f,h,rfl⟩
    obtain⟨h1,h2⟩:=mem_found.1 h
    exact⟨f,h1,h2,zi2 f⟩
  · rintro⟨f,h1,h2,rfl⟩
    exact⟨f,mem_found.2 ⟨h1,h2⟩,zi2 f⟩
  · rintro⟨f,h,rfl⟩
    obtain⟨r,h1,s,h2,rfl⟩:=mem_ruled.1 h
    obtain⟨p,g1,g2,rfl⟩:=(zgv (hr r h1) hw1).1 h2
    exact⟨r,h1,p,g1,zmg (g1▸hw),g2,zi1 w r p⟩
  · rintro⟨r,h1,p,g1,_,g2,rfl⟩
    exact⟨_,mem_ruled.2 ⟨r,h1,_,(zgv (hr r h1) hw1).2 ⟨p,g1,g2,rfl⟩,rfl⟩,zi1 w r p⟩
  · rintro rfl;exact⟨hw,hw1,zfA _ _ _⟩
  · rintro⟨_,_,rfl⟩;exact(zfA _ _ _).symm
theorem zhD{f:FormD}:∀ {l:List FormD},l.Nodup→f∉l→(insF f l).Nodup
  | [],_,_=>by simp[insF]
  | g :: l,h,hf=>by
    rw[List.nodup_cons] at h
    rw[List.mem_cons,not_or] at hf
    unfold insF
    split
    · exact List.nodup_cons.2 ⟨fun hm=>(List.mem_cons.1 hm).elim hf.1 hf.2,List.nodup_cons.2 h⟩
    · exact List.nodup_cons.2 ⟨fun hm=>(mem_insF.1 hm).elim (fun e=>hf.1 e.symm) h.1,zhD h.2 hf.2⟩
theorem znw{l:List FormD}{f:FormD}(h:l.Nodup):(putF l f).Nodup:=by
  unfold putF;split
  · exact h
  · exact zhD h (by assumption)
theorem zcZ:∀(m l:List FormD),l.Nodup→(m.foldl putF l).Nodup
  | [],l,h=>h
  | f :: m,l,h=>zcZ m _ (znw h)
theorem ziR:∀ {a b c d:List UInt8},lowW a→lowW b→a++47 :: c=b++47 :: d→a=b∧c=d
  | [],[],c,d,_,_,h=>by simpa using h
  | [],e :: b,c,d,_,hb,h=>by
    rw[List.nil_append,List.cons_append,List.cons.injEq] at h
    have:=hb e (List.mem_cons_self ..)
    rw[←h.1] at this;exact absurd this (by decide)
  | e :: a,[],c,d,ha,_,h=>by
    rw[List.nil_append,List.cons_append,List.cons.injEq] at h
    have:=ha e (List.mem_cons_self ..)
    rw[h.1] at this;exact absurd this (by decide)
  | e :: a,g :: b,c,d,ha,hb,h=>by
    rw[List.cons_append,List.cons_append,List.cons.injEq] at h
    obtain⟨h1,h2⟩:=ziR (fun c hc=>ha c (List.mem_cons_of_mem _ hc)) (fun c hc=>hb c (List.mem_cons_of_mem _ hc)) h.2
    exact⟨by rw[h.1,h1],h2⟩
theorem zio (c:UInt8) (f:FormD):bl (resF c f)=c :: (bl f.lem++47 :: bl f.cls):=by
  unfold resF;simp only[ze1,List.append_assoc];rfl
theorem zlT{c:UInt8}{f g:FormD}(hf:lowW (bl f.lem)) (hg:lowW (bl g.lem)) (hw:f.word=g.word) (h:resF c f=resF c g):f=g:=by
  have h:=congrArg bl h
  rw[zio,zio,List.cons.injEq] at h
  obtain⟨h1,h2⟩:=ziR hf hg h.2
  cases f;cases g
  simp only at h1 h2 hw
  rw[hw,zcE h1,zcE h2]
theorem zgF{α β:Type}{g:α→β}:∀ {l:List α},l.Nodup→(∀a,a∈l→∀b,b∈l→g a=g b→a=b)→(l.map g).Nodup
  | [],_,_=>List.nodup_nil
  | a :: l,h,hi=>by
    rw[List.nodup_cons] at h
    rw[List.map_cons,List.nodup_cons]
    refine⟨fun hm=>?_,zgF h.2 fun x hx y hy=>hi x (List.mem_cons_of_mem _ hx) y (List.mem_cons_of_mem _ hy)⟩
    obtain⟨b,hb,e⟩:=List.mem_map.1 hm
    exact h.1 (hi a (List.mem_cons_self ..) b (List.mem_cons_of_mem _ hb) e.symm▸hb)
theorem zjG{x:LexD}{w:ByteArray}{f:FormD}(hv:zbc x=0) (h:f∈zcc x w):lowW (bl f.lem)∧f.word=w:=by
  obtain⟨h1,h2⟩:=mem_found.1 h
  exact⟨(zjI ((zcB hv).1 f h1)).2.1,h2⟩
theorem ziZ{x:LexD}{w:ByteArray}{f:FormD}(hv:zbc x=0) (hw:lowW (bl w)) (hw1:1≤w.size) (h:f∈zb7 x w):lowW (bl f.lem)∧f.word=w:=by
  obtain⟨r,h1,s,h2,rfl⟩:=mem_ruled.1 h
  have hr:=(zcB hv).2.1 r h1
  obtain⟨p,g1,g2,rfl⟩:=(zgv hr hw1).1 h2
  refine⟨?_,rfl⟩
  show lowW (bl (ofl p++r.put))
  rw[ze1]
  exact zmh (zmg (g1▸hw)) (zjH hr).2.1
theorem zns{x:LexD}{w:ByteArray}(hv:zbc x=0) (hw:lowW (bl w)) (hw1:1≤w.size):(resl x w).Nodup:=by
  have h1:((zcc x w).map (resF 49)).Nodup:=zgF (zcZ _ _ List.nodup_nil) fun a ha b hb e=>by
    obtain⟨a1,a2⟩:=zjG hv ha
    obtain⟨b1,b2⟩:=zjG hv hb
    exact zlT a1 b1 (a2.trans b2.symm) e
  have h2:((zb7 x w).map (resF 50)).Nodup:=zgF (zcZ _ _ List.nodup_nil) fun a ha b hb e=>by
    obtain⟨a1,a2⟩:=ziZ hv hw hw1 ha
    obtain⟨b1,b2⟩:=ziZ hv hw hw1 hb
    exact zlT a1 b1 (a2.trans b2.symm) e
  have hd:∀(c:UInt8) (l:List FormD) y,y∈l.map (resF c)→(bl y).head? = some c:=fun c l y hy=>by
    obtain⟨f,_,rfl⟩:=List.mem_map.1 hy
    rw[zio];rfl
  have h3:(bl (mkB 51++w++slB)).head? = some 51:=by simp only[ze1,List.append_assoc];rfl
  unfold resl
  rw[List.nodup_append,List.nodup_append]
  refine⟨⟨h1,h2,fun a ha b hb e=>?_⟩,by simp,fun a ha b hb e=>?_⟩
  · have:=hd _ _ _ ha
    rw[e,hd _ _ _ hb] at this;exact absurd this (by decide)
  · rw[List.mem_singleton.1 hb] at e
    rw[←e] at h3
    rcases List.mem_append.1 ha with ha|ha
    · rw[hd _ _ _ ha] at h3;exact absurd h3 (by decide)
    · rw[hd _ _ _ ha] at h3;exact absurd h3 (by decide)
theorem znB{α:Type}{a b:List α}(ha:a.Nodup) (hb:b.Nodup) (h:∀x,x∈a↔x∈b):a.Perm b:=(List.perm_ext_iff_of_nodup ha hb).2 h
theorem zhz{x:LexD}{w:ByteArray}(hv:zbc x=0) (hw:w.size≤256):zeL (zbH x) w=if 64<(resR x w).length then ([],4) else (resR x w,0):=by
  have hval:=zfL hv
  have h0:¬zbx (zbH x)≠0:=fun h=>h (validM_0.2 hval)
  obtain⟨hn,hm⟩:=zdU hval.acyc (InM.of hval.arcs) w 0 0
  have hm2:∀y,y∈outL (zbH x) w 0 0↔ResL x w y:=fun y=>by rw[hm,zqz hv]
  have hst:(zbH x).start=0:=rfl
  have hperm:∃l,(outL (zbH x) w 0 0).Perm l∧resR x w=zb2 l:=by
    by_cases hp:zbv w=true
    · obtain⟨g1,g2⟩:=(zh6 (by omega)).1 hp
      exact⟨resl x w,znB hn (zns hv g1 g2) fun y=>by rw[hm2,zl9 hv g1 g2],if_pos hp⟩
    · refine⟨[],?_,(if_neg hp).trans (by simp[zb2])⟩
      have:outL (zbH x) w 0 0=[]:=List.eq_nil_iff_forall_not_mem.2 fun y hy=>hp ((zh6 (by omega)).2 (zqt hv ((hm2 y).1 hy)))
      rw[this]
  obtain⟨l,hl,hr⟩:=hperm
  have hlen:(resR x w).length=(outL (zbH x) w 0 0).length:=by rw[hr,zcu,hl.length_eq]
  have hso:zb2 (outL (zbH x) w 0 0)=resR x w:=by rw[hr,zhj hl]
  by_cases h64:64<(resR x w).length
  · rw[if_pos h64]
    exact zg0 h0 (by omega) (by rw[hst];exact decide_eq_true (by omega))
  · rw[if_neg h64,zj0 h0 (by omega) (by rw[hst];exact decide_eq_false (by omega)),hst,hso]
structure NodeD where
  q:Int
  i:Nat
  j:Nat
deriving DecidableEq
def encN (n:NodeD):PV:=.agg [encI n.q,encI n.i,encI n.j]
def entN (n:NodeD):PV:=.tup [encN n,.atom (.bool true)]
theorem zdS (l:List NodeD):zaw (l.map encN)=true:=zbh encN (fun _=>rfl) l
theorem zdR (l:List NodeD):zaw (l.map entN)=true:=zbh entN (fun _=>rfl) l
theorem encN_inj{a b:NodeD}(h:encN a=encN b):a=b:=by
  simp only[encN,encI,PV.agg.injEq,List.cons.injEq,PV.atom.injEq,Value.int.injEq,true_and,and_true] at h
  obtain⟨h1,h2,h3⟩:=h
  cases a;cases b
  simp only at h1 h2 h3
  congr 1<;>omega
structure TripleKey (P:Program) (k:TypeId):Prop where
  law:Maps.Keyed P k
  ok:∀a b c:Int,I64 a→I64 b→I64 c→zeg P k (.agg [encI a,encI b,encI c])
def zow (P:Program) (k:TypeId):Bool:=match P.underlying k with
  | some (.array 3 e)=>(match P.underlying e with|some (.int .i64)=>true|_=>false) && decide (P.cellsOf e=1) && decide (P.cellsOf k=3) && P.keyType k && P.keyTypeAt 9 k && decide (k<P.types.size)
  | _=>false
theorem TripleKey.of{P:Program}{k:TypeId}(hl:laidOutB P=true) (hb:zow P k=true):TripleKey P k:=by
  unfold zow at hb
  split at hb
  · rename_i e hu
    simp only[Bool.and_eq_true,decide_eq_true_eq] at hb
    obtain⟨⟨⟨⟨⟨he,hce⟩,hc⟩,hkt⟩,hkt2⟩,hrow⟩:=hb
    have he:P.underlying e=some (.int .i64):=by
      split at he
      · assumption
      · cases he
    obtain⟨n,hn⟩:∃n,P.types.size=n+1:=⟨P.types.size - 1,(Nat.succ_pred_eq_of_pos (Nat.lt_of_le_of_lt (Nat.zero_le _) hrow)).symm⟩
    refine⟨Maps.Keyed.of_law (deep_law_laid hl (m:=9) (by omega) hrow hkt2 (by rw[hu])),fun a b c ha hb hcc=>?_⟩
    have wf:∀x:Int,I64 x→(Lit.int .i64 x).wf=true:=fun x hx=>by
      have:=hx.1;have:=hx.2
      rw[Lit.wf,Bool.and_eq_true,decide_eq_true_eq,decide_eq_true_eq]
      have e1:IntKind.i64.min = -9223372036854775808:=by decide
      have e2:IntKind.i64.max=9223372036854775807:=by decide
      rw[e1,e2]
      omega
    refine⟨.agg #[.int .i64 a,.int .i64 b,.int .i64 c],.string (keyBytes [.int .i64 a,.int .i64 b,.int .i64 c]),rfl,?_⟩
    unfold keyOf
    rw[hu]
    simp only[hkt,Value.formed,hu,hc,Bool.true_and]
    rw[if_pos (by rfl)]
    simp only[hn,Value.cells,Program.keyLits,hu,he,hc,hce]
    simp[wf a ha,wf b hb,wf c hcc,List.range_succ]
  · cases hb
def kidN (m:MachD) (s t:ByteArray) (n:NodeD) (j:Int):Option NodeD:=
  if zbI (s.extract n.i s.size) (fC m.arcs j.toNat).inp=true∧zbI (t.extract n.j t.size) (fC m.arcs j.toNat).out=true then some ⟨(fC m.arcs j.toNat).to,n.i+(fC m.arcs j.toNat).inp.size,n.j+(fC m.arcs j.toNat).out.size⟩ else none
def AccN (m:MachD) (s t:ByteArray) (n:NodeD):Prop:=OutR m s n.q n.i (t.extract n.j t.size)
def endN (m:MachD) (s t:ByteArray) (n:NodeD):Prop:=n.q∈m.fin∧n.i=s.size∧n.j=t.size
def inN (m:MachD) (s t:ByteArray) (n:NodeD):Prop:=0≤n.q∧n.q<m.states∧n.i≤s.size∧n.j≤t.size
def stN (m:MachD):NodeD:=⟨m.start,0,0⟩
def lnN (l:List NodeD) (k:Nat):NodeD:=l.getD k ⟨0,0,0⟩
theorem zq6{l:List NodeD}{k:Nat}(h:k<l.length):(l.map encN).getD k .junk=encN (lnN l k):=by simp[lnN,List.getD_eq_getElem?_getD,h]
theorem lnN_get{l:List NodeD}{k:Nat}(h:k<l.length):lnN l k=l[k]:=by simp[lnN,List.getD_eq_getElem?_getD,h]
theorem ext_end (t:ByteArray):t.extract t.size t.size=⟨#[]⟩:=zcE (by rw[zdr,List.drop_eq_nil_of_le (Nat.le_of_eq (zc4 t))];rfl)
theorem zlh{t:ByteArray}{j:Nat}(hj:j≤t.size) (h:t.extract j t.size=⟨#[]⟩):j=t.size:=by
  have:=congrArg ByteArray.size h
  rw[ByteArray.size_extract] at this
  have e:(⟨#[]⟩:ByteArray).size=0:=rfl
  omega
theorem pre_cut{t o:ByteArray}{j:Nat}(hj:j≤t.size) (h:zbI (t.extract j t.size) o=true):o++t.extract (j+o.size) t.size=t.extract j t.size:=
  zcE (by rw[ze1,zdr,zdr];exact((zh5 hj).1 h).symm)
theorem pre_of{t o y:ByteArray}{j:Nat}(hj:j≤t.size) (h:t.extract j t.size=o++y):zbI (t.extract j t.size) o=true∧y=t.extract (j+o.size) t.size:=by
  have hb:=congrArg bl h
  rw[zdr,ze1] at hb
  have hy:bl y=(bl t).drop (j+o.size):=by rw[←List.drop_drop,hb,List.drop_left'];rfl
  exact⟨(zh5 hj).2 (by rw[hb,hy]),zcE (by rw[hy,zdr])⟩
theorem acc_end{m:MachD}{s t:ByteArray}{n:NodeD}(h:endN m s t n):AccN m s t n:=by
  obtain⟨h1,h2,h3⟩:=h
  unfold AccN
  rw[h2,h3,ext_end]
  exact .fin _ h1
theorem zmI{m:MachD}{s t:ByteArray}{n:NodeD}{a:ArcD}(ha:a∈m.arcs) (hq:a.fr=n.q) (hi:n.i≤s.size) (hj:n.j≤t.size) (h1:zbI (s.extract n.i s.size) a.inp=true) (h2:zbI (t.extract n.j t.size) a.out=true) (h:AccN m s t ⟨a.to,n.i+a.inp.size,n.j+a.out.size⟩):AccN m s t n:=by
  have:=OutR.arc a n.i _ ha hi h1 h
  rw[hq,pre_cut hj h2] at this
  exact this
def univN (m:MachD) (s t:ByteArray):List NodeD:=(List.range m.states.toNat).flatMap fun(q:Nat)=>(List.range (s.size+1)).flatMap fun i=>(List.range (t.size+1)).map fun j=>⟨(q:Int),i,j⟩
theorem zih{α β:Type}(g:α→List β) (c:Nat):∀l:List α,(∀a,a∈l→(g a).length=c)→(l.flatMap g).length=l.length * c
  | [],_=>by simp
  | a :: l,h=>by
    rw[List.flatMap_cons,List.length_append,h a (List.mem_cons_self ..),zih g c l fun b hb=>h b (List.mem_cons_of_mem _ hb),List.length_cons,Nat.add_mul];omega
def capU (m:MachD) (s t:ByteArray):Nat:=m.states.toNat * ((s.size+1) * (t.size+1))
theorem univ_len (m:MachD) (s t:ByteArray):(univN m s t).length=capU m s t:=by
  unfold univN capU
  rw[zih _ ((s.size+1) * (t.size+1)) _ fun q _=>?_,List.length_range]
  rw[zih _ (t.size+1) _ fun i _=>by simp,List.length_range]
theorem zlG{m:MachD}{s t:ByteArray}{n:NodeD}(h:inN m s t n):n∈univN m s t:=by
  obtain⟨h1,h2,h3,h4⟩:=h
  refine List.mem_flatMap.2 ⟨n.q.toNat,List.mem_range.2 (by omega),List.mem_flatMap.2 ⟨n.i,List.mem_range.2 (by omega),List.mem_map.2 ⟨n.j,List.mem_range.2 (by omega),?_⟩⟩⟩
  rw[Int.toNat_of_nonneg h1]
structure SrchP (m:MachD) (s t:ByteArray) (M N:List NodeD) (x:NodeD) (p:Nat):Prop where
  nd:M.Nodup
  inM:∀n,n∈M→inN m s t n
  inNn:∀n,n∈N→inN m s t n
  ok:∀n,n∈N→AccN m s t n→AccN m s t (stN m)
  cl:∀n,n∈M→¬endN m s t n∧(n≠x→∀p,p<(zbf m n.q).length→∀c,kidN m s t n (li (zbf m n.q) p)=some c→c∈M∨c∈N)
  part:∀p',p'<p→∀c,kidN m s t x (li (zbf m x.q) p')=some c→c∈M∨c∈N
  st:stN m∈M∨stN m∈N
structure SrchI (m:MachD) (s t:ByteArray) (M N:List NodeD):Prop where
  nd:M.Nodup
  inM:∀n,n∈M→inN m s t n
  inNn:∀n,n∈N→inN m s t n
  ok:∀n,n∈N→AccN m s t n→AccN m s t (stN m)
  cl:∀n,n∈M→¬endN m s t n∧∀p,p<(zbf m n.q).length→∀c,kidN m s t n (li (zbf m n.q) p)=some c→c∈M∨c∈N
  st:stN m∈M∨stN m∈N
theorem SrchI.start{m:MachD}{s t:ByteArray}(h:inN m s t (stN m)):SrchI m s t [] [stN m]:=
  ⟨List.nodup_nil,(fun n hn=>by cases hn),(fun n hn=>by rw[List.mem_singleton.1 hn];exact h),(fun n hn ha=>by rw[List.mem_singleton.1 hn] at ha;exact ha),(fun n hn=>by cases hn),.inr (List.mem_singleton.2 rfl)⟩
theorem SrchI.again{m:MachD}{s t:ByteArray}{M N:List NodeD}{x:NodeD}(h:SrchI m s t M (N++[x])) (hx:x∈M):SrchI m s t M N:=by
  have e:∀c,c∈M∨c∈N++[x]→c∈M∨c∈N:=fun c hc=>hc.elim .inl fun hc=>(List.mem_append.1 hc).elim .inr fun hc=>by rw[List.mem_singleton.1 hc];exact .inl hx
  exact⟨h.nd,h.inM,fun n hn=>h.inNn n (List.mem_append.2 (.inl hn)),fun n hn=>h.ok n (List.mem_append.2 (.inl hn)),fun n hn=>⟨(h.cl n hn).1,fun p hp c hc=>e c ((h.cl n hn).2 p hp c hc)⟩,e _ h.st⟩
theorem SrchI.visit{m:MachD}{s t:ByteArray}{M N:List NodeD}{x:NodeD}(h:SrchI m s t M (N++[x])) (hx:x∉M) (he:¬endN m s t x):SrchP m s t (M++[x]) N x 0:=by
  have hxi:=h.inNn x (List.mem_append.2 (.inr (List.mem_singleton.2 rfl)))
  have e:∀c,c∈M∨c∈N++[x]→c∈M++[x]∨c∈N:=fun c hc=>hc.elim (fun hc=>.inl (List.mem_append.2 (.inl hc))) fun hc=>(List.mem_append.1 hc).elim .inr fun hc=>.inl (List.mem_append.2 (.inr hc))
  refine⟨?_,fun n hn=>?_,fun n hn=>h.inNn n (List.mem_append.2 (.inl hn)),fun n hn=>h.ok n (List.mem_append.2 (.inl hn)),fun n hn=>?_,fun p' hp=>absurd hp (Nat.not_lt_zero _),e _ h.st⟩
  · rw[List.nodup_append]
    exact⟨h.nd,by simp,fun a ha b hb e=>hx (by rw[List.mem_singleton.1 hb] at e;exact e▸ha)⟩
  · rcases List.mem_append.1 hn with hn|hn
    · exact h.inM n hn
    · rw[List.mem_singleton.1 hn];exact hxi
  · rcases List.mem_append.1 hn with hn|hn
    · exact⟨(h.cl n hn).1,fun _ p hp c hc=>e c ((h.cl n hn).2 p hp c hc)⟩
    · rw[List.mem_singleton.1 hn];exact⟨he,fun g=>absurd rfl g⟩
theorem SrchP.none{m:MachD}{s t:ByteArray}{M N:List NodeD}{x:NodeD}{p:Nat}(h:SrchP m s t M N x p) (hk:kidN m s t x (li (zbf m x.q) p)=none):SrchP m s t M N x (p+1):=
  ⟨h.nd,h.inM,h.inNn,h.ok,h.cl,(fun p' hp' c hc=>by
    rcases Nat.lt_succ_iff_lt_or_eq.1 hp' with hp'|rfl
    · exact h.part p' hp' c hc
    · rw[hk] at hc;cases hc),h.st⟩
theorem SrchP.some{m:MachD}{s t:ByteArray}{M N:List NodeD}{x c:NodeD}{p:Nat}(h:SrchP m s t M N x p) (hk:kidN m s t x (li (zbf m x.q) p)=some c) (hc:inN m s t c) (ho:AccN m s t c→AccN m s t (stN m)):SrchP m s t M (N++[c]) x (p+1):=by
  have e:∀d,d∈M∨d∈N→d∈M∨d∈N++[c]:=fun d hd=>hd.imp id fun hd=>List.mem_append.2 (.inl hd)
  refine⟨h.nd,h.inM,fun n hn=>?_,fun n hn=>?_,fun n hn=>⟨(h.cl n hn).1,fun g p hp d hd=>e d ((h.cl n hn).2 g p hp d hd)⟩,fun p' hp' d hd=>?_,e _ h.st⟩
  · rcases List.mem_append.1 hn with hn|hn
    · exact h.inNn n hn
    · rw[List.mem_singleton.1 hn];exact hc
  · rcases List.mem_append.1 hn with hn|hn
    · exact h.ok n hn
    · rw[List.mem_singleton.1 hn];exact ho
  · rcases Nat.lt_succ_iff_lt_or_eq.1 hp' with hp'|rfl
    · exact e d (h.part p' hp' d hd)
    · rw[hk] at hd;cases hd
      exact .inr (List.mem_append.2 (.inr (List.mem_singleton.2 rfl)))
theorem SrchP.done{m:MachD}{s t:ByteArray}{M N:List NodeD}{x:NodeD}(h:SrchP m s t M N x (zbf m x.q).length):SrchI m s t M N:=
  ⟨h.nd,h.inM,h.inNn,h.ok,(fun n hn=>⟨(h.cl n hn).1,fun p hp c hc=>by
    by_cases hx:n=x
    · subst hx;exact h.part p hp c hc
    · exact(h.cl n hn).2 hx p hp c hc⟩),h.st⟩
theorem kid_of{m:MachD}{s t:ByteArray}{n:NodeD}{a:ArcD}(h0:0≤n.q) (hv:n.q<m.states) (ha:a∈m.arcs) (hq:a.fr=n.q) (h1:zbI (s.extract n.i s.size) a.inp=true) (h2:zbI (t.extract n.j t.size) a.out=true):∃p,p<(zbf m n.q).length∧kidN m s t n (li (zbf m n.q) p)=Option.some ⟨a.to,n.i+a.inp.size,n.j+a.out.size⟩:=by
  obtain⟨j0,hj0,rfl⟩:=List.getElem_of_mem ha
  have hv2:n.q.toNat<m.states.toNat:=by omega
  have hmem:(j0:Int)∈zbf m n.q:=by
    unfold zbf zbq
    rw[zbM hv2]
    exact List.mem_map.2 ⟨j0,List.mem_filter.2 ⟨List.mem_range.2 hj0,by rw[zf1 hj0,decide_eq_true_eq,Int.toNat_of_nonneg h0,hq]⟩,rfl⟩
  obtain⟨p',e1,e2⟩:=zhx hmem
  refine⟨p',e1,?_⟩
  rw[e2,kidN,Int.toNat_natCast,zf1 hj0,if_pos ⟨h1,h2⟩]
theorem SrchI.end_{m:MachD}{s t:ByteArray}{M:List NodeD}(h:SrchI m s t M []) (hin:InM m):¬AccN m s t (stN m):=by
  have key:∀q i x,OutR m s q i x→∀n:NodeD,n∈M→n.q=q→n.i=i→t.extract n.j t.size=x→False:=by
    intro q i x ho
    induction ho with
    | fin q hq=>
      rintro n hn rfl hi hx
      exact(h.cl n hn).1 ⟨hq,hi,zlh (h.inM n hn).2.2.2 hx⟩
    | arc a i y ha hi hp ho ih=>
      rintro n hn hq rfl hx
      obtain⟨k1,k2⟩:=pre_of (h.inM n hn).2.2.2 hx
      obtain⟨p,hp1,hp2⟩:=kid_of (h.inM n hn).1 (h.inM n hn).2.1 ha hq.symm hp k1
      have hc:=((h.cl n hn).2 p hp1 _ hp2).resolve_right (by simp)
      exact ih _ hc rfl rfl k2.symm
  intro ha
  exact key _ _ _ ha _ (h.st.resolve_right (by simp)) rfl rfl rfl
theorem acc_start{m:MachD}{s t:ByteArray}:AccN m s t (stN m)↔OutR m s m.start 0 t:=by
  unfold AccN stN
  have e:t.extract 0 t.size=t:=zcE (by rw[zdr];rfl)
  rw[e]
noncomputable def accB (m:MachD) (s t:ByteArray):Bool := @decide (OutR m s m.start 0 t) (Classical.propDecidable _)
theorem accB_iff{m:MachD}{s t:ByteArray}:accB m s t=true↔OutR m s m.start 0 t:=by unfold accB;exact @decide_eq_true_iff _ (Classical.propDecidable _)
theorem accB_no{m:MachD}{s t:ByteArray}(h:¬OutR m s m.start 0 t):accB m s t=false:=by
  cases hb:accB m s t with
  | false=>rfl
  | true=>exact absurd (accB_iff.1 hb) h
noncomputable def accM (m:MachD) (s t:ByteArray):Bool×Int:=if zbx m≠0 then (false,zbx m) else if 256<s.size∨4096<t.size then (false,4) else (accB m s t,0)
theorem accM_bad{m:MachD}{s t:ByteArray}(h:zbx m≠0):accM m s t=(false,zbx m):=if_pos h
theorem zrB{m:MachD}{s t:ByteArray}(h:¬zbx m≠0) (h2:256<s.size∨4096<t.size):accM m s t=(false,4):=by unfold accM;rw[if_neg h,if_pos h2]
theorem zlt{m:MachD}{s t:ByteArray}(h:¬zbx m≠0) (h2:¬ (256<s.size∨4096<t.size)):accM m s t=(accB m s t,0):=by unfold accM;rw[if_neg h,if_neg h2]
end Go.Proofs.Ytehoglapajkabaa
