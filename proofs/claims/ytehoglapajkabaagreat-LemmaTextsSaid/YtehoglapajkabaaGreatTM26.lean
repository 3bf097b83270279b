/-
  Walks: package transducer: Apply.
-/
import Derived.Test.YtehoglapajkabaaGreatTM0
import Derived.Test.YtehoglapajkabaaGreatTN8
import Derived.Test.YtehoglapajkabaaGreatTA12
import Derived.Test.YtehoglapajkabaaGreatTM10
import Derived.Test.YtehoglapajkabaaGreatTShelf
import Derived.Test.YtehoglapajkabaaGreatTN0
import Derived.Test.YtehoglapajkabaaGreatTM20
set_option linter.all false
namespace Go.Proofs.YtehoglapajkabaaGreat
open Go Go.RowKit
set_option maxRecDepth 20000
set_option maxHeartbeats 1000000
theorem leqN9{p:Prop}(h:p:=by(refine⟨4,?_,?_,rfl,by simp,rfl,fun _ h _=>absurd h (Nat.not_lt_zero _)⟩<;>(simp only[List.forall_mem_cons];repeat' (first|refine And.intro ?_ ?_|(intro p hp;exact absurd hp List.not_mem_nil)|rfl|exact sp (zaZ _)|exact sp (zcv _)|exact sp (zbs _)|exact sp (zc5 _)|exact sp (zdE _)|exact sp (zb5 _)|exact(zat _ _ _ (zah _)).trans (zbW _ _).symm|exact(zat _ _ _ (zag _)).trans (zbV _ _).symm|exact sp (by assumption)|(intro o ho;cases ho;refine⟨by decide,?_⟩;first|(refine LeqS.row rfl ?_ ?_;(next=>(first|rfl|(simp only[List.map_append,List.map_cons,List.map_nil,List.append_nil,List.nil_append,List.append_assoc,List.cons_append,encI,encS,ints,strs];done)|(simp[encI,encS,ints,strs,encC];done)));(next=>(first|rfl|exact zao _|exact zar _|exact zav _|exact zau _|exact zbj _|exact zbX _|exact zcm _|(simp[zas,zao,zar,zav,zau,zax,PV.pure,zah,zag,zaZ,zbj,zcv,zbs,zc5,zbX,zcm,zdE,zb5];done)));done)|refine⟨_,rfl,rfl,?_⟩)|(simp[St.born,St.known,retV,St.get,St.obj,lk,sealed,PV.ren,renL,rmap,AO.ren,ints,strs,encI,encS,zan,zam,zal,zak,zaB,zaA,zaz,zay,zaY,zaX,zaW,zaV,zca,zcA,zaP,zdD,zbC,zco,encC,zgn,zdQ,zbL,zcq,zbB,zbr,zdh,zb4,zfh,zdg,zff,zdi,zfg,zc3,zgm]<;>omega))));first|done|fail):p:=h
theorem lstN9{p:Prop}(h:p:=by(first|rfl|(simp[St.born,St.known,retV,St.get,St.obj,lk,sealed,PV.ren,renL,rmap,AO.ren,ints,strs,encI,encS,zan,zam,zal,zak,zaB,zaA,zaz,zay,zaY,zaX,zaW,zaV,zca,zcA,zaP,zdD,zbC,zco,encC,zgn,zdQ,zbL,zcq,zbB,zbr,zdh,zb4,zfh,zdg,zff,zdi,zfg,zc3,zgm,zap,List.take_length];done));first|done|fail):p:=h
theorem lpvN9{p:Prop}(h:p:=by(first|rfl|(simp[zah,zag,PV.pure,zax,zao,zar,zav,zau,zaZ,zbj,zcv,zbs,zc5,zbX,zcm,zdE,zb5];done));first|done|fail):p:=h
theorem lsrN9{p:Prop}(h:p:=by(first|rfl|(simp[St.born,St.known,retV,St.get,St.obj,lk,sealed,PV.ren,renL,rmap,AO.ren,ints,strs,encI,encS,zan,zam,zal,zak,zaB,zaA,zaz,zay,zaY,zaX,zaW,zaV,zca,zcA,zaP,zdD,zbC,zco,encC,zgn,zdQ,zbL,zcq,zbB,zbr,zdh,zb4,zfh,zdg,zff,zdi,zfg,zc3,zgm];done));first|done|fail):p:=h
theorem zpA (ks:List ByteArray) (hl:ks.length<4611686018427387904):Proc Tryz.prog 62 [.ob 0 1 0 ks.length] [⟨1,ks.map encS⟩] (.tup []) [some ⟨1,(zdd ks).map encS⟩] []:=
  zrY (Go.Proofs.enters_of Tryz.func62 (by kernel_rfl) rfl) Tryz.slices_Sort_string Tryz.slices_Sort_string_none ks hl
noncomputable def zeR (m:MachD) (s:ByteArray):List ByteArray×Int:=if zb1 m≠0 then ([],zb1 m) else if 256<s.size then ([],4) else if zb6 (outL m s m.start 0)=true then ([],4) else (zdd (outL m s m.start 0),0)
theorem zpo{m:MachD}{s:ByteArray}(h:zb1 m≠0):zeR m s=([],zb1 m):=if_pos h
theorem zmv{m:MachD}{s:ByteArray}(h:¬zb1 m≠0) (h2:256<s.size):zeR m s=([],4):=by unfold zeR;rw[if_neg h,if_pos h2]
theorem zmu{m:MachD}{s:ByteArray}(h:¬zb1 m≠0) (h2:¬256<s.size) (h3:zb6 (outL m s m.start 0)=true):zeR m s=([],4):=by unfold zeR;rw[if_neg h,if_neg h2,if_pos h3]
theorem zkS{m:MachD}{s:ByteArray}(h:¬zb1 m≠0) (h2:¬256<s.size) (h3:zb6 (outL m s m.start 0)=false):zeR m s=(zdd (outL m s m.start 0),0):=by unfold zeR;rw[if_neg h,if_neg h2,if_neg (by rw[h3];decide)]
theorem zhL{a b:List ByteArray}(h:a.Perm b):zdd a=zdd b:=by
  unfold zdd
  congr 1
  have tr:∀a b c:List UInt8,decide (a≤b)=true→decide (b≤c)=true→decide (a≤c)=true:=fun a b c h1 h2=>by
    rw[decide_eq_true_eq] at *;exact List.le_trans h1 h2
  have to:∀a b:List UInt8,(decide (a≤b) || decide (b≤a))=true:=fun a b=>by
    rw[Bool.or_eq_true,decide_eq_true_eq,decide_eq_true_eq];exact List.le_total a b
  refine List.Perm.eq_of_pairwise (le:=fun a b=>decide (a≤b)=true) (fun a b _ _ h1 h2=>?_) (List.pairwise_mergeSort tr to _) (List.pairwise_mergeSort tr to _) ((List.mergeSort_perm _ _).trans ((h.map _).trans (List.mergeSort_perm _ _).symm))
  rw[decide_eq_true_eq] at h1 h2
  exact List.le_antisymm h1 h2
theorem zie{α:Type}:∀(l:List α) (j:Nat) (h:j<l.length),(l[j] :: l.eraseIdx j).Perm l
  | a :: l,0,_=>by simp
  | a :: l,j+1,h=>by
    simp only[List.getElem_cons_succ,List.eraseIdx_cons_succ]
    exact(List.Perm.swap _ _ _).trans ((zie l j (by simpa using h)).cons a)
theorem vProc.afterL{P:Program}{S:St}{f:FuncId}{vals:List PV}{K:PV→Eff→Prop}{m:MachD}{s:ByteArray}{l l':List ((Int×Nat)×EV)}{k:Int×Nat}{L:List ByteArray}(a b c d e g:Nat) (hpr:Proc P f (zjf k) (hpA f m s l) (finV L) ((hpA f m s l').map some) []) (hn:[a,b,c,d,e,g].Nodup)
    (hv:vals=[encI k.1,encI k.2,.ptr a 1 0 0,.ptr b 4 0 0,.ptr c 1 0 0,.ptr d 1 0 0,.ptr e 1 0 0])
    (h0:S.obj a=some ⟨1,[.mp g]⟩) (h1:S.obj b=some ⟨4,[encM m]⟩) (h2:S.obj c=some ⟨1,[encS s]⟩) (h3:S.obj d=some ⟨1,[za5 (zbv m)]⟩) (h4:S.obj e=some ⟨1,[.fn f [.ptr a 1 0 0,.ptr b 4 0 0,.ptr c 1 0 0,.ptr d 1 0 0,.ptr e 1 0 0]]⟩) (h5:S.obj g=some ⟨0,l.map entE⟩)
    (hk:K (finV L) ⟨[],[],[(a,⟨1,[.mp g]⟩),(b,⟨4,[encM m]⟩),(c,⟨1,[encS s]⟩),(d,⟨1,[za5 (zbv m)]⟩),(e,⟨1,[.fn f [.ptr a 1 0 0,.ptr b 4 0 0,.ptr c 1 0 0,.ptr d 1 0 0,.ptr e 1 0 0]]⟩),(g,⟨0,l'.map entE⟩)],[]⟩):vProc P S f vals K:=by
  subst hv
  refine vProc.of [a,b,c,d,e,g] hpr hn rfl ?_ (fun i o hi=>?_) ?_
  · simp[zjf,encI,PV.ren,rmap]
  · match i,hi with
    | 0,hi=>cases hi;exact h0
    | 1,hi=>cases hi;rw[show rmap [a,b,c,d,e,g] S.nx 1=b from rfl,h1];simp[AO.ren,zca]
    | 2,hi=>cases hi;exact h2
    | 3,hi=>cases hi;rw[show rmap [a,b,c,d,e,g] S.nx 3=d from rfl,h3];simp[AO.ren,zb4]
    | 4,hi=>cases hi;exact h4
    | 5,hi=>cases hi;rw[show rmap [a,b,c,d,e,g] S.nx 5=g from rfl,h5];simp only[AO.ren,zbr]
  · rw[zbe _ _ (zb5 L)]
    have e:za0 (pmap [a,b,c,d,e,g] S.nx) [a,b,c,d,e,g] ((hpA f m s l').map some)=[(a,⟨1,[.mp g]⟩),(b,⟨4,[encM m]⟩),(c,⟨1,[encS s]⟩),(d,⟨1,[za5 (zbv m)]⟩),(e,⟨1,[.fn f [.ptr a 1 0 0,.ptr b 4 0 0,.ptr c 1 0 0,.ptr d 1 0 0,.ptr e 1 0 0]]⟩),(g,⟨0,l'.map entE⟩)]:=by
      simp only[hpA,List.map_cons,List.map_nil,za0,AO.ren,zca,zb4,zbr]
      rfl
    rw[e]
    exact hk
theorem zpc (m:MachD) (s:ByteArray) (mu:Int→Nat→Nat) (hR:RunM m s mu):∃l',Proc Tryz.prog 58 (zjf (m.start,0)) (hpA 58 m s []) (finV (outL m s m.start 0)) ((hpA 58 m s l').map some) []:=
  ⟨_,zpp m s mu hR _ (m.start,0) [] (Nat.lt_succ_self _) hR.valid.start.1 hR.valid.start.2 (Nat.zero_le _) (fun e he=>by cases he)⟩
theorem zlM (m:MachD) (s:ByteArray) (hm:HeldM m) (hs:s.size≤4294967296):Pure Tryz.prog 23 [encM m,encS s] (.tup [strs (zeR m s).1,encI (zeR m s).2]) []:=by
  refine Pure.intro (ts:=[4,5]) Tryz.func23 (by kernel_rfl) rfl rfl rfl (Nat.le_of_ble_eq_true rfl) ?_ ?_
  · simp[zaZ,encS,PV.pure,zax]
  refine sZ [2,3] (fun P S K=>XvBox S.nx (S.get 0) (fun r0 ef0=>XvBox (S.nx+ef0.add.length) (S.get 1) (fun r1 ef1=>K ⟨[(2,r0),(3,r1)],(Eff.hp ef1 (S.nx+ef0.add.length) (Eff.hp ef0 S.nx S.hp)),((S.nx+ef0.add.length)+ef1.add.length),S.gh⟩))) fun K hK=>?_
  repeat' (first|(refine hK _ ?_;clear hK K)|refine And.intro ?_ ?_|exact cl|(refine st ?_;try simp only[encM,zaP,encC,finV,tV])|fail)
  all_goals
  refine Tri.seq ?_
  refine sZ [2,3,6] (fun P S K=>XvLoad P 54 (M S.hp S.nx) (S.get 2) (fun r0 _=>XvFnIV P (M S.hp S.nx) (.fn 22 []) [r0] (fun r1 ef1=>K ⟨[(2,S.get 2),(3,S.get 3),(6,r1)],(Eff.hp ef1 S.nx S.hp),(S.nx+ef1.add.length),S.gh⟩))) fun K hK=>?_
  repeat' (first|(refine hK _ ?_;clear hK K)|refine .inl ⟨_,_,zlg m hm,?_⟩|(refine st ?_;try simp only[encM,zaP,encC,finV,tV])|fail)
  all_goals
  refine sY [2,3,6,16] (fun P S K=>XvBinOV P .neq 40 (.const (.int .i64 0)) (S.get 6) (.atom (.int .i64 0)) (fun r1 _=>K ⟨[(2,S.get 2),(3,S.get 3),(6,S.get 6),(16,r1)],S.hp,S.nx,S.gh⟩)) ?_
  all_goals
  refine Tri.cond rfl (fun h16=>?_) (fun h16=>?_)
  ·try (cases h16;done)
   all_goals (try simp only[CQ] at h16)
   all_goals
   refine sY [4,5] (fun P S K=>K ⟨[(4,(.atom (.slice none 0 0))),(5,(S.get 6))],S.hp,S.nx,S.gh⟩) ?_
   refine Tri.asSl 4 1 rfl ?_
   all_goals
   refine Tri.ret ?_
   show ResOk _ _ _ _
   rw[zpo (by omega)]
   exact ResOk.val lsrN9 lpvN9
  try (cases h16;done)
  all_goals (try simp only[CQ] at h16)
  all_goals
  refine Tri.skip ?_
  refine Tri.seq ?_
  refine sZ [2,3,20] (fun P S K=>XvLoad P 9 (M S.hp S.nx) (S.get 3) (fun r0 _=>XvLen P 9 (M S.hp S.nx) r0 (fun r1 _=>XvBinOV P .gtr 3 (.const (.int .i64 256)) r1 (.atom (.int .i64 256)) (fun r2 _=>K ⟨[(2,S.get 2),(3,S.get 3),(20,r2)],S.hp,S.nx,S.gh⟩)))) fun K hK=>?_
  repeat' (first|(refine hK _ ?_;clear hK K)|refine And.intro ?_ ?_|exact cl|(refine st ?_;try simp only[encM,zaP,encC,finV,tV])|fail)
  all_goals
  refine Tri.cond rfl (fun h20=>?_) (fun h20=>?_)
  ·try (cases h20;done)
   all_goals (try simp only[CQ] at h20)
   all_goals
   refine sY [4,5] (fun P S K=>K ⟨[(4,(.atom (.slice none 0 0))),(5,(.atom (.int .i64 4)))],S.hp,S.nx,S.gh⟩) ?_
   refine Tri.asSl 4 1 rfl ?_
   all_goals
   refine Tri.ret ?_
   show ResOk _ _ _ _
   rw[zmv (by omega) (by omega)]
   exact ResOk.val lsrN9 lpvN9
  try (cases h20;done)
  all_goals (try simp only[CQ] at h20)
  all_goals
  refine Tri.skip ?_
  have hval:=validM_0.1 (show zb1 m=0 by omega)
  have hst:=hval.states
  have hin:=InM.of hval.arcs
  obtain⟨mu,hmu⟩:=FarM.ex hval.acyc hin s
  have hR:RunM m s mu:=⟨hm,hval,by omega,hmu⟩
  obtain⟨l',hfirst⟩:=zpc m s mu hR
  refine sZ [2,3,7] (fun P S K=>XvLoad P 54 (M S.hp S.nx) (S.get 2) (fun r0 _=>XvFnIV P (M S.hp S.nx) (.fn 57 []) [r0] (fun r1 ef1=>XvAlloc P 110 (S.nx+ef1.add.length) (fun r2 ef2=>XvStore P 110 (M (Eff.hp ef2 (S.nx+ef1.add.length) (Eff.hp ef1 S.nx S.hp)) ((S.nx+ef1.add.length)+ef2.add.length)) r2 r1 (fun r3 ef3=>K ⟨[(2,S.get 2),(3,S.get 3),(7,r2)],(Eff.hp ef3 ((S.nx+ef1.add.length)+ef2.add.length) (Eff.hp ef2 (S.nx+ef1.add.length) (Eff.hp ef1 S.nx S.hp))),(((S.nx+ef1.add.length)+ef2.add.length)+ef3.add.length),S.gh⟩))))) fun K hK=>?_
  repeat' (first|(refine hK _ ?_;clear hK K)|refine And.intro ?_ ?_|exact cl|refine .inl ⟨_,_,zhK m hm (by omega) (by omega) (fun a ha=>⟨(hin a ha).1,(hin a ha).2.1⟩),?_⟩|(refine st ?_;try simp only[encM,zaP,encC,finV,tV,zb4,za5])|refine sx ?_ (by simp only[encM,zaP,encC,finV,tV,zb4,za5];exact rfl)|fail)
  all_goals
  refine sZ [2,3,7,8] (fun P S K=>XvMakeMap none S.nx (fun r0 ef0=>XvAlloc P 112 (S.nx+ef0.add.length) (fun r1 ef1=>XvStore P 112 (M (Eff.hp ef1 (S.nx+ef0.add.length) (Eff.hp ef0 S.nx S.hp)) ((S.nx+ef0.add.length)+ef1.add.length)) r1 r0 (fun r2 ef2=>K ⟨[(2,S.get 2),(3,S.get 3),(7,S.get 7),(8,r1)],(Eff.hp ef2 ((S.nx+ef0.add.length)+ef1.add.length) (Eff.hp ef1 (S.nx+ef0.add.length) (Eff.hp ef0 S.nx S.hp))),(((S.nx+ef0.add.length)+ef1.add.length)+ef2.add.length),S.gh⟩)))) fun K hK=>?_
  repeat' (first|(refine hK _ ?_;clear hK K)|refine And.intro ?_ ?_|exact cl|(refine st ?_;try simp only[encM,zaP,encC,finV,tV])|fail)
  all_goals
  refine sZ [2,3,7,8,9] (fun P S K=>XvAlloc P 113 S.nx (fun r0 ef0=>K ⟨[(2,S.get 2),(3,S.get 3),(7,S.get 7),(8,S.get 8),(9,r0)],(Eff.hp ef0 S.nx S.hp),(S.nx+ef0.add.length),S.gh⟩)) fun K hK=>?_
  repeat' (first|(refine hK _ ?_;clear hK K)|refine And.intro ?_ ?_|exact cl|(refine st ?_;try simp only[encM,zaP,encC,finV,tV])|fail)
  all_goals
  refine sZ [2,9] (fun P S K=>XvMakeFV (.func 58) [] [(S.get 8),(S.get 2),(S.get 3),(S.get 7),(S.get 9)] (fun r0 _=>XvStore P 113 (M S.hp S.nx) (S.get 9) r0 (fun r1 ef1=>K ⟨[(2,S.get 2),(9,S.get 9)],(Eff.hp ef1 S.nx S.hp),(S.nx+ef1.add.length),S.gh⟩))) fun K hK=>?_
  repeat' (first|(refine hK _ ?_;clear hK K)|refine And.intro ?_ ?_|exact cl|(refine st ?_;try simp only[encM,zaP,encC,finV,tV])|fail)
  all_goals
  refine sZ [10] (fun P S K=>XvLoad P 113 (M S.hp S.nx) (S.get 9) (fun r0 _=>XvFieldAddr P 54 1 (S.get 2) (fun r1 _=>XvLoad P 3 (M S.hp S.nx) r1 (fun r2 _=>XvFnIV P (M S.hp S.nx) r0 [r2,(.atom (.int .i64 0))] (fun r3 ef3=>K ⟨[(10,r3)],(Eff.hp ef3 S.nx S.hp),(S.nx+ef3.add.length),S.gh⟩))))) fun K hK=>?_
  repeat' (first|(refine hK _ ?_;clear hK K)|refine .inr (vProc.afterL 4 0 1 2 5 3 hfirst (by decide) rfl rfl rfl rfl rfl rfl rfl ?_)|(refine st ?_;try simp only[encM,zaP,encC,finV,tV])|fail)
  all_goals
  refine Tri.seq ?_
  refine sZ [10,32] (fun P S K=>XvNil (S.get 10) (fun r1 _=>XvFieldAddr P 119 1 r1 (fun r2 _=>XvLoad P 4 (M S.hp S.nx) r2 (fun r3 _=>K ⟨[(10,S.get 10),(32,r3)],S.hp,S.nx,S.gh⟩)))) fun K hK=>?_
  repeat' (first|(refine hK _ ?_;clear hK K)|refine And.intro ?_ ?_|exact cl|(refine st ?_;try simp only[encM,zaP,encC,finV,tV])|fail)
  all_goals
  refine Tri.cond rfl (fun h32=>?_) (fun h32=>?_)
  ·try (cases h32;done)
   all_goals (try simp only[CQ] at h32)
   all_goals
   refine sY [4,5] (fun P S K=>K ⟨[(4,(.atom (.slice none 0 0))),(5,(.atom (.int .i64 4)))],S.hp,S.nx,S.gh⟩) ?_
   refine Tri.asSl 4 1 rfl ?_
   all_goals
   refine Tri.ret ?_
   show ResOk _ _ _ _
   rw[zmu (by omega) (by omega) (by assumption)]
   exact ResOk.val lsrN9 lpvN9
  try (cases h32;done)
  all_goals (try simp only[CQ] at h32)
  all_goals
  refine Tri.skip ?_
  have hm0:zb6 (outL m s m.start 0)=false:=by assumption
  have hlen:(outL m s m.start 0).length≤64:=by unfold zb6 at hm0;rw[decide_eq_false_iff_not] at hm0;omega
  refine sY [10,11] (fun P S K=>K ⟨[(10,S.get 10),(11,(.atom (.slice none 0 0)))],S.hp,S.nx,S.gh⟩) ?_
  refine Tri.born 11 1 rfl ?_
  all_goals
  refine Tri.seq ?_
  refine Tri.cut (α:=(remS:List ByteArray) ×' (remS=outL m s m.start 0)) (fun z=>(fun(remS:List ByteArray)=>(⟨[(11,.ob 0 1 0 0),(37,.it 1)],[(0,some ⟨1,[]⟩),(1,some ⟨0,[.fmp (remS.map setE),.junk]⟩)],2,[]⟩:St)) z.1) ?_ ?_
  ·skip
   rcases zh6 (outL m s m.start 0) with ⟨hmm,hhas⟩|⟨hmm,hl,hhas⟩|⟨hmm,hl,hhas⟩
   · rw[hm0] at hmm;cases hmm
   all_goals
   refine rZ [11,37] (fun P S K=>XvNil (S.get 10) (fun r1 _=>XvFieldAddr P 119 0 r1 (fun r2 _=>XvLoad P 117 (M S.hp S.nx) r2 (fun r3 _=>XvRange P 117 r3 S.nx (fun r4 ef4=>K ⟨[(11,S.get 11),(37,r4)],(Eff.hp ef4 S.nx S.hp),(S.nx+ef4.add.length),S.gh⟩))))) fun K hK=>?_
   repeat' (first|(refine hK _ ?_;clear hK K)|(refine st ?_;try simp only[encM,zaP,encC,finV,tV,hhas])|fail)
   all_goals
   first|(refine⟨⟨[],hl.symm⟩,[6,7],?_⟩;exact leqN9)|(refine⟨⟨_,rfl⟩,[6,7],?_⟩;exact leqN9)
  rintro⟨remS,hrem0⟩
  refine Tri.block ?_
  refine Tri.loop (α:=(rem2:List ByteArray) ×' (out:List ByteArray) ×' (cur:Option ByteArray) ×' ((out++rem2).Perm (outL m s m.start 0))) (fun z=>(fun(rem2:List ByteArray) (out:List ByteArray) (cur:Option ByteArray)=>(⟨[(11,.ob 0 1 0 out.length),(37,.it 1)],[(0,some ⟨1,out.map encS⟩),(1,some ⟨0,[.fmp (rem2.map setE),curV cur]⟩)],2,[]⟩:St)) z.1 z.2.1 z.2.2.1) (fun z=>(fun(rem2:List ByteArray) (out:List ByteArray) (cur:Option ByteArray)=>rem2.length) z.1 z.2.1 z.2.2.1) ⟨remS,[],none,by rw[hrem0];exact List.Perm.refl _⟩ [0,1] ?_ ?_
  ·exact leqN9
  rintro⟨rem2,out,cur,hpm⟩
  refine sZ [11,37,39] (fun P S K=>XvNext (M S.hp S.nx) (S.get 37) (fun r0 ef0=>XvExtract r0 0 (fun r1 _=>K ⟨[(11,S.get 11),(37,S.get 37),(39,r1)],(Eff.hp ef0 S.nx S.hp),(S.nx+ef0.add.length),S.gh⟩))) fun K hK=>?_
  repeat' (first|(refine hK _ ?_;clear hK K)|(refine(⟨fun hrem=>?_,fun jn hjn=>?_⟩:zpK _ _ _))|(refine st ?_;try simp only[encM,zaP,encC,finV,tV,zfw,zhM])|fail)
  all_goals
  refine Tri.seq ?_
  refine Tri.cond rfl (fun h39=>?_) (fun h39=>?_)
  ·try (cases h39;done)
   all_goals (try simp only[CQ] at h39)
   all_goals
   refine Tri.skip ?_
   refine Tri.block ?_
   have hjl:jn<rem2.length:=by simpa using hjn
   have hcur:rem2[jn]? = some rem2[jn]:=List.getElem?_eq_getElem hjl
   have hlo:=hpm.length_eq
   rw[List.length_append] at hlo
   refine sZ [11,12,37] (fun P S K=>XvEntry (M S.hp S.nx) (S.get 37) (fun r0 _=>XvExtract r0 0 (fun r1 _=>K ⟨[(11,S.get 11),(12,r1),(37,S.get 37)],S.hp,S.nx,S.gh⟩))) fun K hK=>?_
   repeat' (first|(refine hK _ ?_;clear hK K)|refine And.intro ?_ ?_|(refine st ?_;try simp only[encM,zaP,encC,finV,tV,hcur,curV,setE])|fail)
   all_goals
   refine rZ [11,37] (fun P S K=>XvBuildS P 37 1 S.nx [(0,(S.get 12))] (fun r2 ef2=>(37=37∧XvAppend P 37 (M (Eff.hp ef2 S.nx S.hp) (S.nx+ef2.add.length)) (S.get 11) r2 (fun r3 ef3=>K ⟨[(11,r3),(37,S.get 37)],(Eff.hp ef3 (S.nx+ef2.add.length) (Eff.hp ef2 S.nx S.hp)),((S.nx+ef2.add.length)+ef3.add.length),S.gh⟩)))) fun K hK=>?_
   repeat' (first|(refine hK _ ?_;clear hK K)|refine And.intro ?_ ?_|exact cl|(refine st ?_;try simp only[encM,zaP,encC,finV,tV])|fail)
   all_goals
   refine⟨⟨rem2.eraseIdx jn,out++[rem2[jn]],some rem2[jn],?_⟩,[3,1],by dsimp only;rw[List.length_eraseIdx_of_lt hjl];omega,?_⟩
   · rw[List.append_assoc]
     exact((zie rem2 jn hjl).append_left out).trans hpm
   · exact leqN9
  try (cases h39;done)
  all_goals (try simp only[CQ] at h39)
  all_goals
  refine Tri.exit ?_
  have hlo:=hpm.length_eq
  rw[List.length_append] at hlo
  refine sZ [11] (fun P S K=>XvFnIV P (M S.hp S.nx) (.fn 62 []) [(S.get 11)] (fun r1 ef1=>K ⟨[(11,S.get 11)],(Eff.hp ef1 S.nx S.hp),(S.nx+ef1.add.length),S.gh⟩)) fun K hK=>?_
  repeat' (first|(refine hK _ ?_;clear hK K)|refine .inr (vProc.row 0 1 (zpA _ (by omega)) rfl (zar _) (zar _) rfl rfl rfl (zsM _) ?_)|(refine st ?_;try simp only[encM,zaP,encC,finV,tV])|fail)
  all_goals
  refine sY [4,5] (fun P S K=>K ⟨[(4,(S.get 11)),(5,(.atom (.int .i64 0)))],S.hp,S.nx,S.gh⟩) ?_
  all_goals
  refine Tri.ret ?_
  show ResOk _ _ _ _
  obtain rfl:rem2=[]:=by simpa using hrem
  rw[List.append_nil] at hpm
  rw[zkS (by omega) (by omega) hm0,←zhL hpm,←zdz out]
  exact ResOk.frz 5 lstN9 lpvN9
set_option maxRecDepth 100000
def unS:PV→ByteArray
  | .atom (.string s)=>s
  | _=>.empty
def unI:PV→Int
  | .atom (.int _ n)=>n
  | _=>0
def unC:PV→ArcD
  | .agg [a,b,c,d]=>⟨unI a,unI b,unS c,unS d⟩
  | _=>⟨0,0,.empty,.empty⟩
def mL:MachD:=⟨19,0,[1],aL13.map unC⟩
theorem mL_arcs:mL.arcs.map encC=aL13:=by kernel_rfl
theorem zrK:sealed (fun i=>resM.2.2[i]?) (fun _=>false) 5 resM.1=.tup [.agg [encI 19,encI 0,.sl 1 [encI 1],.sl 4 aL13],encI 0]:=by kernel_rfl
theorem zki:Pure Tryz.prog 21 [encX xL] (.tup [encM mL,encI 0]) []:=by
  refine(run_pure tn10_ok zel zlP (by simp[zaQ])).freeze 5 ?_ (by simp[PV.pure,zax,zaZ,encI])
  have h1:encM mL=.agg [encI 19,encI 0,.sl 1 [encI 1],.sl 4 aL13]:=by
    unfold encM zaP
    rw[mL_arcs];rfl
  rw[h1]
  exact zrK
def evO (m:MachD) (s:ByteArray):Nat→Int→Nat→List ByteArray
  | 0,_,_=>[]
  | n+1,q,at_=>(bif decide (at_=s.size) && m.fin.contains q then [⟨#[]⟩] else [])++m.arcs.flatMap fun a=>bif decide (a.fr=q) then (bif zdL (s.extract at_ s.size) a.inp then (evO m s n a.to (at_+a.inp.size)).map (a.out++·) else []) else []
theorem zkz{m:MachD}{s:ByteArray}:∀ {n:Nat}{q:Int}{at_:Nat}{x:ByteArray},at_≤s.size→x∈evO m s n q at_→OutR m s q at_ x
  | 0,_,_,_,_,h=>by cases h
  | n + 1,q,at_,x,hle,h=>by
    unfold evO at h
    rcases List.mem_append.1 h with h|h
    · cases hb:decide (at_=s.size) && m.fin.contains q with
      | false=>rw[hb] at h;cases h
      | true=>
        rw[hb,cond_true] at h
        rw[Bool.and_eq_true,decide_eq_true_eq] at hb
        obtain rfl:x=⟨#[]⟩:=by simpa using h
        rw[hb.1]
        exact .fin q (List.contains_iff_mem.1 hb.2)
    · obtain⟨a,ha,h⟩:=List.mem_flatMap.1 h
      cases h1:decide (a.fr=q) with
      | false=>rw[h1] at h;cases h
      | true=>
        rw[h1,cond_true] at h
        cases h2:zdL (s.extract at_ s.size) a.inp with
        | false=>rw[h2] at h;cases h
        | true=>
          rw[h2,cond_true] at h
          obtain⟨y,hy,rfl⟩:=List.mem_map.1 h
          have hq:a.fr=q:=of_decide_eq_true h1
          subst hq
          exact .arc a at_ y ha hle h2 (zkz (zep h2 hle) hy)
theorem evO_all{m:MachD}{s:ByteArray}{mu:Int→Nat→Nat}(hmu:FarM m s mu) {q:Int}{at_:Nat}{x:ByteArray}(h:OutR m s q at_ x):∀n,mu q at_<n→x∈evO m s n q at_:=by
  induction h with
  | fin q hq=>
    intro n hn
    cases n with
    | zero=>omega
    | succ n=>
      unfold evO
      refine List.mem_append.2 (.inl ?_)
      rw[decide_eq_true rfl,List.contains_iff_mem.2 hq];simp
  | arc a at_ x ha hle hp _ ih=>
    intro n hn
    cases n with
    | zero=>omega
    | succ n=>
      unfold evO
      refine List.mem_append.2 (.inr (List.mem_flatMap.2 ⟨a,ha,?_⟩))
      rw[decide_eq_true rfl,hp]
      exact List.mem_map.2 ⟨x,ih n (by have:=hmu.dec a ha at_ hle hp;omega),rfl⟩
def w1L:ByteArray:=bsL [111,100,101,115]
def outsL:List ByteArray:=[bsL [49,111,100,101,47,110,111,117,110],bsL [50,111,100,101,47,110,111,117,110],bsL [50,111,100,101,47,118,101,114,98],bsL [51,111,100,101,115,47]]
theorem ev_lives:evO mL w1L 101 0 0=outsL:=by kernel_rfl
def rankL (v:Int):Nat:=if v=0 then 0 else if v=1 then 2 else 1
theorem zlY:Acyc mL:=⟨rankL,by
  have h:(mL.arcs.all fun a => !silB a || decide (rankL a.fr<rankL a.to))=true:=by kernel_rfl
  intro a ha hs
  have:=List.all_eq_true.1 h a ha
  rw[hs] at this
  simpa using this⟩
theorem zgR:mL.arcs.all (zfB mL)=true:=by kernel_rfl
theorem mL_len:mL.arcs.length=274:=by kernel_rfl
theorem mL_fin:zft mL:=by
  intro i hi
  have:mL.fin=[1]:=rfl
  rw[this] at hi ⊢
  have h0:i=0:=by simpa using hi
  subst h0
  exact⟨by decide,fun h=>absurd h (by decide)⟩
theorem mL_valid:ValidM mL:=⟨⟨by decide,by decide⟩,by rw[mL_len];decide,⟨by decide,by decide⟩,mL_fin,zgR,zlY⟩
theorem mL_held:HeldM mL:=⟨⟨by decide,by decide⟩,⟨by decide,by decide⟩,⟨fun x hx=>by
    obtain rfl:x=1:=by simpa[mL] using hx
    exact⟨by decide,by decide⟩,by decide⟩,by rw[mL_len];decide,fun a ha=>by
    have h:=arcOk_iff.1 (List.all_eq_true.1 zgR a ha)
    have h1:=isM_iff.1 h.1
    have h2:=isM_iff.1 h.2.1
    have e:mL.states=19:=rfl
    rw[e] at h1 h2
    have h3:=h.2.2
    exact⟨⟨by omega,by omega⟩,⟨by omega,by omega⟩,by omega,by omega⟩⟩
theorem outs_perm:(outL mL w1L 0 0).Perm outsL:=by
  have hin:=InM.of zgR
  obtain⟨mu,hmu⟩:=FarM.ex zlY hin w1L
  obtain⟨h1,h2⟩:=zdF zlY hin w1L 0 0
  refine zrZ h1 (by decide) fun x=>(h2 x).trans ?_
  rw[←ev_lives]
  constructor
  · intro h
    refine evO_all hmu h _ ?_
    have:=hmu.le 0 0
    have e1:w1L.size=4:=rfl
    have e2:mL.states.toNat=19:=rfl
    rw[e1,e2] at this
    omega
  · exact zkz (Nat.zero_le _)
theorem zrI:zdd outsL=outsL:=by
  have h:((outsL.map fun s=>s.data.toList).Pairwise fun x y=>decide (x≤y)=true):=by decide +kernel
  unfold zdd
  first
  | rw[List.mergeSort_of_pairwise h]
  | rw[List.mergeSort_of_sorted h]
  rfl
theorem zmt:zeR mL w1L=(outsL,0):=by
  have hv:¬zb1 mL≠0:=fun h=>h (validM_0.2 mL_valid)
  have hl:(outL mL w1L 0 0).length=4:=outs_perm.length_eq
  have e:mL.start=0:=rfl
  rw[zkS hv (by decide) (by unfold zb6;rw[e,hl];decide),e,zhL outs_perm,zrI]
theorem zpn:Pure Tryz.prog 23 [encM mL,encS w1L] (.tup [strs outsL,encI 0]) []:=by
  have:=zlM mL w1L mL_held (by decide)
  rw[zmt] at this
  exact this
def wK:ByteArray:=bsL [107,105,110,103,115]
def wH:ByteArray:=bsL [104,105,115]
def fO:FormD:=⟨bsL [111,100,101,115],bsL [111,100,101],bsL [110,111,117,110]⟩
def fK:FormD:=⟨wK,bsL [107,105,110,103],bsL [110,111,117,110]⟩
def fV:FormD:=⟨wK,bsL [107,105,110,103],bsL [118,101,114,98]⟩
def fH:FormD:=⟨wH,wH,.empty⟩
theorem zit:HeldX xL:=by
  refine⟨by decide,by decide,by decide,fun f hf=>?_,fun r hr=>?_,fun p hp=>?_⟩
  · obtain rfl:f=fO:=by simpa[xL,fO] using hf
    exact⟨by decide,by decide,by decide⟩
  · have:r=⟨bsL [115],bsL [],bsL [110,111,117,110],3⟩∨r=⟨bsL [115],bsL [],bsL [118,101,114,98],3⟩:=by simpa[xL] using hr
    rcases this with rfl|rfl<;>exact⟨by decide,by decide,by decide,⟨by decide,by decide⟩⟩
  · obtain rfl:p=⟨bsL [110,111,117,110],bsL [],bsL [118,101,114,98]⟩:=by simpa[xL] using hp
    exact⟨by decide,by decide,by decide⟩
theorem all_O:allE xL w1L=[fO]:=by kernel_rfl
theorem all_K:allE xL wK=[fK,fV]:=by kernel_rfl
theorem all_H:allE xL wH=[fH]:=by kernel_rfl
theorem err_O:errX xL [w1L]=0:=by kernel_rfl
theorem err_K:errX xL [wK]=0:=by kernel_rfl
theorem err_H:errX xL [wH]=0:=by kernel_rfl
theorem cho_L:zbI xL [w1L,wK] 1=(fV,0):=by kernel_rfl
theorem opn_L:zcS xL [wK,w1L]=[0]:=by kernel_rfl
theorem ope_L:errX xL [wK,w1L]=0:=by kernel_rfl
theorem txt_L:zgg xL [wK,w1L]=([],14):=by kernel_rfl
theorem leqM25{p:Prop}(h:p:=by(refine⟨4,?_,?_,rfl,by simp,rfl,fun _ h _=>absurd h (Nat.not_lt_zero _)⟩<;>(simp only[List.forall_mem_cons];repeat' (first|refine And.intro ?_ ?_|(intro p hp;exact absurd hp List.not_mem_nil)|rfl|exact sp (zaQ _)|exact sp (zaL _)|exact sp (zaZ _)|exact(zat _ _ _ (zah _)).trans (zbW _ _).symm|exact(zat _ _ _ (zag _)).trans (zbV _ _).symm|exact sp (by assumption)|(intro o ho;cases ho;refine⟨by decide,?_⟩;first|(refine LeqS.row rfl ?_ ?_;(next=>(first|rfl|(simp only[List.map_append,List.map_cons,List.map_nil,List.append_nil,List.nil_append,List.append_assoc,List.cons_append,encI,encS,ints,strs];done)|(simp[encI,encS,ints,strs,encF,encR,encA];done)));(next=>(first|rfl|exact zao _|exact zar _|exact zav _|exact zau _|exact zaK _|exact za1 _|exact za2 _|exact zas _|(simp[zas,zao,zar,zav,zau,zax,PV.pure,zah,zag,zaQ,zaK,za1,za2,zaL,zas,encF,encS,zaZ];done)));done)|refine⟨_,rfl,rfl,?_⟩)|(simp[St.born,St.known,retV,St.get,St.obj,lk,sealed,PV.ren,renL,rmap,AO.ren,ints,strs,encI,encS,zan,zam,zal,zak,zaB,zaA,zaz,zay,zaY,zaX,zaW,zaV,zcQ,zaa,zac,zad,zab,zai,zaj,zaE,za4,zaH,zbc,zaI,zbd,zap,encF,encR,encA,zbF]<;>omega))));first|done|fail):p:=h
theorem zhD (a b:List ByteArray) (ha:a.length≤9223372036854775807) (hb:b.length≤9223372036854775807):Pure Tryz.prog 25 [strs a,strs b] (.atom (.bool (decide (a=b)))) []:=by
  refine Pure.intro (ts:=[4]) Tryz.func25 (by kernel_rfl) rfl rfl rfl (Nat.le_of_ble_eq_true rfl) ?_ ?_
  · simp[zah,zag,encI,encS,PV.pure,zax]
  refine sY [0,1] (fun P S K=>K ⟨[(0,S.get 0),(1,S.get 1)],S.hp,S.nx,S.gh⟩) ?_
  all_goals
  refine Tri.seq ?_
  refine sY [0,1,10] (fun P S K=>XvLen P 37 (M S.hp S.nx) (S.get 0) (fun r1 _=>XvLen P 37 (M S.hp S.nx) (S.get 1) (fun r3 _=>XvBinOV P .neq 3 (.tmp 9) r1 r3 (fun r4 _=>K ⟨[(0,S.get 0),(1,S.get 1),(10,r4)],S.hp,S.nx,S.gh⟩)))) ?_
  all_goals
  refine Tri.cond rfl (fun h10=>?_) (fun h10=>?_)
  ·try (cases h10;done)
   all_goals (try simp only[CQ] at h10)
   all_goals
   refine sY [4] (fun P S K=>K ⟨[(4,(.atom (.bool false)))],S.hp,S.nx,S.gh⟩) ?_
   all_goals
   refine Tri.ret ?_
   show ResOk _ _ _ _
   exact ResOk.val (aB (by have:a≠b:=fun e=>h10 (by rw[e]);simp[this])) rfl
  try (cases h10;done)
  all_goals (try simp only[CQ] at h10)
  all_goals
  refine Tri.skip ?_
  refine Tri.seq ?_
  refine sY [0,1,5] (fun P S K=>K ⟨[(0,S.get 0),(1,S.get 1),(5,(.atom (.int .i64 0)))],S.hp,S.nx,S.gh⟩) ?_
  all_goals
  refine Tri.block ?_
  refine Tri.loop (α:=(k:Nat) ×' (k≤a.length∧∀j,j<k→ls a j=ls b j)) (fun z=>(fun(k:Nat)=>(⟨[(0,strs a),(1,strs b),(5,encI k)],[],0,[]⟩:St)) z.1) (fun z=>(fun(k:Nat)=>a.length - k) z.1) ⟨0,⟨by omega,by omega⟩⟩ [] ?_ ?_
  ·exact leqM25
  rintro⟨k,⟨hk,hkj⟩⟩
  refine Tri.seq ?_
  refine sY [0,1,5,14] (fun P S K=>XvLen P 37 (M S.hp S.nx) (S.get 0) (fun r2 _=>XvBinOV P .lss 3 (.tmp 13) (S.get 5) r2 (fun r3 _=>K ⟨[(0,S.get 0),(1,S.get 1),(5,S.get 5),(14,r3)],S.hp,S.nx,S.gh⟩))) ?_
  all_goals
  refine Tri.cond rfl (fun h14=>?_) (fun h14=>?_)
  ·try (cases h14;done)
   all_goals (try simp only[CQ] at h14)
   all_goals
   refine Tri.skip ?_
   refine Tri.seq ?_
   refine Tri.block ?_
   have hka:k<a.length:=by omega
   have hkb:k<b.length:=by omega
   refine sD 9 [0,1,5,25] (fun P GD S K=>XvIndexAddr P 37 (S.get 0) (S.get 5) (fun r2 ef2=>XvLoad P 9 (M S.hp S.nx) r2 (fun r3 ef3=>XvIndexAddr P 37 (S.get 1) (S.get 5) (fun r6 ef6=>XvLoad P 9 (M S.hp S.nx) r6 (fun r7 ef7=>XvBinOV P .neq 9 (.tmp 24) r3 r7 (fun r8 ef8=>(trOk S.nx GD [⟨S.nx,0,[],[],[]⟩,⟨S.nx,0,[],[],[]⟩,⟨S.nx,0,ef2.rd,[],[]⟩,⟨S.nx,0,ef3.rd,[],[]⟩,⟨S.nx,0,[],[],[]⟩,⟨S.nx,0,[],[],[]⟩,⟨S.nx,0,ef6.rd,[],[]⟩,⟨S.nx,0,ef7.rd,[],[]⟩,⟨S.nx,0,ef8.rd,[],[]⟩]=true∧K ⟨[(0,S.get 0),(1,S.get 1),(5,S.get 5),(25,r8)],S.hp,S.nx,S.gh⟩))))))) fun K hK=>?_
   repeat' (first|(refine hK _ ?_;clear hK K)|(refine(?_:trOk _ _ _=true);(try simp only[zbn hka,zbn hkb]);kernel_rfl)|refine And.intro ?_ ?_|exact cl|(refine st ?_;try simp only[zbn hka,zbn hkb])|fail)
   all_goals
   refine Tri.cond rfl (fun h25=>?_) (fun h25=>?_)
   ·try (cases h25;done)
    all_goals (try simp only[CQ] at h25)
    all_goals
    refine sY [4] (fun P S K=>K ⟨[(4,(.atom (.bool false)))],S.hp,S.nx,S.gh⟩) ?_
    all_goals
    refine Tri.ret ?_
    show ResOk _ _ _ _
    exact ResOk.val (aB (by have:a≠b:=fun e=>h25 (by rw[e]);simp[this])) rfl
   try (cases h25;done)
   all_goals (try simp only[CQ] at h25)
   all_goals
   refine Tri.skip ?_
   refine rY [0,1,5] (fun P S K=>XvBinOV P .add 3 (.const (.int .i64 1)) (S.get 5) (.atom (.int .i64 1)) (fun r1 _=>K ⟨[(0,S.get 0),(1,S.get 1),(5,r1)],S.hp,S.nx,S.gh⟩)) ?_
   all_goals try simp (disch:=omega) only[zae,zaf]
   all_goals
   refine⟨⟨k+1,by omega,fun j hj=>?_⟩,[],by dsimp only;omega,?_⟩
   · rcases Nat.lt_succ_iff_lt_or_eq.1 hj with hj|rfl
     · exact hkj j hj
     · simpa using h25
   · exact leqM25
  try (cases h14;done)
  all_goals (try simp only[CQ] at h14)
  all_goals
  refine Tri.exit ?_
  refine sY [4] (fun P S K=>K ⟨[(4,(.atom (.bool true)))],S.hp,S.nx,S.gh⟩) ?_
  all_goals
  refine Tri.ret ?_
  show ResOk _ _ _ _
  exact ResOk.val (aB (by have:a=b:=ls_ext (by omega) (fun i hi=>hkj i (by omega));simp[this])) rfl
theorem zcy (w:ByteArray) (l:List FormD) (hl:allE xL w=l) (he:errX xL [w]=0) (hw:w.size≤140737488355328):Pure Tryz.prog 15 [encX xL,encS w] (.tup [zaa l,encI 0]) []:=by
  have:=zh3 xL w zit (up47 hw)
  rw[hl,he] at this
  exact this
theorem zs2:Pure Tryz.prog 32 [encX xL,strs [w1L,wK],encI 1] (.tup [encF fV,encI 0]) []:=by
  have:=zf5 xL [w1L,wK] 1 zit (by decide) (fun w hw=>by rcases List.mem_cons.1 hw with rfl|hw;decide;rcases List.mem_cons.1 hw with rfl|hw;decide;cases hw) ⟨by decide,by decide⟩
  rw[cho_L] at this
  exact this
theorem zpL:Pure Tryz.prog 26 [encX xL,strs [wK,w1L]] (.tup [zaa [],encI 14]) []:=by
  have:=zoV xL [wK,w1L] zit (by decide) (fun w hw=>by rcases List.mem_cons.1 hw with rfl|hw;decide;rcases List.mem_cons.1 hw with rfl|hw;decide;cases hw)
  rw[txt_L] at this
  exact this
theorem zsk (x:LexD) (ws:List ByteArray) (hx:HeldX x) (hn:ws.length≤1000000) (hw:∀w,w∈ws→w.size≤140737488355328) (he:errX x ws=0):
    Pure Tryz.prog 28 [encX x,strs ws] (.tup [.ob 0 1 0 (zcS x ws).length,encI 0]) [⟨1,(zcS x ws).map encI⟩]:=by
  refine Pure.intro (ts:=[4,5]) Tryz.func28 (by kernel_rfl) rfl rfl rfl (Nat.le_of_ble_eq_true rfl) ?_ ?_
  · simp[zaQ,zag,encS,encI,PV.pure,zax]
  refine sZ [1,2] (fun P S K=>XvBox S.nx (S.get 0) (fun r0 ef0=>K ⟨[(1,S.get 1),(2,r0)],(Eff.hp ef0 S.nx S.hp),(S.nx+ef0.add.length),S.gh⟩)) fun K hK=>?_
  repeat' (first|(refine hK _ ?_;clear hK K)|refine And.intro ?_ ?_|exact cl|(refine st ?_;try simp only[encX,zaa,zac,zad,encF,zab,zai,zaj,zaR])|fail)
  all_goals
  refine sZ [1,6,7] (fun P S K=>XvLoad P 27 (M S.hp S.nx) (S.get 2) (fun r0 _=>XvFnIV P (M S.hp S.nx) (.fn 63 []) [r0,(S.get 1)] (fun r2 ef2=>XvExtract r2 0 (fun r4 _=>XvExtract r2 1 (fun r5 _=>K ⟨[(1,S.get 1),(6,r4),(7,r5)],(Eff.hp ef2 S.nx S.hp),(S.nx+ef2.add.length),S.gh⟩))))) fun K hK=>?_
  repeat' (first|(refine hK _ ?_;clear hK K)|refine And.intro ?_ ?_|refine .inl ⟨_,_,ziK x ws hx hn (fun w h=>up47 (hw w h)) he,?_⟩|(refine st ?_;try simp only[encX,zaa,zac,zad,encF,zab,zai,zaj,zaR])|fail)
  all_goals
  refine Tri.seq ?_
  refine sY [1,6,7,19] (fun P S K=>XvBinOV P .neq 40 (.const (.int .i64 0)) (S.get 7) (.atom (.int .i64 0)) (fun r1 _=>K ⟨[(1,S.get 1),(6,S.get 6),(7,S.get 7),(19,r1)],S.hp,S.nx,S.gh⟩)) ?_
  all_goals
  refine Tri.cond rfl (fun h19=>?_) (fun h19=>?_)
  ·try (cases h19;done)
   all_goals (try simp only[CQ] at h19)
   all_goals
   refine sY [4,5] (fun P S K=>K ⟨[(4,(.atom (.slice none 0 0))),(5,(S.get 7))],S.hp,S.nx,S.gh⟩) ?_
   all_goals
   refine Tri.ret ?_
   show ResOk _ _ _ _
   done
  try (cases h19;done)
  all_goals (try simp only[CQ] at h19)
  all_goals
  refine Tri.skip ?_
  refine sY [1,6,8] (fun P S K=>K ⟨[(1,S.get 1),(6,S.get 6),(8,(.atom (.slice none 0 0)))],S.hp,S.nx,S.gh⟩) ?_
  refine Tri.born 8 1 rfl ?_
  all_goals
  refine Tri.seq ?_
  refine sZ [1,6,8,22,23] (fun P S K=>XvLen P 37 (M S.hp S.nx) (S.get 1) (fun r1 _=>K ⟨[(1,S.get 1),(6,S.get 6),(8,S.get 8),(22,r1),(23,(.atom (.int .i64 0)))],S.hp,S.nx,S.gh⟩)) fun K hK=>?_
  repeat' (first|(refine hK _ ?_;clear hK K)|refine And.intro ?_ ?_|exact cl|(refine st ?_;try simp only[encX,zaa,zac,zad,encF,zab,zai,zaj,zaR])|fail)
  all_goals
  refine Tri.block ?_
  refine Tri.loop (α:=(o:List Int) ×' (kn:List ByteArray) ×' (i:Nat) ×' (i≤ws.length∧o.length≤i∧(∀s,s∈kn→s.size≤140737488355328)∧o=zgi x ws i)) (fun z=>(fun(o:List Int) (kn:List ByteArray) (i:Nat)=>(⟨[(1,strs ws),(6,.ptr 0 4 0 0),(8,.ob 2 1 0 o.length),(22,encI ws.length),(23,encI i)],[(0,some ⟨4,[zaR x]⟩),(1,some ⟨0,kn.map (entB x)⟩),(2,some ⟨1,o.map encI⟩)],3,[]⟩:St)) z.1 z.2.1 z.2.2.1) (fun z=>(fun(o:List Int) (kn:List ByteArray) (i:Nat)=>ws.length - i) z.1 z.2.1 z.2.2.1) ⟨[],[],0,⟨Nat.zero_le _,Nat.le_refl _,fun s h=>(by cases h),rfl⟩⟩ [1,2,3] ?_ ?_
  ·exact zd4
  rintro⟨o,kn,i,⟨hi,hol,hs0,ho⟩⟩
  refine sY [1,6,8,22,23,24] (fun P S K=>XvBinOV P .lss 3 (.tmp 22) (S.get 23) (S.get 22) (fun r0 _=>K ⟨[(1,S.get 1),(6,S.get 6),(8,S.get 8),(22,S.get 22),(23,S.get 23),(24,r0)],S.hp,S.nx,S.gh⟩)) ?_
  all_goals
  refine Tri.seq ?_
  refine Tri.cond rfl (fun h24=>?_) (fun h24=>?_)
  ·try (cases h24;done)
   all_goals (try simp only[CQ] at h24)
   all_goals
   refine Tri.skip ?_
   refine Tri.seq ?_
   refine Tri.block ?_
   have hiw:i<ws.length:=by omega
   refine sY [1,6,8,9,22,23] (fun P S K=>K ⟨[(1,S.get 1),(6,S.get 6),(8,S.get 8),(9,(S.get 23)),(22,S.get 22),(23,S.get 23)],S.hp,S.nx,S.gh⟩) ?_
   all_goals
   refine sZ [1,6,8,9,11,22,23] (fun P S K=>XvFnIV P (M S.hp S.nx) (.fn 64 []) [(S.get 6),(S.get 1),(S.get 9)] (fun r3 ef3=>XvExtract r3 0 (fun r5 _=>XvExtract r3 1 (fun r6 _=>XvAlloc P 73 (S.nx+ef3.add.length) (fun r7 ef7=>XvStore P 73 (M (Eff.hp ef7 (S.nx+ef3.add.length) (Eff.hp ef3 S.nx S.hp)) ((S.nx+ef3.add.length)+ef7.add.length)) r7 r5 (fun r8 ef8=>K ⟨[(1,S.get 1),(6,S.get 6),(8,S.get 8),(9,S.get 9),(11,r6),(22,S.get 22),(23,S.get 23)],(Eff.hp ef8 ((S.nx+ef3.add.length)+ef7.add.length) (Eff.hp ef7 (S.nx+ef3.add.length) (Eff.hp ef3 S.nx S.hp))),(((S.nx+ef3.add.length)+ef7.add.length)+ef8.add.length),S.gh⟩)))))) fun K hK=>?_
   repeat' (first|(refine hK _ ?_;clear hK K)|refine And.intro ?_ ?_|exact cl|refine .inr (vProc.bk 0 1 (zgr x kn ws i hx hiw hs0 hw hn) (by decide) rfl (argsC _ _ _ _ _) rfl rfl ?_)|(refine st ?_;try simp only[encX,zaa,zac,zad,encF,zab,zai,zaj,zaR])|fail)
   all_goals
   refine sY [1,6,8,9,22,23,34] (fun P S K=>XvUn .not (S.get 11) (fun r1 _=>K ⟨[(1,S.get 1),(6,S.get 6),(8,S.get 8),(9,S.get 9),(22,S.get 22),(23,S.get 23),(34,r1)],S.hp,S.nx,S.gh⟩)) ?_
   all_goals try simp (disch:=omega) only[zae,zaf]
   all_goals
   refine Tri.cond rfl (fun h34=>?_) (fun h34=>?_)
   ·try (cases h34;done)
    all_goals (try simp only[CQ] at h34)
    all_goals
    refine rZ [1,6,8,22,23] (fun P S K=>XvBuildS P 22 1 S.nx [(0,(S.get 9))] (fun r2 ef2=>(22=22∧XvAppend P 22 (M (Eff.hp ef2 S.nx S.hp) (S.nx+ef2.add.length)) (S.get 8) r2 (fun r3 ef3=>K ⟨[(1,S.get 1),(6,S.get 6),(8,r3),(22,S.get 22),(23,S.get 23)],(Eff.hp ef3 (S.nx+ef2.add.length) (Eff.hp ef2 S.nx S.hp)),((S.nx+ef2.add.length)+ef3.add.length),S.gh⟩)))) fun K hK=>?_
    repeat' (first|(refine hK _ ?_;clear hK K)|((first|refine zaw (fun hg=>?_) (fun hg=>?_)|refine fun(hg:(_:Prop))=>?_)<;>((try simp only[BQ] at hg);try (exfalso;omega)))|refine And.intro ?_ ?_|exact cl|(refine st ?_;try simp only[encX,zaa,zac,zad,encF,zab,zai,zaj,zaR])|fail)
    all_goals
    refine rY [1,6,8,22,23] (fun P S K=>XvBinOV P .add 3 (.const (.int .i64 1)) (S.get 23) (.atom (.int .i64 1)) (fun r0 _=>K ⟨[(1,S.get 1),(6,S.get 6),(8,S.get 8),(22,S.get 22),(23,r0)],S.hp,S.nx,S.gh⟩)) ?_
    all_goals try simp (disch:=omega) only[zae,zaf]
    all_goals
    first
    | (refine⟨⟨o++[(i:Int)],(runX x ws kn i).2,i+1,by omega,by simp;omega,zcr hiw hs0 hw,by rw[zcn,if_neg (by simp_all),ho]⟩,[0,1,5],by dsimp only;omega,?_⟩
       exact zd4)
    | (refine⟨⟨o,(runX x ws kn i).2,i+1,by omega,by omega,zcr hiw hs0 hw,by rw[zcn,if_pos (by simp_all),ho]⟩,[0,1,2],by dsimp only;omega,?_⟩
       exact zd4)
   try (cases h34;done)
   all_goals (try simp only[CQ] at h34)
   all_goals
   refine Tri.skip ?_
   refine rY [1,6,8,22,23] (fun P S K=>XvBinOV P .add 3 (.const (.int .i64 1)) (S.get 23) (.atom (.int .i64 1)) (fun r0 _=>K ⟨[(1,S.get 1),(6,S.get 6),(8,S.get 8),(22,S.get 22),(23,r0)],S.hp,S.nx,S.gh⟩)) ?_
   all_goals try simp (disch:=omega) only[zae,zaf]
   all_goals
   first
   | (refine⟨⟨o++[(i:Int)],(runX x ws kn i).2,i+1,by omega,by simp;omega,zcr hiw hs0 hw,by rw[zcn,if_neg (by simp_all),ho]⟩,[0,1,5],by dsimp only;omega,?_⟩
      exact zd4)
   | (refine⟨⟨o,(runX x ws kn i).2,i+1,by omega,by omega,zcr hiw hs0 hw,by rw[zcn,if_pos (by simp_all),ho]⟩,[0,1,2],by dsimp only;omega,?_⟩
      exact zd4)
  try (cases h24;done)
  all_goals (try simp only[CQ] at h24)
  all_goals
  refine Tri.exit ?_
  refine sY [4,5] (fun P S K=>K ⟨[(4,(S.get 8)),(5,(.atom (.int .i64 0)))],S.hp,S.nx,S.gh⟩) ?_
  all_goals
  refine Tri.ret ?_
  show ResOk _ _ _ _
  have e:zcS x ws=o:=by unfold zcS;rw[if_neg (by omega),ho];congr 1;omega
  rw[e]
  refine ResOk.one 2 4 rfl (by simp[retV,St.get,lk,sealed,PV.ren,renL,rmap,encI]) rfl (by rw[zaq _ _ _ (zao _),zaN _ (zao _)])
theorem zr1:Pure Tryz.prog 28 [encX xL,strs [wK,w1L]] (.tup [.ob 0 1 0 1,encI 0]) [⟨1,[encI 0]⟩]:=by
  have:=zsk xL [wK,w1L] zit (by decide) (fun w hw=>by rcases List.mem_cons.1 hw with rfl|hw;decide;rcases List.mem_cons.1 hw with rfl|hw;decide;cases hw) ope_L
  rw[opn_L] at this
  exact this
end Go.Proofs.YtehoglapajkabaaGreat
