/-
  Walks: package transducer: Apply.
-/
import Derived.Test.YtehoglapajkabaaGreatJM0
import Derived.Test.YtehoglapajkabaaGreatJN8
import Derived.Test.YtehoglapajkabaaGreatJA12
import Derived.Test.YtehoglapajkabaaGreatJM8
import Derived.Test.YtehoglapajkabaaGreatJShelf
import Derived.Test.YtehoglapajkabaaGreatJM42
import Derived.Test.YtehoglapajkabaaGreatJM12
set_option linter.all false
namespace Go.Proofs.YtehoglapajkabaaGreat
open Go Go.RowKit
set_option maxRecDepth 20000
set_option maxHeartbeats 1000000
theorem leqN9{p:Prop}(h:p:=by(refine⟨4,?_,?_,rfl,by simp,rfl,fun _ h _=>absurd h (Nat.not_lt_zero _)⟩<;>(simp only[List.forall_mem_cons];repeat' (first|refine And.intro ?_ ?_|(intro p hp;exact absurd hp List.not_mem_nil)|rfl|exact sp (zaY _)|exact sp (zcy _)|exact sp (zbt _)|exact sp (zdm _)|exact sp (zdS _)|exact sp (zcd _)|exact(zau _ _ _ (zah _)).trans (zbE _ _).symm|exact(zau _ _ _ (zag _)).trans (zbD _ _).symm|exact sp (by assumption)|(intro o ho;cases ho;refine⟨by decide,?_⟩;first|(refine LeqS.row rfl ?_ ?_;(next=>(first|rfl|(simp only[List.map_append,List.map_cons,List.map_nil,List.append_nil,List.nil_append,List.append_assoc,List.cons_append,encI,encS,ints,strs];done)|(simp[encI,encS,ints,strs,encC];done)));(next=>(first|rfl|exact zao _|exact zaq _|exact zas _|exact zar _|exact zbi _|exact zb7 _|exact zcp _|(simp[zap,zao,zaq,zas,zar,zaE,PV.pure,zah,zag,zaY,zbi,zcy,zbt,zdm,zb7,zcp,zdS,zcd];done)));done)|refine⟨_,rfl,rfl,?_⟩)|(simp[St.born,St.known,retV,St.get,St.obj,lk,sealed,PV.ren,renL,rmap,AO.ren,ints,strs,encI,encS,zan,zam,zal,zak,zaD,zaC,zaB,zaA,zaW,zaV,zaU,zaT,zbQ,zbT,zaN,zbd,zaP,zaI,encC,zgg,zd7,zbU,zcv,zbF,zbs,zdx,zcc,zfm,zdw,zfk,zdy,zfl,zdh,zgf]<;>omega))));first|done|fail):p:=h
theorem lstN9{p:Prop}(h:p:=by(first|rfl|(simp[St.born,St.known,retV,St.get,St.obj,lk,sealed,PV.ren,renL,rmap,AO.ren,ints,strs,encI,encS,zan,zam,zal,zak,zaD,zaC,zaB,zaA,zaW,zaV,zaU,zaT,zbQ,zbT,zaN,zbd,zaP,zaI,encC,zgg,zd7,zbU,zcv,zbF,zbs,zdx,zcc,zfm,zdw,zfk,zdy,zfl,zdh,zgf,zaG,List.take_length];done));first|done|fail):p:=h
theorem lpvN9{p:Prop}(h:p:=by(first|rfl|(simp[zah,zag,PV.pure,zaE,zao,zaq,zas,zar,zaY,zbi,zcy,zbt,zdm,zb7,zcp,zdS,zcd];done));first|done|fail):p:=h
theorem lsrN9{p:Prop}(h:p:=by(first|rfl|(simp[St.born,St.known,retV,St.get,St.obj,lk,sealed,PV.ren,renL,rmap,AO.ren,ints,strs,encI,encS,zan,zam,zal,zak,zaD,zaC,zaB,zaA,zaW,zaV,zaU,zaT,zbQ,zbT,zaN,zbd,zaP,zaI,encC,zgg,zd7,zbU,zcv,zbF,zbs,zdx,zcc,zfm,zdw,zfk,zdy,zfl,zdh,zgf];done));first|done|fail):p:=h
theorem zos (ks:List ByteArray) (hl:ks.length<4611686018427387904):Proc Tryz.prog 62 [.ob 0 1 0 ks.length] [⟨1,ks.map encS⟩] (.tup []) [some ⟨1,(zcu ks).map encS⟩] []:=
  zqA (Go.Proofs.enters_of Tryz.func62 (by kernel_rfl) rfl) Tryz.slices_Sort_string Tryz.slices_Sort_string_none ks hl
noncomputable def zeH (m:MachD) (s:ByteArray):List ByteArray×Int:=if zb8 m≠0 then ([],zb8 m) else if 256<s.size then ([],4) else if zck (outL m s m.start 0)=true then ([],4) else (zcu (outL m s m.start 0),0)
theorem zog{m:MachD}{s:ByteArray}(h:zb8 m≠0):zeH m s=([],zb8 m):=if_pos h
theorem zlw{m:MachD}{s:ByteArray}(h:¬zb8 m≠0) (h2:256<s.size):zeH m s=([],4):=by unfold zeH;rw[if_neg h,if_pos h2]
theorem zg4{m:MachD}{s:ByteArray}(h:¬zb8 m≠0) (h2:¬256<s.size) (h3:zck (outL m s m.start 0)=true):zeH m s=([],4):=by unfold zeH;rw[if_neg h,if_neg h2,if_pos h3]
theorem zj8{m:MachD}{s:ByteArray}(h:¬zb8 m≠0) (h2:¬256<s.size) (h3:zck (outL m s m.start 0)=false):zeH m s=(zcu (outL m s m.start 0),0):=by unfold zeH;rw[if_neg h,if_neg h2,if_neg (by rw[h3];decide)]
theorem zhp{a b:List ByteArray}(h:a.Perm b):zcu a=zcu b:=by
  unfold zcu
  congr 1
  have tr:∀a b c:List UInt8,decide (a≤b)=true→decide (b≤c)=true→decide (a≤c)=true:=fun a b c h1 h2=>by
    rw[decide_eq_true_eq] at *;exact List.le_trans h1 h2
  have to:∀a b:List UInt8,(decide (a≤b) || decide (b≤a))=true:=fun a b=>by
    rw[Bool.or_eq_true,decide_eq_true_eq,decide_eq_true_eq];exact List.le_total a b
  refine List.Perm.eq_of_pairwise (le:=fun a b=>decide (a≤b)=true) (fun a b _ _ h1 h2=>?_) (List.pairwise_mergeSort tr to _) (List.pairwise_mergeSort tr to _) ((List.mergeSort_perm _ _).trans ((h.map _).trans (List.mergeSort_perm _ _).symm))
  rw[decide_eq_true_eq] at h1 h2
  exact List.le_antisymm h1 h2
theorem zhS{α:Type}:∀(l:List α) (j:Nat) (h:j<l.length),(l[j] :: l.eraseIdx j).Perm l
  | a :: l,0,_=>by simp
  | a :: l,j+1,h=>by
    simp only[List.getElem_cons_succ,List.eraseIdx_cons_succ]
    exact(List.Perm.swap _ _ _).trans ((zhS l j (by simpa using h)).cons a)
theorem vProc.afterL{P:Program}{S:St}{f:FuncId}{vals:List PV}{K:PV→Eff→Prop}{m:MachD}{s:ByteArray}{l l':List ((Int×Nat)×EV)}{k:Int×Nat}{L:List ByteArray}(a b c d e g:Nat) (hpr:Proc P f (ziu k) (hpA f m s l) (finV L) ((hpA f m s l').map some) []) (hn:[a,b,c,d,e,g].Nodup)
    (hv:vals=[encI k.1,encI k.2,.ptr a 1 0 0,.ptr b 4 0 0,.ptr c 1 0 0,.ptr d 1 0 0,.ptr e 1 0 0])
    (h0:S.obj a=some ⟨1,[.mp g]⟩) (h1:S.obj b=some ⟨4,[encM m]⟩) (h2:S.obj c=some ⟨1,[encS s]⟩) (h3:S.obj d=some ⟨1,[zbh (zbw m)]⟩) (h4:S.obj e=some ⟨1,[.fn f [.ptr a 1 0 0,.ptr b 4 0 0,.ptr c 1 0 0,.ptr d 1 0 0,.ptr e 1 0 0]]⟩) (h5:S.obj g=some ⟨0,l.map entE⟩)
    (hk:K (finV L) ⟨[],[],[(a,⟨1,[.mp g]⟩),(b,⟨4,[encM m]⟩),(c,⟨1,[encS s]⟩),(d,⟨1,[zbh (zbw m)]⟩),(e,⟨1,[.fn f [.ptr a 1 0 0,.ptr b 4 0 0,.ptr c 1 0 0,.ptr d 1 0 0,.ptr e 1 0 0]]⟩),(g,⟨0,l'.map entE⟩)],[]⟩):vProc P S f vals K:=by
  subst hv
  refine vProc.of [a,b,c,d,e,g] hpr hn rfl ?_ (fun i o hi=>?_) ?_
  · simp[ziu,encI,PV.ren,rmap]
  · match i,hi with
    | 0,hi=>cases hi;exact h0
    | 1,hi=>cases hi;rw[show rmap [a,b,c,d,e,g] S.nx 1=b from rfl,h1];simp[AO.ren,zbQ]
    | 2,hi=>cases hi;exact h2
    | 3,hi=>cases hi;rw[show rmap [a,b,c,d,e,g] S.nx 3=d from rfl,h3];simp[AO.ren,zcc]
    | 4,hi=>cases hi;exact h4
    | 5,hi=>cases hi;rw[show rmap [a,b,c,d,e,g] S.nx 5=g from rfl,h5];simp only[AO.ren,zbs]
  · rw[zbc _ _ (zcd L)]
    have e:za3 (pmap [a,b,c,d,e,g] S.nx) [a,b,c,d,e,g] ((hpA f m s l').map some)=[(a,⟨1,[.mp g]⟩),(b,⟨4,[encM m]⟩),(c,⟨1,[encS s]⟩),(d,⟨1,[zbh (zbw m)]⟩),(e,⟨1,[.fn f [.ptr a 1 0 0,.ptr b 4 0 0,.ptr c 1 0 0,.ptr d 1 0 0,.ptr e 1 0 0]]⟩),(g,⟨0,l'.map entE⟩)]:=by
      simp only[hpA,List.map_cons,List.map_nil,za3,AO.ren,zbQ,zcc,zbs]
      rfl
    rw[e]
    exact hk
theorem zn8 (m:MachD) (s:ByteArray) (mu:Int→Nat→Nat) (hR:RunM m s mu):∃l',Proc Tryz.prog 58 (ziu (m.start,0)) (hpA 58 m s []) (finV (outL m s m.start 0)) ((hpA 58 m s l').map some) []:=
  ⟨_,zoh m s mu hR _ (m.start,0) [] (Nat.lt_succ_self _) hR.valid.start.1 hR.valid.start.2 (Nat.zero_le _) (fun e he=>by cases he)⟩
theorem zgu (m:MachD) (s:ByteArray) (hm:HeldM m) (hs:s.size≤4294967296):Pure Tryz.prog 23 [encM m,encS s] (.tup [strs (zeH m s).1,encI (zeH m s).2]) []:=by
  refine Pure.intro (ts:=[4,5]) Tryz.func23 (by kernel_rfl) rfl rfl rfl (Nat.le_of_ble_eq_true rfl) ?_ ?_
  · simp[zaY,encS,PV.pure,zaE]
  refine sZ [2,3] (fun P S K=>XvBox S.nx (S.get 0) (fun r0 ef0=>XvBox (S.nx+ef0.add.length) (S.get 1) (fun r1 ef1=>K ⟨[(2,r0),(3,r1)],(Eff.hp ef1 (S.nx+ef0.add.length) (Eff.hp ef0 S.nx S.hp)),((S.nx+ef0.add.length)+ef1.add.length),S.gh⟩))) fun K hK=>?_
  repeat' (first|(refine hK _ ?_;clear hK K)|refine And.intro ?_ ?_|exact cl|(refine st ?_;try simp only[encM,zaN,encC,finV,tV])|fail)
  all_goals
  refine Tri.seq ?_
  refine sZ [2,3,6] (fun P S K=>XvLoad P 54 (M S.hp S.nx) (S.get 2) (fun r0 _=>XvFnIV P (M S.hp S.nx) (.fn 22 []) [r0] (fun r1 ef1=>K ⟨[(2,S.get 2),(3,S.get 3),(6,r1)],(Eff.hp ef1 S.nx S.hp),(S.nx+ef1.add.length),S.gh⟩))) fun K hK=>?_
  repeat' (first|(refine hK _ ?_;clear hK K)|refine .inl ⟨_,_,zgt m hm,?_⟩|(refine st ?_;try simp only[encM,zaN,encC,finV,tV])|fail)
  all_goals
  refine sY [2,3,6,16] (fun P S K=>XvBinOV P .neq 40 (.const (.int .i64 0)) (S.get 6) (.atom (.int .i64 0)) (fun r1 _=>K ⟨[(2,S.get 2),(3,S.get 3),(6,S.get 6),(16,r1)],S.hp,S.nx,S.gh⟩)) ?_
  all_goals
  refine Tri.cond rfl (fun h16=>?_) (fun h16=>?_)
  ·try (cases h16;done)
   all_goals (try simp only[CQ] at h16)
   all_goals
   refine sY [4,5] (fun P S K=>K ⟨[(4,(.atom (.slice none 0 0))),(5,(S.get 6))],S.hp,S.nx,S.gh⟩) ?_
   refine Tri.asSl 4 1 rfl ?_
   all_goals
   refine Tri.ret ?_
   show ResOk _ _ _ _
   rw[zog (by omega)]
   exact ResOk.val lsrN9 lpvN9
  try (cases h16;done)
  all_goals (try simp only[CQ] at h16)
  all_goals
  refine Tri.skip ?_
  refine Tri.seq ?_
  refine sZ [2,3,20] (fun P S K=>XvLoad P 9 (M S.hp S.nx) (S.get 3) (fun r0 _=>XvLen P 9 (M S.hp S.nx) r0 (fun r1 _=>XvBinOV P .gtr 3 (.const (.int .i64 256)) r1 (.atom (.int .i64 256)) (fun r2 _=>K ⟨[(2,S.get 2),(3,S.get 3),(20,r2)],S.hp,S.nx,S.gh⟩)))) fun K hK=>?_
  repeat' (first|(refine hK _ ?_;clear hK K)|refine And.intro ?_ ?_|exact cl|(refine st ?_;try simp only[encM,zaN,encC,finV,tV])|fail)
  all_goals
  refine Tri.cond rfl (fun h20=>?_) (fun h20=>?_)
  ·try (cases h20;done)
   all_goals (try simp only[CQ] at h20)
   all_goals
   refine sY [4,5] (fun P S K=>K ⟨[(4,(.atom (.slice none 0 0))),(5,(.atom (.int .i64 4)))],S.hp,S.nx,S.gh⟩) ?_
   refine Tri.asSl 4 1 rfl ?_
   all_goals
   refine Tri.ret ?_
   show ResOk _ _ _ _
   rw[zlw (by omega) (by omega)]
   exact ResOk.val lsrN9 lpvN9
  try (cases h20;done)
  all_goals (try simp only[CQ] at h20)
  all_goals
  refine Tri.skip ?_
  have hval:=validM_0.1 (show zb8 m=0 by omega)
  have hst:=hval.states
  have hin:=InM.of hval.arcs
  obtain⟨mu,hmu⟩:=FarM.ex hval.acyc hin s
  have hR:RunM m s mu:=⟨hm,hval,by omega,hmu⟩
  obtain⟨l',hfirst⟩:=zn8 m s mu hR
  refine sZ [2,3,7] (fun P S K=>XvLoad P 54 (M S.hp S.nx) (S.get 2) (fun r0 _=>XvFnIV P (M S.hp S.nx) (.fn 57 []) [r0] (fun r1 ef1=>XvAlloc P 110 (S.nx+ef1.add.length) (fun r2 ef2=>XvStore P 110 (M (Eff.hp ef2 (S.nx+ef1.add.length) (Eff.hp ef1 S.nx S.hp)) ((S.nx+ef1.add.length)+ef2.add.length)) r2 r1 (fun r3 ef3=>K ⟨[(2,S.get 2),(3,S.get 3),(7,r2)],(Eff.hp ef3 ((S.nx+ef1.add.length)+ef2.add.length) (Eff.hp ef2 (S.nx+ef1.add.length) (Eff.hp ef1 S.nx S.hp))),(((S.nx+ef1.add.length)+ef2.add.length)+ef3.add.length),S.gh⟩))))) fun K hK=>?_
  repeat' (first|(refine hK _ ?_;clear hK K)|refine And.intro ?_ ?_|exact cl|refine .inl ⟨_,_,zho m hm (by omega) (by omega) (fun a ha=>⟨(hin a ha).1,(hin a ha).2.1⟩),?_⟩|(refine st ?_;try simp only[encM,zaN,encC,finV,tV,zcc,zbh])|refine sx ?_ (by simp only[encM,zaN,encC,finV,tV,zcc,zbh];exact rfl)|fail)
  all_goals
  refine sZ [2,3,7,8] (fun P S K=>XvMakeMap none S.nx (fun r0 ef0=>XvAlloc P 112 (S.nx+ef0.add.length) (fun r1 ef1=>XvStore P 112 (M (Eff.hp ef1 (S.nx+ef0.add.length) (Eff.hp ef0 S.nx S.hp)) ((S.nx+ef0.add.length)+ef1.add.length)) r1 r0 (fun r2 ef2=>K ⟨[(2,S.get 2),(3,S.get 3),(7,S.get 7),(8,r1)],(Eff.hp ef2 ((S.nx+ef0.add.length)+ef1.add.length) (Eff.hp ef1 (S.nx+ef0.add.length) (Eff.hp ef0 S.nx S.hp))),(((S.nx+ef0.add.length)+ef1.add.length)+ef2.add.length),S.gh⟩)))) fun K hK=>?_
  repeat' (first|(refine hK _ ?_;clear hK K)|refine And.intro ?_ ?_|exact cl|(refine st ?_;try simp only[encM,zaN,encC,finV,tV])|fail)
  all_goals
  refine sZ [2,3,7,8,9] (fun P S K=>XvAlloc P 113 S.nx (fun r0 ef0=>K ⟨[(2,S.get 2),(3,S.get 3),(7,S.get 7),(8,S.get 8),(9,r0)],(Eff.hp ef0 S.nx S.hp),(S.nx+ef0.add.length),S.gh⟩)) fun K hK=>?_
  repeat' (first|(refine hK _ ?_;clear hK K)|refine And.intro ?_ ?_|exact cl|(refine st ?_;try simp only[encM,zaN,encC,finV,tV])|fail)
  all_goals
  refine sZ [2,9] (fun P S K=>XvMakeFV (.func 58) [] [(S.get 8),(S.get 2),(S.get 3),(S.get 7),(S.get 9)] (fun r0 _=>XvStore P 113 (M S.hp S.nx) (S.get 9) r0 (fun r1 ef1=>K ⟨[(2,S.get 2),(9,S.get 9)],(Eff.hp ef1 S.nx S.hp),(S.nx+ef1.add.length),S.gh⟩))) fun K hK=>?_
  repeat' (first|(refine hK _ ?_;clear hK K)|refine And.intro ?_ ?_|exact cl|(refine st ?_;try simp only[encM,zaN,encC,finV,tV])|fail)
  all_goals
  refine sZ [10] (fun P S K=>XvLoad P 113 (M S.hp S.nx) (S.get 9) (fun r0 _=>XvFieldAddr P 54 1 (S.get 2) (fun r1 _=>XvLoad P 3 (M S.hp S.nx) r1 (fun r2 _=>XvFnIV P (M S.hp S.nx) r0 [r2,(.atom (.int .i64 0))] (fun r3 ef3=>K ⟨[(10,r3)],(Eff.hp ef3 S.nx S.hp),(S.nx+ef3.add.length),S.gh⟩))))) fun K hK=>?_
  repeat' (first|(refine hK _ ?_;clear hK K)|refine .inr (vProc.afterL 4 0 1 2 5 3 hfirst (by decide) rfl rfl rfl rfl rfl rfl rfl ?_)|(refine st ?_;try simp only[encM,zaN,encC,finV,tV])|fail)
  all_goals
  refine Tri.seq ?_
  refine sZ [10,32] (fun P S K=>XvNil (S.get 10) (fun r1 _=>XvFieldAddr P 119 1 r1 (fun r2 _=>XvLoad P 4 (M S.hp S.nx) r2 (fun r3 _=>K ⟨[(10,S.get 10),(32,r3)],S.hp,S.nx,S.gh⟩)))) fun K hK=>?_
  repeat' (first|(refine hK _ ?_;clear hK K)|refine And.intro ?_ ?_|exact cl|(refine st ?_;try simp only[encM,zaN,encC,finV,tV])|fail)
  all_goals
  refine Tri.cond rfl (fun h32=>?_) (fun h32=>?_)
  ·try (cases h32;done)
   all_goals (try simp only[CQ] at h32)
   all_goals
   refine sY [4,5] (fun P S K=>K ⟨[(4,(.atom (.slice none 0 0))),(5,(.atom (.int .i64 4)))],S.hp,S.nx,S.gh⟩) ?_
   refine Tri.asSl 4 1 rfl ?_
   all_goals
   refine Tri.ret ?_
   show ResOk _ _ _ _
   rw[zg4 (by omega) (by omega) (by assumption)]
   exact ResOk.val lsrN9 lpvN9
  try (cases h32;done)
  all_goals (try simp only[CQ] at h32)
  all_goals
  refine Tri.skip ?_
  have hm0:zck (outL m s m.start 0)=false:=by assumption
  have hlen:(outL m s m.start 0).length≤64:=by unfold zck at hm0;rw[decide_eq_false_iff_not] at hm0;omega
  refine sY [10,11] (fun P S K=>K ⟨[(10,S.get 10),(11,(.atom (.slice none 0 0)))],S.hp,S.nx,S.gh⟩) ?_
  refine Tri.born 11 1 rfl ?_
  all_goals
  refine Tri.seq ?_
  refine Tri.cut (α:=(remS:List ByteArray) ×' (remS=outL m s m.start 0)) (fun z=>(fun(remS:List ByteArray)=>(⟨[(11,.ob 0 1 0 0),(37,.it 1)],[(0,some ⟨1,[]⟩),(1,some ⟨0,[.fmp (remS.map setE),.junk]⟩)],2,[]⟩:St)) z.1) ?_ ?_
  ·skip
   rcases zhL (outL m s m.start 0) with ⟨hmm,hhas⟩|⟨hmm,hl,hhas⟩|⟨hmm,hl,hhas⟩
   · rw[hm0] at hmm;cases hmm
   all_goals
   refine rZ [11,37] (fun P S K=>XvNil (S.get 10) (fun r1 _=>XvFieldAddr P 119 0 r1 (fun r2 _=>XvLoad P 117 (M S.hp S.nx) r2 (fun r3 _=>XvRange P 117 r3 S.nx (fun r4 ef4=>K ⟨[(11,S.get 11),(37,r4)],(Eff.hp ef4 S.nx S.hp),(S.nx+ef4.add.length),S.gh⟩))))) fun K hK=>?_
   repeat' (first|(refine hK _ ?_;clear hK K)|(refine st ?_;try simp only[encM,zaN,encC,finV,tV,hhas])|fail)
   all_goals
   first|(refine⟨⟨[],hl.symm⟩,[6,7],?_⟩;exact leqN9)|(refine⟨⟨_,rfl⟩,[6,7],?_⟩;exact leqN9)
  rintro⟨remS,hrem0⟩
  refine Tri.block ?_
  refine Tri.loop (α:=(rem2:List ByteArray) ×' (out:List ByteArray) ×' (cur:Option ByteArray) ×' ((out++rem2).Perm (outL m s m.start 0))) (fun z=>(fun(rem2:List ByteArray) (out:List ByteArray) (cur:Option ByteArray)=>(⟨[(11,.ob 0 1 0 out.length),(37,.it 1)],[(0,some ⟨1,out.map encS⟩),(1,some ⟨0,[.fmp (rem2.map setE),curV cur]⟩)],2,[]⟩:St)) z.1 z.2.1 z.2.2.1) (fun z=>(fun(rem2:List ByteArray) (out:List ByteArray) (cur:Option ByteArray)=>rem2.length) z.1 z.2.1 z.2.2.1) ⟨remS,[],none,by rw[hrem0];exact List.Perm.refl _⟩ [0,1] ?_ ?_
  ·exact leqN9
  rintro⟨rem2,out,cur,hpm⟩
  refine sZ [11,37,39] (fun P S K=>XvNext (M S.hp S.nx) (S.get 37) (fun r0 ef0=>XvExtract r0 0 (fun r1 _=>K ⟨[(11,S.get 11),(37,S.get 37),(39,r1)],(Eff.hp ef0 S.nx S.hp),(S.nx+ef0.add.length),S.gh⟩))) fun K hK=>?_
  repeat' (first|(refine hK _ ?_;clear hK K)|(refine(⟨fun hrem=>?_,fun jn hjn=>?_⟩:zoE _ _ _))|(refine st ?_;try simp only[encM,zaN,encC,finV,tV,zfC,zhq])|fail)
  all_goals
  refine Tri.seq ?_
  refine Tri.cond rfl (fun h39=>?_) (fun h39=>?_)
  ·try (cases h39;done)
   all_goals (try simp only[CQ] at h39)
   all_goals
   refine Tri.skip ?_
   refine Tri.block ?_
   have hjl:jn<rem2.length:=by simpa using hjn
   have hcur:rem2[jn]? = some rem2[jn]:=List.getElem?_eq_getElem hjl
   have hlo:=hpm.length_eq
   rw[List.length_append] at hlo
   refine sZ [11,12,37] (fun P S K=>XvEntry (M S.hp S.nx) (S.get 37) (fun r0 _=>XvExtract r0 0 (fun r1 _=>K ⟨[(11,S.get 11),(12,r1),(37,S.get 37)],S.hp,S.nx,S.gh⟩))) fun K hK=>?_
   repeat' (first|(refine hK _ ?_;clear hK K)|refine And.intro ?_ ?_|(refine st ?_;try simp only[encM,zaN,encC,finV,tV,hcur,curV,setE])|fail)
   all_goals
   refine rZ [11,37] (fun P S K=>XvBuildS P 37 1 S.nx [(0,(S.get 12))] (fun r2 ef2=>(37=37∧XvAppend P 37 (M (Eff.hp ef2 S.nx S.hp) (S.nx+ef2.add.length)) (S.get 11) r2 (fun r3 ef3=>K ⟨[(11,r3),(37,S.get 37)],(Eff.hp ef3 (S.nx+ef2.add.length) (Eff.hp ef2 S.nx S.hp)),((S.nx+ef2.add.length)+ef3.add.length),S.gh⟩)))) fun K hK=>?_
   repeat' (first|(refine hK _ ?_;clear hK K)|refine And.intro ?_ ?_|exact cl|(refine st ?_;try simp only[encM,zaN,encC,finV,tV])|fail)
   all_goals
   refine⟨⟨rem2.eraseIdx jn,out++[rem2[jn]],some rem2[jn],?_⟩,[3,1],by dsimp only;rw[List.length_eraseIdx_of_lt hjl];omega,?_⟩
   · rw[List.append_assoc]
     exact((zhS rem2 jn hjl).append_left out).trans hpm
   · exact leqN9
  try (cases h39;done)
  all_goals (try simp only[CQ] at h39)
  all_goals
  refine Tri.exit ?_
  have hlo:=hpm.length_eq
  rw[List.length_append] at hlo
  refine sZ [11] (fun P S K=>XvFnIV P (M S.hp S.nx) (.fn 62 []) [(S.get 11)] (fun r1 ef1=>K ⟨[(11,S.get 11)],(Eff.hp ef1 S.nx S.hp),(S.nx+ef1.add.length),S.gh⟩)) fun K hK=>?_
  repeat' (first|(refine hK _ ?_;clear hK K)|refine .inr (vProc.row 0 1 (zos _ (by omega)) rfl (zaq _) (zaq _) rfl rfl rfl (zre _) ?_)|(refine st ?_;try simp only[encM,zaN,encC,finV,tV])|fail)
  all_goals
  refine sY [4,5] (fun P S K=>K ⟨[(4,(S.get 11)),(5,(.atom (.int .i64 0)))],S.hp,S.nx,S.gh⟩) ?_
  all_goals
  refine Tri.ret ?_
  show ResOk _ _ _ _
  obtain rfl:rem2=[]:=by simpa using hrem
  rw[List.append_nil] at hpm
  rw[zj8 (by omega) (by omega) hm0,←zhp hpm,←zcO out]
  exact ResOk.frz 5 lstN9 lpvN9
theorem zev{p:Prop}(h:p:=by(refine⟨4,?_,?_,rfl,by simp,rfl,fun _ h _=>absurd h (Nat.not_lt_zero _)⟩<;>(simp only[List.forall_mem_cons];repeat' (first|refine And.intro ?_ ?_|(intro p hp;exact absurd hp List.not_mem_nil)|rfl|exact sp (zaF _)|exact sp (zaH _)|exact(zau _ _ _ (zah _)).trans (zbE _ _).symm|exact(zau _ _ _ (zag _)).trans (zbD _ _).symm|exact sp (by assumption)|(intro o ho;cases ho;refine⟨by decide,?_⟩;first|(refine LeqS.row rfl ?_ ?_;(next=>(first|rfl|(simp only[List.map_append,List.map_cons,List.map_nil,List.append_nil,List.nil_append,List.append_assoc,List.cons_append,encI,encS,ints,strs];done)|(simp[encI,encS,ints,strs,resF,mkB,slB,encF,zfe,List.map_set];done)));(next=>(first|rfl|exact zao _|exact zaq _|exact zas _|exact zar _|exact zaz _|(simp[zap,zao,zaq,zas,zar,zaE,PV.pure,zah,zag,zaF,zaz,zaH];done)));done)|refine⟨_,rfl,rfl,?_⟩)|(simp[St.born,St.known,retV,St.get,St.obj,lk,sealed,PV.ren,renL,rmap,AO.ren,ints,strs,encI,encS,zan,zam,zal,zak,zaD,zaC,zaB,zaA,zaW,zaV,zaU,zaT,zbB,encF,zaa,zab,zac,encX,zad,zai,zaj,zat,zaJ,zav,zaQ,zaw,zaR]<;>omega))));first|done|fail):p:=h
theorem lstM43{p:Prop}(h:p:=by(first|rfl|(simp[St.born,St.known,retV,St.get,St.obj,lk,sealed,PV.ren,renL,rmap,AO.ren,ints,strs,encI,encS,zan,zam,zal,zak,zaD,zaC,zaB,zaA,zaW,zaV,zaU,zaT,zbB,encF,zaa,zab,zac,encX,zad,zai,zaj,zat,zaJ,zav,zaQ,zaw,zaR,zaG,List.take_length];done));first|done|fail):p:=h
theorem lpvM43{p:Prop}(h:p:=by(first|rfl|(simp[zah,zag,PV.pure,zaE,zao,zaq,zas,zar,zaF,zaz,zaH];done));first|done|fail):p:=h
theorem lsrM43{p:Prop}(h:p:=by(first|rfl|(simp[St.born,St.known,retV,St.get,St.obj,lk,sealed,PV.ren,renL,rmap,AO.ren,ints,strs,encI,encS,zan,zam,zal,zak,zaD,zaC,zaB,zaA,zaW,zaV,zaU,zaT,zbB,encF,zaa,zab,zac,encX,zad,zai,zaj,zat,zaJ,zav,zaQ,zaw,zaR];done));first|done|fail):p:=h
def resF (c:UInt8) (f:FormD):ByteArray:=mkB c++f.lem++slB++f.cls
def resl (x:LexD) (w:ByteArray):List ByteArray:=(zcJ x w).map (resF 49)++(zcI x w).map (resF 50)++[mkB 51++w++slB]
def resR (x:LexD) (w:ByteArray):List ByteArray:=if zbK w=true then zcu (resl x w) else []
def leS (a b:ByteArray):Prop:=bl a≤bl b
theorem leS_of{a b:ByteArray}(h:Op.bytesLess a.toList b.toList=false):leS b a:=by
  have:sLt a b=false:=h
  rw[ziZ] at this
  exact List.not_lt.1 (of_decide_eq_false this)
theorem leS_lt{a b:ByteArray}(h:Op.bytesLess a.toList b.toList=true):leS a b:=by
  have:sLt a b=true:=h
  rw[ziZ] at this
  exact List.le_of_lt (of_decide_eq_true this)
theorem zq0{a b c:ByteArray}(h:leS a b) (k:leS b c):leS a c:=List.le_trans h k
def SelI (o:List ByteArray) (i:Nat):Prop:=∀a b,a<i→a<b→b<o.length→leS (ls o a) (ls o b)
theorem zfR{o:List ByteArray}{k:Nat}(h:k<o.length):ls o k=o[k]:=by simp[ls,List.getD_eq_getElem?_getD,h]
theorem ls_set{o:List ByteArray}{i k:Nat}{v:ByteArray}(h:k<o.length):ls (o.set i v) k=if i=k then v else ls o k:=by
  rw[zfR (by rw[List.length_set];exact h),List.getElem_set,zfR h]
def zfe (o:List ByteArray) (i k:Nat):List ByteArray:=(o.set i (ls o k)).set k (ls o i)
theorem zdv (o:List ByteArray) (i k:Nat):(zfe o i k).length=o.length:=by simp[zfe]
theorem ziT{o:List ByteArray}{i k:Nat}(hi:i<o.length) (hk:k<o.length):(zfe o i k).Perm o:=by
  unfold zfe;rw[zfR hi,zfR hk];exact List.set_set_perm hi hk
theorem zh5{o:List ByteArray}{i k j:Nat}(hj:j<o.length):ls (zfe o i k) j=if k=j then ls o i else if i=j then ls o k else ls o j:=by
  unfold zfe;rw[ls_set (by rw[List.length_set];exact hj),ls_set hj]
theorem SelI.swap{o:List ByteArray}{i k:Nat}(h:SelI o i) (hik:i<k) (hk:k<o.length):SelI (zfe o i k) i:=by
  intro a b ha hab hb
  rw[zdv] at hb
  rw[zh5 (by omega),zh5 hb,if_neg (by omega),if_neg (by omega)]
  split
  · exact h a i ha ha (by omega)
  · split
    · exact h a k ha (by omega) hk
    · exact h a b ha hab hb
theorem zma{o:List ByteArray}{i k:Nat}(hik:i<k) (hk:k<o.length) (h:∀j,i<j→j<k→leS (ls o i) (ls o j)) (hl:Op.bytesLess (ls o k).toList (ls o i).toList=true):∀j,i<j→j<k+1→leS (ls (zfe o i k) i) (ls (zfe o i k) j):=fun j h1 h2=>by
  rw[zh5 (by omega),zh5 (by omega),if_neg (by omega),if_pos rfl]
  split
  · exact leS_lt hl
  · rw[if_neg (by omega)]
    exact zq0 (leS_lt hl) (h j h1 (by omega))
theorem zmb{o:List ByteArray}{i k:Nat}(h:∀j,i<j→j<k→leS (ls o i) (ls o j)) (hl:Op.bytesLess (ls o k).toList (ls o i).toList=false):∀j,i<j→j<k+1→leS (ls o i) (ls o j):=fun j h1 h2=>by
  rcases Nat.lt_succ_iff_lt_or_eq.1 h2 with h3|rfl
  · exact h j h1 h3
  · exact leS_of hl
theorem sel_next{o:List ByteArray}{i k:Nat}(h:SelI o i) (hm:∀j,i<j→j<k→leS (ls o i) (ls o j)) (hk:o.length≤k):SelI o (i+1):=fun a b ha hab hb=>by
  rcases Nat.lt_succ_iff_lt_or_eq.1 ha with ha|rfl
  · exact h a b ha hab hb
  · exact hm b hab (by omega)
theorem znv{o base:List ByteArray}(h:SelI o o.length) (hp:o.Perm base):o=zcu base:=by
  have e:∀l:List ByteArray,(l.map bl).map (fun l=>(⟨l.toArray⟩:ByteArray))=l:=fun l=>by rw[List.map_map];exact List.map_id'' (fun s=>zhE s) l
  rw[←e o]
  unfold zcu
  congr 1
  have tr:∀a b c:List UInt8,decide (a≤b)=true→decide (b≤c)=true→decide (a≤c)=true:=fun a b c h1 h2=>by
    rw[decide_eq_true_eq] at *;exact List.le_trans h1 h2
  have to:∀a b:List UInt8,(decide (a≤b) || decide (b≤a))=true:=fun a b=>by
    rw[Bool.or_eq_true,decide_eq_true_eq,decide_eq_true_eq];exact List.le_total a b
  refine List.Perm.eq_of_pairwise (le:=fun a b=>decide (a≤b)=true) (fun a b _ _ h1 h2=>?_) ?_ (List.pairwise_mergeSort tr to _) ((hp.map bl).trans (List.mergeSort_perm _ _).symm)
  · rw[decide_eq_true_eq] at h1 h2
    exact List.le_antisymm h1 h2
  · rw[List.pairwise_map,List.pairwise_iff_getElem]
    intro a b ha hb hab
    have:=h a b ha hab hb
    rw[zfR ha,zfR hb] at this
    exact decide_eq_true this
theorem mem_found{x:LexD}{w:ByteArray}{f:FormD}:f∈zcJ x w↔f∈x.forms∧f.word=w:=by
  unfold zcJ zbC;rw[mem_foldl_putF,List.mem_filter,decide_eq_true_eq];simp
theorem mem_ruled{x:LexD}{w:ByteArray}{f:FormD}:f∈zcI x w↔∃r,r∈x.rules∧∃s,zdi r w=some s∧f=⟨w,s,r.cls⟩:=by
  unfold zcI zbP;rw[mem_foldl_putF,List.mem_filterMap]
  simp only[Option.map_eq_some_iff,List.not_mem_nil,or_false]
  constructor
  · rintro⟨r,hr,s,hs,e⟩;exact⟨r,hr,s,hs,e.symm⟩
  · rintro⟨r,hr,s,hs,e⟩;exact⟨r,hr,s,hs,e.symm⟩
theorem znA{r:RuleD}{w s:ByteArray}(h:zdi r w=some s):s.size≤w.size+r.put.size:=by
  unfold zdi at h
  simp only[] at h
  split at h
  · cases h
  · cases h
    rw[ByteArray.size_append,ByteArray.size_extract];omega
theorem zli{x:LexD}{w:ByteArray}(hv:za7 x=0) {k:Nat}(hk:k<(zcJ x w).length):(fF (zcJ x w) k).lem.size≤24∧(fF (zcJ x w) k).cls.size≤8:=by
  have:=mem_found.1 (zb0 hk)
  have h:=zgi ((zcC hv).1 _ this.1) ⟨2,[]⟩
  exact⟨h.2.2.2.2.1,h.2.2.2.2.2.1⟩
theorem zk1{x:LexD}{w:ByteArray}(hv:za7 x=0) {k:Nat}(hk:k<(zcI x w).length):(fF (zcI x w) k).lem.size≤w.size+8∧(fF (zcI x w) k).cls.size≤8:=by
  obtain⟨r,hr,s,hs,e⟩:=mem_ruled.1 (zb0 hk)
  have h:=zd9 ((zcC hv).2.1 _ hr) ⟨2,[]⟩
  have:=znA hs
  rw[e]
  exact⟨by have:=h.2.2.2.2.2.2.2.2.1;show s.size≤_;omega,h.2.2.2.2.2.2.2.2.2.1⟩
theorem zjP{x:LexD}{w:ByteArray}(hv:za7 x=0):(zcJ x w).length≤64∧(zcI x w).length≤32:=by
  have h:=zcC hv
  have h1:=zbO (zbC x w) []
  have h2:=zbO (zbP x w) []
  have h3:(zbC x w).length≤x.forms.length:=List.length_filter_le _ _
  have h4:(zbP x w).length≤x.rules.length:=List.length_filterMap_le _ _
  have e1:(zcJ x w).length=((zbC x w).foldl putF []).length:=rfl
  have e2:(zcI x w).length=((zbP x w).foldl putF []).length:=rfl
  have:=h.2.2.1
  have:=h.2.2.2
  simp only[List.length_nil] at h1 h2
  omega
theorem resl_len{x:LexD}{w:ByteArray}(hv:za7 x=0):(resl x w).length≤97:=by
  have:=zjP (w:=w) hv
  unfold resl;simp only[List.length_append,List.length_map,List.length_cons,List.length_nil];omega
theorem zgr{g:FormD→ByteArray}{l:List FormD}{k:Nat}(h:k<l.length):(l.take (k+1)).map g=(l.take k).map g++[g (fF l k)]:=by
  rw[ze3 h,List.map_append];rfl
theorem zic (x:LexD) (w:ByteArray) (hx:HeldX x) (hv:za7 x=0) (hw:w.size≤4096):Pure Tryz.prog 24 [encX x,encS w] (strs (resR x w)) []:=by
  obtain⟨hF,hR⟩:=zjP (w:=w) hv
  obtain⟨F,hFe⟩:∃F,zcJ x w=F:=⟨_,rfl⟩
  obtain⟨R,hRe⟩:∃R,zcI x w=R:=⟨_,rfl⟩
  have hfs:=fun k hk=>zli (x:=x) (w:=w) (k:=k) hv hk
  have hrs:=fun k hk=>zk1 (x:=x) (w:=w) (k:=k) hv hk
  have hfound:=zk4 x w hx (by omega)
  have hrl:resl x w=F.map (resF 49)++R.map (resF 50)++[mkB 51++w++slB]:=by rw[←hFe,←hRe];rfl
  rw[hFe] at hF hfs hfound
  rw[hRe] at hR hrs hfound
  have hm1:∀c:UInt8,(⟨#[c]⟩:ByteArray).size=1:=fun _=>rfl
  have hs49:=hm1 49
  have hs50:=hm1 50
  have hs51:=hm1 51
  have hs47:=hm1 47
  refine Pure.intro (ts:=[4]) Tryz.func24 (by kernel_rfl) rfl rfl rfl (Nat.le_of_ble_eq_true rfl) ?_ ?_
  · simp[zaF,encS,PV.pure,zaE]
  refine sZ [1,2] (fun P S K=>XvBox S.nx (S.get 0) (fun r0 ef0=>K ⟨[(1,S.get 1),(2,r0)],(Eff.hp ef0 S.nx S.hp),(S.nx+ef0.add.length),S.gh⟩)) fun K hK=>?_
  repeat' (first|(refine hK _ ?_;clear hK K)|refine And.intro ?_ ?_|exact cl|(refine st ?_;try simp only[encX,zaa,zab,zac,encF])|fail)
  all_goals
  refine Tri.seq ?_
  refine sZ [1,2,15] (fun P S K=>XvFnIV P (M S.hp S.nx) (.fn 46 []) [(S.get 1)] (fun r1 ef1=>XvUn .not r1 (fun r2 _=>K ⟨[(1,S.get 1),(2,S.get 2),(15,r2)],(Eff.hp ef1 S.nx S.hp),(S.nx+ef1.add.length),S.gh⟩))) fun K hK=>?_
  repeat' (first|(refine hK _ ?_;clear hK K)|refine .inl ⟨_,_,zhd w (by omega),?_⟩|(refine st ?_;try simp only[encX,zaa,zab,zac,encF])|fail)
  all_goals try simp (disch:=omega) only[zaf,zae]
  all_goals
  refine Tri.cond rfl (fun h15=>?_) (fun h15=>?_)
  ·try (cases h15;done)
   all_goals (try simp only[CQ] at h15)
   all_goals
   refine sY [4] (fun P S K=>K ⟨[(4,(.atom (.slice none 0 0)))],S.hp,S.nx,S.gh⟩) ?_
   refine Tri.asSl 4 1 rfl ?_
   all_goals
   refine Tri.ret ?_
   show ResOk _ _ _ _
   rw[show resR x w=[] from if_neg (by rw[h15];decide)]
   exact ResOk.val lsrM43 lpvM43
  try (cases h15;done)
  all_goals (try simp only[CQ] at h15)
  all_goals
  refine Tri.skip ?_
  refine sZ [1,5,6] (fun P S K=>XvLoad P 32 (M S.hp S.nx) (S.get 2) (fun r0 _=>XvFnIV P (M S.hp S.nx) (.fn 47 []) [r0,(S.get 1)] (fun r2 ef2=>XvExtract r2 0 (fun r4 _=>XvExtract r2 1 (fun r5 _=>K ⟨[(1,S.get 1),(5,r4),(6,r5)],(Eff.hp ef2 S.nx S.hp),(S.nx+ef2.add.length),S.gh⟩))))) fun K hK=>?_
  repeat' (first|(refine hK _ ?_;clear hK K)|refine And.intro ?_ ?_|refine .inl ⟨_,_,hfound,?_⟩|(refine st ?_;try simp only[encX,zaa,zab,zac,encF])|fail)
  all_goals
  refine sY [1,5,6,7] (fun P S K=>K ⟨[(1,S.get 1),(5,S.get 5),(6,S.get 6),(7,(.atom (.slice none 0 0)))],S.hp,S.nx,S.gh⟩) ?_
  refine Tri.born 7 1 rfl ?_
  all_goals
  refine Tri.seq ?_
  refine sY [1,5,6,7,8] (fun P S K=>K ⟨[(1,S.get 1),(5,S.get 5),(6,S.get 6),(7,S.get 7),(8,(.atom (.int .i64 0)))],S.hp,S.nx,S.gh⟩) ?_
  all_goals
  refine Tri.block ?_
  refine Tri.loop (α:=(o:List ByteArray) ×' (i:Nat) ×' (i≤F.length∧o.length=i∧o=(F.take i).map (resF 49))) (fun z=>(fun(o:List ByteArray) (i:Nat)=>(⟨[(1,encS w),(5,zaa F),(6,zaa R),(7,.ob 0 1 0 o.length),(8,encI i)],[(0,some ⟨1,o.map encS⟩)],1,[]⟩:St)) z.1 z.2.1) (fun z=>(fun(o:List ByteArray) (i:Nat)=>F.length - i) z.1 z.2.1) ⟨[],0,⟨Nat.zero_le _,rfl,rfl⟩⟩ [1] ?_ ?_
  ·exact zev
  rintro⟨o,i,⟨hi,hol,ho⟩⟩
  refine Tri.seq ?_
  refine sZ [1,5,6,7,8,25] (fun P S K=>XvLen P 28 (M S.hp S.nx) (S.get 5) (fun r2 _=>XvBinOV P .lss 3 (.tmp 24) (S.get 8) r2 (fun r3 _=>K ⟨[(1,S.get 1),(5,S.get 5),(6,S.get 6),(7,S.get 7),(8,S.get 8),(25,r3)],S.hp,S.nx,S.gh⟩))) fun K hK=>?_
  repeat' (first|(refine hK _ ?_;clear hK K)|refine And.intro ?_ ?_|exact cl|(refine st ?_;try simp only[encX,zaa,zab,zac,encF])|fail)
  all_goals
  refine Tri.cond rfl (fun h25=>?_) (fun h25=>?_)
  ·try (cases h25;done)
   all_goals (try simp only[CQ] at h25)
   all_goals
   refine Tri.skip ?_
   refine Tri.seq ?_
   refine Tri.block ?_
   have hil:i<F.length:=by omega
   obtain⟨hz1,hz2⟩:=hfs i hil
   have hz3:((⟨#[49]⟩:ByteArray)++(fF F i).lem).size=1+(fF F i).lem.size:=by rw[ByteArray.size_append,hs49]
   have hz4:((⟨#[49]⟩:ByteArray)++(fF F i).lem++(⟨#[47]⟩:ByteArray)).size=1+(fF F i).lem.size+1:=by rw[ByteArray.size_append,hz3,hs47]
   refine rD 17 [1,5,6,7,8] (fun P GD S K=>XvIndexAddr P 28 (S.get 5) (S.get 8) (fun r3 ef3=>XvFieldAddr P 76 1 r3 (fun r4 ef4=>XvLoad P 9 (M S.hp S.nx) r4 (fun r5 ef5=>XvBinOV P .add 9 (.tmp 33) (.atom (.string { data := #[49] })) r5 (fun r6 ef6=>XvBinOV P .add 9 (.const (.string { data := #[47] })) r6 (.atom (.string { data := #[47] })) (fun r7 ef7=>XvIndexAddr P 28 (S.get 5) (S.get 8) (fun r10 ef10=>XvFieldAddr P 76 2 r10 (fun r11 ef11=>XvLoad P 9 (M S.hp S.nx) r11 (fun r12 ef12=>XvBinOV P .add 9 (.tmp 40) r7 r12 (fun r13 ef13=>XvBuildS P 37 1 S.nx [(0,r13)] (fun r14 ef14=>(37=37∧XvAppend P 37 (M (Eff.hp ef14 S.nx S.hp) (S.nx+ef14.add.length)) (S.get 7) r14 (fun r15 ef15=>(trOk S.nx GD [⟨S.nx,0,[],[],[]⟩,⟨S.nx,0,[],[],[]⟩,⟨S.nx,0,[],[],[]⟩,⟨S.nx,0,ef3.rd,[],[]⟩,⟨S.nx,0,ef4.rd,[],[]⟩,⟨S.nx,0,ef5.rd,[],[]⟩,⟨S.nx,0,ef6.rd,[],[]⟩,⟨S.nx,0,ef7.rd,[],[]⟩,⟨S.nx,0,[],[],[]⟩,⟨S.nx,0,[],[],[]⟩,⟨S.nx,0,ef10.rd,[],[]⟩,⟨S.nx,0,ef11.rd,[],[]⟩,⟨S.nx,0,ef12.rd,[],[]⟩,⟨S.nx,0,ef13.rd,[],[]⟩,(Eff.tr ef14 S.nx),(Eff.tr ef15 (S.nx+ef14.add.length)),⟨((S.nx+ef14.add.length)+ef15.add.length),0,[],[],[]⟩]=true∧K ⟨[(1,S.get 1),(5,S.get 5),(6,S.get 6),(7,r15),(8,S.get 8)],(Eff.hp ef15 (S.nx+ef14.add.length) (Eff.hp ef14 S.nx S.hp)),((S.nx+ef14.add.length)+ef15.add.length),S.gh⟩)))))))))))))) fun K hK=>?_
   repeat' (first|(refine hK _ ?_;clear hK K)|(refine(?_:trOk _ _ _=true);(try simp only[zaS hil]);kernel_rfl)|refine And.intro ?_ ?_|exact cl|(refine st ?_;try simp only[encX,zaa,zab,zac,encF,zaS hil])|fail)
   all_goals try simp (disch:=omega) only[zaf,zae]
   all_goals
   refine rY [1,5,6,7,8] (fun P S K=>XvBinOV P .add 3 (.const (.int .i64 1)) (S.get 8) (.atom (.int .i64 1)) (fun r1 _=>K ⟨[(1,S.get 1),(5,S.get 5),(6,S.get 6),(7,S.get 7),(8,r1)],S.hp,S.nx,S.gh⟩)) ?_
   all_goals try simp (disch:=omega) only[zaf,zae]
   all_goals
   refine⟨⟨o++[resF 49 (fF F i)],i+1,by omega,by simp[hol],by rw[zgr hil,←ho]⟩,[2],by dsimp only;omega,?_⟩
   exact zev
  try (cases h25;done)
  all_goals (try simp only[CQ] at h25)
  all_goals
  refine Tri.exit ?_
  refine Tri.seq ?_
  refine sY [1,6,7,9] (fun P S K=>K ⟨[(1,S.get 1),(6,S.get 6),(7,S.get 7),(9,(.atom (.int .i64 0)))],S.hp,S.nx,S.gh⟩) ?_
  all_goals
  refine Tri.block ?_
  refine Tri.loop (α:=(q:List ByteArray) ×' (j:Nat) ×' (j≤R.length∧q.length=F.length+j∧q=F.map (resF 49)++(R.take j).map (resF 50))) (fun z=>(fun(q:List ByteArray) (j:Nat)=>(⟨[(1,encS w),(6,zaa R),(7,.ob 0 1 0 q.length),(9,encI j)],[(0,some ⟨1,q.map encS⟩)],1,[]⟩:St)) z.1 z.2.1) (fun z=>(fun(q:List ByteArray) (j:Nat)=>R.length - j) z.1 z.2.1) ⟨o,0,⟨Nat.zero_le _,by omega,by rw[ho,List.take_of_length_le (by omega)];simp⟩⟩ [0] ?_ ?_
  ·exact zev
  rintro⟨q,j,⟨hj,hql,hq⟩⟩
  refine Tri.seq ?_
  refine sZ [1,6,7,9,47] (fun P S K=>XvLen P 28 (M S.hp S.nx) (S.get 6) (fun r2 _=>XvBinOV P .lss 3 (.tmp 46) (S.get 9) r2 (fun r3 _=>K ⟨[(1,S.get 1),(6,S.get 6),(7,S.get 7),(9,S.get 9),(47,r3)],S.hp,S.nx,S.gh⟩))) fun K hK=>?_
  repeat' (first|(refine hK _ ?_;clear hK K)|refine And.intro ?_ ?_|exact cl|(refine st ?_;try simp only[encX,zaa,zab,zac,encF])|fail)
  all_goals
  refine Tri.cond rfl (fun h47=>?_) (fun h47=>?_)
  ·try (cases h47;done)
   all_goals (try simp only[CQ] at h47)
   all_goals
   refine Tri.skip ?_
   refine Tri.seq ?_
   refine Tri.block ?_
   have hjl:j<R.length:=by omega
   obtain⟨hz1,hz2⟩:=hrs j hjl
   have hz3:((⟨#[50]⟩:ByteArray)++(fF R j).lem).size=1+(fF R j).lem.size:=by rw[ByteArray.size_append,hs50]
   have hz4:((⟨#[50]⟩:ByteArray)++(fF R j).lem++(⟨#[47]⟩:ByteArray)).size=1+(fF R j).lem.size+1:=by rw[ByteArray.size_append,hz3,hs47]
   refine rD 17 [1,6,7,9] (fun P GD S K=>XvIndexAddr P 28 (S.get 6) (S.get 9) (fun r3 ef3=>XvFieldAddr P 76 1 r3 (fun r4 ef4=>XvLoad P 9 (M S.hp S.nx) r4 (fun r5 ef5=>XvBinOV P .add 9 (.tmp 55) (.atom (.string { data := #[50] })) r5 (fun r6 ef6=>XvBinOV P .add 9 (.const (.string { data := #[47] })) r6 (.atom (.string { data := #[47] })) (fun r7 ef7=>XvIndexAddr P 28 (S.get 6) (S.get 9) (fun r10 ef10=>XvFieldAddr P 76 2 r10 (fun r11 ef11=>XvLoad P 9 (M S.hp S.nx) r11 (fun r12 ef12=>XvBinOV P .add 9 (.tmp 62) r7 r12 (fun r13 ef13=>XvBuildS P 37 1 S.nx [(0,r13)] (fun r14 ef14=>(37=37∧XvAppend P 37 (M (Eff.hp ef14 S.nx S.hp) (S.nx+ef14.add.length)) (S.get 7) r14 (fun r15 ef15=>(trOk S.nx GD [⟨S.nx,0,[],[],[]⟩,⟨S.nx,0,[],[],[]⟩,⟨S.nx,0,[],[],[]⟩,⟨S.nx,0,ef3.rd,[],[]⟩,⟨S.nx,0,ef4.rd,[],[]⟩,⟨S.nx,0,ef5.rd,[],[]⟩,⟨S.nx,0,ef6.rd,[],[]⟩,⟨S.nx,0,ef7.rd,[],[]⟩,⟨S.nx,0,[],[],[]⟩,⟨S.nx,0,[],[],[]⟩,⟨S.nx,0,ef10.rd,[],[]⟩,⟨S.nx,0,ef11.rd,[],[]⟩,⟨S.nx,0,ef12.rd,[],[]⟩,⟨S.nx,0,ef13.rd,[],[]⟩,(Eff.tr ef14 S.nx),(Eff.tr ef15 (S.nx+ef14.add.length)),⟨((S.nx+ef14.add.length)+ef15.add.length),0,[],[],[]⟩]=true∧K ⟨[(1,S.get 1),(6,S.get 6),(7,r15),(9,S.get 9)],(Eff.hp ef15 (S.nx+ef14.add.length) (Eff.hp ef14 S.nx S.hp)),((S.nx+ef14.add.length)+ef15.add.length),S.gh⟩)))))))))))))) fun K hK=>?_
   repeat' (first|(refine hK _ ?_;clear hK K)|(refine(?_:trOk _ _ _=true);(try simp only[zaS hjl]);kernel_rfl)|refine And.intro ?_ ?_|exact cl|(refine st ?_;try simp only[encX,zaa,zab,zac,encF,zaS hjl])|fail)
   all_goals try simp (disch:=omega) only[zaf,zae]
   all_goals
   refine rY [1,6,7,9] (fun P S K=>XvBinOV P .add 3 (.const (.int .i64 1)) (S.get 9) (.atom (.int .i64 1)) (fun r1 _=>K ⟨[(1,S.get 1),(6,S.get 6),(7,S.get 7),(9,r1)],S.hp,S.nx,S.gh⟩)) ?_
   all_goals try simp (disch:=omega) only[zaf,zae]
   all_goals
   refine⟨⟨q++[resF 50 (fF R j)],j+1,by omega,by simp[hql];omega,by rw[zgr hjl,←List.append_assoc,←hq]⟩,[2],by dsimp only;omega,?_⟩
   exact zev
  try (cases h47;done)
  all_goals (try simp only[CQ] at h47)
  all_goals
  refine Tri.exit ?_
  have hz5:((⟨#[51]⟩:ByteArray)++w).size=1+w.size:=by rw[ByteArray.size_append,hs51]
  have hqe:q++[mkB 51++w++slB]=resl x w:=by rw[hrl,hq,List.take_of_length_le (by omega)]
  refine sZ [7] (fun P S K=>XvBinOV P .add 9 (.tmp 67) (.atom (.string { data := #[51] })) (S.get 1) (fun r2 _=>XvBinOV P .add 9 (.const (.string { data := #[47] })) r2 (.atom (.string { data := #[47] })) (fun r3 _=>XvBuildS P 37 1 S.nx [(0,r3)] (fun r4 ef4=>(37=37∧XvAppend P 37 (M (Eff.hp ef4 S.nx S.hp) (S.nx+ef4.add.length)) (S.get 7) r4 (fun r5 ef5=>K ⟨[(7,r5)],(Eff.hp ef5 (S.nx+ef4.add.length) (Eff.hp ef4 S.nx S.hp)),((S.nx+ef4.add.length)+ef5.add.length),S.gh⟩)))))) fun K hK=>?_
  repeat' (first|(refine hK _ ?_;clear hK K)|refine And.intro ?_ ?_|exact cl|(refine st ?_;try simp only[encX,zaa,zab,zac,encF])|fail)
  all_goals try simp (disch:=omega) only[zaf,zae]
  all_goals
  refine Tri.seq ?_
  refine sY [7,10] (fun P S K=>K ⟨[(7,S.get 7),(10,(.atom (.int .i64 0)))],S.hp,S.nx,S.gh⟩) ?_
  all_goals
  refine Tri.block ?_
  refine Tri.loop (α:=(o:List ByteArray) ×' (i:Nat) ×' (i≤o.length∧o.length=q.length+1∧o.Perm (resl x w)∧SelI o i)) (fun z=>(fun(o:List ByteArray) (i:Nat)=>(⟨[(7,.ob 0 1 0 o.length),(10,encI i)],[(0,some ⟨1,o.map encS⟩)],1,[]⟩:St)) z.1 z.2.1) (fun z=>(fun(o:List ByteArray) (i:Nat)=>o.length - i) z.1 z.2.1) ⟨q++[mkB 51++w++slB],0,⟨Nat.zero_le _,by simp,by rw[hqe],fun a b ha=>absurd ha (Nat.not_lt_zero _)⟩⟩ [2] ?_ ?_
  ·exact zev
  rintro⟨o,i,⟨hi4,ho4,hperm,hsel⟩⟩
  refine Tri.seq ?_
  refine sZ [7,10,75] (fun P S K=>XvLen P 37 (M S.hp S.nx) (S.get 7) (fun r2 _=>XvBinOV P .lss 3 (.tmp 74) (S.get 10) r2 (fun r3 _=>K ⟨[(7,S.get 7),(10,S.get 10),(75,r3)],S.hp,S.nx,S.gh⟩))) fun K hK=>?_
  repeat' (first|(refine hK _ ?_;clear hK K)|refine And.intro ?_ ?_|exact cl|(refine st ?_;try simp only[encX,zaa,zab,zac,encF])|fail)
  all_goals
  refine Tri.cond rfl (fun h75=>?_) (fun h75=>?_)
  ·try (cases h75;done)
   all_goals (try simp only[CQ] at h75)
   all_goals
   refine Tri.skip ?_
   refine Tri.seq ?_
   refine Tri.block ?_
   refine sY [7,10,11] (fun P S K=>XvBinOV P .add 3 (.const (.int .i64 1)) (S.get 10) (.atom (.int .i64 1)) (fun r1 _=>K ⟨[(7,S.get 7),(10,S.get 10),(11,r1)],S.hp,S.nx,S.gh⟩)) ?_
   all_goals try simp (disch:=omega) only[zaf,zae]
   all_goals
   refine Tri.block ?_
   refine Tri.loop (α:=(u:List ByteArray) ×' (k:Nat) ×' (i<k∧k≤u.length∧u.length=q.length+1∧u.Perm (resl x w)∧SelI u i∧(∀j,i<j→j<k→leS (ls u i) (ls u j)))) (fun z=>(fun(u:List ByteArray) (k:Nat)=>(⟨[(7,.ob 0 1 0 u.length),(10,encI i),(11,encI k)],[(0,some ⟨1,u.map encS⟩)],1,[]⟩:St)) z.1 z.2.1) (fun z=>(fun(u:List ByteArray) (k:Nat)=>u.length - k) z.1 z.2.1) ⟨o,i+1,⟨by omega,by omega,ho4,hperm,hsel,fun j h1 h2=>by omega⟩⟩ [0] ?_ ?_
   ·exact zev
   rintro⟨u,k,⟨hik,hk6,hu6,huperm,husel,hmin⟩⟩
   refine Tri.seq ?_
   refine sZ [7,10,11,83] (fun P S K=>XvLen P 37 (M S.hp S.nx) (S.get 7) (fun r2 _=>XvBinOV P .lss 3 (.tmp 82) (S.get 11) r2 (fun r3 _=>K ⟨[(7,S.get 7),(10,S.get 10),(11,S.get 11),(83,r3)],S.hp,S.nx,S.gh⟩))) fun K hK=>?_
   repeat' (first|(refine hK _ ?_;clear hK K)|refine And.intro ?_ ?_|exact cl|(refine st ?_;try simp only[encX,zaa,zab,zac,encF])|fail)
   all_goals
   refine Tri.cond rfl (fun h83=>?_) (fun h83=>?_)
   ·try (cases h83;done)
    all_goals (try simp only[CQ] at h83)
    all_goals
    refine Tri.skip ?_
    refine Tri.seq ?_
    refine Tri.block ?_
    have hku:k<u.length:=by omega
    have hiu:i<u.length:=by omega
    have hg3:((u.map encS).set i (.atom (.string (ls u k)))).getD k .junk=.atom (.string (ls u k)):=by
      rw[List.getD_eq_getElem?_getD,List.getElem?_set_ne (by omega),←List.getD_eq_getElem?_getD,zbf hku];rfl
    have hsw:((u.map encS).set i (.atom (.string (ls u k)))).set k (.atom (.string (ls u i)))=(zfe u i k).map encS:=by unfold zfe;rw[List.map_set,List.map_set];rfl
    have hswl:=zdv u i k
    refine sD 9 [7,10,11,94] (fun P GD S K=>XvIndexAddr P 37 (S.get 7) (S.get 11) (fun r2 ef2=>XvLoad P 9 (M S.hp S.nx) r2 (fun r3 ef3=>XvIndexAddr P 37 (S.get 7) (S.get 10) (fun r6 ef6=>XvLoad P 9 (M S.hp S.nx) r6 (fun r7 ef7=>XvBinOV P .lss 9 (.tmp 93) r3 r7 (fun r8 ef8=>(trOk S.nx GD [⟨S.nx,0,[],[],[]⟩,⟨S.nx,0,[],[],[]⟩,⟨S.nx,0,ef2.rd,[],[]⟩,⟨S.nx,0,ef3.rd,[],[]⟩,⟨S.nx,0,[],[],[]⟩,⟨S.nx,0,[],[],[]⟩,⟨S.nx,0,ef6.rd,[],[]⟩,⟨S.nx,0,ef7.rd,[],[]⟩,⟨S.nx,0,ef8.rd,[],[]⟩]=true∧K ⟨[(7,S.get 7),(10,S.get 10),(11,S.get 11),(94,r8)],S.hp,S.nx,S.gh⟩))))))) fun K hK=>?_
    repeat' (first|(refine hK _ ?_;clear hK K)|(refine(?_:trOk _ _ _=true);(try simp only[zbf hku,zbf hiu]);kernel_rfl)|refine And.intro ?_ ?_|exact cl|(refine st ?_;try simp only[encX,zaa,zab,zac,encF,zbf hku,zbf hiu])|fail)
    all_goals
    refine Tri.cond rfl (fun h94=>?_) (fun h94=>?_)
    ·try (cases h94;done)
     all_goals (try simp only[CQ] at h94)
     all_goals
     refine sZ [7,10,11,12] (fun P S K=>XvIndexAddr P 37 (S.get 7) (S.get 10) (fun r2 _=>XvLoad P 9 (M S.hp S.nx) r2 (fun r3 _=>K ⟨[(7,S.get 7),(10,S.get 10),(11,S.get 11),(12,r3)],S.hp,S.nx,S.gh⟩))) fun K hK=>?_
     repeat' (first|(refine hK _ ?_;clear hK K)|refine And.intro ?_ ?_|exact cl|(refine st ?_;try simp only[encX,zaa,zab,zac,encF,zbf hiu])|fail)
     all_goals
     refine sZ [7,10,11,12] (fun P S K=>XvIndexAddr P 37 (S.get 7) (S.get 11) (fun r4 _=>XvLoad P 9 (M S.hp S.nx) r4 (fun r5 _=>XvIndexAddr P 37 (S.get 7) (S.get 10) (fun r6 _=>XvStore P 9 (M S.hp S.nx) r6 r5 (fun r7 ef7=>K ⟨[(7,S.get 7),(10,S.get 10),(11,S.get 11),(12,S.get 12)],(Eff.hp ef7 S.nx S.hp),(S.nx+ef7.add.length),S.gh⟩))))) fun K hK=>?_
     repeat' (first|(refine hK _ ?_;clear hK K)|refine And.intro ?_ ?_|exact cl|(refine st ?_;try simp only[encX,zaa,zab,zac,encF,zbf hku,zbf hiu])|fail)
     all_goals
     refine rZ [7,10,11] (fun P S K=>XvIndexAddr P 37 (S.get 7) (S.get 11) (fun r3 _=>XvStore P 9 (M S.hp S.nx) r3 (S.get 12) (fun r4 ef4=>K ⟨[(7,S.get 7),(10,S.get 10),(11,S.get 11)],(Eff.hp ef4 S.nx S.hp),(S.nx+ef4.add.length),S.gh⟩))) fun K hK=>?_
     repeat' (first|(refine hK _ ?_;clear hK K)|refine And.intro ?_ ?_|exact cl|(refine st ?_;try simp only[encX,zaa,zab,zac,encF,hg3,List.length_set])|fail)
     all_goals
     refine rY [7,10,11] (fun P S K=>XvBinOV P .add 3 (.const (.int .i64 1)) (S.get 11) (.atom (.int .i64 1)) (fun r1 _=>K ⟨[(7,S.get 7),(10,S.get 10),(11,r1)],S.hp,S.nx,S.gh⟩)) ?_
     all_goals try simp (disch:=omega) only[zaf,zae]
     all_goals
     first
     | (refine⟨⟨zfe u i k,k+1,by omega,by rw[zdv];omega,by rw[zdv];exact hu6,(ziT hiu hku).trans huperm,husel.swap hik hku,zma hik hku hmin h94⟩,[0],by dsimp only;rw[zdv];omega,?_⟩
        rw[hsw]
        exact zev)
     | (refine⟨⟨u,k+1,by omega,by omega,hu6,huperm,husel,zmb hmin h94⟩,[0],by dsimp only;omega,?_⟩
        exact zev)
    try (cases h94;done)
    all_goals (try simp only[CQ] at h94)
    all_goals
    refine Tri.skip ?_
    refine rY [7,10,11] (fun P S K=>XvBinOV P .add 3 (.const (.int .i64 1)) (S.get 11) (.atom (.int .i64 1)) (fun r1 _=>K ⟨[(7,S.get 7),(10,S.get 10),(11,r1)],S.hp,S.nx,S.gh⟩)) ?_
    all_goals try simp (disch:=omega) only[zaf,zae]
    all_goals
    first
    | (refine⟨⟨zfe u i k,k+1,by omega,by rw[zdv];omega,by rw[zdv];exact hu6,(ziT hiu hku).trans huperm,husel.swap hik hku,zma hik hku hmin h94⟩,[0],by dsimp only;rw[zdv];omega,?_⟩
       rw[hsw]
       exact zev)
    | (refine⟨⟨u,k+1,by omega,by omega,hu6,huperm,husel,zmb hmin h94⟩,[0],by dsimp only;omega,?_⟩
       exact zev)
   try (cases h83;done)
   all_goals (try simp only[CQ] at h83)
   all_goals
   refine Tri.exit ?_
   refine rY [7,10] (fun P S K=>XvBinOV P .add 3 (.const (.int .i64 1)) (S.get 10) (.atom (.int .i64 1)) (fun r1 _=>K ⟨[(7,S.get 7),(10,r1)],S.hp,S.nx,S.gh⟩)) ?_
   all_goals try simp (disch:=omega) only[zaf,zae]
   all_goals
   refine⟨⟨u,i+1,by omega,hu6,huperm,sel_next husel hmin (by omega)⟩,[0],by dsimp only;omega,?_⟩
   exact zev
  try (cases h75;done)
  all_goals (try simp only[CQ] at h75)
  all_goals
  refine Tri.exit ?_
  refine sY [4] (fun P S K=>K ⟨[(4,(S.get 7))],S.hp,S.nx,S.gh⟩) ?_
  all_goals
  refine Tri.ret ?_
  show ResOk _ _ _ _
  rw[show resR x w=o by rw[show resR x w=zcu (resl x w) from if_pos h15];exact(znv (by rw[show o.length=i by omega];exact hsel) hperm).symm]
  exact ResOk.frz 5 lstM43 lpvM43
end Go.Proofs.YtehoglapajkabaaGreat
