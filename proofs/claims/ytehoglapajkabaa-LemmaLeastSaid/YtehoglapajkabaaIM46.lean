/-
  Walks: package transducer: Accepts.
-/
import Derived.Test.YtehoglapajkabaaIM0
import Derived.Test.YtehoglapajkabaaIN10
import Derived.Test.YtehoglapajkabaaIM39
set_option linter.all false
namespace Go.Proofs.Ytehoglapajkabaa
open Go Go.RowKit
set_option maxRecDepth 20000
set_option maxHeartbeats 1000000
theorem zey{p:Prop}(h:p:=by(refine⟨4,?_,?_,rfl,by simp,rfl,fun _ h _=>absurd h (Nat.not_lt_zero _)⟩<;>(simp only[List.forall_mem_cons];repeat' (first|refine And.intro ?_ ?_|(intro p hp;exact absurd hp List.not_mem_nil)|rfl|exact sp (zaI _)|exact sp (zbL _)|exact sp (zbk _)|exact(zas _ _ _ (zah _)).trans (zbQ _ _).symm|exact(zas _ _ _ (zag _)).trans (zbP _ _).symm|exact sp (by assumption)|(intro o ho;cases ho;refine⟨by decide,?_⟩;first|(refine LeqS.row rfl ?_ ?_;(next=>(first|rfl|(simp only[List.map_append,List.map_cons,List.map_nil,List.append_nil,List.nil_append,List.append_assoc,List.cons_append,encI,encS,ints,strs];done)|(simp[encI,encS,ints,strs,encC,encN,entN,List.map_take];done)));(next=>(first|rfl|exact zal _|exact zaq _|exact zau _|exact zat _|exact za5 _|exact zdS _|exact zdR _|(simp[zar,zal,zaq,zau,zat,zaw,PV.pure,zah,zag,zaI,za5,zbL,zbk,zdS,zdR];done)));done)|refine⟨_,rfl,rfl,?_⟩)|(simp[St.born,St.known,retV,St.get,St.obj,lk,sealed,PV.ren,renL,rmap,AO.ren,ints,strs,encI,encS,zap,zao,zan,zam,zaC,zaB,zaA,zaz,za1,za0,zaZ,zaY,zbE,zbB,zay,zaQ,zaF,zax,encC,zcl,zbK,zew,zfW,zev,zfV,encN]<;>omega))));first|done|fail):p:=h
theorem zmd{p:Prop}(h:p:=by(first|rfl|(simp[St.born,St.known,retV,St.get,St.obj,lk,sealed,PV.ren,renL,rmap,AO.ren,ints,strs,encI,encS,zap,zao,zan,zam,zaC,zaB,zaA,zaz,za1,za0,zaZ,zaY,zbE,zbB,zay,zaQ,zaF,zax,encC,zcl,zbK,zew,zfW,zev,zfV,encN];done));first|done|fail):p:=h
theorem zme{p:Prop}(h:p:=by(first|rfl|(simp[zah,zag,PV.pure,zaw,zal,zaq,zau,zat,zaI,za5,zbL,zbk,zdS,zdR];done));first|done|fail):p:=h
theorem zdb:TripleKey Try.prog 109:=TripleKey.of (by kernel_rfl) (by kernel_rfl)
theorem zew (H:Nat→Option AO) (keep:Nat→Bool) (n:Nat) (l:List NodeD):(l.map encN).map (sealed H keep n)=l.map encN:=zak H keep n (zdS l)
theorem zfW (ρ:Nat→Nat) (l:List NodeD):(l.map encN).map (PV.ren ρ)=l.map encN:=zaO ρ (zdS l)
theorem zev (H:Nat→Option AO) (keep:Nat→Bool) (n:Nat) (l:List NodeD):(l.map entN).map (sealed H keep n)=l.map entN:=zak H keep n (zdR l)
theorem zfV (ρ:Nat→Nat) (l:List NodeD):(l.map entN).map (PV.ren ρ)=l.map entN:=zaO ρ (zdR l)
section
variable {P:Program} {k:TypeId} {M:List NodeD} {x:NodeD}
def zrM (M:List NodeD):Prop:=∀n,n∈M→I64 n.q∧n.i≤4294967296∧n.j≤4294967296
theorem zik (K:TripleKey P k) (hg:zrM M):∀e,e∈M.map entN→∃q v,e=.tup [q,v]∧zeg P k q:=fun e he=>by
  obtain⟨n,hn,rfl⟩:=List.mem_map.1 he
  obtain⟨h1,h2,h3⟩:=hg n hn
  exact⟨_,_,rfl,K.ok _ _ _ h1 ⟨by omega,by omega⟩ ⟨by omega,by omega⟩⟩
theorem zla (K:TripleKey P k) (h:I64 x.q∧x.i≤4294967296∧x.j≤4294967296):zeg P k (.agg [encI x.q,encI x.i,encI x.j]):=K.ok _ _ _ h.1 ⟨by omega,by omega⟩ ⟨by omega,by omega⟩
theorem zl8 (K:TripleKey P k) (hg:zrM M) (h:I64 x.q∧x.i≤4294967296∧x.j≤4294967296) (hx:x∈M):MapGet P k (M.map entN) (.agg [encI x.q,encI x.i,encI x.j]) (some (.atom (.bool true))):=
  MapGet.hit K.law (zik K hg) (zla K h) (List.mem_map.2 ⟨x,hx,rfl⟩)
theorem notN (hx:x∉M) (v:PV):PV.tup [.agg [encI x.q,encI x.i,encI x.j],v]∉M.map entN:=fun h=>by
  obtain⟨e,he,h1⟩:=List.mem_map.1 h
  unfold entN at h1
  have h2:encN e=encN x:=(List.cons.inj (PV.tup.inj h1)).1
  exact hx (encN_inj h2▸he)
theorem zjj (K:TripleKey P k) (hg:zrM M) (h:I64 x.q∧x.i≤4294967296∧x.j≤4294967296) (hx:x∉M):MapGet P k (M.map entN) (.agg [encI x.q,encI x.i,encI x.j]) none:=
  MapGet.miss K.law (zik K hg) (zla K h) (notN hx)
theorem zl7 (K:TripleKey P k) (hg:zrM M) (h:I64 x.q∧x.i≤4294967296∧x.j≤4294967296) (hx:x∉M):MapPut P k (M.map entN) (.agg [encI x.q,encI x.i,encI x.j]) (.atom (.bool true)) (M.map entN++[.tup [.agg [encI x.q,encI x.i,encI x.j],.atom (.bool true)]]):=
  ⟨K.law,zik K hg,zla K h,.inr ⟨notN hx,rfl⟩⟩
end
theorem zju{m:MachD}{s t:ByteArray}{n:NodeD}{j:Int}{j0:Nat}(hj:j=(j0:Int)) (h1:zbI (s.extract n.i s.size) (fC m.arcs j0).inp=true) (h2:zbI (t.extract n.j t.size) (fC m.arcs j0).out=true):kidN m s t n j=some ⟨(fC m.arcs j0).to,n.i+(fC m.arcs j0).inp.size,n.j+(fC m.arcs j0).out.size⟩:=by
  rw[hj,kidN,Int.toNat_natCast,if_pos ⟨h1,h2⟩]
theorem zjv{m:MachD}{s t:ByteArray}{n:NodeD}{j:Int}{j0:Nat}(hj:j=(j0:Int)) (h:zbI (s.extract n.i s.size) (fC m.arcs j0).inp=false∨zbI (t.extract n.j t.size) (fC m.arcs j0).out=false):kidN m s t n j=none:=by
  rw[hj,kidN,Int.toNat_natCast,if_neg]
  rintro⟨g1,g2⟩
  rcases h with h|h
  · rw[h] at g1;cases g1
  · rw[h] at g2;cases g2
theorem zrk (m:MachD) (s t:ByteArray) (x:NodeD):
    (decide (x.q∈m.fin)=true∧decide ((x.i:Int)=(s.size:Int))=true∧decide ((x.j:Int)=(t.size:Int))=true∧endN m s t x)∨
    (decide (x.q∈m.fin)=false∧decide (x.q∈m.fin)=false∧decide (x.q∈m.fin)=false∧¬endN m s t x)∨(decide (x.q∈m.fin)=true∧decide ((x.i:Int)=(s.size:Int))=false∧decide ((x.i:Int)=(s.size:Int))=false∧¬endN m s t x)∨
    (decide (x.q∈m.fin)=true∧decide ((x.i:Int)=(s.size:Int))=true∧decide ((x.j:Int)=(t.size:Int))=false∧¬endN m s t x):=by
  unfold endN
  by_cases h1:x.q∈m.fin
  · by_cases h2:(x.i:Int)=(s.size:Int)
    · by_cases h3:(x.j:Int)=(t.size:Int)
      · exact .inl ⟨decide_eq_true h1,decide_eq_true h2,decide_eq_true h3,h1,by omega,by omega⟩
      · exact .inr (.inr (.inr ⟨decide_eq_true h1,decide_eq_true h2,decide_eq_false h3,fun h=>h3 (by omega)⟩))
    · exact .inr (.inr (.inl ⟨decide_eq_true h1,decide_eq_false h2,decide_eq_false h2,fun h=>h2 (by omega)⟩))
  · exact .inr (.inl ⟨decide_eq_false h1,decide_eq_false h1,decide_eq_false h1,fun h=>h1 h.1⟩)
theorem cap_new{U A a:Nat}(h:a<U):(U - (a+1)) * (A+1)+(A+1)=(U - a) * (A+1):=by
  rw[←Nat.succ_mul];congr 1;omega
theorem SrchI.cardx{m:MachD}{s t:ByteArray}{M N:List NodeD}{x:NodeD}(h:SrchI m s t M (N++[x])) (hx:x∉M):M.length<capU m s t:=by
  have:=zdl (l:=x :: M) (r:=univN m s t) (List.nodup_cons.2 ⟨hx,h.nd⟩) fun y hy=>by
    rcases List.mem_cons.1 hy with rfl|hy
    · exact zlG (h.inNn _ (List.mem_append.2 (.inr (List.mem_singleton.2 rfl))))
    · exact zlG (h.inM y hy)
  rw[univ_len,List.length_cons] at this
  exact this
theorem ziP{m:MachD}{s t:ByteArray}{M F:List NodeD}{x c:NodeD}{k p:Nat}(hk:k≤F.length) (h:SrchP m s t M (F.take k) x p) (hkid:kidN m s t x (li (zbf m x.q) p)=some c) (hc:inN m s t c) (ho:AccN m s t c→AccN m s t (stN m)):SrchP m s t M ((F.take k++[c]).take (k+1)) x (p+1):=by
  have e:(F.take k++[c]).take (k+1)=F.take k++[c]:=List.take_of_length_le (by simp;omega)
  rw[e];exact h.some hkid hc ho
theorem SrchP.done'{m:MachD}{s t:ByteArray}{M N:List NodeD}{x:NodeD}{p:Nat}(h:SrchP m s t M N x p) (hp:(zbf m x.q).length≤p):SrchI m s t M N:=by
  refine SrchP.done (x:=x) ⟨h.nd,h.inM,h.inNn,h.ok,h.cl,fun p' hp'=>h.part p' (by omega),h.st⟩
theorem zqi (m:MachD) (s t:ByteArray) (hm:HeldM m) (hs:s.size≤4294967296) (ht:t.size≤4294967296) (hcap:zbx m=0→s.size≤256→t.size≤4096→capU m s t * (m.arcs.length+1)≤1000000000000):
    Pure Try.prog 18 [encM m,encS s,encS t] (.tup [.atom (.bool (accM m s t).1),encI (accM m s t).2]) []:=by
  refine Pure.intro (ts:=[6,7]) Try.func18 (by kernel_rfl) rfl rfl rfl (Nat.le_of_ble_eq_true rfl) ?_ ?_
  · simp[zaI,encS,PV.pure,zaw]
  refine sZ [1,2,3] (fun P S K=>XvBox S.nx (S.get 0) (fun r0 ef0=>K ⟨[(1,S.get 1),(2,S.get 2),(3,r0)],(Eff.hp ef0 S.nx S.hp),(S.nx+ef0.add.length),S.gh⟩)) fun K hK=>?_
  repeat' (first|(refine hK _ ?_;clear hK K)|refine And.intro ?_ ?_|exact cl|(refine st ?_;try simp only[encM,zay,encC,encN])|fail)
  all_goals
  refine Tri.seq ?_
  refine sZ [1,2,3,8] (fun P S K=>XvLoad P 58 (M S.hp S.nx) (S.get 3) (fun r0 _=>XvFnIV P (M S.hp S.nx) (.fn 36 []) [r0] (fun r1 ef1=>K ⟨[(1,S.get 1),(2,S.get 2),(3,S.get 3),(8,r1)],(Eff.hp ef1 S.nx S.hp),(S.nx+ef1.add.length),S.gh⟩))) fun K hK=>?_
  repeat' (first|(refine hK _ ?_;clear hK K)|refine .inl ⟨_,_,zgo m hm,?_⟩|(refine st ?_;try simp only[encM,zay,encC,encN])|fail)
  all_goals
  refine sY [1,2,3,8,21] (fun P S K=>XvBinOV P .neq 41 (.const (.int .i64 0)) (S.get 8) (.atom (.int .i64 0)) (fun r1 _=>K ⟨[(1,S.get 1),(2,S.get 2),(3,S.get 3),(8,S.get 8),(21,r1)],S.hp,S.nx,S.gh⟩)) ?_
  all_goals
  refine Tri.cond rfl (fun h21=>?_) (fun h21=>?_)
  ·try (cases h21;done)
   all_goals (try simp only[CQ] at h21)
   all_goals
   refine sY [6,7] (fun P S K=>K ⟨[(6,(.atom (.bool false))),(7,(S.get 8))],S.hp,S.nx,S.gh⟩) ?_
   all_goals
   refine Tri.ret ?_
   show ResOk _ _ _ _
   rw[accM_bad (by omega)]
   exact ResOk.val zmd zme
  try (cases h21;done)
  all_goals (try simp only[CQ] at h21)
  all_goals
  refine Tri.skip ?_
  refine Tri.seq ?_
  refine sZ [1,2,3,30] (fun P S K=>XvLen P 9 (M S.hp S.nx) (S.get 1) (fun r1 _=>XvBinOV P .gtr 3 (.const (.int .i64 256)) r1 (.atom (.int .i64 256)) (fun r2 _=>Xgq r2 false (fun k=>k (S.get 2)) (fun g4 r4=>Xgq g4 false (fun k=>XvLen P 9 (M S.hp S.nx) r4 (fun r5 _=>k r5)) (fun g5 r5=>Xgq g5 false (fun k=>XvBinOV P .gtr 3 (.const (.int .i64 4096)) r5 (.atom (.int .i64 4096)) (fun r6 _=>k r6)) (fun g6 r6=>XvPick g6 (.atom (.bool true)) r6 (fun r7 _=>K ⟨[(1,S.get 1),(2,S.get 2),(3,S.get 3),(30,r7)],S.hp,S.nx,S.gh⟩))))))) fun K hK=>?_
  repeat' (first|(refine hK _ ?_;clear hK K)|((first|refine zav (fun hg=>?_) (fun hg=>?_)|refine fun(hg:(_:Prop))=>?_)<;>((try simp only[BQ] at hg);try (exfalso;omega)))|(refine st ?_;try simp only[encM,zay,encC,encN])|fail)
  all_goals
  refine Tri.cond rfl (fun h30=>?_) (fun h30=>?_)
  ·try (cases h30;done)
   all_goals (try simp only[CQ] at h30)
   all_goals
   refine sY [6,7] (fun P S K=>K ⟨[(6,(.atom (.bool false))),(7,(.atom (.int .i64 4)))],S.hp,S.nx,S.gh⟩) ?_
   all_goals
   refine Tri.ret ?_
   show ResOk _ _ _ _
   rw[zrB (by omega) (by first|exact .inl (by omega)|exact .inr (by omega))]
   exact ResOk.val zmd zme
  try (cases h30;done)
  all_goals (try simp only[CQ] at h30)
  all_goals
  refine Tri.skip ?_
  have hval:=validM_0.1 (show zbx m=0 by omega)
  have hv0:¬zbx m≠0:=by omega
  have hst:=hval.states
  have hin:=InM.of hval.arcs
  have hinc:incL m.fin:=fun i hi h0=>(hval.fin i hi).2 h0
  have hfin:=zri hval.fin
  have hsz:s.size≤256∧t.size≤4096:=by constructor<;>omega
  have hnlong:¬ (256<s.size∨4096<t.size):=by omega
  have hU:=hcap (by omega) hsz.1 hsz.2
  have hna:=hm.narcs
  refine sZ [1,2,3,9] (fun P S K=>XvLoad P 58 (M S.hp S.nx) (S.get 3) (fun r0 _=>XvFnIV P (M S.hp S.nx) (.fn 37 []) [r0] (fun r1 ef1=>K ⟨[(1,S.get 1),(2,S.get 2),(3,S.get 3),(9,r1)],(Eff.hp ef1 S.nx S.hp),(S.nx+ef1.add.length),S.gh⟩))) fun K hK=>?_
  repeat' (first|(refine hK _ ?_;clear hK K)|refine .inl ⟨_,_,zfD m hm (by omega) (by omega) (fun a ha=>⟨(hin a ha).1,(hin a ha).2.1⟩),?_⟩|(refine st ?_;try simp only[encM,zay,encC,encN])|fail)
  all_goals
  refine sZ [1,2,3,9,10] (fun P S K=>XvMakeMap none S.nx (fun r0 ef0=>K ⟨[(1,S.get 1),(2,S.get 2),(3,S.get 3),(9,S.get 9),(10,r0)],(Eff.hp ef0 S.nx S.hp),(S.nx+ef0.add.length),S.gh⟩)) fun K hK=>?_
  repeat' (first|(refine hK _ ?_;clear hK K)|((first|refine zav (fun hg=>?_) (fun hg=>?_)|refine fun(hg:(_:Prop))=>?_)<;>((try simp only[BQ] at hg);try (exfalso;omega)))|(refine st ?_;try simp only[encM,zay,encC,encN])|fail)
  all_goals
  refine sZ [1,2,3,9,10,11] (fun P S K=>XvFieldAddr P 58 1 (S.get 3) (fun r0 _=>XvLoad P 3 (M S.hp S.nx) r0 (fun r1 _=>XvBuild P 109 [(0,r1),(1,(.atom (.int .i64 0))),(2,(.atom (.int .i64 0)))] (fun r2 _=>XvBuildS P 110 1 S.nx [(0,r2)] (fun r3 ef3=>K ⟨[(1,S.get 1),(2,S.get 2),(3,S.get 3),(9,S.get 9),(10,S.get 10),(11,r3)],(Eff.hp ef3 S.nx S.hp),(S.nx+ef3.add.length),S.gh⟩))))) fun K hK=>?_
  repeat' (first|(refine hK _ ?_;clear hK K)|refine And.intro ?_ ?_|exact cl|(refine st ?_;try simp only[encM,zay,encC,encN])|fail)
  all_goals
  refine Tri.seq ?_
  refine Tri.block ?_
  refine Tri.loop (α:=(Vs:List NodeD) ×' (E:List NodeD) ×' (n:Nat) ×' (n≤E.length∧SrchI m s t Vs (E.take n)∧(capU m s t - Vs.length) * (m.arcs.length+1)+n≤capU m s t * (m.arcs.length+1)+1)) (fun z=>(fun(Vs:List NodeD) (E:List NodeD) (n:Nat)=>(⟨[(1,encS s),(2,encS t),(3,.ptr 0 4 0 0),(9,zbb (zbq m)),(10,.mp 1),(11,.ob 2 3 0 n)],[(0,some ⟨4,[encM m]⟩),(1,some ⟨0,Vs.map entN⟩),(2,some ⟨3,E.map encN⟩)],3,[]⟩:St)) z.1 z.2.1 z.2.2.1) (fun z=>(fun(Vs:List NodeD) (E:List NodeD) (n:Nat)=>(capU m s t - Vs.length) * (m.arcs.length+1)+n) z.1 z.2.1 z.2.2.1) ⟨[],[stN m],1,⟨Nat.le_refl _,SrchI.start ⟨hval.start.1,hval.start.2,Nat.zero_le _,Nat.zero_le _⟩,by simp⟩⟩ [0,1,2] ?_ ?_
  ·exact zey
  rintro⟨Vs,E,n,⟨hnE,hS,hB⟩⟩
  refine Tri.seq ?_
  refine sZ [1,2,3,9,10,11,40] (fun P S K=>XvLen P 110 (M S.hp S.nx) (S.get 11) (fun r1 _=>XvBinOV P .gtr 3 (.const (.int .i64 0)) r1 (.atom (.int .i64 0)) (fun r2 _=>K ⟨[(1,S.get 1),(2,S.get 2),(3,S.get 3),(9,S.get 9),(10,S.get 10),(11,S.get 11),(40,r2)],S.hp,S.nx,S.gh⟩))) fun K hK=>?_
  repeat' (first|(refine hK _ ?_;clear hK K)|refine And.intro ?_ ?_|exact cl|(refine st ?_;try simp only[encM,zay,encC,encN])|fail)
  all_goals
  refine Tri.cond rfl (fun h40=>?_) (fun h40=>?_)
  ·try (cases h40;done)
   all_goals (try simp only[CQ] at h40)
   all_goals
   refine Tri.skip ?_
   refine Tri.block ?_
   obtain⟨n,rfl⟩:∃n',n=n'+1:=⟨n - 1,by omega⟩
   have hnl:n<E.length:=by omega
   have hw1:IntKind.i64.wrap ((n:Int)+1 - 1)=(n:Int):=by rw[Int.add_sub_cancel];exact zae (by omega) (by omega)
   have htk:E.take (n+1)=E.take n++[lnN E n]:=by rw[List.take_succ_eq_append_getElem hnl,lnN_get hnl]
   rw[htk] at hS
   have hxi:=hS.inNn _ (List.mem_append.2 (.inr (List.mem_singleton.2 rfl)))
   obtain⟨hx0,hx1,hx2,hx3⟩:=hxi
   have hxg:I64 (lnN E n).q∧(lnN E n).i≤4294967296∧(lnN E n).j≤4294967296:=⟨⟨by omega,by omega⟩,by omega,by omega⟩
   have hgM:zrM Vs:=fun y hy=>by obtain⟨a1,a2,a3,a4⟩:=hS.inM y hy;exact⟨⟨by omega,by omega⟩,by omega,by omega⟩
   have hkn:(lnN E n).q.toNat<(zbq m).length:=by unfold zbq;rw[zbn];omega
   have hrl:(zbf m (lnN E n).q).length≤m.arcs.length:=zkV m (by omega)
   refine sZ [1,2,3,9,10,11,12] (fun P S K=>XvLen P 110 (M S.hp S.nx) (S.get 11) (fun r2 _=>XvBinOV P .sub 3 (.const (.int .i64 1)) r2 (.atom (.int .i64 1)) (fun r3 _=>XvIndexAddr P 110 (S.get 11) r3 (fun r4 _=>XvLoad P 109 (M S.hp S.nx) r4 (fun r5 _=>XvAlloc P 109 S.nx (fun r6 ef6=>XvStore P 109 (M (Eff.hp ef6 S.nx S.hp) (S.nx+ef6.add.length)) r6 r5 (fun r7 ef7=>K ⟨[(1,S.get 1),(2,S.get 2),(3,S.get 3),(9,S.get 9),(10,S.get 10),(11,S.get 11),(12,r6)],(Eff.hp ef7 (S.nx+ef6.add.length) (Eff.hp ef6 S.nx S.hp)),((S.nx+ef6.add.length)+ef7.add.length),S.gh⟩))))))) fun K hK=>?_
   repeat' (first|(refine hK _ ?_;clear hK K)|refine And.intro ?_ ?_|exact cl|(refine st ?_;try simp only[encM,zay,encC,encN,zq6 hnl,hw1])|fail)
   all_goals try simp (disch:=omega) only[zae,zaf]
   all_goals
   refine sZ [1,2,3,9,10,11,12] (fun P S K=>XvLen P 110 (M S.hp S.nx) (S.get 11) (fun r2 _=>XvBinOV P .sub 3 (.const (.int .i64 1)) r2 (.atom (.int .i64 1)) (fun r3 _=>XvSliceV P 110 (S.get 11) none (some r3) (fun r4 _=>K ⟨[(1,S.get 1),(2,S.get 2),(3,S.get 3),(9,S.get 9),(10,S.get 10),(11,r4),(12,S.get 12)],S.hp,S.nx,S.gh⟩)))) fun K hK=>?_
   repeat' (first|(refine hK _ ?_;clear hK K)|refine And.intro ?_ ?_|exact cl|(refine st ?_;try simp only[encM,zay,encC,encN,hw1])|fail)
   all_goals try simp (disch:=omega) only[zae,zaf]
   all_goals
   refine Tri.seq ?_
   by_cases hx:lnN E n∈Vs
   all_goals
   refine sZ [1,2,3,9,10,11,12,54] (fun P S K=>XvLoad P 109 (M S.hp S.nx) (S.get 12) (fun r1 _=>XvLookup P 108 (M S.hp S.nx) (S.get 10) r1 false (fun r2 _=>K ⟨[(1,S.get 1),(2,S.get 2),(3,S.get 3),(9,S.get 9),(10,S.get 10),(11,S.get 11),(12,S.get 12),(54,r2)],S.hp,S.nx,S.gh⟩))) fun K hK=>?_
   repeat' (first|(refine hK _ ?_;clear hK K)|refine⟨_,zl8 zdb hgM hxg hx,?_⟩|refine⟨_,zjj zdb hgM hxg hx,?_⟩|refine⟨_,zl7 zdb hgM hxg hx,?_⟩|(refine st ?_;try simp only[encM,zay,encC,encN])|fail)
   all_goals
   refine Tri.cond rfl (fun h54=>?_) (fun h54=>?_)
   ·try (cases h54;done)
    all_goals (try simp only[CQ] at h54)
    all_goals
    refine Tri.exit ?_
    first
    | (refine⟨⟨Vs,E,n,by omega,hS.again hx,by omega⟩,[0,1,2],by dsimp only;omega,?_⟩
       exact zey)
    | (refine⟨⟨Vs++[lnN E n],F,k,hkF,hP.done' (by omega),by rw[List.length_append];show(capU m s t - (Vs.length+1)) * _+_≤_;omega⟩,[0,1,2],by dsimp only;rw[List.length_append];show(capU m s t - (Vs.length+1)) * _+_<_;omega,?_⟩
       exact zey)
   try (cases h54;done)
   all_goals (try simp only[CQ] at h54)
   all_goals
   refine Tri.skip ?_
   refine sZ [1,2,3,9,10,11,12] (fun P S K=>XvLoad P 109 (M S.hp S.nx) (S.get 12) (fun r1 _=>XvUpdate P 108 (M S.hp S.nx) (S.get 10) r1 (.atom (.bool true)) (fun r2 ef2=>K ⟨[(1,S.get 1),(2,S.get 2),(3,S.get 3),(9,S.get 9),(10,S.get 10),(11,S.get 11),(12,S.get 12)],(Eff.hp ef2 S.nx S.hp),(S.nx+ef2.add.length),S.gh⟩))) fun K hK=>?_
   repeat' (first|(refine hK _ ?_;clear hK K)|refine⟨_,zl8 zdb hgM hxg hx,?_⟩|refine⟨_,zjj zdb hgM hxg hx,?_⟩|refine⟨_,zl7 zdb hgM hxg hx,?_⟩|(refine st ?_;try simp only[encM,zay,encC,encN])|fail)
   all_goals
   refine Tri.cut (α:=(u:Unit) ×' (¬endN m s t (lnN E n)∧lnN E n∉Vs)) (fun⟨u,he,hx⟩=>⟨[(1,encS s),(2,encS t),(3,.ptr 0 4 0 0),(9,zbb (zbq m)),(10,.mp 1),(11,.ob 2 3 0 n),(12,.ptr 3 3 0 0)],[(0,some ⟨4,[encM m]⟩),(1,some ⟨0,(Vs++[lnN E n]).map entN⟩),(2,some ⟨3,E.map encN⟩),(3,some ⟨3,[encN (lnN E n)]⟩)],4,[]⟩) ?_ ?_
   ·skip
    refine sZ [1,2,3,9,10,11,12,14] (fun P S K=>XvFieldAddr P 58 2 (S.get 3) (fun r0 _=>XvLoad P 22 (M S.hp S.nx) r0 (fun r1 _=>XvIndexAddr P 109 (S.get 12) (.atom (.int .i64 0)) (fun r2 _=>XvLoad P 3 (M S.hp S.nx) r2 (fun r3 _=>XvFnIV P (M S.hp S.nx) (.fn 39 []) [r1,r3] (fun r4 ef4=>XvExtract r4 0 (fun r6 _=>XvExtract r4 1 (fun r7 _=>K ⟨[(1,S.get 1),(2,S.get 2),(3,S.get 3),(9,S.get 9),(10,S.get 10),(11,S.get 11),(12,S.get 12),(14,r7)],(Eff.hp ef4 S.nx S.hp),(S.nx+ef4.add.length),S.gh⟩)))))))) fun K hK=>?_
    repeat' (first|(refine hK _ ?_;clear hK K)|refine And.intro ?_ ?_|exact cl|refine .inl ⟨_,_,zka m.fin (lnN E n).q (by omega) hinc,?_⟩|(refine st ?_;try simp only[encM,zay,encC,encN])|fail)
    all_goals
    rcases zrk m s t (lnN E n) with ⟨d1,d2,d3,he⟩|⟨d1,d2,d3,he⟩|⟨d1,d2,d3,he⟩|⟨d1,d2,d3,he⟩
    all_goals
    refine sZ [1,2,3,9,10,11,12,79] (fun P S K=>Xgq (S.get 14) true (fun k=>XvIndexAddr P 109 (S.get 12) (.atom (.int .i64 1)) (fun r2 _=>k r2)) (fun g2 r2=>Xgq g2 true (fun k=>XvLoad P 3 (M S.hp S.nx) r2 (fun r3 _=>k r3)) (fun g3 r3=>Xgq g3 true (fun k=>k (S.get 1)) (fun g4 r4=>Xgq g4 true (fun k=>XvLen P 9 (M S.hp S.nx) r4 (fun r5 _=>k r5)) (fun g5 r5=>Xgq g5 true (fun k=>XvBinOV P .eql 3 (.tmp 70) r3 r5 (fun r6 _=>k r6)) (fun g6 r6=>XvPick g6 r6 (.atom (.bool false)) (fun r7 _=>Xgq r7 true (fun k=>XvIndexAddr P 109 (S.get 12) (.atom (.int .i64 2)) (fun r9 _=>k r9)) (fun g9 r9=>Xgq g9 true (fun k=>XvLoad P 3 (M S.hp S.nx) r9 (fun r10 _=>k r10)) (fun g10 r10=>Xgq g10 true (fun k=>k (S.get 2)) (fun g11 r11=>Xgq g11 true (fun k=>XvLen P 9 (M S.hp S.nx) r11 (fun r12 _=>k r12)) (fun g12 r12=>Xgq g12 true (fun k=>XvBinOV P .eql 3 (.tmp 77) r10 r12 (fun r13 _=>k r13)) (fun g13 r13=>XvPick g13 r13 (.atom (.bool false)) (fun r14 _=>K ⟨[(1,S.get 1),(2,S.get 2),(3,S.get 3),(9,S.get 9),(10,S.get 10),(11,S.get 11),(12,S.get 12),(79,r14)],S.hp,S.nx,S.gh⟩))))))))))))) fun K hK=>?_
    repeat' (first|(refine hK _ ?_;clear hK K)|refine And.intro ?_ ?_|exact cl|(refine st ?_;try simp only[encM,zay,encC,encN,↓SE,d1,d2,d3])|fail)
    all_goals
    refine Tri.cond rfl (fun h79=>?_) (fun h79=>?_)
    ·try (cases h79;done)
     all_goals (try simp only[CQ] at h79)
     all_goals
     refine sY [6,7] (fun P S K=>K ⟨[(6,(.atom (.bool true))),(7,(.atom (.int .i64 0)))],S.hp,S.nx,S.gh⟩) ?_
     all_goals
     refine Tri.ret ?_
     show ResOk _ _ _ _
     rw[zlt hv0 hnlong,accB_iff.2 (acc_start.1 (hS.ok _ (List.mem_append.2 (.inr (List.mem_singleton.2 rfl))) (acc_end he)))]
     exact ResOk.val zmd zme
    try (cases h79;done)
    all_goals (try simp only[CQ] at h79)
    all_goals
    refine Tri.skip ?_
    refine⟨⟨(),he,hx⟩,[0,1,2,3],?_⟩
    exact zey
   rintro⟨u,he,hx⟩
   refine sZ [1,2,3,9,10,11,12,84,85,86] (fun P S K=>XvIndexAddr P 109 (S.get 12) (.atom (.int .i64 0)) (fun r1 _=>XvLoad P 3 (M S.hp S.nx) r1 (fun r2 _=>XvIndexAddr P 91 (S.get 9) r2 (fun r3 _=>XvLoad P 22 (M S.hp S.nx) r3 (fun r4 _=>XvLen P 22 (M S.hp S.nx) r4 (fun r5 _=>K ⟨[(1,S.get 1),(2,S.get 2),(3,S.get 3),(9,S.get 9),(10,S.get 10),(11,S.get 11),(12,S.get 12),(84,r4),(85,r5),(86,(.atom (.int .i64 0)))],S.hp,S.nx,S.gh⟩)))))) fun K hK=>?_
   repeat' (first|(refine hK _ ?_;clear hK K)|refine And.intro ?_ ?_|exact cl|(refine st ?_;try simp only[encM,zay,encC,encN,zdd hkn])|refine sx ?_ (by simp only[encM,zay,encC,encN,zdd hkn];exact rfl)|fail)
   all_goals
   refine Tri.block ?_
   refine Tri.loop (α:=(F:List NodeD) ×' (k:Nat) ×' (p:Nat) ×' (k≤F.length∧p≤(zbf m (lnN E n).q).length∧SrchP m s t (Vs++[lnN E n]) (F.take k) (lnN E n) p∧(capU m s t - (Vs.length+1)) * (m.arcs.length+1)+k+((zbf m (lnN E n).q).length - p)≤(capU m s t - Vs.length) * (m.arcs.length+1)+n)) (fun z=>(fun(F:List NodeD) (k:Nat) (p:Nat)=>(⟨[(1,encS s),(2,encS t),(3,.ptr 0 4 0 0),(9,zbb (zbq m)),(10,.mp 1),(11,.ob 2 3 0 k),(12,.ptr 3 3 0 0),(84,ints (zbf m (lnN E n).q)),(85,encI (zbf m (lnN E n).q).length),(86,encI p)],[(0,some ⟨4,[encM m]⟩),(1,some ⟨0,(Vs++[lnN E n]).map entN⟩),(2,some ⟨3,F.map encN⟩),(3,some ⟨3,[encN (lnN E n)]⟩)],4,[]⟩:St)) z.1 z.2.1 z.2.2.1) (fun z=>(fun(F:List NodeD) (k:Nat) (p:Nat)=>(zbf m (lnN E n).q).length - p) z.1 z.2.1 z.2.2.1) ⟨E,n,0,⟨by omega,Nat.zero_le _,hS.visit hx he,by have hc:=hS.cardx hx;have hcc:=cap_new (A:=m.arcs.length) hc;omega⟩⟩ [0,1,2,3] ?_ ?_
   ·exact zey
   rintro⟨F,k,p,⟨hkF,hp,hP,hB2⟩⟩
   refine sY [1,2,3,9,10,11,12,84,85,86,87] (fun P S K=>XvBinOV P .lss 3 (.tmp 85) (S.get 86) (S.get 85) (fun r0 _=>K ⟨[(1,S.get 1),(2,S.get 2),(3,S.get 3),(9,S.get 9),(10,S.get 10),(11,S.get 11),(12,S.get 12),(84,S.get 84),(85,S.get 85),(86,S.get 86),(87,r0)],S.hp,S.nx,S.gh⟩)) ?_
   all_goals
   refine Tri.seq ?_
   refine Tri.cond rfl (fun h87=>?_) (fun h87=>?_)
   ·try (cases h87;done)
    all_goals (try simp only[CQ] at h87)
    all_goals
    refine Tri.skip ?_
    refine Tri.seq ?_
    refine Tri.block ?_
    have hpl:p<(zbf m (lnN E n).q).length:=by omega
    obtain⟨j0,hj0,hj0l,hj0f⟩:=zfi hx0 hx1 hpl
    have hos:=(arcOk_iff.1 (List.all_eq_true.1 hval.arcs _ (zb5 hj0l))).2.2.2
    have his:=(arcOk_iff.1 (List.all_eq_true.1 hval.arcs _ (zb5 hj0l))).2.2.1
    have hia:=hin _ (zb5 hj0l)
    refine sZ [1,2,3,9,10,11,12,16,84,85,86] (fun P S K=>XvIndexAddr P 22 (S.get 84) (S.get 86) (fun r0 _=>XvLoad P 3 (M S.hp S.nx) r0 (fun r1 _=>K ⟨[(1,S.get 1),(2,S.get 2),(3,S.get 3),(9,S.get 9),(10,S.get 10),(11,S.get 11),(12,S.get 12),(16,r1),(84,S.get 84),(85,S.get 85),(86,S.get 86)],S.hp,S.nx,S.gh⟩))) fun K hK=>?_
    repeat' (first|(refine hK _ ?_;clear hK K)|refine And.intro ?_ ?_|exact cl|(refine st ?_;try simp only[encM,zay,encC,encN,zbi hpl,hj0])|fail)
    all_goals
    refine sZ [1,2,3,9,10,11,12,17,84,85,86] (fun P S K=>XvFieldAddr P 58 3 (S.get 3) (fun r0 _=>XvLoad P 56 (M S.hp S.nx) r0 (fun r1 _=>XvIndexAddr P 56 r1 (S.get 16) (fun r3 _=>XvLoad P 105 (M S.hp S.nx) r3 (fun r4 _=>XvAlloc P 105 S.nx (fun r5 ef5=>XvStore P 105 (M (Eff.hp ef5 S.nx S.hp) (S.nx+ef5.add.length)) r5 r4 (fun r6 ef6=>K ⟨[(1,S.get 1),(2,S.get 2),(3,S.get 3),(9,S.get 9),(10,S.get 10),(11,S.get 11),(12,S.get 12),(17,r5),(84,S.get 84),(85,S.get 85),(86,S.get 86)],(Eff.hp ef6 (S.nx+ef5.add.length) (Eff.hp ef5 S.nx S.hp)),((S.nx+ef5.add.length)+ef6.add.length),S.gh⟩))))))) fun K hK=>?_
    repeat' (first|(refine hK _ ?_;clear hK K)|refine And.intro ?_ ?_|exact cl|(refine st ?_;try simp only[encM,zay,encC,encN,zd2 hj0l])|fail)
    all_goals
    refine sD 16 [1,2,3,9,10,11,12,17,84,85,86,110] (fun P GD S K=>XvIndexAddr P 109 (S.get 12) (.atom (.int .i64 1)) (fun r1 ef1=>XvLoad P 3 (M S.hp S.nx) r1 (fun r2 ef2=>XvSliceV P 9 (S.get 1) (some r2) none (fun r3 ef3=>XvFieldAddr P 105 2 (S.get 17) (fun r4 ef4=>XvLoad P 9 (M S.hp S.nx) r4 (fun r5 ef5=>XvFnDV P (M S.hp S.nx) (.fn 41 []) [r3,r5] (fun r6 ef6=>Xge r6 true (fun k=>k (S.get 2) e0) (fun g8 r8 ef8=>Xge g8 true (fun k=>XvIndexAddr P 109 (S.get 12) (.atom (.int .i64 2)) k) (fun g9 r9 ef9=>Xge g9 true (fun k=>XvLoad P 3 (M (Eff.hp ef6 S.nx S.hp) (S.nx+ef6.add.length)) r9 k) (fun g10 r10 ef10=>Xge g10 true (fun k=>XvSliceV P 9 r8 (some r10) none k) (fun g11 r11 ef11=>Xge g11 true (fun k=>XvFieldAddr P 105 3 (S.get 17) k) (fun g12 r12 ef12=>Xge g12 true (fun k=>XvLoad P 9 (M (Eff.hp ef6 S.nx S.hp) (S.nx+ef6.add.length)) r12 k) (fun g13 r13 ef13=>Xge g13 true (fun k=>XvFnDV P (M (Eff.hp ef6 S.nx S.hp) (S.nx+ef6.add.length)) (.fn 41 []) [r11,r13] k) (fun g14 r14 ef14=>XvPick g14 r14 (.atom (.bool false)) (fun r15 ef15=>(trOk S.nx GD [⟨S.nx,0,[],[],[]⟩,⟨S.nx,0,ef1.rd,[],[]⟩,⟨S.nx,0,ef2.rd,[],[]⟩,⟨S.nx,0,ef3.rd,[],[]⟩,⟨S.nx,0,ef4.rd,[],[]⟩,⟨S.nx,0,ef5.rd,[],[]⟩,(Eff.tr ef6 S.nx),⟨(S.nx+ef6.add.length),0,[],[],[]⟩,⟨(S.nx+ef6.add.length),0,ef8.rd,[],[]⟩,⟨(S.nx+ef6.add.length),0,ef9.rd,[],[]⟩,⟨(S.nx+ef6.add.length),0,ef10.rd,[],[]⟩,⟨(S.nx+ef6.add.length),0,ef11.rd,[],[]⟩,⟨(S.nx+ef6.add.length),0,ef12.rd,[],[]⟩,⟨(S.nx+ef6.add.length),0,ef13.rd,[],[]⟩,(Eff.tr ef14 (S.nx+ef6.add.length)),⟨((S.nx+ef6.add.length)+ef14.add.length),0,ef15.rd,[],[]⟩]=true∧K ⟨[(1,S.get 1),(2,S.get 2),(3,S.get 3),(9,S.get 9),(10,S.get 10),(11,S.get 11),(12,S.get 12),(17,S.get 17),(84,S.get 84),(85,S.get 85),(86,S.get 86),(110,r15)],(Eff.hp ef14 (S.nx+ef6.add.length) (Eff.hp ef6 S.nx S.hp)),((S.nx+ef6.add.length)+ef14.add.length),S.gh⟩)))))))))))))))) fun K hK=>?_
    repeat' (first|(refine hK _ ?_;clear hK K)|(refine(?_:trOk _ _ _=true);kernel_rfl)|((first|refine zav (fun hg=>?_) (fun hg=>?_)|refine fun(hg:(_:Prop))=>?_)<;>((try simp only[BQ] at hg);try (exfalso;omega)))|refine And.intro ?_ ?_|exact cl|refine .inl ⟨_,_,zdL _ _ (Nat.le_trans (zij _ _ _) (by omega)) (hm.arcs _ (zb5 hj0l)).inp,?_⟩|refine .inl ⟨_,_,zdL _ _ (Nat.le_trans (zij _ _ _) (by omega)) (hm.arcs _ (zb5 hj0l)).out,?_⟩|(refine st ?_;try simp only[encM,zay,encC,encN])|fail)
    all_goals
    refine Tri.cond rfl (fun h110=>?_) (fun h110=>?_)
    ·try (cases h110;done)
     all_goals (try simp only[CQ] at h110)
     all_goals
     have hp1:zbI (s.extract (lnN E n).i s.size) (fC m.arcs j0).inp=true:=by simp_all
     have hp2:zbI (t.extract (lnN E n).j t.size) (fC m.arcs j0).out=true:=by simp_all
     have hl1:=zd1 hp1 hx2
     have hl2:=zd1 hp2 hx3
     have hol:(if k=F.length then List.map encN F else List.take k (List.map encN F))=(F.take k).map encN:=by
       split
       · rw[List.take_of_length_le (by omega)]
       · rw[List.map_take]
     have hol2:((F.take k).map encN).length=k:=by rw[List.length_map,List.length_take];omega
     refine rZ [1,2,3,9,10,11,12,84,85,86] (fun P S K=>XvFieldAddr P 105 1 (S.get 17) (fun r1 _=>XvLoad P 3 (M S.hp S.nx) r1 (fun r2 _=>XvIndexAddr P 109 (S.get 12) (.atom (.int .i64 1)) (fun r3 _=>XvLoad P 3 (M S.hp S.nx) r3 (fun r4 _=>XvFieldAddr P 105 2 (S.get 17) (fun r5 _=>XvLoad P 9 (M S.hp S.nx) r5 (fun r6 _=>XvLen P 9 (M S.hp S.nx) r6 (fun r7 _=>XvBinOV P .add 3 (.tmp 118) r4 r7 (fun r8 _=>XvIndexAddr P 109 (S.get 12) (.atom (.int .i64 2)) (fun r9 _=>XvLoad P 3 (M S.hp S.nx) r9 (fun r10 _=>XvFieldAddr P 105 3 (S.get 17) (fun r11 _=>XvLoad P 9 (M S.hp S.nx) r11 (fun r12 _=>XvLen P 9 (M S.hp S.nx) r12 (fun r13 _=>XvBinOV P .add 3 (.tmp 124) r10 r13 (fun r14 _=>XvBuild P 109 [(0,r2),(1,r8),(2,r14)] (fun r15 _=>XvBuildS P 110 1 S.nx [(0,r15)] (fun r16 ef16=>(110=110∧XvAppend P 110 (M (Eff.hp ef16 S.nx S.hp) (S.nx+ef16.add.length)) (S.get 11) r16 (fun r17 ef17=>K ⟨[(1,S.get 1),(2,S.get 2),(3,S.get 3),(9,S.get 9),(10,S.get 10),(11,r17),(12,S.get 12),(84,S.get 84),(85,S.get 85),(86,S.get 86)],(Eff.hp ef17 (S.nx+ef16.add.length) (Eff.hp ef16 S.nx S.hp)),((S.nx+ef16.add.length)+ef17.add.length),S.gh⟩))))))))))))))))))) fun K hK=>?_
     repeat' (first|(refine hK _ ?_;clear hK K)|refine And.intro ?_ ?_|exact cl|(refine st ?_;try simp only[encM,zay,encC,encN,hol,hol2,zae (x:=((lnN E n).i:Int)+(fC m.arcs j0).inp.size) (by omega) (by omega),zae (x:=((lnN E n).j:Int)+(fC m.arcs j0).out.size) (by omega) (by omega)])|fail)
     all_goals try simp (disch:=omega) only[zae,zaf]
     all_goals
     skip
     refine rY [1,2,3,9,10,11,12,84,85,86] (fun P S K=>XvBinOV P .add 3 (.const (.int .i64 1)) (S.get 86) (.atom (.int .i64 1)) (fun r0 _=>K ⟨[(1,S.get 1),(2,S.get 2),(3,S.get 3),(9,S.get 9),(10,S.get 10),(11,S.get 11),(12,S.get 12),(84,S.get 84),(85,S.get 85),(86,r0)],S.hp,S.nx,S.gh⟩)) ?_
     all_goals try simp (disch:=omega) only[zae,zaf]
     all_goals
     first
     | (refine⟨⟨F.take k++[⟨(fC m.arcs j0).to,(lnN E n).i+(fC m.arcs j0).inp.size,(lnN E n).j+(fC m.arcs j0).out.size⟩],k+1,p+1,by simp;omega,by omega,ziP hkF hP (zju hj0 hp1 hp2) ⟨hia.2.2.1,hia.2.2.2,hl1,hl2⟩ (fun ha=>hS.ok _ (List.mem_append.2 (.inr (List.mem_singleton.2 rfl))) (zmI (zb5 hj0l) hj0f hx2 hx3 hp1 hp2 ha)),by omega⟩,[0,1,6,3],by dsimp only;omega,?_⟩
        exact zey)
     | (refine⟨⟨F,k,p+1,hkF,by omega,hP.none (zjv hj0 (by simp_all)),by omega⟩,[0,1,2,3],by dsimp only;omega,?_⟩
        exact zey)
    try (cases h110;done)
    all_goals (try simp only[CQ] at h110)
    all_goals
    refine Tri.skip ?_
    skip
    refine rY [1,2,3,9,10,11,12,84,85,86] (fun P S K=>XvBinOV P .add 3 (.const (.int .i64 1)) (S.get 86) (.atom (.int .i64 1)) (fun r0 _=>K ⟨[(1,S.get 1),(2,S.get 2),(3,S.get 3),(9,S.get 9),(10,S.get 10),(11,S.get 11),(12,S.get 12),(84,S.get 84),(85,S.get 85),(86,r0)],S.hp,S.nx,S.gh⟩)) ?_
    all_goals try simp (disch:=omega) only[zae,zaf]
    all_goals
    first
    | (refine⟨⟨F.take k++[⟨(fC m.arcs j0).to,(lnN E n).i+(fC m.arcs j0).inp.size,(lnN E n).j+(fC m.arcs j0).out.size⟩],k+1,p+1,by simp;omega,by omega,ziP hkF hP (zju hj0 hp1 hp2) ⟨hia.2.2.1,hia.2.2.2,hl1,hl2⟩ (fun ha=>hS.ok _ (List.mem_append.2 (.inr (List.mem_singleton.2 rfl))) (zmI (zb5 hj0l) hj0f hx2 hx3 hp1 hp2 ha)),by omega⟩,[0,1,6,3],by dsimp only;omega,?_⟩
       exact zey)
    | (refine⟨⟨F,k,p+1,hkF,by omega,hP.none (zjv hj0 (by simp_all)),by omega⟩,[0,1,2,3],by dsimp only;omega,?_⟩
       exact zey)
   try (cases h87;done)
   all_goals (try simp only[CQ] at h87)
   all_goals
   refine Tri.exit ?_
   first
   | (refine⟨⟨Vs,E,n,by omega,hS.again hx,by omega⟩,[0,1,2],by dsimp only;omega,?_⟩
      exact zey)
   | (refine⟨⟨Vs++[lnN E n],F,k,hkF,hP.done' (by omega),by rw[List.length_append];show(capU m s t - (Vs.length+1)) * _+_≤_;omega⟩,[0,1,2],by dsimp only;rw[List.length_append];show(capU m s t - (Vs.length+1)) * _+_<_;omega,?_⟩
      exact zey)
  try (cases h40;done)
  all_goals (try simp only[CQ] at h40)
  all_goals
  refine Tri.exit ?_
  refine sY [6,7] (fun P S K=>K ⟨[(6,(.atom (.bool false))),(7,(.atom (.int .i64 0)))],S.hp,S.nx,S.gh⟩) ?_
  all_goals
  refine Tri.ret ?_
  show ResOk _ _ _ _
  have hn0:n=0:=by omega
  subst hn0
  rw[List.take_zero] at hS
  rw[zlt hv0 hnlong,accB_no fun h=>hS.end_ hin (acc_start.2 h)]
  exact ResOk.val zmd zme
theorem zfq{p:Prop}(h:p:=by(refine⟨4,?_,?_,rfl,by simp,rfl,fun _ h _=>absurd h (Nat.not_lt_zero _)⟩<;>(simp only[List.forall_mem_cons];repeat' (first|refine And.intro ?_ ?_|(intro p hp;exact absurd hp List.not_mem_nil)|rfl|exact sp (zaR _)|exact sp (zaK _)|exact sp (zaI _)|exact(zas _ _ _ (zah _)).trans (zbQ _ _).symm|exact(zas _ _ _ (zag _)).trans (zbP _ _).symm|exact sp (by assumption)|(intro o ho;cases ho;refine⟨by decide,?_⟩;first|(refine LeqS.row rfl ?_ ?_;(next=>(first|rfl|(simp only[List.map_append,List.map_cons,List.map_nil,List.append_nil,List.nil_append,List.append_assoc,List.cons_append,encI,encS,ints,strs];done)|(simp[encI,encS,ints,strs,encF,encR,encA,encX];done)));(next=>(first|rfl|exact zal _|exact zaq _|exact zau _|exact zat _|exact zaH _|exact zaT _|exact zaU _|exact zar _|(simp[zar,zal,zaq,zau,zat,zaw,PV.pure,zah,zag,zaR,zaH,zaT,zaU,zaK,zar,encF,encS,zaI];done)));done)|refine⟨_,rfl,rfl,?_⟩)|(simp[St.born,St.known,retV,St.get,St.obj,lk,sealed,PV.ren,renL,rmap,AO.ren,ints,strs,encI,encS,zap,zao,zan,zam,zaC,zaB,zaA,zaz,za1,za0,zaZ,zaY,zcx,zaa,zab,zac,zad,zai,zaj,zaD,za2,zaE,zbd,zaG,zbe,zaL,encF,encR,encA,zbF,encX,zbE,zbB,encM,zay,zaQ,zaF,zax]<;>omega))));first|done|fail):p:=h
theorem lsrM46{p:Prop}(h:p:=by(first|rfl|(simp[St.born,St.known,retV,St.get,St.obj,lk,sealed,PV.ren,renL,rmap,AO.ren,ints,strs,encI,encS,zap,zao,zan,zam,zaC,zaB,zaA,zaz,za1,za0,zaZ,zaY,zcx,zaa,zab,zac,zad,zai,zaj,zaD,za2,zaE,zbd,zaG,zbe,zaL,encF,encR,encA,zbF,encX,zbE,zbB,encM,zay,zaQ,zaF,zax];done));first|done|fail):p:=h
theorem lpvM46{p:Prop}(h:p:=by(first|rfl|(simp[zah,zag,PV.pure,zaw,zal,zaq,zau,zat,zaR,zaH,zaT,zaU,zaK,zar,encF,encS,zaI];done));first|done|fail):p:=h
def zez (x:LexD) (w:ByteArray):UInt8:=if zcc x w≠[] then 49 else if zb7 x w≠[] then 50 else 51
theorem zcQ (c:UInt8) (f:FormD):zbA (resF c f) 0=c∧1≤(resF c f).size:=by
  have h:=zio c f
  refine⟨?_,?_⟩
  · show(bl (resF c f)).getD 0 0=c
    rw[h];rfl
  · rw[←zc4,h];simp
theorem zqs (w:ByteArray):mkB 51++w++slB=resF 51 ⟨w,w,⟨#[]⟩⟩:=(zdt _).symm
theorem zkW (x:LexD) (w:ByteArray):resl x w=(zcc x w).map (resF 49)++(zb7 x w).map (resF 50)++[resF 51 ⟨w,w,⟨#[]⟩⟩]:=by unfold resl;rw[zqs]
theorem zfG{x:LexD}{w s:ByteArray}(h:s∈resl x w):1≤s.size∧(zez x w).toNat≤(zbA s 0).toNat:=by
  rw[zkW] at h
  simp only[List.mem_append,List.mem_map,List.mem_singleton] at h
  unfold zez
  rcases h with (⟨f,hf,rfl⟩|⟨f,hf,rfl⟩)|rfl
  · rw[(zcQ _ _).1,if_pos (List.ne_nil_of_mem hf)]
    exact⟨(zcQ _ _).2,Nat.le_refl _⟩
  · rw[(zcQ _ _).1]
    refine⟨(zcQ _ _).2,?_⟩
    split
    · decide
    · rw[if_pos (List.ne_nil_of_mem hf)];decide
  · rw[(zcQ _ _).1]
    refine⟨(zcQ _ _).2,?_⟩
    split
    · decide
    · split<;>decide
def zgP (c:UInt8) (s:ByteArray):Bool:=decide (((zbA s 0).toNat:Int)=(c.toNat:Int))
theorem zbX{c d:UInt8}:∀l:List FormD,((l.map (resF d)).filter (zgP c)).length=if c=d then l.length else 0
  | []=>by simp
  | f :: l=>by
    rw[List.map_cons,List.filter_cons]
    have hh:zgP c (resF d f)=decide (c=d):=by
      unfold zgP
      rw[(zcQ d f).1]
      by_cases e:c=d
      · subst e;rw[decide_eq_true rfl,decide_eq_true rfl]
      · rw[decide_eq_false e,decide_eq_false]
        intro g
        exact e (UInt8.toNat_inj.1 (by omega))
    rw[hh]
    by_cases e:c=d
    · rw[decide_eq_true e,if_pos rfl,if_pos e,List.length_cons,zbX l,if_pos e,List.length_cons]
    · rw[decide_eq_false e,if_neg (by decide),zbX l,if_neg e,if_neg e]
theorem znt (x:LexD) (w:ByteArray):((resl x w).filter (zgP (zez x w))).length=(allX x w).length:=by
  have e3:([resF 51 ⟨w,w,⟨#[]⟩⟩].filter (zgP (zez x w))).length=if zez x w=51 then 1 else 0:=by
    have:=zbX (c:=zez x w) (d:=51) [⟨w,w,⟨#[]⟩⟩]
    exact this
  rw[zkW,List.filter_append,List.filter_append,List.length_append,List.length_append,zbX,zbX,e3]
  unfold allX zez
  by_cases h1:zcc x w≠[]
  · rw[if_pos h1,if_pos h1];simp
  · rw[if_neg h1,if_neg h1]
    by_cases h2:zb7 x w≠[]
    · rw[if_pos h2,if_pos h2];simp
    · rw[if_neg h2,if_neg h2];simp
theorem zlS{x:LexD}{w:ByteArray}{f:FormD}(h:f∈allX x w):resF (zez x w) f∈resl x w:=by
  rw[zkW]
  unfold allX at h
  unfold zez
  simp only[List.mem_append,List.mem_map,List.mem_singleton]
  by_cases h1:zcc x w≠[]
  · rw[if_pos h1] at h ⊢;exact .inl (.inl ⟨f,h,rfl⟩)
  · rw[if_neg h1] at h ⊢
    by_cases h2:zb7 x w≠[]
    · rw[if_pos h2] at h ⊢;exact .inl (.inr ⟨f,h,rfl⟩)
    · rw[if_neg h2] at h ⊢
      rw[List.mem_singleton.1 h]
      exact .inr rfl
theorem zeo (l:List ByteArray):(zb2 l).Perm l:=by
  have e:∀l:List ByteArray,(l.map bl).map (fun l=>(⟨l.toArray⟩:ByteArray))=l:=fun l=>by rw[List.map_map];exact List.map_id'' (fun s=>zhw s) l
  unfold zb2
  have:=((List.mergeSort_perm (l.map bl) (fun x y=>decide (x≤y))).map fun l=>(⟨l.toArray⟩:ByteArray))
  rw[e] at this
  exact this
theorem zkS{l:List ByteArray}{s:ByteArray}(h:s∈l):leS (ls (zb2 l) 0) s:=by
  have hp:=zeo l
  have hs:(zb2 l).Pairwise leS:=by
    unfold zb2
    rw[List.pairwise_map]
    have tr:∀a b c:List UInt8,decide (a≤b)=true→decide (b≤c)=true→decide (a≤c)=true:=fun a b c h1 h2=>by
      rw[decide_eq_true_eq] at *;exact List.le_trans h1 h2
    have to:∀a b:List UInt8,(decide (a≤b) || decide (b≤a))=true:=fun a b=>by
      rw[Bool.or_eq_true,decide_eq_true_eq,decide_eq_true_eq];exact List.le_total a b
    exact(List.pairwise_mergeSort tr to (l.map bl)).imp fun h=>of_decide_eq_true h
  have hm:=hp.mem_iff.2 h
  cases hso:zb2 l with
  | nil=>rw[hso] at hm;cases hm
  | cons a r=>
    rw[hso] at hm hs
    rcases List.mem_cons.1 hm with rfl|hm
    · exact leS_refl _
    · exact(List.pairwise_cons.1 hs).1 s hm
theorem leS_head{a b:ByteArray}(h:leS a b) (ha:1≤a.size) (hb:1≤b.size):(zbA a 0).toNat≤(zbA b 0).toNat:=by
  unfold leS at h
  unfold zbA
  change ((bl a).getD 0 0).toNat≤((bl b).getD 0 0).toNat
  cases hla:bl a with
  | nil=>rw[←zc4,hla] at ha;simp at ha
  | cons c r=>
    cases hlb:bl b with
    | nil=>rw[←zc4,hlb] at hb;simp at hb
    | cons d q=>
      rw[hla,hlb] at h
      show c.toNat≤d.toNat
      have:=List.not_lt.2 h
      apply Nat.le_of_not_lt
      intro g
      exact this (List.cons_lt_cons_iff.2 (.inl (UInt8.lt_iff_toNat_lt.2 g)))
structure LeastF (x:LexD) (w:ByteArray) (R:List ByteArray):Prop where
  len:0<R.length∧R.length≤97
  sizes:∀k,k<R.length→1≤(ls R k).size
  first:zbA (ls R 0) 0=zez x w
  count:(R.filter (zgP (zez x w))).length=(allX x w).length
  all:∀f,f∈allX x w→OutR (zbH x) w 0 0 (resF (zez x w) f)
theorem zk6{x:LexD}{w:ByteArray}(hv:zbc x=0) (hp:zbv w=true) (hw:w.size≤4096):LeastF x w (resR x w):=by
  obtain⟨g1,g2⟩:=(zh6 hw).1 hp
  have hR:resR x w=zb2 (resl x w):=if_pos hp
  have hperm:=zeo (resl x w)
  have hmem:∀k,k<(resR x w).length→ls (resR x w) k∈resl x w:=fun k hk=>by
    have:=zfX hk
    rw[hR] at this ⊢
    exact hperm.mem_iff.1 this
  have hl:(resR x w).length=(resl x w).length:=by rw[hR,zcu]
  have hpos:0<(resl x w).length:=by unfold resl;simp;omega
  refine⟨⟨by omega,by rw[hl];exact resl_len hv⟩,fun k hk=>(zfG (hmem k hk)).1,?_,?_,fun f hf=>?_⟩
  · obtain⟨f,hf⟩:=List.exists_mem_of_length_pos (zmF x w)
    have hm:=zlS hf
    have h1:=zfG (hmem 0 (by omega))
    have h2:=zfG hm
    have h3:leS (ls (resR x w) 0) (resF (zez x w) f):=by rw[hR];exact zkS hm
    have h4:=leS_head h3 h1.1 h2.1
    rw[(zcQ _ _).1] at h4
    exact UInt8.toNat_inj.1 (by omega)
  · rw[hR,←znt]
    exact(hperm.filter _).length_eq
  · rw[zqz hv]
    exact(zl9 hv g1 g2).1 (zlS hf)
theorem zqW{x:LexD}{w:ByteArray}{f:FormD}(hv:zbc x=0) (hw:w.size≤256) (hf:(resF (zez x w) f).size≤4096) (h:OutR (zbH x) w 0 0 (resF (zez x w) f)):accM (zbH x) w (resF (zez x w) f)=(true,0):=by
  rw[zlt (fun h=>h (validM_0.2 (zfL hv))) (by omega),accB_iff.2 h]
theorem zgd{R:List ByteArray}{p:ByteArray→Bool}{k:Nat}(h:k<R.length):((R.take (k+1)).filter p).length=((R.take k).filter p).length+(if p (ls R k)=true then 1 else 0):=by
  rw[List.take_succ_eq_append_getElem h,List.filter_append,List.length_append,zk3 h]
  congr 1
  rw[List.filter_cons]
  split
  · rfl
  · rfl
theorem zry{x:LexD}{w:ByteArray}{f:FormD}(hv:zbc x=0) (h:f∈allX x w):f.word=w∧f.lem.size≤w.size+24∧f.cls.size≤8:=by
  refine⟨zrz h,?_⟩
  unfold allX at h
  split at h
  · obtain⟨k,hk,rfl⟩:=List.getElem_of_mem h
    have:=zle hv hk
    rw[zek hk] at this;omega
  · split at h
    · obtain⟨k,hk,rfl⟩:=List.getElem_of_mem h
      have:=zkU hv hk
      rw[zek hk] at this;omega
    · rw[List.mem_singleton.1 h]
      exact⟨by show w.size≤_;omega,Nat.zero_le _⟩
theorem zqV (l:List Int) {w:ByteArray}(hp:zbv w=true):¬64<(resR (zcI l) w).length:=by
  have h:=zgG l
  have h1:=zbu (zbs (zcI l) w) []
  have h2:=zbu (zbC (zcI l) w) []
  have h3:(zbs (zcI l) w).length≤(zcI l).forms.length:=List.length_filter_le _ _
  have h4:(zbC (zcI l) w).length≤(zcI l).rules.length:=List.length_filterMap_le _ _
  have e1:(zcc (zcI l) w).length=((zbs (zcI l) w).foldl putF []).length:=rfl
  have e2:(zb7 (zcI l) w).length=((zbC (zcI l) w).foldl putF []).length:=rfl
  have hR:resR (zcI l) w=zb2 (resl (zcI l) w):=if_pos hp
  have e3:(resl (zcI l) w).length=(zcc (zcI l) w).length+(zb7 (zcI l) w).length+1:=by unfold resl;simp;omega
  rw[hR,zcu]
  simp only[List.length_nil] at h1 h2
  omega
theorem mach_cap{x:LexD}{w t:ByteArray}(hv:zbc x=0) (hw:w.size≤24) (ht:t.size≤100):capU (zbH x) w t * ((zbH x).arcs.length+1)≤1000000000000:=by
  obtain⟨_,_,h3,h4⟩:=mach_G hv
  have h1:(zbH x).states.toNat≤2244:=by
    show(((zcn (zbD x.forms) x.rules).n+2:Nat):Int).toNat≤_
    omega
  have h2:(zbH x).arcs.length≤9622:=by
    show(zee _).A.length≤_
    simp only[zee,List.length_append,zbN,List.length_cons,List.length_nil];omega
  have h5:(w.size+1) * (t.size+1)≤25 * 101:=Nat.mul_le_mul (by omega) (by omega)
  have h6:capU (zbH x) w t≤2244 * (25 * 101):=Nat.mul_le_mul h1 h5
  have h7:capU (zbH x) w t * ((zbH x).arcs.length+1)≤(2244 * (25 * 101)) * 9623:=Nat.mul_le_mul h6 (by omega)
  omega
theorem zrj{s:ByteArray}(h:1≤s.size):s.extract 0 1=mkB (zbA s 0):=by
  refine zcE ?_
  rw[zeG,List.drop_zero,Nat.sub_zero]
  show(bl s).take 1=[(bl s).getD 0 0]
  cases hs:bl s with
  | nil=>rw[←zc4,hs] at h;simp at h
  | cons c r=>rfl
theorem zkc (m:List Int):∀w,w∈zgi m→w.size≤24∧zbv w=true:=fun w hw=>by
  obtain⟨n,_,rfl⟩:=List.mem_map.1 hw
  have:=(letS_iff.1 (zeO n)).2.2
  exact⟨by omega,zol n⟩
theorem znK (l m:List Int) (hl:Fits l) (hm:Fits m) (hlv:Pure Try.prog 9 [] (.atom (.bool true)) []):
    Pure Try.prog 5 [ints l,ints m] (.atom (.bool true)) []:=by
  have hx:=zqJ l
  have hv:=zhy l
  generalize hxe:zcI l=x at hx hv
  have hmade:=zrI l hl
  rw[hxe] at hmade
  have hWl:=zmK m
  have hWs:=zkc m
  have hwm:=zkX m hm
  generalize zgi m=W at hWl hWs hwm
  refine Pure.intro (ts:=[4]) Try.func5 (by kernel_rfl) rfl rfl rfl (Nat.le_of_ble_eq_true rfl) ?_ ?_
  · simp[zah,zag,encI,encS,PV.pure,zaw]
  refine sY [0,1] (fun P S K=>K ⟨[(0,S.get 0),(1,S.get 1)],S.hp,S.nx,S.gh⟩) ?_
  all_goals
  refine sZ [1,5] (fun P S K=>XvFnIV P (M S.hp S.nx) (.fn 7 []) [(S.get 0)] (fun r1 ef1=>XvFnIV P (M (Eff.hp ef1 S.nx S.hp) (S.nx+ef1.add.length)) (.fn 6 []) [r1] (fun r2 ef2=>XvAlloc P 27 ((S.nx+ef1.add.length)+ef2.add.length) (fun r3 ef3=>XvStore P 27 (M (Eff.hp ef3 ((S.nx+ef1.add.length)+ef2.add.length) (Eff.hp ef2 (S.nx+ef1.add.length) (Eff.hp ef1 S.nx S.hp))) (((S.nx+ef1.add.length)+ef2.add.length)+ef3.add.length)) r3 r2 (fun r4 ef4=>K ⟨[(1,S.get 1),(5,r3)],(Eff.hp ef4 (((S.nx+ef1.add.length)+ef2.add.length)+ef3.add.length) (Eff.hp ef3 ((S.nx+ef1.add.length)+ef2.add.length) (Eff.hp ef2 (S.nx+ef1.add.length) (Eff.hp ef1 S.nx S.hp)))),((((S.nx+ef1.add.length)+ef2.add.length)+ef3.add.length)+ef4.add.length),S.gh⟩))))) fun K hK=>?_
  repeat' (first|(refine hK _ ?_;clear hK K)|refine And.intro ?_ ?_|exact cl|refine .inl ⟨_,_,hmade,?_⟩|refine .inl ⟨_,_,own_pure x hx,?_⟩|(refine st ?_;try simp only[encX,zaa,zab,zac,encF,zad,zai,zaj,encM,zay,zaQ])|fail)
  all_goals
  refine sZ [1,5,6,7] (fun P S K=>XvLoad P 27 (M S.hp S.nx) (S.get 5) (fun r0 _=>XvFnIV P (M S.hp S.nx) (.fn 16 []) [r0] (fun r1 ef1=>XvExtract r1 0 (fun r3 _=>XvExtract r1 1 (fun r4 _=>XvAlloc P 58 (S.nx+ef1.add.length) (fun r5 ef5=>XvStore P 58 (M (Eff.hp ef5 (S.nx+ef1.add.length) (Eff.hp ef1 S.nx S.hp)) ((S.nx+ef1.add.length)+ef5.add.length)) r5 r3 (fun r6 ef6=>K ⟨[(1,S.get 1),(5,S.get 5),(6,r5),(7,r4)],(Eff.hp ef6 ((S.nx+ef1.add.length)+ef5.add.length) (Eff.hp ef5 (S.nx+ef1.add.length) (Eff.hp ef1 S.nx S.hp))),(((S.nx+ef1.add.length)+ef5.add.length)+ef6.add.length),S.gh⟩))))))) fun K hK=>?_
  repeat' (first|(refine hK _ ?_;clear hK K)|refine And.intro ?_ ?_|exact cl|refine .inl ⟨_,_,zmk x hx hv,?_⟩|(refine st ?_;try simp only[encX,zaa,zab,zac,encF,zad,zai,zaj,encM,zay,zaQ])|fail)
  all_goals
  refine Tri.seq ?_
  refine sY [1,5,6,28] (fun P S K=>XvBinOV P .neq 41 (.const (.int .i64 0)) (S.get 7) (.atom (.int .i64 0)) (fun r1 _=>K ⟨[(1,S.get 1),(5,S.get 5),(6,S.get 6),(28,r1)],S.hp,S.nx,S.gh⟩)) ?_
  all_goals
  refine Tri.cond rfl (fun h28=>?_) (fun h28=>?_)
  ·try (cases h28;done)
   all_goals (try simp only[CQ] at h28)
   all_goals
   refine sY [4] (fun P S K=>K ⟨[(4,(.atom (.bool false)))],S.hp,S.nx,S.gh⟩) ?_
   all_goals
   refine Tri.ret ?_
   show ResOk _ _ _ _
   done
  try (cases h28;done)
  all_goals (try simp only[CQ] at h28)
  all_goals
  refine Tri.skip ?_
  refine sZ [5,6,8] (fun P S K=>XvFnIV P (M S.hp S.nx) (.fn 8 []) [(S.get 1)] (fun r1 ef1=>K ⟨[(5,S.get 5),(6,S.get 6),(8,r1)],(Eff.hp ef1 S.nx S.hp),(S.nx+ef1.add.length),S.gh⟩)) fun K hK=>?_
  repeat' (first|(refine hK _ ?_;clear hK K)|refine And.intro ?_ ?_|exact cl|refine .inl ⟨_,_,hwm,?_⟩|refine .inl ⟨_,_,hlv,?_⟩|(refine st ?_;try simp only[encX,zaa,zab,zac,encF,zad,zai,zaj,encM,zay,zaQ])|fail)
  all_goals
  refine Tri.seq ?_
  refine sY [5,6,8,9] (fun P S K=>K ⟨[(5,S.get 5),(6,S.get 6),(8,S.get 8),(9,(.atom (.int .i64 0)))],S.hp,S.nx,S.gh⟩) ?_
  all_goals
  refine Tri.block ?_
  refine Tri.loop (α:=(i:Nat) ×' (i≤W.length)) (fun z=>(fun(i:Nat)=>(⟨[(5,.ptr 0 3 0 0),(6,.ptr 1 4 0 0),(8,strs W),(9,encI i)],[(0,some ⟨3,[encX x]⟩),(1,some ⟨4,[encM (zbH x)]⟩)],2,[]⟩:St)) z.1) (fun z=>(fun(i:Nat)=>W.length - i) z.1) ⟨0,Nat.zero_le _⟩ [0,1] ?_ ?_
  ·exact zfq
  rintro⟨i,hi⟩
  refine Tri.seq ?_
  refine sZ [5,6,8,9,34] (fun P S K=>XvLen P 35 (M S.hp S.nx) (S.get 8) (fun r2 _=>XvBinOV P .lss 3 (.tmp 33) (S.get 9) r2 (fun r3 _=>K ⟨[(5,S.get 5),(6,S.get 6),(8,S.get 8),(9,S.get 9),(34,r3)],S.hp,S.nx,S.gh⟩))) fun K hK=>?_
  repeat' (first|(refine hK _ ?_;clear hK K)|(refine st ?_;try simp only[encX,zaa,zab,zac,encF,zad,zai,zaj,encM,zay,zaQ])|fail)
  all_goals
  refine Tri.cond rfl (fun h34=>?_) (fun h34=>?_)
  ·try (cases h34;done)
   all_goals (try simp only[CQ] at h34)
   all_goals
   refine Tri.skip ?_
   refine Tri.seq ?_
   refine Tri.block ?_
   have hiW:i<W.length:=by omega
   obtain⟨hwz,hwp⟩:=hWs _ (zfX hiW)
   have he1:errX x [ls W i]=0:=zjN hv (by simpa using hwp)
   have hal:allE x (ls W i)=allX x (ls W i):=if_pos he1
   have hap:=zhz (w:=ls W i) hv (by omega)
   have hlf:=zk6 hv hwp (by omega)
   have hall:=zmG x (ls W i) hx
   have hals:=fun f hf=>zry (x:=x) (w:=ls W i) (f:=f) hv hf
   have h64:¬64<(resR x (ls W i)).length:=by rw[←hxe];exact zqV l hwp
   rw[if_neg h64] at hap
   have hacc0:=fun f hf hz=>zqW (x:=x) (w:=ls W i) (f:=f) hv (by omega) hz (hlf.all f hf)
   have hnf:=hx.nforms
   have hnr:=hx.nrules
   obtain⟨hR1,hR2⟩:=hlf.len
   have hR3:=hlf.sizes
   have hR4:=hlf.first
   have hR5:=hlf.count
   generalize zez x (ls W i)=c0 at hR4 hR5 hacc0
   generalize resR x (ls W i)=R at hap hR1 hR2 hR3 hR4 hR5 h64
   generalize hale:allX x (ls W i)=al at hal hall hals hR5 hacc0
   have hd0:decide ((R.length:Int)=0)=false:=decide_eq_false (by omega)
   have hR30:=hR3 0 hR1
   have hd1:decide (((ls R 0).size:Int)=0)=false:=decide_eq_false (by omega)
   refine sD 11 [5,6,8,9,10,11] (fun P GD S K=>XvLoad P 27 (M S.hp S.nx) (S.get 5) (fun r0 ef0=>XvIndexAddr P 35 (S.get 8) (S.get 9) (fun r3 ef3=>XvLoad P 9 (M S.hp S.nx) r3 (fun r4 ef4=>XvFnDV P (M S.hp S.nx) (.fn 12 []) [r0,r4] (fun r5 ef5=>XvExtract r5 0 (fun r7 ef7=>XvExtract r5 1 (fun r8 ef8=>(trOk S.nx GD [⟨S.nx,0,ef0.rd,[],[]⟩,⟨S.nx,0,[],[],[]⟩,⟨S.nx,0,[],[],[]⟩,⟨S.nx,0,ef3.rd,[],[]⟩,⟨S.nx,0,ef4.rd,[],[]⟩,(Eff.tr ef5 S.nx),⟨(S.nx+ef5.add.length),0,[],[],[]⟩,⟨(S.nx+ef5.add.length),0,ef7.rd,[],[]⟩,⟨(S.nx+ef5.add.length),0,ef8.rd,[],[]⟩,⟨(S.nx+ef5.add.length),0,[],[],[]⟩,⟨(S.nx+ef5.add.length),0,[],[],[]⟩]=true∧K ⟨[(5,S.get 5),(6,S.get 6),(8,S.get 8),(9,S.get 9),(10,r7),(11,r8)],(Eff.hp ef5 S.nx S.hp),(S.nx+ef5.add.length),S.gh⟩)))))))) fun K hK=>?_
   repeat' (first|(refine hK _ ?_;clear hK K)|(refine(?_:trOk _ _ _=true);(try simp only[zaM hiW,he1,hal]);kernel_rfl)|refine And.intro ?_ ?_|exact cl|refine .inl ⟨_,_,zhB x (ls W i) hx (by omega),?_⟩|(refine st ?_;try simp only[encX,zaa,zab,zac,encF,zad,zai,zaj,encM,zay,zaQ,zaM hiW,he1,hal])|fail)
   all_goals
   refine sD 11 [5,6,8,9,10,11,12,13] (fun P GD S K=>XvLoad P 58 (M S.hp S.nx) (S.get 6) (fun r0 ef0=>XvIndexAddr P 35 (S.get 8) (S.get 9) (fun r3 ef3=>XvLoad P 9 (M S.hp S.nx) r3 (fun r4 ef4=>XvFnDV P (M S.hp S.nx) (.fn 17 []) [r0,r4] (fun r5 ef5=>XvExtract r5 0 (fun r7 ef7=>XvExtract r5 1 (fun r8 ef8=>(trOk S.nx GD [⟨S.nx,0,ef0.rd,[],[]⟩,⟨S.nx,0,[],[],[]⟩,⟨S.nx,0,[],[],[]⟩,⟨S.nx,0,ef3.rd,[],[]⟩,⟨S.nx,0,ef4.rd,[],[]⟩,(Eff.tr ef5 S.nx),⟨(S.nx+ef5.add.length),0,[],[],[]⟩,⟨(S.nx+ef5.add.length),0,ef7.rd,[],[]⟩,⟨(S.nx+ef5.add.length),0,ef8.rd,[],[]⟩,⟨(S.nx+ef5.add.length),0,[],[],[]⟩,⟨(S.nx+ef5.add.length),0,[],[],[]⟩]=true∧K ⟨[(5,S.get 5),(6,S.get 6),(8,S.get 8),(9,S.get 9),(10,S.get 10),(11,S.get 11),(12,r7),(13,r8)],(Eff.hp ef5 S.nx S.hp),(S.nx+ef5.add.length),S.gh⟩)))))))) fun K hK=>?_
   repeat' (first|(refine hK _ ?_;clear hK K)|(refine(?_:trOk _ _ _=true);(try simp only[zaM hiW,hap]);kernel_rfl)|refine And.intro ?_ ?_|exact cl|refine .inl ⟨_,_,zgp (zbH x) (ls W i) (zgH hv) (by omega),?_⟩|(refine st ?_;try simp only[encX,zaa,zab,zac,encF,zad,zai,zaj,encM,zay,zaQ,zaM hiW,hap])|fail)
   all_goals
   refine Tri.seq ?_
   refine sZ [5,6,8,9,10,12,72] (fun P S K=>XvBinOV P .neq 41 (.const (.int .i64 0)) (S.get 11) (.atom (.int .i64 0)) (fun r1 _=>Xgq r1 false (fun k=>k (S.get 13)) (fun g3 r3=>Xgq g3 false (fun k=>XvBinOV P .neq 41 (.const (.int .i64 0)) r3 (.atom (.int .i64 0)) (fun r4 _=>k r4)) (fun g4 r4=>XvPick g4 (.atom (.bool true)) r4 (fun r5 _=>Xgq r5 false (fun k=>k (S.get 12)) (fun g7 r7=>Xgq g7 false (fun k=>XvLen P 35 (M S.hp S.nx) r7 (fun r8 _=>k r8)) (fun g8 r8=>Xgq g8 false (fun k=>XvBinOV P .eql 3 (.const (.int .i64 0)) r8 (.atom (.int .i64 0)) (fun r9 _=>k r9)) (fun g9 r9=>XvPick g9 (.atom (.bool true)) r9 (fun r10 _=>Xgq r10 false (fun k=>k (S.get 12)) (fun g12 r12=>Xgq g12 false (fun k=>XvIndexAddr P 35 r12 (.atom (.int .i64 0)) (fun r13 _=>k r13)) (fun g13 r13=>Xgq g13 false (fun k=>XvLoad P 9 (M S.hp S.nx) r13 (fun r14 _=>k r14)) (fun g14 r14=>Xgq g14 false (fun k=>XvLen P 9 (M S.hp S.nx) r14 (fun r15 _=>k r15)) (fun g15 r15=>Xgq g15 false (fun k=>XvBinOV P .eql 3 (.const (.int .i64 0)) r15 (.atom (.int .i64 0)) (fun r16 _=>k r16)) (fun g16 r16=>XvPick g16 (.atom (.bool true)) r16 (fun r17 _=>K ⟨[(5,S.get 5),(6,S.get 6),(8,S.get 8),(9,S.get 9),(10,S.get 10),(12,S.get 12),(72,r17)],S.hp,S.nx,S.gh⟩))))))))))))))) fun K hK=>?_
   repeat' (first|(refine hK _ ?_;clear hK K)|refine And.intro ?_ ?_|exact cl|(refine st ?_;try simp only[encX,zaa,zab,zac,encF,zad,zai,zaj,encM,zay,zaQ,↓SE,hd0,hd1,zaM hR1])|refine sx ?_ (by simp only[encX,zaa,zab,zac,encF,zad,zai,zaj,encM,zay,zaQ,↓SE,hd0,hd1,zaM hR1];exact rfl)|fail)
   all_goals
   refine Tri.cond rfl (fun h72=>?_) (fun h72=>?_)
   ·try (cases h72;done)
    all_goals (try simp only[CQ] at h72)
    all_goals
    refine sY [4] (fun P S K=>K ⟨[(4,(.atom (.bool false)))],S.hp,S.nx,S.gh⟩) ?_
    all_goals
    refine Tri.ret ?_
    show ResOk _ _ _ _
    done
   try (cases h72;done)
   all_goals (try simp only[CQ] at h72)
   all_goals
   refine Tri.skip ?_
   refine sY [5,6,8,9,10,12,14] (fun P S K=>K ⟨[(5,S.get 5),(6,S.get 6),(8,S.get 8),(9,S.get 9),(10,S.get 10),(12,S.get 12),(14,(.atom (.int .i64 0)))],S.hp,S.nx,S.gh⟩) ?_
   all_goals
   refine Tri.seq ?_
   refine sY [5,6,8,9,10,12,14,15] (fun P S K=>K ⟨[(5,S.get 5),(6,S.get 6),(8,S.get 8),(9,S.get 9),(10,S.get 10),(12,S.get 12),(14,S.get 14),(15,(.atom (.int .i64 0)))],S.hp,S.nx,S.gh⟩) ?_
   all_goals
   refine Tri.block ?_
   refine Tri.loop (α:=(k:Nat) ×' (n:Nat) ×' (k≤R.length∧n=((R.take k).filter (zgP c0)).length∧n≤k)) (fun z=>(fun(k:Nat) (n:Nat)=>(⟨[(5,.ptr 0 3 0 0),(6,.ptr 1 4 0 0),(8,strs W),(9,encI i),(10,zaa al),(12,strs R),(14,encI n),(15,encI k)],[(0,some ⟨3,[encX x]⟩),(1,some ⟨4,[encM (zbH x)]⟩)],2,[]⟩:St)) z.1 z.2.1) (fun z=>(fun(k:Nat) (n:Nat)=>R.length - k) z.1 z.2.1) ⟨0,0,⟨Nat.zero_le _,rfl,Nat.le_refl _⟩⟩ [0,1] ?_ ?_
   ·exact zfq
   rintro⟨k,n,⟨hk,hn,hnk⟩⟩
   refine Tri.seq ?_
   refine sZ [5,6,8,9,10,12,14,15,76] (fun P S K=>XvLen P 35 (M S.hp S.nx) (S.get 12) (fun r2 _=>XvBinOV P .lss 3 (.tmp 75) (S.get 15) r2 (fun r3 _=>K ⟨[(5,S.get 5),(6,S.get 6),(8,S.get 8),(9,S.get 9),(10,S.get 10),(12,S.get 12),(14,S.get 14),(15,S.get 15),(76,r3)],S.hp,S.nx,S.gh⟩))) fun K hK=>?_
   repeat' (first|(refine hK _ ?_;clear hK K)|(refine st ?_;try simp only[encX,zaa,zab,zac,encF,zad,zai,zaj,encM,zay,zaQ])|fail)
   all_goals
   refine Tri.cond rfl (fun h76=>?_) (fun h76=>?_)
   ·try (cases h76;done)
    all_goals (try simp only[CQ] at h76)
    all_goals
    refine Tri.skip ?_
    refine Tri.seq ?_
    refine Tri.block ?_
    have hkR:k<R.length:=by omega
    have hkz:=hR3 k hkR
    have hd2:decide ((0:Int)<((ls R k).size:Int))=true:=decide_eq_true (by omega)
    refine sD 18 [5,6,8,9,10,12,14,15,96] (fun P GD S K=>XvIndexAddr P 35 (S.get 12) (S.get 15) (fun r2 ef2=>XvLoad P 9 (M S.hp S.nx) r2 (fun r3 ef3=>XvLen P 9 (M S.hp S.nx) r3 (fun r4 ef4=>XvBinOV P .gtr 3 (.const (.int .i64 0)) r4 (.atom (.int .i64 0)) (fun r5 ef5=>Xge r5 true (fun k=>k (S.get 12) e0) (fun g7 r7 ef7=>Xge g7 true (fun k=>k (S.get 15) e0) (fun g8 r8 ef8=>Xge g8 true (fun k=>XvIndexAddr P 35 r7 r8 k) (fun g9 r9 ef9=>Xge g9 true (fun k=>XvLoad P 9 (M S.hp S.nx) r9 k) (fun g10 r10 ef10=>Xge g10 true (fun k=>XvIndex P 9 r10 (.atom (.int .i64 0)) k) (fun g11 r11 ef11=>Xge g11 true (fun k=>k (S.get 12) e0) (fun g12 r12 ef12=>Xge g12 true (fun k=>XvIndexAddr P 35 r12 (.atom (.int .i64 0)) k) (fun g13 r13 ef13=>Xge g13 true (fun k=>XvLoad P 9 (M S.hp S.nx) r13 k) (fun g14 r14 ef14=>Xge g14 true (fun k=>XvIndex P 9 r14 (.atom (.int .i64 0)) k) (fun g15 r15 ef15=>Xge g15 true (fun k=>XvBinOV P .eql 5 (.tmp 94) r11 r15 k) (fun g16 r16 ef16=>XvPick g16 r16 (.atom (.bool false)) (fun r17 ef17=>(trOk S.nx GD [⟨S.nx,0,[],[],[]⟩,⟨S.nx,0,[],[],[]⟩,⟨S.nx,0,ef2.rd,[],[]⟩,⟨S.nx,0,ef3.rd,[],[]⟩,⟨S.nx,0,ef4.rd,[],[]⟩,⟨S.nx,0,ef5.rd,[],[]⟩,⟨S.nx,0,[],[],[]⟩,⟨S.nx,0,ef7.rd,[],[]⟩,⟨S.nx,0,ef8.rd,[],[]⟩,⟨S.nx,0,ef9.rd,[],[]⟩,⟨S.nx,0,ef10.rd,[],[]⟩,⟨S.nx,0,ef11.rd,[],[]⟩,⟨S.nx,0,ef12.rd,[],[]⟩,⟨S.nx,0,ef13.rd,[],[]⟩,⟨S.nx,0,ef14.rd,[],[]⟩,⟨S.nx,0,ef15.rd,[],[]⟩,⟨S.nx,0,ef16.rd,[],[]⟩,⟨S.nx,0,ef17.rd,[],[]⟩]=true∧K ⟨[(5,S.get 5),(6,S.get 6),(8,S.get 8),(9,S.get 9),(10,S.get 10),(12,S.get 12),(14,S.get 14),(15,S.get 15),(96,r17)],S.hp,S.nx,S.gh⟩))))))))))))))))) fun K hK=>?_
    repeat' (first|(refine hK _ ?_;clear hK K)|(refine(?_:trOk _ _ _=true);(try simp only[↓SE,zaM hkR,zaM hR1,hR4,hd2]);kernel_rfl)|((first|refine zav (fun hg=>?_) (fun hg=>?_)|refine fun(hg:(_:Prop))=>?_)<;>((try simp only[BQ,List.length_map] at hg);try (cases hg;done);try (exfalso;omega)))|refine And.intro ?_ ?_|exact cl|(refine st ?_;try simp only[encX,zaa,zab,zac,encF,zad,zai,zaj,encM,zay,zaQ,↓SE,zaM hkR,zaM hR1,hR4,hd2])|refine sx ?_ (by simp only[encX,zaa,zab,zac,encF,zad,zai,zaj,encM,zay,zaQ,↓SE,zaM hkR,zaM hR1,hR4,hd2];exact rfl)|fail)
    all_goals
    refine Tri.cond rfl (fun h96=>?_) (fun h96=>?_)
    ·try (cases h96;done)
     all_goals (try simp only[CQ] at h96)
     all_goals
     refine rY [5,6,8,9,10,12,14,15] (fun P S K=>XvBinOV P .add 3 (.const (.int .i64 1)) (S.get 14) (.atom (.int .i64 1)) (fun r1 _=>K ⟨[(5,S.get 5),(6,S.get 6),(8,S.get 8),(9,S.get 9),(10,S.get 10),(12,S.get 12),(14,r1),(15,S.get 15)],S.hp,S.nx,S.gh⟩)) ?_
     all_goals try simp (disch:=omega) only[zae,zaf]
     all_goals
     refine rY [5,6,8,9,10,12,14,15] (fun P S K=>XvBinOV P .add 3 (.const (.int .i64 1)) (S.get 15) (.atom (.int .i64 1)) (fun r1 _=>K ⟨[(5,S.get 5),(6,S.get 6),(8,S.get 8),(9,S.get 9),(10,S.get 10),(12,S.get 12),(14,S.get 14),(15,r1)],S.hp,S.nx,S.gh⟩)) ?_
     all_goals try simp (disch:=omega) only[zae,zaf]
     all_goals
     first
     | (refine⟨⟨k+1,n+1,by omega,by rw[zgd hkR,if_pos (show zgP c0 (ls R k)=true from decide_eq_true h96),hn],by omega⟩,[0,1],by dsimp only;omega,?_⟩
        exact zfq)
     | (refine⟨⟨k+1,n,by omega,by rw[zgd hkR,if_neg (show ¬zgP c0 (ls R k)=true from fun g=>h96 (of_decide_eq_true g)),hn];rfl,by omega⟩,[0,1],by dsimp only;omega,?_⟩
        exact zfq)
    try (cases h96;done)
    all_goals (try simp only[CQ] at h96)
    all_goals
    refine Tri.skip ?_
    refine rY [5,6,8,9,10,12,14,15] (fun P S K=>XvBinOV P .add 3 (.const (.int .i64 1)) (S.get 15) (.atom (.int .i64 1)) (fun r1 _=>K ⟨[(5,S.get 5),(6,S.get 6),(8,S.get 8),(9,S.get 9),(10,S.get 10),(12,S.get 12),(14,S.get 14),(15,r1)],S.hp,S.nx,S.gh⟩)) ?_
    all_goals try simp (disch:=omega) only[zae,zaf]
    all_goals
    first
    | (refine⟨⟨k+1,n+1,by omega,by rw[zgd hkR,if_pos (show zgP c0 (ls R k)=true from decide_eq_true h96),hn],by omega⟩,[0,1],by dsimp only;omega,?_⟩
       exact zfq)
    | (refine⟨⟨k+1,n,by omega,by rw[zgd hkR,if_neg (show ¬zgP c0 (ls R k)=true from fun g=>h96 (of_decide_eq_true g)),hn];rfl,by omega⟩,[0,1],by dsimp only;omega,?_⟩
       exact zfq)
   try (cases h76;done)
   all_goals (try simp only[CQ] at h76)
   all_goals
   refine Tri.exit ?_
   refine Tri.seq ?_
   have hna:n=al.length:=by rw[hn,List.take_of_length_le (by omega)];exact hR5
   subst hna
   refine sY [5,6,8,9,10,12,14,16] (fun P S K=>K ⟨[(5,S.get 5),(6,S.get 6),(8,S.get 8),(9,S.get 9),(10,S.get 10),(12,S.get 12),(14,S.get 14),(16,(.atom (.int .i64 0)))],S.hp,S.nx,S.gh⟩) ?_
   all_goals
   refine Tri.block ?_
   refine Tri.loop (α:=(k2:Nat) ×' (k2≤al.length)) (fun z=>(fun(k2:Nat)=>(⟨[(5,.ptr 0 3 0 0),(6,.ptr 1 4 0 0),(8,strs W),(9,encI i),(10,zaa al),(12,strs R),(14,encI al.length),(16,encI k2)],[(0,some ⟨3,[encX x]⟩),(1,some ⟨4,[encM (zbH x)]⟩)],2,[]⟩:St)) z.1) (fun z=>(fun(k2:Nat)=>al.length - k2) z.1) ⟨0,Nat.zero_le _⟩ [0,1] ?_ ?_
   ·exact zfq
   rintro⟨k2,hk2⟩
   refine Tri.seq ?_
   refine sZ [5,6,8,9,10,12,14,16,102] (fun P S K=>XvLen P 23 (M S.hp S.nx) (S.get 10) (fun r2 _=>XvBinOV P .lss 3 (.tmp 101) (S.get 16) r2 (fun r3 _=>K ⟨[(5,S.get 5),(6,S.get 6),(8,S.get 8),(9,S.get 9),(10,S.get 10),(12,S.get 12),(14,S.get 14),(16,S.get 16),(102,r3)],S.hp,S.nx,S.gh⟩))) fun K hK=>?_
   repeat' (first|(refine hK _ ?_;clear hK K)|(refine st ?_;try simp only[encX,zaa,zab,zac,encF,zad,zai,zaj,encM,zay,zaQ])|fail)
   all_goals
   refine Tri.cond rfl (fun h102=>?_) (fun h102=>?_)
   ·try (cases h102;done)
    all_goals (try simp only[CQ] at h102)
    all_goals
    refine Tri.skip ?_
    refine Tri.seq ?_
    refine Tri.block ?_
    have hka:k2<al.length:=by omega
    obtain⟨hz1,hz2,hz3⟩:=hals _ (zdp hka)
    have hs1:(mkB c0).size=1:=rfl
    have hs47:(⟨#[47]⟩:ByteArray).size=1:=rfl
    have hx1:(ls R 0).extract 0 1=mkB c0:=by rw[←hR4];exact zrj hR30
    have hz4:(mkB c0++(fF al k2).lem).size=1+(fF al k2).lem.size:=by rw[ByteArray.size_append,hs1]
    have hz5:(mkB c0++(fF al k2).lem++(⟨#[47]⟩:ByteArray)).size=1+(fF al k2).lem.size+1:=by rw[ByteArray.size_append,hz4,hs47]
    have hz6:(resF c0 (fF al k2)).size=1+(fF al k2).lem.size+1+(fF al k2).cls.size:=by
      show(mkB c0++(fF al k2).lem++(⟨#[47]⟩:ByteArray)++(fF al k2).cls).size=_
      rw[ByteArray.size_append,hz5]
    have hacc:=zqi (zbH x) (ls W i) (resF c0 (fF al k2)) (zgH hv) (by omega) (by omega) (fun _ _ _=>mach_cap hv hwz (by omega))
    rw[hacc0 _ (zdp hka) (by omega)] at hacc
    refine sD 28 [5,6,8,9,10,12,14,16,17,18] (fun P GD S K=>XvLoad P 58 (M S.hp S.nx) (S.get 6) (fun r0 ef0=>XvIndexAddr P 35 (S.get 8) (S.get 9) (fun r3 ef3=>XvLoad P 9 (M S.hp S.nx) r3 (fun r4 ef4=>XvIndexAddr P 35 (S.get 12) (.atom (.int .i64 0)) (fun r6 ef6=>XvLoad P 9 (M S.hp S.nx) r6 (fun r7 ef7=>XvSliceV P 9 r7 none (some (.atom (.int .i64 1))) (fun r8 ef8=>XvIndexAddr P 23 (S.get 10) (S.get 16) (fun r11 ef11=>XvFieldAddr P 40 1 r11 (fun r12 ef12=>XvLoad P 9 (M S.hp S.nx) r12 (fun r13 ef13=>XvBinOV P .add 9 (.tmp 119) r8 r13 (fun r14 ef14=>XvBinOV P .add 9 (.const (.string { data := #[47] })) r14 (.atom (.string { data := #[47] })) (fun r15 ef15=>XvIndexAddr P 23 (S.get 10) (S.get 16) (fun r18 ef18=>XvFieldAddr P 40 2 r18 (fun r19 ef19=>XvLoad P 9 (M S.hp S.nx) r19 (fun r20 ef20=>XvBinOV P .add 9 (.tmp 126) r15 r20 (fun r21 ef21=>XvFnDV P (M S.hp S.nx) (.fn 18 []) [r0,r4,r21] (fun r22 ef22=>XvExtract r22 0 (fun r24 ef24=>XvExtract r22 1 (fun r25 ef25=>(trOk S.nx GD [⟨S.nx,0,ef0.rd,[],[]⟩,⟨S.nx,0,[],[],[]⟩,⟨S.nx,0,[],[],[]⟩,⟨S.nx,0,ef3.rd,[],[]⟩,⟨S.nx,0,ef4.rd,[],[]⟩,⟨S.nx,0,[],[],[]⟩,⟨S.nx,0,ef6.rd,[],[]⟩,⟨S.nx,0,ef7.rd,[],[]⟩,⟨S.nx,0,ef8.rd,[],[]⟩,⟨S.nx,0,[],[],[]⟩,⟨S.nx,0,[],[],[]⟩,⟨S.nx,0,ef11.rd,[],[]⟩,⟨S.nx,0,ef12.rd,[],[]⟩,⟨S.nx,0,ef13.rd,[],[]⟩,⟨S.nx,0,ef14.rd,[],[]⟩,⟨S.nx,0,ef15.rd,[],[]⟩,⟨S.nx,0,[],[],[]⟩,⟨S.nx,0,[],[],[]⟩,⟨S.nx,0,ef18.rd,[],[]⟩,⟨S.nx,0,ef19.rd,[],[]⟩,⟨S.nx,0,ef20.rd,[],[]⟩,⟨S.nx,0,ef21.rd,[],[]⟩,(Eff.tr ef22 S.nx),⟨(S.nx+ef22.add.length),0,[],[],[]⟩,⟨(S.nx+ef22.add.length),0,ef24.rd,[],[]⟩,⟨(S.nx+ef22.add.length),0,ef25.rd,[],[]⟩,⟨(S.nx+ef22.add.length),0,[],[],[]⟩,⟨(S.nx+ef22.add.length),0,[],[],[]⟩]=true∧K ⟨[(5,S.get 5),(6,S.get 6),(8,S.get 8),(9,S.get 9),(10,S.get 10),(12,S.get 12),(14,S.get 14),(16,S.get 16),(17,r24),(18,r25)],(Eff.hp ef22 S.nx S.hp),(S.nx+ef22.add.length),S.gh⟩)))))))))))))))))))) fun K hK=>?_
    repeat' (first|(refine hK _ ?_;clear hK K)|(refine(?_:trOk _ _ _=true);(try simp only[zba hka,zaM hiW,zaM hR1,hx1]);kernel_rfl)|refine And.intro ?_ ?_|exact cl|refine .inl ⟨_,_,hacc,?_⟩|(refine st ?_;try simp only[encX,zaa,zab,zac,encF,zad,zai,zaj,encM,zay,zaQ,zba hka,zaM hiW,zaM hR1,hx1])|refine sx ?_ (by simp only[encX,zaa,zab,zac,encF,zad,zai,zaj,encM,zay,zaQ,zba hka,zaM hiW,zaM hR1,hx1];exact rfl)|fail)
    all_goals try simp (disch:=omega) only[zae,zaf]
    all_goals
    refine sD 18 [5,6,8,9,10,12,14,16,148] (fun P GD S K=>XvUn .not (S.get 17) (fun r1 ef1=>Xge r1 false (fun k=>k (S.get 18) e0) (fun g3 r3 ef3=>Xge g3 false (fun k=>XvBinOV P .neq 41 (.const (.int .i64 0)) r3 (.atom (.int .i64 0)) k) (fun g4 r4 ef4=>XvPick g4 (.atom (.bool true)) r4 (fun r5 ef5=>Xge r5 false (fun k=>k (S.get 10) e0) (fun g7 r7 ef7=>Xge g7 false (fun k=>k (S.get 16) e0) (fun g8 r8 ef8=>Xge g8 false (fun k=>XvIndexAddr P 23 r7 r8 k) (fun g9 r9 ef9=>Xge g9 false (fun k=>XvFieldAddr P 40 0 r9 k) (fun g10 r10 ef10=>Xge g10 false (fun k=>XvLoad P 9 (M S.hp S.nx) r10 k) (fun g11 r11 ef11=>Xge g11 false (fun k=>k (S.get 8) e0) (fun g12 r12 ef12=>Xge g12 false (fun k=>k (S.get 9) e0) (fun g13 r13 ef13=>Xge g13 false (fun k=>XvIndexAddr P 35 r12 r13 k) (fun g14 r14 ef14=>Xge g14 false (fun k=>XvLoad P 9 (M S.hp S.nx) r14 k) (fun g15 r15 ef15=>Xge g15 false (fun k=>XvBinOV P .neq 9 (.tmp 146) r11 r15 k) (fun g16 r16 ef16=>XvPick g16 (.atom (.bool true)) r16 (fun r17 ef17=>(trOk S.nx GD [⟨S.nx,0,[],[],[]⟩,⟨S.nx,0,ef1.rd,[],[]⟩,⟨S.nx,0,[],[],[]⟩,⟨S.nx,0,ef3.rd,[],[]⟩,⟨S.nx,0,ef4.rd,[],[]⟩,⟨S.nx,0,ef5.rd,[],[]⟩,⟨S.nx,0,[],[],[]⟩,⟨S.nx,0,ef7.rd,[],[]⟩,⟨S.nx,0,ef8.rd,[],[]⟩,⟨S.nx,0,ef9.rd,[],[]⟩,⟨S.nx,0,ef10.rd,[],[]⟩,⟨S.nx,0,ef11.rd,[],[]⟩,⟨S.nx,0,ef12.rd,[],[]⟩,⟨S.nx,0,ef13.rd,[],[]⟩,⟨S.nx,0,ef14.rd,[],[]⟩,⟨S.nx,0,ef15.rd,[],[]⟩,⟨S.nx,0,ef16.rd,[],[]⟩,⟨S.nx,0,ef17.rd,[],[]⟩]=true∧K ⟨[(5,S.get 5),(6,S.get 6),(8,S.get 8),(9,S.get 9),(10,S.get 10),(12,S.get 12),(14,S.get 14),(16,S.get 16),(148,r17)],S.hp,S.nx,S.gh⟩))))))))))))))))) fun K hK=>?_
    repeat' (first|(refine hK _ ?_;clear hK K)|(refine(?_:trOk _ _ _=true);(try simp only[↓SE,zba hka,zaM hiW,hz1]);kernel_rfl)|refine And.intro ?_ ?_|exact cl|(refine st ?_;try simp only[encX,zaa,zab,zac,encF,zad,zai,zaj,encM,zay,zaQ,↓SE,zba hka,zaM hiW,hz1])|fail)
    all_goals try simp (disch:=omega) only[zae,zaf]
    all_goals
    refine Tri.cond rfl (fun h148=>?_) (fun h148=>?_)
    ·try (cases h148;done)
     all_goals (try simp only[CQ] at h148)
     all_goals
     refine sY [4] (fun P S K=>K ⟨[(4,(.atom (.bool false)))],S.hp,S.nx,S.gh⟩) ?_
     all_goals
     refine Tri.ret ?_
     show ResOk _ _ _ _
     done
    try (cases h148;done)
    all_goals (try simp only[CQ] at h148)
    all_goals
    refine Tri.skip ?_
    refine rY [5,6,8,9,10,12,14,16] (fun P S K=>XvBinOV P .add 3 (.const (.int .i64 1)) (S.get 16) (.atom (.int .i64 1)) (fun r1 _=>K ⟨[(5,S.get 5),(6,S.get 6),(8,S.get 8),(9,S.get 9),(10,S.get 10),(12,S.get 12),(14,S.get 14),(16,r1)],S.hp,S.nx,S.gh⟩)) ?_
    all_goals try simp (disch:=omega) only[zae,zaf]
    all_goals
    refine⟨⟨k2+1,by omega⟩,[0,1],by dsimp only;omega,?_⟩
    exact zfq
   try (cases h102;done)
   all_goals (try simp only[CQ] at h102)
   all_goals
   refine Tri.exit ?_
   refine sZ [5,6,8,9,152] (fun P S K=>XvLen P 23 (M S.hp S.nx) (S.get 10) (fun r2 _=>XvBinOV P .neq 3 (.tmp 151) (S.get 14) r2 (fun r3 _=>K ⟨[(5,S.get 5),(6,S.get 6),(8,S.get 8),(9,S.get 9),(152,r3)],S.hp,S.nx,S.gh⟩))) fun K hK=>?_
   repeat' (first|(refine hK _ ?_;clear hK K)|(refine st ?_;try simp only[encX,zaa,zab,zac,encF,zad,zai,zaj,encM,zay,zaQ,↓SE])|fail)
   all_goals
   refine Tri.cond rfl (fun h152=>?_) (fun h152=>?_)
   ·try (cases h152;done)
    all_goals (try simp only[CQ] at h152)
    all_goals
    refine sY [4] (fun P S K=>K ⟨[(4,(.atom (.bool false)))],S.hp,S.nx,S.gh⟩) ?_
    all_goals
    refine Tri.ret ?_
    show ResOk _ _ _ _
    done
   try (cases h152;done)
   all_goals (try simp only[CQ] at h152)
   all_goals
   refine Tri.skip ?_
   refine rY [5,6,8,9] (fun P S K=>XvBinOV P .add 3 (.const (.int .i64 1)) (S.get 9) (.atom (.int .i64 1)) (fun r1 _=>K ⟨[(5,S.get 5),(6,S.get 6),(8,S.get 8),(9,r1)],S.hp,S.nx,S.gh⟩)) ?_
   all_goals try simp (disch:=omega) only[zae,zaf]
   all_goals
   refine⟨⟨i+1,by omega⟩,[0,1],by dsimp only;omega,?_⟩
   exact zfq
  try (cases h34;done)
  all_goals (try simp only[CQ] at h34)
  all_goals
  refine Tri.exit ?_
  refine sZ [4] (fun P S K=>XvFnIV P (M S.hp S.nx) (.fn 9 []) [] (fun r0 ef0=>K ⟨[(4,r0)],(Eff.hp ef0 S.nx S.hp),(S.nx+ef0.add.length),S.gh⟩)) fun K hK=>?_
  repeat' (first|(refine hK _ ?_;clear hK K)|refine And.intro ?_ ?_|exact cl|refine .inl ⟨_,_,hwm,?_⟩|refine .inl ⟨_,_,hlv,?_⟩|(refine st ?_;try simp only[encX,zaa,zab,zac,encF,zad,zai,zaj,encM,zay,zaQ])|fail)
  all_goals
  refine Tri.ret ?_
  show ResOk _ _ _ _
  exact ResOk.val lsrM46 lpvM46
end Go.Proofs.Ytehoglapajkabaa
