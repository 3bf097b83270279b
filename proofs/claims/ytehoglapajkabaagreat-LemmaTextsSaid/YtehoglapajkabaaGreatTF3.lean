/-
  Fold of package token,seen by the clean machine;tokens of a text.
-/
import Derived.Test.YtehoglapajkabaaGreatTM0
import Derived.Test.YtehoglapajkabaaGreatTVD
import Derived.Test.YtehoglapajkabaaGreatTF1
set_option linter.all false
namespace Go.Proofs.YtehoglapajkabaaGreat
open Go Go.RowKit
set_option maxRecDepth 20000
set_option maxHeartbeats 1000000
theorem zl0{p:Prop}(h:p:=by(refine⟨4,?_,?_,rfl,by simp,rfl,fun _ h _=>absurd h (Nat.not_lt_zero _)⟩<;>(simp only[List.forall_mem_cons];repeat' (first|refine And.intro ?_ ?_|(intro p hp;exact absurd hp List.not_mem_nil)|rfl|exact(zat _ _ _ (zah _)).trans (zbW _ _).symm|exact(zat _ _ _ (zag _)).trans (zbV _ _).symm|exact sp (by assumption)|(intro o ho;cases ho;refine⟨by decide,?_⟩;first|(refine LeqS.row rfl ?_ ?_;(next=>(first|rfl|(simp only[List.map_append,List.map_cons,List.map_nil,List.append_nil,List.nil_append,List.append_assoc,List.cons_append,encI,encS,ints,strs];done)|(simp[encI,encS,ints,strs,encT];done)));(next=>(first|rfl|exact zao _|exact zar _|exact zav _|exact zau _|exact zbA _|(simp[zas,zao,zar,zav,zau,zax,PV.pure,zah,zag,zbA];done)));done)|refine⟨_,rfl,rfl,?_⟩)|(simp[St.born,St.known,retV,St.get,St.obj,lk,sealed,PV.ren,renL,rmap,AO.ren,ints,strs,encI,encS,zan,zam,zal,zak,zaB,zaA,zaz,zay,zaY,zaX,zaW,zaV]<;>omega))));first|done|fail):p:=h
theorem lelF2{p:Prop}(h:p:=by(first|rfl|(simp only[List.map_append,List.map_cons,List.map_nil,List.append_nil,List.nil_append,List.append_assoc,List.cons_append,encI,encS,ints,strs];done)|(simp[encI,encS,ints,strs,encT];done));first|done|fail):p:=h
theorem lpuF2{p:Prop}(h:p:=by(first|rfl|exact zao _|exact zar _|exact zav _|exact zau _|exact zbA _|(simp[zas,zao,zar,zav,zau,zax,PV.pure,zah,zag,zbA];done));first|done|fail):p:=h
theorem zoP{p:Prop}(h:p:=by(first|rfl|(simp[St.born,St.known,retV,St.get,St.obj,lk,sealed,PV.ren,renL,rmap,AO.ren,ints,strs,encI,encS,zan,zam,zal,zak,zaB,zaA,zaz,zay,zaY,zaX,zaW,zaV];done));first|done|fail):p:=h
theorem ziQ{p:Prop}(h:p:=by(first|rfl|(simp[zah,zag,PV.pure,zax,zao,zar,zav,zau,zbA];done));first|done|fail):p:=h
theorem Rep.atomEq{D:Nat→Prop}{μ:Nat→Option Nat}{F:Nat→Prop}{w:World}{u v:Value}(h:Rep D μ F w (.atom u) v):v=u:=by cases h;rfl
theorem ResIs.atom{F:Nat→Prop}{w w':World}(v:Value):ResIs F w w' (.atom v) [] v:=
  ⟨fun _=>none,fun _=>False,.atom v,fun i o hi=>by simp at hi,fun i b hi=>by simp at hi,fun i j b hi=>by simp at hi,fun b hb=>hb.elim⟩
theorem Pure.atoms{P:Program}{f:FuncId}(args:List Value) (v:Value) (hen:zgd P f) (h:∀w,Calls P f args.toArray w fun e w'=>e=.returned v∧Bel w w'):Pure P f (args.map PV.atom) (.atom v) []:=by
  refine⟨hen,fun D μ F w vs hvs hargs hF=>?_⟩
  have e:vs=args.toArray:=by
    refine Array.ext (by simpa using hvs) fun i h1 h2=>?_
    have hi:i<(args.map PV.atom).length:=by simpa using h2
    have:=hargs i hi
    rw[List.getElem_map] at this
    have:=this.atomEq
    simpa[Array.getD,h1] using this
  rw[e]
  refine(h w).mono fun e w' he=>?_
  obtain⟨rfl,hb⟩:=he
  exact⟨v,rfl,hb,ResIs.atom v⟩
def foldS (s:ByteArray):ByteArray:=Elder.foldS s
theorem zhq (s:ByteArray) (hs:s.size≤4294967296):Pure Tryz.prog 69 [encS s] (encS (foldS s)) []:=
  Pure.atoms [.string s] _ (enters_of Tryz.func69 (by kernel_rfl) rfl) (fun w=>(Calls.drawn (Elder.Fold_any s w hs) fun e w' h=>⟨_,h.1⟩).mono fun e w' h=>⟨h.1.1,⟨h.1.2,h.2⟩⟩)
def zde (c:UInt8):Int:=if (97≤c.toNat∧c.toNat≤122)∨(65≤c.toNat∧c.toNat≤90) then 0 else if 48≤c.toNat∧c.toNat≤57 then 1 else if c.toNat=64 then 3 else 2
theorem zen (c:UInt8):Pure Tryz.prog 88 [.atom (.int .u8 (c.toNat:Int))] (encI (zde c)) []:=by
  have hk:zde c=if (97≤c.toNat∧c.toNat≤122)∨(65≤c.toNat∧c.toNat≤90) then 0 else if 48≤c.toNat∧c.toNat≤57 then 1 else if c.toNat=64 then 3 else 2:=rfl
  refine Pure.intro (ts:=[2]) Tryz.func88 (by kernel_rfl) rfl rfl rfl (Nat.le_of_ble_eq_true rfl) ?_ ?_
  · simp[zah,zag,encI,encS,PV.pure,zax]
  refine sY [0] (fun P S K=>K ⟨[(0,S.get 0)],S.hp,S.nx,S.gh⟩) ?_
  all_goals
  refine Tri.seq ?_
  refine Tri.block ?_
  refine sZ [0,3] (fun P S K=>XvBinOV P .leq 5 (.tmp 4) (.atom (.int .u8 97)) (S.get 0) (fun r1 _=>Xgq r1 true (fun k=>k (S.get 0)) (fun g3 r3=>Xgq g3 true (fun k=>XvBinOV P .leq 5 (.const (.int .u8 122)) r3 (.atom (.int .u8 122)) (fun r4 _=>k r4)) (fun g4 r4=>XvPick g4 r4 (.atom (.bool false)) (fun r5 _=>Xgq r5 false (fun k=>k (S.get 0)) (fun g7 r7=>Xgq g7 false (fun k=>XvBinOV P .leq 5 (.tmp 11) (.atom (.int .u8 65)) r7 (fun r8 _=>k r8)) (fun g8 r8=>Xgq g8 false (fun k=>k r8) (fun g9 r9=>Xgq r9 true (fun k=>k (S.get 0)) (fun g10 r10=>Xgq g10 true (fun k=>XvBinOV P .leq 5 (.const (.int .u8 90)) r10 (.atom (.int .u8 90)) (fun r11 _=>k r11)) (fun g11 r11=>Xgq g9 false (fun k=>XvPick g11 r11 (.atom (.bool false)) (fun r12 _=>k r12)) (fun g12 r12=>XvPick g12 (.atom (.bool true)) r12 (fun r13 _=>K ⟨[(0,S.get 0),(3,r13)],S.hp,S.nx,S.gh⟩)))))))))))) fun K hK=>?_
  repeat' (first|(refine hK _ ?_;clear hK K)|((first|refine zaw (fun hg=>?_) (fun hg=>?_)|refine fun(hg:(_:Prop))=>?_)<;>((try simp only[BQ] at hg);try (exfalso;omega)))|refine And.intro ?_ ?_|exact cl|refine st ?_|fail)
  all_goals
  refine Tri.cond rfl (fun h3=>?_) (fun h3=>?_)
  ·try (cases h3;done)
   all_goals (try simp only[CQ] at h3)
   all_goals
   refine sY [2] (fun P S K=>K ⟨[(2,(.atom (.int .i64 0)))],S.hp,S.nx,S.gh⟩) ?_
   all_goals
   refine Tri.ret ?_
   show ResOk _ _ _ _
   rw[hk,if_pos (by omega)]
   exact ResOk.val zoP ziQ
  try (cases h3;done)
  all_goals (try simp only[CQ] at h3)
  all_goals
  refine sZ [0,18] (fun P S K=>XvBinOV P .leq 5 (.tmp 19) (.atom (.int .u8 48)) (S.get 0) (fun r1 _=>Xgq r1 true (fun k=>k (S.get 0)) (fun g3 r3=>Xgq g3 true (fun k=>XvBinOV P .leq 5 (.const (.int .u8 57)) r3 (.atom (.int .u8 57)) (fun r4 _=>k r4)) (fun g4 r4=>XvPick g4 r4 (.atom (.bool false)) (fun r5 _=>K ⟨[(0,S.get 0),(18,r5)],S.hp,S.nx,S.gh⟩))))) fun K hK=>?_
  repeat' (first|(refine hK _ ?_;clear hK K)|((first|refine zaw (fun hg=>?_) (fun hg=>?_)|refine fun(hg:(_:Prop))=>?_)<;>((try simp only[BQ] at hg);try (exfalso;omega)))|refine And.intro ?_ ?_|exact cl|refine st ?_|fail)
  all_goals
  refine Tri.cond rfl (fun h18=>?_) (fun h18=>?_)
  ·try (cases h18;done)
   all_goals (try simp only[CQ] at h18)
   all_goals
   refine sY [2] (fun P S K=>K ⟨[(2,(.atom (.int .i64 1)))],S.hp,S.nx,S.gh⟩) ?_
   all_goals
   refine Tri.ret ?_
   show ResOk _ _ _ _
   rw[hk,if_neg (by omega),if_pos (by omega)]
   exact ResOk.val zoP ziQ
  try (cases h18;done)
  all_goals (try simp only[CQ] at h18)
  all_goals
  refine sY [25] (fun P S K=>XvBinOV P .eql 5 (.const (.int .u8 64)) (S.get 0) (.atom (.int .u8 64)) (fun r1 _=>K ⟨[(25,r1)],S.hp,S.nx,S.gh⟩)) ?_
  all_goals
  refine Tri.cond rfl (fun h25=>?_) (fun h25=>?_)
  ·try (cases h25;done)
   all_goals (try simp only[CQ] at h25)
   all_goals
   refine sY [2] (fun P S K=>K ⟨[(2,(.atom (.int .i64 3)))],S.hp,S.nx,S.gh⟩) ?_
   all_goals
   refine Tri.ret ?_
   show ResOk _ _ _ _
   rw[hk,if_neg (by omega),if_neg (by omega),if_pos (by omega)]
   exact ResOk.val zoP ziQ
  try (cases h25;done)
  all_goals (try simp only[CQ] at h25)
  all_goals
  refine Tri.skip ?_
  refine sY [2] (fun P S K=>K ⟨[(2,(.atom (.int .i64 2)))],S.hp,S.nx,S.gh⟩) ?_
  all_goals
  refine Tri.ret ?_
  show ResOk _ _ _ _
  rw[hk,if_neg (by omega),if_neg (by omega),if_neg (by omega)]
  exact ResOk.val zoP ziQ
def runE (s:ByteArray) (k:Int):Nat→Nat→Nat
  | 0,q=>q
  | n+1,q=>if (k=0∨k=1)∧zde (zaJ s q)=k then runE s k n (q+1) else q
def endN (s:ByteArray) (i:Nat):Nat:=runE s (zde (zaJ s i)) (s.size - (i+1)) (i+1)
theorem zmU (s:ByteArray) (k:Int):∀n q,q≤runE s k n q∧runE s k n q≤q+n
  | 0,q=>⟨Nat.le_refl _,Nat.le_refl _⟩
  | n+1,q=>by
    rw[runE];split
    · have:=zmU s k n (q+1);omega
    · omega
theorem zfc{s:ByteArray}{k:Int}{q:Nat}(h:q<s.size):runE s k (s.size - q) q=if (k=0∨k=1)∧zde (zaJ s q)=k then runE s k (s.size - (q+1)) (q+1) else q:=by
  rw[show s.size - q=(s.size - (q+1))+1 by omega];rfl
theorem zjU{s:ByteArray}{k:Int}{q:Nat}(h:¬ (q<s.size∧(k=0∨k=1)∧zde (zaJ s q)=k)):runE s k (s.size - q) q=q:=by
  by_cases hz:q<s.size
  · rw[zfc hz,if_neg (fun g=>h ⟨hz,g⟩)]
  · rw[show s.size - q=0 by omega];rfl
theorem zfx{s:ByteArray}{i:Nat}(h:i<s.size):i<endN s i∧endN s i≤s.size:=by
  have:=zmU s (zde (zaJ s i)) (s.size - (i+1)) (i+1)
  unfold endN;omega
theorem zlN (s:ByteArray) (i:Nat) (hi:i<s.size) (hs:s.size≤4294967296):Pure Tryz.prog 87 [encI i,.fptr 1 [encS s] 0 0] (encI (endN s i:Nat)) []:=by
  refine Pure.intro (ts:=[3]) Tryz.func87 (by kernel_rfl) rfl rfl rfl (Nat.le_of_ble_eq_true rfl) ?_ ?_
  · simp[encI,encS,PV.pure,zax]
  refine sY [0,1] (fun P S K=>K ⟨[(0,S.get 0),(1,S.get 1)],S.hp,S.nx,S.gh⟩) ?_
  all_goals
  refine sZ [0,1,4] (fun P S K=>XvLoad P 9 (M S.hp S.nx) (S.get 1) (fun r0 _=>XvIndex P 9 r0 (S.get 0) (fun r2 _=>XvFnIV P (M S.hp S.nx) (.fn 88 []) [r2] (fun r3 ef3=>K ⟨[(0,S.get 0),(1,S.get 1),(4,r3)],(Eff.hp ef3 S.nx S.hp),(S.nx+ef3.add.length),S.gh⟩)))) fun K hK=>?_
  repeat' (first|(refine hK _ ?_;clear hK K)|((first|refine zaw (fun hg=>?_) (fun hg=>?_)|refine fun(hg:(_:Prop))=>?_)<;>((try simp only[BQ] at hg);try (exfalso;omega)))|refine And.intro ?_ ?_|exact cl|refine .inl ⟨_,_,zen (zaJ s i),?_⟩|refine .inl ⟨_,_,zen (zaJ s q),?_⟩|refine st ?_|fail)
  all_goals
  refine sY [1,4,5] (fun P S K=>XvBinOV P .add 3 (.const (.int .i64 1)) (S.get 0) (.atom (.int .i64 1)) (fun r1 _=>K ⟨[(1,S.get 1),(4,S.get 4),(5,r1)],S.hp,S.nx,S.gh⟩)) ?_
  all_goals try simp (disch:=omega) only[zae,zaf]
  all_goals
  refine Tri.seq ?_
  refine Tri.block ?_
  refine Tri.loop (α:=(q:Nat) ×' ((i+1≤q∧q≤s.size)∧endN s i=runE s (zde (zaJ s i)) (s.size - q) q)) (fun z=>(fun(q:Nat)=>(⟨[(1,.fptr 1 [encS s] 0 0),(4,encI (zde (zaJ s i))),(5,encI q)],[],0,[]⟩:St)) z.1) (fun z=>(fun(q:Nat)=>s.size - q) z.1) ⟨i+1,⟨⟨by omega,by omega⟩,rfl⟩⟩ [] ?_ ?_
  ·exact zl0
  rintro⟨q,⟨⟨ht1,ht2⟩,hr⟩⟩
  have hr2:=fun(h:q<s.size)=>zfc (k:=zde (zaJ s i)) h
  refine Tri.seq ?_
  refine sZ [1,4,5,31] (fun P S K=>XvBinOV P .eql 3 (.const (.int .i64 0)) (S.get 4) (.atom (.int .i64 0)) (fun r1 _=>Xgq r1 false (fun k=>k (S.get 4)) (fun g3 r3=>Xgq g3 false (fun k=>XvBinOV P .eql 3 (.const (.int .i64 1)) r3 (.atom (.int .i64 1)) (fun r4 _=>k r4)) (fun g4 r4=>XvPick g4 (.atom (.bool true)) r4 (fun r5 _=>Xgq r5 true (fun k=>k (S.get 5)) (fun g7 r7=>Xgq g7 true (fun k=>XvLoad P 9 (M S.hp S.nx) (S.get 1) (fun r8 _=>k r8)) (fun g8 r8=>Xgq g8 true (fun k=>XvLen P 9 (M S.hp S.nx) r8 (fun r9 _=>k r9)) (fun g9 r9=>Xgq g9 true (fun k=>XvBinOV P .lss 3 (.tmp 21) r7 r9 (fun r10 _=>k r10)) (fun g10 r10=>XvPick g10 r10 (.atom (.bool false)) (fun r11 _=>Xgq r11 true (fun k=>XvLoad P 9 (M S.hp S.nx) (S.get 1) (fun r13 _=>k r13)) (fun g13 r13=>Xgq g13 true (fun k=>k (S.get 5)) (fun g14 r14=>Xgq g14 true (fun k=>XvIndex P 9 r13 r14 (fun r15 _=>k r15)) (fun g15 r15=>Xge g15 true (fun k=>XvFnIV P (M S.hp S.nx) (.fn 88 []) [r15] k) (fun g16 r16 ef16=>Xgq g16 true (fun k=>k (S.get 4)) (fun g17 r17=>Xgq g17 true (fun k=>XvBinOV P .eql 3 (.tmp 29) r16 r17 (fun r18 _=>k r18)) (fun g18 r18=>XvPick g18 r18 (.atom (.bool false)) (fun r19 _=>K ⟨[(1,S.get 1),(4,S.get 4),(5,S.get 5),(31,r19)],(Eff.hp ef16 S.nx S.hp),(S.nx+ef16.add.length),S.gh⟩))))))))))))))))) fun K hK=>?_
  repeat' (first|(refine hK _ ?_;clear hK K)|((first|refine zaw (fun hg=>?_) (fun hg=>?_)|refine fun(hg:(_:Prop))=>?_)<;>((try simp only[BQ] at hg);try (exfalso;omega)))|refine And.intro ?_ ?_|exact cl|refine .inl ⟨_,_,zen (zaJ s i),?_⟩|refine .inl ⟨_,_,zen (zaJ s q),?_⟩|refine st ?_|fail)
  all_goals
  refine Tri.cond rfl (fun h31=>?_) (fun h31=>?_)
  ·try (cases h31;done)
   all_goals (try simp only[CQ] at h31)
   all_goals
   refine Tri.skip ?_
   refine Tri.block ?_
   refine rY [1,4,5] (fun P S K=>XvBinOV P .add 3 (.const (.int .i64 1)) (S.get 5) (.atom (.int .i64 1)) (fun r1 _=>K ⟨[(1,S.get 1),(4,S.get 4),(5,r1)],S.hp,S.nx,S.gh⟩)) ?_
   all_goals try simp (disch:=omega) only[zae,zaf]
   all_goals
   refine⟨⟨q+1,⟨by omega,by omega⟩,by rw[hr,hr2 (by omega),if_pos ⟨by omega,by omega⟩]⟩,[],by dsimp only;omega,?_⟩
   exact zl0
  try (cases h31;done)
  all_goals (try simp only[CQ] at h31)
  all_goals
  refine Tri.exit ?_
  have hend:endN s i=q:=hr.trans (zjU (by omega))
  refine sY [3] (fun P S K=>K ⟨[(3,(S.get 5))],S.hp,S.nx,S.gh⟩) ?_
  all_goals
  refine Tri.ret ?_
  show ResOk _ _ _ _
  rw[hend];exact ResOk.val zoP ziQ
theorem u8_32{c:UInt8}(h:(c.toNat:Int)=32):c=32:=UInt8.toNat_inj.1 (by show c.toNat=32;omega)
theorem u8_n32{c:UInt8}(h:¬ (c.toNat:Int)=32):¬c=32:=fun e=>h (by rw[e];rfl)
def encT (x:Int×Int×Int):PV:=.agg [encI x.1,encI x.2.1,encI x.2.2]
theorem zbA (l:List (Int×Int×Int)):zax (l.map encT)=true:=zbl encT (fun _=>rfl) l
def tokF (s:ByteArray):Nat→Nat→List (Int×Int×Int)
  | 0,_=>[]
  | f+1,i=>if i<s.size then (if zaJ s i=32 then tokF s f (i+1) else ((i:Int),((endN s i:Nat):Int),zde (zaJ s i)) :: tokF s f (endN s i)) else []
def tokL (s:ByteArray):List (Int×Int×Int):=tokF s s.size 0
theorem ze7{s:ByteArray}:∀ {f i:Nat},s.size≤i→tokF s f i=[]
  | 0,_,_=>rfl
  | f+1,i,h=>by rw[tokF,if_neg (by omega)]
structure TokI (s:ByteArray) (out:List (Int×Int×Int)) (i:Nat):Prop where
  le:i≤s.size
  len:out.length≤i
  core:∃f,s.size - i≤f∧tokL s=out++tokF s f i
theorem TokI.start (s:ByteArray):TokI s [] 0:=⟨Nat.zero_le _,Nat.le_refl _,s.size,Nat.le_refl _,rfl⟩
theorem TokI.blank{s:ByteArray}{out:List (Int×Int×Int)}{i:Nat}(h:TokI s out i) (hi:i<s.size) (hb:zaJ s i=32):TokI s out (i+1):=by
  obtain⟨f,h1,h2⟩:=h.core
  obtain⟨f,rfl⟩:∃g,f=g+1:=⟨f - 1,by omega⟩
  rw[tokF,if_pos hi,if_pos hb] at h2
  exact⟨hi,by have:=h.len;omega,f,by omega,h2⟩
theorem TokI.tok{s:ByteArray}{out:List (Int×Int×Int)}{i:Nat}(h:TokI s out i) (hi:i<s.size) (hb:¬zaJ s i=32):TokI s (out++[((i:Int),((endN s i:Nat):Int),zde (zaJ s i))]) (endN s i):=by
  obtain⟨f,h1,h2⟩:=h.core
  obtain⟨f,rfl⟩:∃g,f=g+1:=⟨f - 1,by omega⟩
  have hr:=zfx hi
  have hl:=h.len
  rw[tokF,if_pos hi,if_neg hb] at h2
  exact⟨hr.2,by rw[List.length_append,List.length_singleton];omega,f,by omega,by rw[h2,List.append_assoc];rfl⟩
theorem TokI.done{s:ByteArray}{out:List (Int×Int×Int)}{i:Nat}(h:TokI s out i) (hi:s.size≤i):out=tokL s:=by
  obtain⟨f,h1,h2⟩:=h.core
  rw[h2,ze7 hi,List.append_nil]
theorem zoC (s:ByteArray) (hs:s.size≤1000000):Pure Tryz.prog 67 [encS s] (.ob 0 3 0 (tokL s).length) [⟨3,(tokL s).map encT⟩]:=by
  refine Pure.intro (ts:=[2]) Tryz.func67 (by kernel_rfl) rfl rfl rfl (Nat.le_of_ble_eq_true rfl) ?_ ?_
  · simp[encS,PV.pure,zax]
  refine sZ [1] (fun P S K=>XvBox S.nx (S.get 0) (fun r0 ef0=>K ⟨[(1,r0)],(Eff.hp ef0 S.nx S.hp),(S.nx+ef0.add.length),S.gh⟩)) fun K hK=>?_
  repeat' (first|(refine hK _ ?_;clear hK K)|refine st ?_|fail)
  all_goals
  refine sZ [1,3] (fun P S K=>K ⟨[(1,S.get 1),(3,(.atom (.slice none 0 0)))],S.hp,S.nx,S.gh⟩) fun K hK=>?_
  repeat' (first|(refine hK _ ?_;clear hK K)|refine st ?_|fail)
  refine Tri.born 3 3 rfl ?_
  all_goals
  refine sZ [1,3,4] (fun P S K=>XvMakeFV (.func 87) [] [(S.get 1)] (fun r0 _=>K ⟨[(1,S.get 1),(3,S.get 3),(4,r0)],S.hp,S.nx,S.gh⟩)) fun K hK=>?_
  repeat' (first|(refine hK _ ?_;clear hK K)|refine And.intro ?_ ?_|exact cl|refine st ?_|fail)
  all_goals
  refine Tri.seq ?_
  refine sZ [1,3,4,5] (fun P S K=>K ⟨[(1,S.get 1),(3,S.get 3),(4,S.get 4),(5,(.atom (.int .i64 0)))],S.hp,S.nx,S.gh⟩) fun K hK=>?_
  repeat' (first|(refine hK _ ?_;clear hK K)|refine st ?_|fail)
  all_goals
  refine Tri.block ?_
  refine Tri.loop (α:=(out:List (Int×Int×Int)) ×' (i:Nat) ×' (TokI s out i)) (fun z=>(fun(out:List (Int×Int×Int)) (i:Nat)=>(⟨[(1,.ptr 0 1 0 0),(3,.ob 1 3 0 out.length),(4,.fn 87 [.ptr 0 1 0 0]),(5,encI i)],[(0,some ⟨1,[encS s]⟩),(1,some ⟨3,out.map encT⟩)],2,[]⟩:St)) z.1 z.2.1) (fun z=>(fun(out:List (Int×Int×Int)) (i:Nat)=>s.size - i) z.1 z.2.1) ⟨[],0,TokI.start s⟩ [0,1] ?_ ?_
  ·exact zl0
  rintro⟨out,i,hT⟩
  have hle:=hT.le
  have hlen:=hT.len
  refine Tri.seq ?_
  refine sZ [1,3,4,5,11] (fun P S K=>XvLoad P 9 (M S.hp S.nx) (S.get 1) (fun r1 _=>XvLen P 9 (M S.hp S.nx) r1 (fun r2 _=>XvBinOV P .lss 3 (.tmp 10) (S.get 5) r2 (fun r3 _=>K ⟨[(1,S.get 1),(3,S.get 3),(4,S.get 4),(5,S.get 5),(11,r3)],S.hp,S.nx,S.gh⟩)))) fun K hK=>?_
  repeat' (first|(refine hK _ ?_;clear hK K)|refine st ?_|fail)
  all_goals
  refine Tri.cond rfl (fun h11=>?_) (fun h11=>?_)
  ·try (cases h11;done)
   all_goals (try simp only[CQ] at h11)
   all_goals
   refine Tri.skip ?_
   refine Tri.block ?_
   refine Tri.seq ?_
   have hi:i<s.size:=by omega
   have hr:=zfx hi
   refine sZ [1,3,4,5,15] (fun P S K=>XvLoad P 9 (M S.hp S.nx) (S.get 1) (fun r0 _=>XvIndex P 9 r0 (S.get 5) (fun r2 _=>XvBinOV P .eql 5 (.const (.int .u8 32)) r2 (.atom (.int .u8 32)) (fun r3 _=>K ⟨[(1,S.get 1),(3,S.get 3),(4,S.get 4),(5,S.get 5),(15,r3)],S.hp,S.nx,S.gh⟩)))) fun K hK=>?_
   repeat' (first|(refine hK _ ?_;clear hK K)|refine And.intro ?_ ?_|exact cl|refine st ?_|fail)
   all_goals
   refine Tri.cond rfl (fun h15=>?_) (fun h15=>?_)
   ·try (cases h15;done)
    all_goals (try simp only[CQ] at h15)
    all_goals
    refine sZ [1,3,4,5] (fun P S K=>XvBinOV P .add 3 (.const (.int .i64 1)) (S.get 5) (.atom (.int .i64 1)) (fun r1 _=>K ⟨[(1,S.get 1),(3,S.get 3),(4,S.get 4),(5,r1)],S.hp,S.nx,S.gh⟩)) fun K hK=>?_
    repeat' (first|(refine hK _ ?_;clear hK K)|refine st ?_|fail)
    all_goals try simp (disch:=omega) only[zae,zaf]
    all_goals
    refine Tri.exit ?_
    first
    | (refine⟨⟨out,i+1,hT.blank hi (u8_32 (by omega))⟩,[0,1],by dsimp only;omega,?_⟩;exact zl0;done)
    | (refine⟨⟨out++[((i:Int),((endN s i:Nat):Int),zde (zaJ s i))],endN s i,hT.tok hi (u8_n32 (by omega))⟩,[0,3],by dsimp only;omega,?_⟩;exact zl0;done)
   try (cases h15;done)
   all_goals (try simp only[CQ] at h15)
   all_goals
   refine Tri.skip ?_
   refine sZ [1,3,4,5,6] (fun P S K=>XvFnIV P (M S.hp S.nx) (S.get 4) [(S.get 5)] (fun r2 ef2=>K ⟨[(1,S.get 1),(3,S.get 3),(4,S.get 4),(5,S.get 5),(6,r2)],(Eff.hp ef2 S.nx S.hp),(S.nx+ef2.add.length),S.gh⟩)) fun K hK=>?_
   repeat' (first|(refine hK _ ?_;clear hK K)|refine And.intro ?_ ?_|exact cl|refine .inl ⟨_,_,zlN s i hi (by omega),?_⟩|refine st ?_|fail)
   all_goals
   refine sZ [1,3,4,6] (fun P S K=>XvLoad P 9 (M S.hp S.nx) (S.get 1) (fun r3 _=>XvIndex P 9 r3 (S.get 5) (fun r5 _=>XvFnIV P (M S.hp S.nx) (.fn 88 []) [r5] (fun r6 ef6=>XvBuild P 137 [(0,(S.get 5)),(1,(S.get 6)),(2,r6)] (fun r7 _=>XvBuildS P 132 1 (S.nx+ef6.add.length) [(0,r7)] (fun r8 ef8=>(132=132∧XvAppend P 132 (M (Eff.hp ef8 (S.nx+ef6.add.length) (Eff.hp ef6 S.nx S.hp)) ((S.nx+ef6.add.length)+ef8.add.length)) (S.get 3) r8 (fun r9 ef9=>K ⟨[(1,S.get 1),(3,r9),(4,S.get 4),(6,S.get 6)],(Eff.hp ef9 ((S.nx+ef6.add.length)+ef8.add.length) (Eff.hp ef8 (S.nx+ef6.add.length) (Eff.hp ef6 S.nx S.hp))),(((S.nx+ef6.add.length)+ef8.add.length)+ef9.add.length),S.gh⟩)))))))) fun K hK=>?_
   repeat' (first|(refine hK _ ?_;clear hK K)|refine And.intro ?_ ?_|exact cl|refine .inl ⟨_,_,zen (zaJ s i),?_⟩|refine st ?_|fail)
   all_goals
   refine rZ [1,3,4,5] (fun P S K=>K ⟨[(1,S.get 1),(3,S.get 3),(4,S.get 4),(5,(S.get 6))],S.hp,S.nx,S.gh⟩) fun K hK=>?_
   repeat' (first|(refine hK _ ?_;clear hK K)|refine st ?_|fail)
   all_goals
   first
   | (refine⟨⟨out,i+1,hT.blank hi (u8_32 (by omega))⟩,[0,1],by dsimp only;omega,?_⟩;exact zl0;done)
   | (refine⟨⟨out++[((i:Int),((endN s i:Nat):Int),zde (zaJ s i))],endN s i,hT.tok hi (u8_n32 (by omega))⟩,[0,3],by dsimp only;omega,?_⟩;exact zl0;done)
  try (cases h11;done)
  all_goals (try simp only[CQ] at h11)
  all_goals
  refine Tri.exit ?_
  refine sZ [2] (fun P S K=>K ⟨[(2,(S.get 3))],S.hp,S.nx,S.gh⟩) fun K hK=>?_
  repeat' (first|(refine hK _ ?_;clear hK K)|refine st ?_|fail)
  all_goals
  refine Tri.ret ?_
  show ResOk _ _ _ _
  have e:=hT.done (by omega)
  subst e
  exact ResOk.row 1 rfl lelF2 lpuF2 zoP
theorem zhs{p:Prop}(h:p:=by(refine⟨4,?_,?_,rfl,by simp,rfl,fun _ h _=>absurd h (Nat.not_lt_zero _)⟩<;>(simp only[List.forall_mem_cons];repeat' (first|refine And.intro ?_ ?_|(intro p hp;exact absurd hp List.not_mem_nil)|rfl|exact(zat _ _ _ (zah _)).trans (zbW _ _).symm|exact(zat _ _ _ (zag _)).trans (zbV _ _).symm|exact sp (by assumption)|(intro o ho;cases ho;refine⟨by decide,?_⟩;first|(refine LeqS.row rfl ?_ ?_;(next=>(first|rfl|(simp only[List.map_append,List.map_cons,List.map_nil,List.append_nil,List.nil_append,List.append_assoc,List.cons_append,encI,encS,ints,strs];done)|(simp[encI,encS,ints,strs,encT];done)));(next=>(first|rfl|exact zao _|exact zar _|exact zav _|exact zau _|exact zbA _|(simp[zas,zao,zar,zav,zau,zax,PV.pure,zah,zag,zbA];done)));done)|refine⟨_,rfl,rfl,?_⟩)|(simp[St.born,St.known,retV,St.get,St.obj,lk,sealed,PV.ren,renL,rmap,AO.ren,ints,strs,encI,encS,zan,zam,zal,zak,zaB,zaA,zaz,zay,zaY,zaX,zaW,zaV,zbk,zaG,za3,encT,zap]<;>omega))));first|done|fail):p:=h
theorem lsrF3{p:Prop}(h:p:=by(first|rfl|(simp[St.born,St.known,retV,St.get,St.obj,lk,sealed,PV.ren,renL,rmap,AO.ren,ints,strs,encI,encS,zan,zam,zal,zak,zaB,zaA,zaz,zay,zaY,zaX,zaW,zaV,zbk,zaG,za3,encT,zap];done));first|done|fail):p:=h
theorem lstF3{p:Prop}(h:p:=by(first|rfl|(simp[St.born,St.known,retV,St.get,St.obj,lk,sealed,PV.ren,renL,rmap,AO.ren,ints,strs,encI,encS,zan,zam,zal,zak,zaB,zaA,zaz,zay,zaY,zaX,zaW,zaV,zbk,zaG,za3,encT,zap,zap,List.take_length];done));first|done|fail):p:=h
theorem zbk (ρ:Nat→Nat) (l:List (Int×Int×Int)):renL ρ (l.map encT)=l.map encT:=zbf ρ _ (zbA l)
theorem zaG (H:Nat→Option AO) (keep:Nat→Bool) (n:Nat) (l:List (Int×Int×Int)):(l.map encT).map (sealed H keep n)=l.map encT:=zaq H keep n (zbA l)
theorem za3 (ρ:Nat→Nat) (l:List (Int×Int×Int)):(l.map encT).map (PV.ren ρ)=l.map encT:=zaN ρ (zbA l)
def lt3 (l:List (Int×Int×Int)) (k:Nat):Int×Int×Int:=l.getD k (0,0,0)
theorem zgZ{l:List (Int×Int×Int)}{k:Nat}(h:k<l.length):(l.map encT).getD k .junk=encT (lt3 l k):=by simp[lt3,List.getD_eq_getElem?_getD,h]
theorem lt3_mem{l:List (Int×Int×Int)}{k:Nat}(h:k<l.length):lt3 l k∈l:=by simp[lt3,List.getD_eq_getElem?_getD,h]
def ofT (l:List (Int×Int×Int)) (k:Int):Nat→List Int
  | 0=>[]
  | n+1=>if (lt3 l n).2.2=k then ofT l k n++[(n:Int)] else ofT l k n
theorem zr5 (l:List (Int×Int×Int)) (k:Int):∀n,(ofT l k n).length≤n
  | 0=>Nat.le_refl _
  | n+1=>by
    have:=zr5 l k n
    rw[ofT];split
    · rw[List.length_append,List.length_singleton];omega
    · omega
theorem zlW (l:List (Int×Int×Int)) (k:Int):∀n x,x∈ofT l k n→0≤x∧x<n∧(lt3 l x.toNat).2.2=k
  | 0,x,h=>by cases h
  | n + 1,x,h=>by
    rw[ofT] at h
    split at h
    · rename_i hk
      rcases List.mem_append.1 h with h|h
      · have:=zlW l k n x h;exact⟨this.1,by omega,this.2.2⟩
      · rw[List.mem_singleton.1 h];exact⟨by omega,by omega,by rw[Int.toNat_natCast];exact hk⟩
    · have:=zlW l k n x h;exact⟨this.1,by omega,this.2.2⟩
theorem of_pure (l:List (Int×Int×Int)) (k:Int) (hl:l.length≤1000000):Pure Tryz.prog 68 [.sl 3 (l.map encT),encI k] (.ob 0 1 0 (ofT l k l.length).length) [⟨1,(ofT l k l.length).map encI⟩]:=by
  refine Pure.intro (ts:=[4]) Tryz.func68 (by kernel_rfl) rfl rfl rfl (Nat.le_of_ble_eq_true rfl) ?_ ?_
  · simp[zbA,encI,PV.pure,zax]
  refine sY [0,1] (fun P S K=>K ⟨[(0,S.get 0),(1,S.get 1)],S.hp,S.nx,S.gh⟩) ?_
  all_goals
  refine sY [0,1,5] (fun P S K=>K ⟨[(0,S.get 0),(1,S.get 1),(5,(.atom (.slice none 0 0)))],S.hp,S.nx,S.gh⟩) ?_
  refine Tri.born 5 1 rfl ?_
  all_goals
  refine Tri.seq ?_
  refine sZ [1,5,8,9,10] (fun P S K=>XvLen P 132 (M S.hp S.nx) (S.get 0) (fun r1 _=>K ⟨[(1,S.get 1),(5,S.get 5),(8,(S.get 0)),(9,r1),(10,(.atom (.int .i64 0)))],S.hp,S.nx,S.gh⟩)) fun K hK=>?_
  repeat' (first|(refine hK _ ?_;clear hK K)|(refine st ?_;try simp only[encT,za3,zaG,zbk,zap])|fail)
  all_goals
  refine Tri.block ?_
  refine Tri.loop (α:=(o:List Int) ×' (i:Nat) ×' (i≤l.length∧o.length≤i∧o=ofT l k i)) (fun z=>(fun(o:List Int) (i:Nat)=>(⟨[(1,encI k),(5,.ob 0 1 0 o.length),(8,.sl 3 (l.map encT)),(9,encI l.length),(10,encI i)],[(0,some ⟨1,o.map encI⟩)],1,[]⟩:St)) z.1 z.2.1) (fun z=>(fun(o:List Int) (i:Nat)=>l.length - i) z.1 z.2.1) ⟨[],0,⟨Nat.zero_le _,Nat.le_refl _,rfl⟩⟩ [0] ?_ ?_
  ·exact zhs
  rintro⟨o,i,⟨hi,hol,ho⟩⟩
  refine sY [1,5,8,9,10,11] (fun P S K=>XvBinOV P .lss 3 (.tmp 9) (S.get 10) (S.get 9) (fun r0 _=>K ⟨[(1,S.get 1),(5,S.get 5),(8,S.get 8),(9,S.get 9),(10,S.get 10),(11,r0)],S.hp,S.nx,S.gh⟩)) ?_
  all_goals
  refine Tri.seq ?_
  refine Tri.cond rfl (fun h11=>?_) (fun h11=>?_)
  ·try (cases h11;done)
   all_goals (try simp only[CQ] at h11)
   all_goals
   refine Tri.skip ?_
   refine Tri.seq ?_
   refine Tri.block ?_
   have hil:i<l.length:=by omega
   refine sZ [1,5,6,7,8,9,10] (fun P S K=>XvIndexAddr P 132 (S.get 8) (S.get 10) (fun r1 _=>XvLoad P 137 (M S.hp S.nx) r1 (fun r2 _=>XvAlloc P 137 S.nx (fun r3 ef3=>XvStore P 137 (M (Eff.hp ef3 S.nx S.hp) (S.nx+ef3.add.length)) r3 r2 (fun r5 ef5=>K ⟨[(1,S.get 1),(5,S.get 5),(6,(S.get 10)),(7,r3),(8,S.get 8),(9,S.get 9),(10,S.get 10)],(Eff.hp ef5 (S.nx+ef3.add.length) (Eff.hp ef3 S.nx S.hp)),((S.nx+ef3.add.length)+ef5.add.length),S.gh⟩))))) fun K hK=>?_
   repeat' (first|(refine hK _ ?_;clear hK K)|refine And.intro ?_ ?_|exact cl|(refine st ?_;try simp only[encT,za3,zaG,zbk,zap,zgZ hil])|fail)
   all_goals
   refine sZ [1,5,6,8,9,10,18] (fun P S K=>XvFieldAddr P 137 2 (S.get 7) (fun r0 _=>XvLoad P 3 (M S.hp S.nx) r0 (fun r1 _=>XvBinOV P .eql 3 (.tmp 17) r1 (S.get 1) (fun r3 _=>K ⟨[(1,S.get 1),(5,S.get 5),(6,S.get 6),(8,S.get 8),(9,S.get 9),(10,S.get 10),(18,r3)],S.hp,S.nx,S.gh⟩)))) fun K hK=>?_
   repeat' (first|(refine hK _ ?_;clear hK K)|(refine st ?_;try simp only[encT,za3,zaG,zbk,zap])|fail)
   all_goals
   refine Tri.cond rfl (fun h18=>?_) (fun h18=>?_)
   ·try (cases h18;done)
    all_goals (try simp only[CQ] at h18)
    all_goals
    refine rZ [1,5,8,9,10] (fun P S K=>XvBuildS P 22 1 S.nx [(0,(S.get 6))] (fun r2 ef2=>(22=22∧XvAppend P 22 (M (Eff.hp ef2 S.nx S.hp) (S.nx+ef2.add.length)) (S.get 5) r2 (fun r3 ef3=>K ⟨[(1,S.get 1),(5,r3),(8,S.get 8),(9,S.get 9),(10,S.get 10)],(Eff.hp ef3 (S.nx+ef2.add.length) (Eff.hp ef2 S.nx S.hp)),((S.nx+ef2.add.length)+ef3.add.length),S.gh⟩)))) fun K hK=>?_
    repeat' (first|(refine hK _ ?_;clear hK K)|refine And.intro ?_ ?_|exact cl|(refine st ?_;try simp only[encT,za3,zaG,zbk,zap])|fail)
    all_goals
    refine rY [1,5,8,9,10] (fun P S K=>XvBinOV P .add 3 (.const (.int .i64 1)) (S.get 10) (.atom (.int .i64 1)) (fun r0 _=>K ⟨[(1,S.get 1),(5,S.get 5),(8,S.get 8),(9,S.get 9),(10,r0)],S.hp,S.nx,S.gh⟩)) ?_
    all_goals try simp (disch:=omega) only[zae,zaf]
    all_goals
    first
    | (refine⟨⟨o++[(i:Int)],i+1,by omega,by simp;omega,by rw[ofT,if_pos (by assumption),←ho]⟩,[3],by dsimp only;omega,?_⟩
       exact zhs)
    | (refine⟨⟨o,i+1,by omega,by omega,by rw[ofT,if_neg (by assumption),←ho]⟩,[0],by dsimp only;omega,?_⟩
       exact zhs)
   try (cases h18;done)
   all_goals (try simp only[CQ] at h18)
   all_goals
   refine Tri.skip ?_
   refine rY [1,5,8,9,10] (fun P S K=>XvBinOV P .add 3 (.const (.int .i64 1)) (S.get 10) (.atom (.int .i64 1)) (fun r0 _=>K ⟨[(1,S.get 1),(5,S.get 5),(8,S.get 8),(9,S.get 9),(10,r0)],S.hp,S.nx,S.gh⟩)) ?_
   all_goals try simp (disch:=omega) only[zae,zaf]
   all_goals
   first
   | (refine⟨⟨o++[(i:Int)],i+1,by omega,by simp;omega,by rw[ofT,if_pos (by assumption),←ho]⟩,[3],by dsimp only;omega,?_⟩
      exact zhs)
   | (refine⟨⟨o,i+1,by omega,by omega,by rw[ofT,if_neg (by assumption),←ho]⟩,[0],by dsimp only;omega,?_⟩
      exact zhs)
  try (cases h11;done)
  all_goals (try simp only[CQ] at h11)
  all_goals
  refine Tri.exit ?_
  refine sY [4] (fun P S K=>K ⟨[(4,(S.get 5))],S.hp,S.nx,S.gh⟩) ?_
  all_goals
  refine Tri.ret ?_
  show ResOk _ _ _ _
  rw[show ofT l k l.length=o by rw[ho];congr 1;omega]
  exact ResOk.row 0 rfl lelF2 lpuF2 lsrF3
theorem ziA (s:ByteArray):∀f i x,x∈tokF s f i→0≤x.1∧x.1<x.2.1∧x.2.1≤s.size
  | 0,i,x,h=>by cases h
  | f + 1,i,x,h=>by
    rw[tokF] at h
    split at h
    · rename_i hi
      split at h
      · exact ziA s f _ x h
      · rcases List.mem_cons.1 h with rfl|h
        · have:=zfx hi
          exact⟨by simp only;omega,by simp only;omega,by simp only;omega⟩
        · exact ziA s f _ x h
    · cases h
theorem ze6{s:ByteArray}{x:Int×Int×Int}(h:x∈tokL s):0≤x.1∧x.1<x.2.1∧x.2.1≤s.size:=ziA s s.size 0 x h
theorem ziB (s:ByteArray):∀f i,(tokF s f i).length≤f
  | 0,i=>Nat.le_refl _
  | f + 1,i=>by
    rw[tokF]
    split
    · split
      · have:=ziB s f (i+1);omega
      · have:=ziB s f (endN s i);simp only[List.length_cons];omega
    · exact Nat.zero_le _
theorem zmK (s:ByteArray):(tokL s).length≤s.size:=ziB s s.size 0
def tokW (s:ByteArray) (x:Int×Int×Int):ByteArray:=foldS (s.extract x.1.toNat x.2.1.toNat)
def idxW (s:ByteArray):List Int:=ofT (tokL s) 0 (tokL s).length
def zbZ (s:ByteArray):List ByteArray:=(idxW s).map fun i=>tokW s (lt3 (tokL s) i.toNat)
theorem zis (s:ByteArray) (hs:s.size≤1000000):Pure Tryz.prog 35 [encS s] (strs (zbZ s)) []:=by
  have htl:=zmK s
  have hof:=of_pure (tokL s) 0 (by omega)
  have hil0:=zr5 (tokL s) 0 (tokL s).length
  have hmem:=zlW (tokL s) 0 (tokL s).length
  have hwt:zbZ s=(ofT (tokL s) 0 (tokL s).length).map fun i=>tokW s (lt3 (tokL s) i.toNat):=rfl
  generalize ofT (tokL s) 0 (tokL s).length=ix at hof hil0 hmem hwt
  have hflat:(ix.map encI).all PV.flatB=true:=by rw[List.all_map];exact List.all_eq_true.2 fun _ _=>rfl
  refine Pure.intro (ts:=[2]) Tryz.func35 (by kernel_rfl) rfl rfl rfl (Nat.le_of_ble_eq_true rfl) ?_ ?_
  · simp[encS,PV.pure,zax]
  refine sZ [0] (fun P S K=>K ⟨[(0,S.get 0)],S.hp,S.nx,S.gh⟩) fun K hK=>?_
  repeat' (first|(refine hK _ ?_;clear hK K)|(refine st ?_;try simp only[encT,za3,zaG,zbk,zap])|fail)
  all_goals
  refine sZ [0,3] (fun P S K=>XvFnIV P (M S.hp S.nx) (.fn 67 []) [(S.get 0)] (fun r1 ef1=>K ⟨[(0,S.get 0),(3,r1)],(Eff.hp ef1 S.nx S.hp),(S.nx+ef1.add.length),S.gh⟩)) fun K hK=>?_
  repeat' (first|(refine hK _ ?_;clear hK K)|refine .inl ⟨_,_,zoC s hs,?_⟩|(refine st ?_;try simp only[encT,za3,zaG,zbk,zap])|fail)
  all_goals
  refine sZ [0,3,4] (fun P S K=>K ⟨[(0,S.get 0),(3,S.get 3),(4,(.atom (.slice none 0 0)))],S.hp,S.nx,S.gh⟩) fun K hK=>?_
  repeat' (first|(refine hK _ ?_;clear hK K)|(refine st ?_;try simp only[encT,za3,zaG,zbk,zap])|fail)
  refine Tri.born 4 1 rfl ?_
  all_goals
  refine Tri.seq ?_
  refine Tri.cut (α:=Unit) (fun⟨⟩=>⟨[(0,encS s),(3,.sl 3 ((tokL s).map encT)),(4,.ob 0 1 0 0),(10,ints ix),(11,encI ix.length),(12,encI 0)],[(0,some ⟨1,[]⟩)],1,[]⟩) ?_ ?_
  ·skip
   refine rZ [0,3,4,10,11,12] (fun P S K=>XvFnIV P (M S.hp S.nx) (.fn 68 []) [(S.get 3),(.atom (.int .i64 0))] (fun r1 ef1=>XvLen P 22 (M (Eff.hp ef1 S.nx S.hp) (S.nx+ef1.add.length)) r1 (fun r2 _=>K ⟨[(0,S.get 0),(3,S.get 3),(4,S.get 4),(10,r1),(11,r2),(12,(.atom (.int .i64 0)))],(Eff.hp ef1 S.nx S.hp),(S.nx+ef1.add.length),S.gh⟩))) fun K hK=>?_
   repeat' (first|(refine hK _ ?_;clear hK K)|refine And.intro ?_ ?_|exact cl|refine .inl ⟨_,_,hof,?_⟩|(refine st ?_;try simp only[encT,za3,zaG,zbk,zap])|fail)
   all_goals
   refine⟨(),[1],?_⟩
   exact zhs
  rintro⟨⟩
  refine Tri.block ?_
  refine Tri.loop (α:=(o:List ByteArray) ×' (i:Nat) ×' (i≤ix.length∧o.length=i∧o=(ix.take i).map fun i=>tokW s (lt3 (tokL s) i.toNat))) (fun z=>(fun(o:List ByteArray) (i:Nat)=>(⟨[(0,encS s),(3,.sl 3 ((tokL s).map encT)),(4,.ob 0 1 0 o.length),(10,ints ix),(11,encI ix.length),(12,encI i)],[(0,some ⟨1,o.map encS⟩)],1,[]⟩:St)) z.1 z.2.1) (fun z=>(fun(o:List ByteArray) (i:Nat)=>ix.length - i) z.1 z.2.1) ⟨[],0,⟨Nat.zero_le _,rfl,rfl⟩⟩ [0] ?_ ?_
  ·exact zhs
  rintro⟨o,i,⟨hi,hol,ho⟩⟩
  refine sZ [0,3,4,10,11,12,13] (fun P S K=>XvBinOV P .lss 3 (.tmp 11) (S.get 12) (S.get 11) (fun r0 _=>K ⟨[(0,S.get 0),(3,S.get 3),(4,S.get 4),(10,S.get 10),(11,S.get 11),(12,S.get 12),(13,r0)],S.hp,S.nx,S.gh⟩)) fun K hK=>?_
  repeat' (first|(refine hK _ ?_;clear hK K)|(refine st ?_;try simp only[encT,za3,zaG,zbk,zap])|fail)
  all_goals
  refine Tri.seq ?_
  refine Tri.cond rfl (fun h13=>?_) (fun h13=>?_)
  ·try (cases h13;done)
   all_goals (try simp only[CQ] at h13)
   all_goals
   refine Tri.skip ?_
   refine Tri.seq ?_
   refine Tri.block ?_
   have hil:i<ix.length:=by omega
   have hmi:=hmem (li ix i) (zf4 hil)
   have hkl:(li ix i).toNat<(tokL s).length:=by omega
   have hrg:=ze6 (lt3_mem hkl)
   have hfs:(s.extract (lt3 (tokL s) (li ix i).toNat).1.toNat (lt3 (tokL s) (li ix i).toNat).2.1.toNat).size≤4294967296:=by rw[ByteArray.size_extract];omega
   refine sZ [0,3,4,6,10,11,12] (fun P S K=>XvIndexAddr P 22 (S.get 10) (S.get 12) (fun r0 _=>XvLoad P 3 (M S.hp S.nx) r0 (fun r1 _=>K ⟨[(0,S.get 0),(3,S.get 3),(4,S.get 4),(6,r1),(10,S.get 10),(11,S.get 11),(12,S.get 12)],S.hp,S.nx,S.gh⟩))) fun K hK=>?_
   repeat' (first|(refine hK _ ?_;clear hK K)|refine And.intro ?_ ?_|exact cl|(refine st ?_;try simp only[encT,za3,zaG,zbk,zap,zba hil])|fail)
   all_goals
   refine rD 17 [0,3,4,10,11,12] (fun P GD S K=>XvIndexAddr P 132 (S.get 3) (S.get 6) (fun r4 ef4=>XvFieldAddr P 137 0 r4 (fun r5 ef5=>XvLoad P 3 (M S.hp S.nx) r5 (fun r6 ef6=>XvIndexAddr P 132 (S.get 3) (S.get 6) (fun r9 ef9=>XvFieldAddr P 137 1 r9 (fun r10 ef10=>XvLoad P 3 (M S.hp S.nx) r10 (fun r11 ef11=>XvSliceV P 9 (S.get 0) (some r6) (some r11) (fun r12 ef12=>XvFnDV P (M S.hp S.nx) (.fn 69 []) [r12] (fun r13 ef13=>XvBuildS P 37 1 (S.nx+ef13.add.length) [(0,r13)] (fun r14 ef14=>(37=37∧XvAppend P 37 (M (Eff.hp ef14 (S.nx+ef13.add.length) (Eff.hp ef13 S.nx S.hp)) ((S.nx+ef13.add.length)+ef14.add.length)) (S.get 4) r14 (fun r15 ef15=>(trOk S.nx GD [⟨S.nx,0,[],[],[]⟩,⟨S.nx,0,[],[],[]⟩,⟨S.nx,0,[],[],[]⟩,⟨S.nx,0,[],[],[]⟩,⟨S.nx,0,ef4.rd,[],[]⟩,⟨S.nx,0,ef5.rd,[],[]⟩,⟨S.nx,0,ef6.rd,[],[]⟩,⟨S.nx,0,[],[],[]⟩,⟨S.nx,0,[],[],[]⟩,⟨S.nx,0,ef9.rd,[],[]⟩,⟨S.nx,0,ef10.rd,[],[]⟩,⟨S.nx,0,ef11.rd,[],[]⟩,⟨S.nx,0,ef12.rd,[],[]⟩,(Eff.tr ef13 S.nx),(Eff.tr ef14 (S.nx+ef13.add.length)),(Eff.tr ef15 ((S.nx+ef13.add.length)+ef14.add.length)),⟨(((S.nx+ef13.add.length)+ef14.add.length)+ef15.add.length),0,[],[],[]⟩]=true∧K ⟨[(0,S.get 0),(3,S.get 3),(4,r15),(10,S.get 10),(11,S.get 11),(12,S.get 12)],(Eff.hp ef15 ((S.nx+ef13.add.length)+ef14.add.length) (Eff.hp ef14 (S.nx+ef13.add.length) (Eff.hp ef13 S.nx S.hp))),(((S.nx+ef13.add.length)+ef14.add.length)+ef15.add.length),S.gh⟩))))))))))))) fun K hK=>?_
   repeat' (first|(refine hK _ ?_;clear hK K)|(refine(?_:trOk _ _ _=true);(try simp only[zgZ hkl]);kernel_rfl)|refine And.intro ?_ ?_|exact cl|refine .inl ⟨_,_,zhq (s.extract (lt3 (tokL s) (li ix i).toNat).1.toNat (lt3 (tokL s) (li ix i).toNat).2.1.toNat) hfs,?_⟩|(refine st ?_;try simp only[encT,za3,zaG,zbk,zap,zgZ hkl])|fail)
   all_goals
   refine rZ [0,3,4,10,11,12] (fun P S K=>XvBinOV P .add 3 (.const (.int .i64 1)) (S.get 12) (.atom (.int .i64 1)) (fun r0 _=>K ⟨[(0,S.get 0),(3,S.get 3),(4,S.get 4),(10,S.get 10),(11,S.get 11),(12,r0)],S.hp,S.nx,S.gh⟩)) fun K hK=>?_
   repeat' (first|(refine hK _ ?_;clear hK K)|(refine st ?_;try simp only[encT,za3,zaG,zbk,zap])|fail)
   all_goals try simp (disch:=omega) only[zae,zaf]
   all_goals
   refine⟨⟨o++[foldS (s.extract (lt3 (tokL s) (li ix i).toNat).1.toNat (lt3 (tokL s) (li ix i).toNat).2.1.toNat)],i+1,by omega,by simp[hol],by rw[List.take_succ_eq_append_getElem hil,List.map_append,←ho];simp[tokW,li,List.getD_eq_getElem?_getD,hil]⟩,[2],by dsimp only;omega,?_⟩
   exact zhs
  try (cases h13;done)
  all_goals (try simp only[CQ] at h13)
  all_goals
  refine Tri.exit ?_
  refine sZ [2] (fun P S K=>K ⟨[(2,(S.get 4))],S.hp,S.nx,S.gh⟩) fun K hK=>?_
  repeat' (first|(refine hK _ ?_;clear hK K)|(refine st ?_;try simp only[encT,za3,zaG,zbk,zap])|fail)
  all_goals
  refine Tri.ret ?_
  show ResOk _ _ _ _
  rw[show zbZ s=o by rw[hwt,ho,List.take_of_length_le (by omega)]]
  exact ResOk.frz 5 lstF3 ziQ
theorem zk0 (a b:ByteArray) (ha:a.size≤1000000) (hb:b.size≤1000000):Pure Tryz.prog 36 [encS a,encS b] (encS (a++⟨#[32]⟩++b)) []:=by
  have h1:(⟨#[32]⟩:ByteArray).size=1:=rfl
  have h2:(a++(⟨#[32]⟩:ByteArray)).size=a.size+1:=by rw[ByteArray.size_append];rfl
  refine Pure.intro (ts:=[4]) Tryz.func36 (by kernel_rfl) rfl rfl rfl (Nat.le_of_ble_eq_true rfl) ?_ ?_
  · simp[zah,zag,encI,encS,PV.pure,zax]
  refine sY [0,1] (fun P S K=>K ⟨[(0,S.get 0),(1,S.get 1)],S.hp,S.nx,S.gh⟩) ?_
  all_goals
  refine sY [4] (fun P S K=>XvBinOV P .add 9 (.const (.string { data := #[32] })) (S.get 0) (.atom (.string { data := #[32] })) (fun r1 _=>XvBinOV P .add 9 (.tmp 7) r1 (S.get 1) (fun r3 _=>K ⟨[(4,r3)],S.hp,S.nx,S.gh⟩))) ?_
  all_goals try simp (disch:=omega) only[zae,zaf]
  all_goals
  refine Tri.ret ?_
  show ResOk _ _ _ _
  exact ResOk.val lsrF3 ziQ
theorem zgq (l:List Int) (n:Int) (hl:l.length≤1000000):Pure Tryz.prog 37 [ints l,encI n] (.atom (.bool (decide (n∈l)))) []:=by
  refine Pure.intro (ts:=[4]) Tryz.func37 (by kernel_rfl) rfl rfl rfl (Nat.le_of_ble_eq_true rfl) ?_ ?_
  · simp[zah,zag,encI,encS,PV.pure,zax]
  refine sY [0,1] (fun P S K=>K ⟨[(0,S.get 0),(1,S.get 1)],S.hp,S.nx,S.gh⟩) ?_
  all_goals
  refine Tri.seq ?_
  refine sY [0,1,5] (fun P S K=>K ⟨[(0,S.get 0),(1,S.get 1),(5,(.atom (.int .i64 0)))],S.hp,S.nx,S.gh⟩) ?_
  all_goals
  refine Tri.block ?_
  refine Tri.loop (α:=(i:Nat) ×' (i≤l.length∧∀j,j<i→¬li l j=n)) (fun z=>(fun(i:Nat)=>(⟨[(0,ints l),(1,encI n),(5,encI i)],[],0,[]⟩:St)) z.1) (fun z=>(fun(i:Nat)=>l.length - i) z.1) ⟨0,⟨Nat.zero_le _,fun j hj=>absurd hj (Nat.not_lt_zero _)⟩⟩ [] ?_ ?_
  ·exact zhs
  rintro⟨i,⟨hi,hno⟩⟩
  refine Tri.seq ?_
  refine sY [0,1,5,9] (fun P S K=>XvLen P 22 (M S.hp S.nx) (S.get 0) (fun r2 _=>XvBinOV P .lss 3 (.tmp 8) (S.get 5) r2 (fun r3 _=>K ⟨[(0,S.get 0),(1,S.get 1),(5,S.get 5),(9,r3)],S.hp,S.nx,S.gh⟩))) ?_
  all_goals
  refine Tri.cond rfl (fun h9=>?_) (fun h9=>?_)
  ·try (cases h9;done)
   all_goals (try simp only[CQ] at h9)
   all_goals
   refine Tri.skip ?_
   refine Tri.seq ?_
   refine Tri.block ?_
   have hil:i<l.length:=by omega
   refine sZ [0,1,5,17] (fun P S K=>XvIndexAddr P 22 (S.get 0) (S.get 5) (fun r2 _=>XvLoad P 3 (M S.hp S.nx) r2 (fun r3 _=>XvBinOV P .eql 3 (.tmp 16) r3 (S.get 1) (fun r5 _=>K ⟨[(0,S.get 0),(1,S.get 1),(5,S.get 5),(17,r5)],S.hp,S.nx,S.gh⟩)))) fun K hK=>?_
   repeat' (first|(refine hK _ ?_;clear hK K)|refine And.intro ?_ ?_|exact cl|(refine st ?_;try simp only[zba hil])|fail)
   all_goals
   refine Tri.cond rfl (fun h17=>?_) (fun h17=>?_)
   ·try (cases h17;done)
    all_goals (try simp only[CQ] at h17)
    all_goals
    refine sY [4] (fun P S K=>K ⟨[(4,(.atom (.bool true)))],S.hp,S.nx,S.gh⟩) ?_
    all_goals
    refine Tri.ret ?_
    show ResOk _ _ _ _
    rw[decide_eq_true (show n∈l by have:=zf4 hil;rwa [show li l i=n by assumption] at this)]
    exact ResOk.val lsrF3 ziQ
   try (cases h17;done)
   all_goals (try simp only[CQ] at h17)
   all_goals
   refine Tri.skip ?_
   refine rY [0,1,5] (fun P S K=>XvBinOV P .add 3 (.const (.int .i64 1)) (S.get 5) (.atom (.int .i64 1)) (fun r1 _=>K ⟨[(0,S.get 0),(1,S.get 1),(5,r1)],S.hp,S.nx,S.gh⟩)) ?_
   all_goals try simp (disch:=omega) only[zae,zaf]
   all_goals
   refine⟨⟨i+1,by omega,fun j hj=>?_⟩,[],by dsimp only;omega,?_⟩
   · rcases Nat.lt_succ_iff_lt_or_eq.1 hj with hj|rfl
     · exact hno j hj
     · assumption
   · exact zhs
  try (cases h9;done)
  all_goals (try simp only[CQ] at h9)
  all_goals
  refine Tri.exit ?_
  refine sY [4] (fun P S K=>K ⟨[(4,(.atom (.bool false)))],S.hp,S.nx,S.gh⟩) ?_
  all_goals
  refine Tri.ret ?_
  show ResOk _ _ _ _
  rw[decide_eq_false (show ¬n∈l from fun hm=>by
    obtain⟨j,hj,e⟩:=List.getElem_of_mem hm
    exact hno j (by omega) (by rw[←e];simp[li,List.getD_eq_getElem?_getD,hj]))]
  exact ResOk.val lsrF3 ziQ
end Go.Proofs.YtehoglapajkabaaGreat
