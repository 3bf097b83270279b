/-
  lives of the group: its lexicon,and what Apply finds at its machine.
-/
import Derived.Test.YtehoglapajkabaaIM0
import Derived.Test.YtehoglapajkabaaIA16
import Derived.Test.YtehoglapajkabaaIN10
set_option linter.all false
namespace Go.Proofs.Ytehoglapajkabaa
open Go Go.RowKit
def bsL (l:List UInt8):ByteArray:=⟨l.toArray⟩
def xL:LexD:=⟨[⟨bsL [111,100,101,115],bsL [111,100,101],bsL [110,111,117,110]⟩],[⟨bsL [115],bsL [],bsL [110,111,117,110],3⟩,⟨bsL [115],bsL [],bsL [118,101,114,98],3⟩],[⟨bsL [110,111,117,110],bsL [],bsL [118,101,114,98]⟩]⟩
def w1L:ByteArray:=bsL [111,100,101,115]
def outsL:List ByteArray:=[bsL [49,111,100,101,47,110,111,117,110],bsL [50,111,100,101,47,110,111,117,110],bsL [50,111,100,101,47,118,101,114,98],bsL [51,111,100,101,115,47]]
set_option maxRecDepth 100000
def wK:ByteArray:=bsL [107,105,110,103,115]
def wH:ByteArray:=bsL [104,105,115]
def fO:FormD:=⟨bsL [111,100,101,115],bsL [111,100,101],bsL [110,111,117,110]⟩
def fK:FormD:=⟨wK,bsL [107,105,110,103],bsL [110,111,117,110]⟩
def fV:FormD:=⟨wK,bsL [107,105,110,103],bsL [118,101,114,98]⟩
def fH:FormD:=⟨wH,wH,.empty⟩
theorem zgg:HeldX xL:=by
  refine⟨by decide,by decide,by decide,fun f hf=>?_,fun r hr=>?_,fun p hp=>?_⟩
  · obtain rfl:f=fO:=by simpa[xL,fO] using hf
    exact⟨by decide,by decide,by decide⟩
  · have:r=⟨bsL [115],bsL [],bsL [110,111,117,110],3⟩∨r=⟨bsL [115],bsL [],bsL [118,101,114,98],3⟩:=by simpa[xL] using hr
    rcases this with rfl|rfl<;>exact⟨by decide,by decide,by decide,⟨by decide,by decide⟩⟩
  · obtain rfl:p=⟨bsL [110,111,117,110],bsL [],bsL [118,101,114,98]⟩:=by simpa[xL] using hp
    exact⟨by decide,by decide,by decide⟩
theorem all_O:allE xL w1L=[fO]:=by kernel_rfl
theorem all_K:allE xL wK=[fK,fV]:=by kernel_rfl
theorem all_H:allE xL wH=[fH]:=by kernel_rfl
theorem err_O:errX xL [w1L]=0:=by kernel_rfl
theorem err_K:errX xL [wK]=0:=by kernel_rfl
theorem err_H:errX xL [wH]=0:=by kernel_rfl
theorem cho_L:zcD xL [w1L,wK] 1=(fV,0):=by kernel_rfl
theorem opn_L:zqB xL [wK,w1L]=[0]:=by kernel_rfl
theorem ope_L:errX xL [wK,w1L]=0:=by kernel_rfl
theorem txt_L:zf5 xL [wK,w1L]=([],14):=by kernel_rfl
set_option maxRecDepth 20000
set_option maxHeartbeats 1000000
theorem leqM25{p:Prop}(h:p:=by(refine⟨4,?_,?_,rfl,by simp,rfl,fun _ h _=>absurd h (Nat.not_lt_zero _)⟩<;>(simp only[List.forall_mem_cons];repeat' (first|refine And.intro ?_ ?_|(intro p hp;exact absurd hp List.not_mem_nil)|rfl|exact sp (zaR _)|exact sp (zaK _)|exact sp (zaI _)|exact(zas _ _ _ (zah _)).trans (zbQ _ _).symm|exact(zas _ _ _ (zag _)).trans (zbP _ _).symm|exact sp (by assumption)|(intro o ho;cases ho;refine⟨by decide,?_⟩;first|(refine LeqS.row rfl ?_ ?_;(next=>(first|rfl|(simp only[List.map_append,List.map_cons,List.map_nil,List.append_nil,List.nil_append,List.append_assoc,List.cons_append,encI,encS,ints,strs];done)|(simp[encI,encS,ints,strs,encF,encR,encA];done)));(next=>(first|rfl|exact zal _|exact zaq _|exact zau _|exact zat _|exact zaH _|exact zaT _|exact zaU _|exact zar _|(simp[zar,zal,zaq,zau,zat,zaw,PV.pure,zah,zag,zaR,zaH,zaT,zaU,zaK,zar,encF,encS,zaI];done)));done)|refine⟨_,rfl,rfl,?_⟩)|(simp[St.born,St.known,retV,St.get,St.obj,lk,sealed,PV.ren,renL,rmap,AO.ren,ints,strs,encI,encS,zap,zao,zan,zam,zaC,zaB,zaA,zaz,za1,za0,zaZ,zaY,zcx,zaa,zab,zac,zad,zai,zaj,zaD,za2,zaE,zbd,zaG,zbe,zaL,encF,encR,encA,zbF]<;>omega))));first|done|fail):p:=h
theorem zhf (a b:List ByteArray) (ha:a.length≤9223372036854775807) (hb:b.length≤9223372036854775807):Pure Try.prog 23 [strs a,strs b] (.atom (.bool (decide (a=b)))) []:=by
  refine Pure.intro (ts:=[4]) Try.func23 (by kernel_rfl) rfl rfl rfl (Nat.le_of_ble_eq_true rfl) ?_ ?_
  · simp[zah,zag,encI,encS,PV.pure,zaw]
  refine sY [0,1] (fun P S K=>K ⟨[(0,S.get 0),(1,S.get 1)],S.hp,S.nx,S.gh⟩) ?_
  all_goals
  refine Tri.seq ?_
  refine sY [0,1,10] (fun P S K=>XvLen P 35 (M S.hp S.nx) (S.get 0) (fun r1 _=>XvLen P 35 (M S.hp S.nx) (S.get 1) (fun r3 _=>XvBinOV P .neq 3 (.tmp 9) r1 r3 (fun r4 _=>K ⟨[(0,S.get 0),(1,S.get 1),(10,r4)],S.hp,S.nx,S.gh⟩)))) ?_
  all_goals
  refine Tri.cond rfl (fun h10=>?_) (fun h10=>?_)
  ·try (cases h10;done)
   all_goals (try simp only[CQ] at h10)
   all_goals
   refine sY [4] (fun P S K=>K ⟨[(4,(.atom (.bool false)))],S.hp,S.nx,S.gh⟩) ?_
   all_goals
   refine Tri.ret ?_
   show ResOk _ _ _ _
   exact ResOk.val (aB (by have:a≠b:=fun e=>h10 (by rw[e]);simp[this])) rfl
  try (cases h10;done)
  all_goals (try simp only[CQ] at h10)
  all_goals
  refine Tri.skip ?_
  refine Tri.seq ?_
  refine sY [0,1,5] (fun P S K=>K ⟨[(0,S.get 0),(1,S.get 1),(5,(.atom (.int .i64 0)))],S.hp,S.nx,S.gh⟩) ?_
  all_goals
  refine Tri.block ?_
  refine Tri.loop (α:=(k:Nat) ×' (k≤a.length∧∀j,j<k→ls a j=ls b j)) (fun z=>(fun(k:Nat)=>(⟨[(0,strs a),(1,strs b),(5,encI k)],[],0,[]⟩:St)) z.1) (fun z=>(fun(k:Nat)=>a.length - k) z.1) ⟨0,⟨by omega,by omega⟩⟩ [] ?_ ?_
  ·exact leqM25
  rintro⟨k,⟨hk,hkj⟩⟩
  refine Tri.seq ?_
  refine sY [0,1,5,14] (fun P S K=>XvLen P 35 (M S.hp S.nx) (S.get 0) (fun r2 _=>XvBinOV P .lss 3 (.tmp 13) (S.get 5) r2 (fun r3 _=>K ⟨[(0,S.get 0),(1,S.get 1),(5,S.get 5),(14,r3)],S.hp,S.nx,S.gh⟩))) ?_
  all_goals
  refine Tri.cond rfl (fun h14=>?_) (fun h14=>?_)
  ·try (cases h14;done)
   all_goals (try simp only[CQ] at h14)
   all_goals
   refine Tri.skip ?_
   refine Tri.seq ?_
   refine Tri.block ?_
   have hka:k<a.length:=by omega
   have hkb:k<b.length:=by omega
   refine sD 9 [0,1,5,25] (fun P GD S K=>XvIndexAddr P 35 (S.get 0) (S.get 5) (fun r2 ef2=>XvLoad P 9 (M S.hp S.nx) r2 (fun r3 ef3=>XvIndexAddr P 35 (S.get 1) (S.get 5) (fun r6 ef6=>XvLoad P 9 (M S.hp S.nx) r6 (fun r7 ef7=>XvBinOV P .neq 9 (.tmp 24) r3 r7 (fun r8 ef8=>(trOk S.nx GD [⟨S.nx,0,[],[],[]⟩,⟨S.nx,0,[],[],[]⟩,⟨S.nx,0,ef2.rd,[],[]⟩,⟨S.nx,0,ef3.rd,[],[]⟩,⟨S.nx,0,[],[],[]⟩,⟨S.nx,0,[],[],[]⟩,⟨S.nx,0,ef6.rd,[],[]⟩,⟨S.nx,0,ef7.rd,[],[]⟩,⟨S.nx,0,ef8.rd,[],[]⟩]=true∧K ⟨[(0,S.get 0),(1,S.get 1),(5,S.get 5),(25,r8)],S.hp,S.nx,S.gh⟩))))))) fun K hK=>?_
   repeat' (first|(refine hK _ ?_;clear hK K)|(refine(?_:trOk _ _ _=true);(try simp only[zaM hka,zaM hkb]);kernel_rfl)|refine And.intro ?_ ?_|exact cl|(refine st ?_;try simp only[zaM hka,zaM hkb])|fail)
   all_goals
   refine Tri.cond rfl (fun h25=>?_) (fun h25=>?_)
   ·try (cases h25;done)
    all_goals (try simp only[CQ] at h25)
    all_goals
    refine sY [4] (fun P S K=>K ⟨[(4,(.atom (.bool false)))],S.hp,S.nx,S.gh⟩) ?_
    all_goals
    refine Tri.ret ?_
    show ResOk _ _ _ _
    exact ResOk.val (aB (by have:a≠b:=fun e=>h25 (by rw[e]);simp[this])) rfl
   try (cases h25;done)
   all_goals (try simp only[CQ] at h25)
   all_goals
   refine Tri.skip ?_
   refine rY [0,1,5] (fun P S K=>XvBinOV P .add 3 (.const (.int .i64 1)) (S.get 5) (.atom (.int .i64 1)) (fun r1 _=>K ⟨[(0,S.get 0),(1,S.get 1),(5,r1)],S.hp,S.nx,S.gh⟩)) ?_
   all_goals try simp (disch:=omega) only[zae,zaf]
   all_goals
   refine⟨⟨k+1,by omega,fun j hj=>?_⟩,[],by dsimp only;omega,?_⟩
   · rcases Nat.lt_succ_iff_lt_or_eq.1 hj with hj|rfl
     · exact hkj j hj
     · simpa using h25
   · exact leqM25
  try (cases h14;done)
  all_goals (try simp only[CQ] at h14)
  all_goals
  refine Tri.exit ?_
  refine sY [4] (fun P S K=>K ⟨[(4,(.atom (.bool true)))],S.hp,S.nx,S.gh⟩) ?_
  all_goals
  refine Tri.ret ?_
  show ResOk _ _ _ _
  exact ResOk.val (aB (by have:a=b:=ls_ext (by omega) (fun i hi=>hkj i (by omega));simp[this])) rfl
theorem zcF (w:ByteArray) (l:List FormD) (hl:allE xL w=l) (he:errX xL [w]=0) (hw:w.size≤140737488355328):Pure Try.prog 12 [encX xL,encS w] (.tup [zaa l,encI 0]) []:=by
  have:=zhB xL w zgg (up47 hw)
  rw[hl,he] at this
  exact this
theorem zrt:Pure Try.prog 11 [encX xL,strs [w1L,wK],encI 1] (.tup [encF fV,encI 0]) []:=by
  have:=zjq xL [w1L,wK] 1 zgg (by decide) (fun w hw=>by rcases List.mem_cons.1 hw with rfl|hw;decide;rcases List.mem_cons.1 hw with rfl|hw;decide;cases hw) ⟨by decide,by decide⟩
  rw[cho_L] at this
  exact this
theorem zou:Pure Try.prog 22 [encX xL,strs [wK,w1L]] (.tup [zaa [],encI 14]) []:=by
  have:=znL xL [wK,w1L] zgg (by decide) (fun w hw=>by rcases List.mem_cons.1 hw with rfl|hw;decide;rcases List.mem_cons.1 hw with rfl|hw;decide;cases hw)
  rw[txt_L] at this
  exact this
theorem zqY (x:LexD) (ws:List ByteArray) (hx:HeldX x) (hn:ws.length≤1000000) (hw:∀w,w∈ws→w.size≤140737488355328) (he:errX x ws=0):
    Pure Try.prog 21 [encX x,strs ws] (.tup [.ob 0 1 0 (zqB x ws).length,encI 0]) [⟨1,(zqB x ws).map encI⟩]:=by
  refine Pure.intro (ts:=[4,5]) Try.func21 (by kernel_rfl) rfl rfl rfl (Nat.le_of_ble_eq_true rfl) ?_ ?_
  · simp[zaR,zag,encS,encI,PV.pure,zaw]
  refine sZ [1,2] (fun P S K=>XvBox S.nx (S.get 0) (fun r0 ef0=>K ⟨[(1,S.get 1),(2,r0)],(Eff.hp ef0 S.nx S.hp),(S.nx+ef0.add.length),S.gh⟩)) fun K hK=>?_
  repeat' (first|(refine hK _ ?_;clear hK K)|refine And.intro ?_ ?_|exact cl|(refine st ?_;try simp only[encX,zaa,zab,zac,encF,zad,zai,zaj,za3])|fail)
  all_goals
  refine sZ [1,6,7] (fun P S K=>XvLoad P 27 (M S.hp S.nx) (S.get 2) (fun r0 _=>XvFnIV P (M S.hp S.nx) (.fn 25 []) [r0,(S.get 1)] (fun r2 ef2=>XvExtract r2 0 (fun r4 _=>XvExtract r2 1 (fun r5 _=>K ⟨[(1,S.get 1),(6,r4),(7,r5)],(Eff.hp ef2 S.nx S.hp),(S.nx+ef2.add.length),S.gh⟩))))) fun K hK=>?_
  repeat' (first|(refine hK _ ?_;clear hK K)|refine And.intro ?_ ?_|refine .inl ⟨_,_,zk0 x ws hx hn (fun w h=>up47 (hw w h)) he,?_⟩|(refine st ?_;try simp only[encX,zaa,zab,zac,encF,zad,zai,zaj,za3])|fail)
  all_goals
  refine Tri.seq ?_
  refine sY [1,6,7,19] (fun P S K=>XvBinOV P .neq 41 (.const (.int .i64 0)) (S.get 7) (.atom (.int .i64 0)) (fun r1 _=>K ⟨[(1,S.get 1),(6,S.get 6),(7,S.get 7),(19,r1)],S.hp,S.nx,S.gh⟩)) ?_
  all_goals
  refine Tri.cond rfl (fun h19=>?_) (fun h19=>?_)
  ·try (cases h19;done)
   all_goals (try simp only[CQ] at h19)
   all_goals
   refine sY [4,5] (fun P S K=>K ⟨[(4,(.atom (.slice none 0 0))),(5,(S.get 7))],S.hp,S.nx,S.gh⟩) ?_
   all_goals
   refine Tri.ret ?_
   show ResOk _ _ _ _
   done
  try (cases h19;done)
  all_goals (try simp only[CQ] at h19)
  all_goals
  refine Tri.skip ?_
  refine sY [1,6,8] (fun P S K=>K ⟨[(1,S.get 1),(6,S.get 6),(8,(.atom (.slice none 0 0)))],S.hp,S.nx,S.gh⟩) ?_
  refine Tri.born 8 1 rfl ?_
  all_goals
  refine Tri.seq ?_
  refine sZ [1,6,8,22,23] (fun P S K=>XvLen P 35 (M S.hp S.nx) (S.get 1) (fun r1 _=>K ⟨[(1,S.get 1),(6,S.get 6),(8,S.get 8),(22,r1),(23,(.atom (.int .i64 0)))],S.hp,S.nx,S.gh⟩)) fun K hK=>?_
  repeat' (first|(refine hK _ ?_;clear hK K)|refine And.intro ?_ ?_|exact cl|(refine st ?_;try simp only[encX,zaa,zab,zac,encF,zad,zai,zaj,za3])|fail)
  all_goals
  refine Tri.block ?_
  refine Tri.loop (α:=(o:List Int) ×' (kn:List ByteArray) ×' (i:Nat) ×' (i≤ws.length∧o.length≤i∧(∀s,s∈kn→s.size≤140737488355328)∧o=znD x ws i)) (fun z=>(fun(o:List Int) (kn:List ByteArray) (i:Nat)=>(⟨[(1,strs ws),(6,.ptr 0 4 0 0),(8,.ob 2 1 0 o.length),(22,encI ws.length),(23,encI i)],[(0,some ⟨4,[za3 x]⟩),(1,some ⟨0,kn.map (entB x)⟩),(2,some ⟨1,o.map encI⟩)],3,[]⟩:St)) z.1 z.2.1 z.2.2.1) (fun z=>(fun(o:List Int) (kn:List ByteArray) (i:Nat)=>ws.length - i) z.1 z.2.1 z.2.2.1) ⟨[],[],0,⟨Nat.zero_le _,Nat.le_refl _,fun s h=>(by cases h),rfl⟩⟩ [1,2,3] ?_ ?_
  ·exact zgL
  rintro⟨o,kn,i,⟨hi,hol,hs0,ho⟩⟩
  refine sY [1,6,8,22,23,24] (fun P S K=>XvBinOV P .lss 3 (.tmp 22) (S.get 23) (S.get 22) (fun r0 _=>K ⟨[(1,S.get 1),(6,S.get 6),(8,S.get 8),(22,S.get 22),(23,S.get 23),(24,r0)],S.hp,S.nx,S.gh⟩)) ?_
  all_goals
  refine Tri.seq ?_
  refine Tri.cond rfl (fun h24=>?_) (fun h24=>?_)
  ·try (cases h24;done)
   all_goals (try simp only[CQ] at h24)
   all_goals
   refine Tri.skip ?_
   refine Tri.seq ?_
   refine Tri.block ?_
   have hiw:i<ws.length:=by omega
   refine sY [1,6,8,9,22,23] (fun P S K=>K ⟨[(1,S.get 1),(6,S.get 6),(8,S.get 8),(9,(S.get 23)),(22,S.get 22),(23,S.get 23)],S.hp,S.nx,S.gh⟩) ?_
   all_goals
   refine sZ [1,6,8,9,11,22,23] (fun P S K=>XvFnIV P (M S.hp S.nx) (.fn 26 []) [(S.get 6),(S.get 1),(S.get 9)] (fun r3 ef3=>XvExtract r3 0 (fun r5 _=>XvExtract r3 1 (fun r6 _=>XvAlloc P 40 (S.nx+ef3.add.length) (fun r7 ef7=>XvStore P 40 (M (Eff.hp ef7 (S.nx+ef3.add.length) (Eff.hp ef3 S.nx S.hp)) ((S.nx+ef3.add.length)+ef7.add.length)) r7 r5 (fun r8 ef8=>K ⟨[(1,S.get 1),(6,S.get 6),(8,S.get 8),(9,S.get 9),(11,r6),(22,S.get 22),(23,S.get 23)],(Eff.hp ef8 ((S.nx+ef3.add.length)+ef7.add.length) (Eff.hp ef7 (S.nx+ef3.add.length) (Eff.hp ef3 S.nx S.hp))),(((S.nx+ef3.add.length)+ef7.add.length)+ef8.add.length),S.gh⟩)))))) fun K hK=>?_
   repeat' (first|(refine hK _ ?_;clear hK K)|refine And.intro ?_ ?_|exact cl|refine .inr (vProc.bk 0 1 (zim x kn ws i hx hiw hs0 hw hn) (by decide) rfl (argsC _ _ _ _ _) rfl rfl ?_)|(refine st ?_;try simp only[encX,zaa,zab,zac,encF,zad,zai,zaj,za3])|fail)
   all_goals
   refine sY [1,6,8,9,22,23,34] (fun P S K=>XvUn .not (S.get 11) (fun r1 _=>K ⟨[(1,S.get 1),(6,S.get 6),(8,S.get 8),(9,S.get 9),(22,S.get 22),(23,S.get 23),(34,r1)],S.hp,S.nx,S.gh⟩)) ?_
   all_goals try simp (disch:=omega) only[zae,zaf]
   all_goals
   refine Tri.cond rfl (fun h34=>?_) (fun h34=>?_)
   ·try (cases h34;done)
    all_goals (try simp only[CQ] at h34)
    all_goals
    refine rZ [1,6,8,22,23] (fun P S K=>XvBuildS P 22 1 S.nx [(0,(S.get 9))] (fun r2 ef2=>(22=22∧XvAppend P 22 (M (Eff.hp ef2 S.nx S.hp) (S.nx+ef2.add.length)) (S.get 8) r2 (fun r3 ef3=>K ⟨[(1,S.get 1),(6,S.get 6),(8,r3),(22,S.get 22),(23,S.get 23)],(Eff.hp ef3 (S.nx+ef2.add.length) (Eff.hp ef2 S.nx S.hp)),((S.nx+ef2.add.length)+ef3.add.length),S.gh⟩)))) fun K hK=>?_
    repeat' (first|(refine hK _ ?_;clear hK K)|((first|refine zav (fun hg=>?_) (fun hg=>?_)|refine fun(hg:(_:Prop))=>?_)<;>((try simp only[BQ] at hg);try (exfalso;omega)))|refine And.intro ?_ ?_|exact cl|(refine st ?_;try simp only[encX,zaa,zab,zac,encF,zad,zai,zaj,za3])|fail)
    all_goals
    refine rY [1,6,8,22,23] (fun P S K=>XvBinOV P .add 3 (.const (.int .i64 1)) (S.get 23) (.atom (.int .i64 1)) (fun r0 _=>K ⟨[(1,S.get 1),(6,S.get 6),(8,S.get 8),(22,S.get 22),(23,r0)],S.hp,S.nx,S.gh⟩)) ?_
    all_goals try simp (disch:=omega) only[zae,zaf]
    all_goals
    first
    | (refine⟨⟨o++[(i:Int)],(runX x ws kn i).2,i+1,by omega,by simp;omega,zeq hiw hs0 hw,by rw[zeT,if_neg (by simp_all),ho]⟩,[0,1,5],by dsimp only;omega,?_⟩
       exact zgL)
    | (refine⟨⟨o,(runX x ws kn i).2,i+1,by omega,by omega,zeq hiw hs0 hw,by rw[zeT,if_pos (by simp_all),ho]⟩,[0,1,2],by dsimp only;omega,?_⟩
       exact zgL)
   try (cases h34;done)
   all_goals (try simp only[CQ] at h34)
   all_goals
   refine Tri.skip ?_
   refine rY [1,6,8,22,23] (fun P S K=>XvBinOV P .add 3 (.const (.int .i64 1)) (S.get 23) (.atom (.int .i64 1)) (fun r0 _=>K ⟨[(1,S.get 1),(6,S.get 6),(8,S.get 8),(22,S.get 22),(23,r0)],S.hp,S.nx,S.gh⟩)) ?_
   all_goals try simp (disch:=omega) only[zae,zaf]
   all_goals
   first
   | (refine⟨⟨o++[(i:Int)],(runX x ws kn i).2,i+1,by omega,by simp;omega,zeq hiw hs0 hw,by rw[zeT,if_neg (by simp_all),ho]⟩,[0,1,5],by dsimp only;omega,?_⟩
      exact zgL)
   | (refine⟨⟨o,(runX x ws kn i).2,i+1,by omega,by omega,zeq hiw hs0 hw,by rw[zeT,if_pos (by simp_all),ho]⟩,[0,1,2],by dsimp only;omega,?_⟩
      exact zgL)
  try (cases h24;done)
  all_goals (try simp only[CQ] at h24)
  all_goals
  refine Tri.exit ?_
  refine sY [4,5] (fun P S K=>K ⟨[(4,(S.get 8)),(5,(.atom (.int .i64 0)))],S.hp,S.nx,S.gh⟩) ?_
  all_goals
  refine Tri.ret ?_
  show ResOk _ _ _ _
  have e:zqB x ws=o:=by unfold zqB;rw[if_neg (by omega),ho];congr 1;omega
  rw[e]
  refine ResOk.one 2 4 rfl (by simp[retV,St.get,lk,sealed,PV.ren,renL,rmap,encI]) rfl (by rw[zak _ _ _ (zal _),zaO _ (zal _)])
theorem zqA:Pure Try.prog 21 [encX xL,strs [wK,w1L]] (.tup [.ob 0 1 0 1,encI 0]) [⟨1,[encI 0]⟩]:=by
  have:=zqY xL [wK,w1L] zgg (by decide) (fun w hw=>by rcases List.mem_cons.1 hw with rfl|hw;decide;rcases List.mem_cons.1 hw with rfl|hw;decide;cases hw) ope_L
  rw[opn_L] at this
  exact this
def mL:MachD:=zbH xL
theorem zhP:zbc xL=0:=by kernel_rfl
theorem zjm:Pure Try.prog 16 [encX xL] (.tup [encM mL,encI 0]) []:=zmk xL zgg zhP
theorem zql:zb2 outsL=outsL:=by
  have h:((outsL.map fun s=>s.data.toList).Pairwise fun x y=>decide (x≤y)=true):=by decide +kernel
  unfold zb2
  first
  | rw[List.mergeSort_of_pairwise h]
  | rw[List.mergeSort_of_sorted h]
  rfl
theorem zlr:zeL mL w1L=(outsL,0):=by
  have h1:resl xL w1L=outsL:=by kernel_rfl
  have h2:resR xL w1L=outsL:=by unfold resR;rw[if_pos (by kernel_rfl),h1,zql]
  unfold mL
  rw[zhz zhP (by decide),h2,if_neg (by decide)]
theorem zn4:Pure Try.prog 17 [encM mL,encS w1L] (.tup [strs outsL,encI 0]) []:=by
  have:=zgp mL w1L (zgH zhP) (by decide)
  rw[zlr] at this
  exact this
set_option maxHeartbeats 2000000
theorem leqM27{p:Prop}(h:p:=by(refine⟨4,?_,?_,rfl,by simp,rfl,fun _ h _=>absurd h (Nat.not_lt_zero _)⟩<;>(simp only[List.forall_mem_cons];repeat' (first|refine And.intro ?_ ?_|(intro p hp;exact absurd hp List.not_mem_nil)|rfl|exact sp (zaR _)|exact sp (zaK _)|exact sp (zaI _)|exact(zas _ _ _ (zah _)).trans (zbQ _ _).symm|exact(zas _ _ _ (zag _)).trans (zbP _ _).symm|exact sp (by assumption)|(intro o ho;cases ho;refine⟨by decide,?_⟩;first|(refine LeqS.row rfl ?_ ?_;(next=>(first|rfl|(simp only[List.map_append,List.map_cons,List.map_nil,List.append_nil,List.nil_append,List.append_assoc,List.cons_append,encI,encS,ints,strs];done)|(simp[encI,encS,ints,strs,encF,encR,encA];done)));(next=>(first|rfl|exact zal _|exact zaq _|exact zau _|exact zat _|exact zaH _|exact zaT _|exact zaU _|exact zar _|(simp[zar,zal,zaq,zau,zat,zaw,PV.pure,zah,zag,zaR,zaH,zaT,zaU,zaK,zar,encF,encS,zaI];done)));done)|refine⟨_,rfl,rfl,?_⟩)|(simp[St.born,St.known,retV,St.get,St.obj,lk,sealed,PV.ren,renL,rmap,AO.ren,ints,strs,encI,encS,zap,zao,zan,zam,zaC,zaB,zaA,zaz,za1,za0,zaZ,zaY,zcx,zaa,zab,zac,zad,zai,zaj,zaD,za2,zaE,zbd,zaG,zbe,zaL,encF,encR,encA,zbF,zbE,zbB,zay]<;>omega))));first|done|fail):p:=h
theorem lsrM27{p:Prop}(h:p:=by(first|rfl|(simp[St.born,St.known,retV,St.get,St.obj,lk,sealed,PV.ren,renL,rmap,AO.ren,ints,strs,encI,encS,zap,zao,zan,zam,zaC,zaB,zaA,zaz,za1,za0,zaZ,zaY,zcx,zaa,zab,zac,zad,zai,zaj,zaD,za2,zaE,zbd,zaG,zbe,zaL,encF,encR,encA,zbF,zbE,zbB,zay];done));first|done|fail):p:=h
theorem lpvM27{p:Prop}(h:p:=by(first|rfl|(simp[zah,zag,PV.pure,zaw,zal,zaq,zau,zat,zaR,zaH,zaT,zaU,zaK,zar,encF,encS,zaI];done));first|done|fail):p:=h
theorem zlD:xL.forms=[fO]:=rfl
theorem znG:Pure Try.prog 9 [] (.atom (.bool true)) []:=by
  refine Pure.intro (ts:=[0]) Try.func9 (by kernel_rfl) rfl rfl rfl (Nat.le_of_ble_eq_true rfl) ?_ ?_
  · simp
  refine sY [] (fun P S K=>K ⟨[],S.hp,S.nx,S.gh⟩) ?_
  all_goals
  refine Tri.cut (α:=Unit) (fun⟨⟩=>⟨[(1,.ptr 0 3 0 0)],[(0,some ⟨3,[encX xL]⟩)],1,[]⟩) ?_ ?_
  ·skip
   refine rZ [1] (fun P S K=>XvBuild P 40 [(0,(.atom (.string { data := #[111,100,101,115] }))),(1,(.atom (.string { data := #[111,100,101] }))),(2,(.atom (.string { data := #[110,111,117,110] })))] (fun r0 _=>XvBuildS P 23 1 S.nx [(0,r0)] (fun r1 ef1=>XvBuild P 66 [(0,(.atom (.string { data := #[115] }))),(2,(.atom (.string { data := #[110,111,117,110] }))),(3,(.atom (.int .i64 3)))] (fun r2 _=>XvBuild P 66 [(0,(.atom (.string { data := #[115] }))),(2,(.atom (.string { data := #[118,101,114,98] }))),(3,(.atom (.int .i64 3)))] (fun r3 _=>XvBuildS P 24 2 (S.nx+ef1.add.length) [(0,r2),(1,r3)] (fun r4 ef4=>XvBuild P 67 [(0,(.atom (.string { data := #[110,111,117,110] }))),(2,(.atom (.string { data := #[118,101,114,98] })))] (fun r5 _=>XvBuildS P 25 1 ((S.nx+ef1.add.length)+ef4.add.length) [(0,r5)] (fun r6 ef6=>XvBuild P 27 [(0,r1),(1,r4),(2,r6)] (fun r7 _=>XvAlloc P 27 (((S.nx+ef1.add.length)+ef4.add.length)+ef6.add.length) (fun r8 ef8=>XvStore P 27 (M (Eff.hp ef8 (((S.nx+ef1.add.length)+ef4.add.length)+ef6.add.length) (Eff.hp ef6 ((S.nx+ef1.add.length)+ef4.add.length) (Eff.hp ef4 (S.nx+ef1.add.length) (Eff.hp ef1 S.nx S.hp)))) ((((S.nx+ef1.add.length)+ef4.add.length)+ef6.add.length)+ef8.add.length)) r8 r7 (fun r9 ef9=>K ⟨[(1,r8)],(Eff.hp ef9 ((((S.nx+ef1.add.length)+ef4.add.length)+ef6.add.length)+ef8.add.length) (Eff.hp ef8 (((S.nx+ef1.add.length)+ef4.add.length)+ef6.add.length) (Eff.hp ef6 ((S.nx+ef1.add.length)+ef4.add.length) (Eff.hp ef4 (S.nx+ef1.add.length) (Eff.hp ef1 S.nx S.hp))))),(((((S.nx+ef1.add.length)+ef4.add.length)+ef6.add.length)+ef8.add.length)+ef9.add.length),S.gh⟩))))))))))) fun K hK=>?_
   repeat' (first|(refine hK _ ?_;clear hK K)|(refine st ?_;try simp only[encX,zaa,zab,zac,encF,encM])|fail)
   all_goals
   refine⟨(),[3],?_⟩
   exact leqM27
  rintro⟨⟩
  refine sZ [1,2,3] (fun P S K=>XvLoad P 27 (M S.hp S.nx) (S.get 1) (fun r0 _=>XvFnIV P (M S.hp S.nx) (.fn 12 []) [r0,(.atom (.string { data := #[111,100,101,115] }))] (fun r1 ef1=>XvExtract r1 0 (fun r3 _=>XvExtract r1 1 (fun r4 _=>K ⟨[(1,S.get 1),(2,r3),(3,r4)],(Eff.hp ef1 S.nx S.hp),(S.nx+ef1.add.length),S.gh⟩))))) fun K hK=>?_
  repeat' (first|(refine hK _ ?_;clear hK K)|refine And.intro ?_ ?_|exact cl|refine .inl ⟨_,_,zcF w1L [fO] all_O err_O (by decide),?_⟩|refine .inl ⟨_,_,zcF wK [fK,fV] all_K err_K (by decide),?_⟩|refine .inl ⟨_,_,zcF wH [fH] all_H err_H (by decide),?_⟩|(refine st ?_;try simp only[encX,zaa,zab,zac,encF,encM])|fail)
  all_goals
  refine sZ [1,2,3,4,5] (fun P S K=>XvLoad P 27 (M S.hp S.nx) (S.get 1) (fun r0 _=>XvFnIV P (M S.hp S.nx) (.fn 12 []) [r0,(.atom (.string { data := #[107,105,110,103,115] }))] (fun r1 ef1=>XvExtract r1 0 (fun r3 _=>XvExtract r1 1 (fun r4 _=>K ⟨[(1,S.get 1),(2,S.get 2),(3,S.get 3),(4,r3),(5,r4)],(Eff.hp ef1 S.nx S.hp),(S.nx+ef1.add.length),S.gh⟩))))) fun K hK=>?_
  repeat' (first|(refine hK _ ?_;clear hK K)|refine And.intro ?_ ?_|exact cl|refine .inl ⟨_,_,zcF w1L [fO] all_O err_O (by decide),?_⟩|refine .inl ⟨_,_,zcF wK [fK,fV] all_K err_K (by decide),?_⟩|refine .inl ⟨_,_,zcF wH [fH] all_H err_H (by decide),?_⟩|(refine st ?_;try simp only[encX,zaa,zab,zac,encF,encM])|fail)
  all_goals
  refine sZ [1,2,3,4,5,6,7] (fun P S K=>XvLoad P 27 (M S.hp S.nx) (S.get 1) (fun r0 _=>XvFnIV P (M S.hp S.nx) (.fn 12 []) [r0,(.atom (.string { data := #[104,105,115] }))] (fun r1 ef1=>XvExtract r1 0 (fun r3 _=>XvExtract r1 1 (fun r4 _=>K ⟨[(1,S.get 1),(2,S.get 2),(3,S.get 3),(4,S.get 4),(5,S.get 5),(6,r3),(7,r4)],(Eff.hp ef1 S.nx S.hp),(S.nx+ef1.add.length),S.gh⟩))))) fun K hK=>?_
  repeat' (first|(refine hK _ ?_;clear hK K)|refine And.intro ?_ ?_|exact cl|refine .inl ⟨_,_,zcF w1L [fO] all_O err_O (by decide),?_⟩|refine .inl ⟨_,_,zcF wK [fK,fV] all_K err_K (by decide),?_⟩|refine .inl ⟨_,_,zcF wH [fH] all_H err_H (by decide),?_⟩|(refine st ?_;try simp only[encX,zaa,zab,zac,encF,encM])|fail)
  all_goals
  refine sZ [1,2,3,4,5,6,7,8,9] (fun P S K=>XvLoad P 27 (M S.hp S.nx) (S.get 1) (fun r0 _=>XvFnIV P (M S.hp S.nx) (.fn 16 []) [r0] (fun r1 ef1=>XvExtract r1 0 (fun r3 _=>XvExtract r1 1 (fun r4 _=>XvAlloc P 58 (S.nx+ef1.add.length) (fun r5 ef5=>XvStore P 58 (M (Eff.hp ef5 (S.nx+ef1.add.length) (Eff.hp ef1 S.nx S.hp)) ((S.nx+ef1.add.length)+ef5.add.length)) r5 r3 (fun r6 ef6=>K ⟨[(1,S.get 1),(2,S.get 2),(3,S.get 3),(4,S.get 4),(5,S.get 5),(6,S.get 6),(7,S.get 7),(8,r5),(9,r4)],(Eff.hp ef6 ((S.nx+ef1.add.length)+ef5.add.length) (Eff.hp ef5 (S.nx+ef1.add.length) (Eff.hp ef1 S.nx S.hp))),(((S.nx+ef1.add.length)+ef5.add.length)+ef6.add.length),S.gh⟩))))))) fun K hK=>?_
  repeat' (first|(refine hK _ ?_;clear hK K)|refine And.intro ?_ ?_|exact cl|refine .inl ⟨_,_,zjm,?_⟩|(refine st ?_;try simp only[encX,zaa,zab,zac,encF,encM])|fail)
  all_goals
  refine sZ [1,2,3,4,5,6,7,9,10,11] (fun P S K=>XvLoad P 58 (M S.hp S.nx) (S.get 8) (fun r0 _=>XvFnIV P (M S.hp S.nx) (.fn 17 []) [r0,(.atom (.string { data := #[111,100,101,115] }))] (fun r1 ef1=>XvExtract r1 0 (fun r3 _=>XvExtract r1 1 (fun r4 _=>K ⟨[(1,S.get 1),(2,S.get 2),(3,S.get 3),(4,S.get 4),(5,S.get 5),(6,S.get 6),(7,S.get 7),(9,S.get 9),(10,r3),(11,r4)],(Eff.hp ef1 S.nx S.hp),(S.nx+ef1.add.length),S.gh⟩))))) fun K hK=>?_
  repeat' (first|(refine hK _ ?_;clear hK K)|refine And.intro ?_ ?_|exact cl|refine .inl ⟨_,_,zn4,?_⟩|(refine st ?_;try simp only[encX,zaa,zab,zac,encF,encM])|fail)
  all_goals
  refine sZ [1,2,3,4,5,6,7,9,10,11,12,13] (fun P S K=>XvLoad P 27 (M S.hp S.nx) (S.get 1) (fun r0 _=>XvBuildS P 35 2 S.nx [(0,(.atom (.string { data := #[111,100,101,115] }))),(1,(.atom (.string { data := #[107,105,110,103,115] })))] (fun r1 ef1=>XvFnIV P (M (Eff.hp ef1 S.nx S.hp) (S.nx+ef1.add.length)) (.fn 11 []) [r0,r1,(.atom (.int .i64 1))] (fun r2 ef2=>XvExtract r2 0 (fun r4 _=>XvExtract r2 1 (fun r5 _=>XvAlloc P 40 ((S.nx+ef1.add.length)+ef2.add.length) (fun r6 ef6=>XvStore P 40 (M (Eff.hp ef6 ((S.nx+ef1.add.length)+ef2.add.length) (Eff.hp ef2 (S.nx+ef1.add.length) (Eff.hp ef1 S.nx S.hp))) (((S.nx+ef1.add.length)+ef2.add.length)+ef6.add.length)) r6 r4 (fun r7 ef7=>K ⟨[(1,S.get 1),(2,S.get 2),(3,S.get 3),(4,S.get 4),(5,S.get 5),(6,S.get 6),(7,S.get 7),(9,S.get 9),(10,S.get 10),(11,S.get 11),(12,r6),(13,r5)],(Eff.hp ef7 (((S.nx+ef1.add.length)+ef2.add.length)+ef6.add.length) (Eff.hp ef6 ((S.nx+ef1.add.length)+ef2.add.length) (Eff.hp ef2 (S.nx+ef1.add.length) (Eff.hp ef1 S.nx S.hp)))),((((S.nx+ef1.add.length)+ef2.add.length)+ef6.add.length)+ef7.add.length),S.gh⟩)))))))) fun K hK=>?_
  repeat' (first|(refine hK _ ?_;clear hK K)|refine And.intro ?_ ?_|exact cl|refine .inl ⟨_,_,zrt,?_⟩|(refine st ?_;try simp only[encX,zaa,zab,zac,encF,encM])|fail)
  all_goals
  refine sZ [1,2,3,4,5,6,7,9,10,11,12,13,14,15] (fun P S K=>XvLoad P 27 (M S.hp S.nx) (S.get 1) (fun r0 _=>XvBuildS P 35 2 S.nx [(0,(.atom (.string { data := #[107,105,110,103,115] }))),(1,(.atom (.string { data := #[111,100,101,115] })))] (fun r1 ef1=>XvFnIV P (M (Eff.hp ef1 S.nx S.hp) (S.nx+ef1.add.length)) (.fn 21 []) [r0,r1] (fun r2 ef2=>XvExtract r2 0 (fun r4 _=>XvExtract r2 1 (fun r5 _=>K ⟨[(1,S.get 1),(2,S.get 2),(3,S.get 3),(4,S.get 4),(5,S.get 5),(6,S.get 6),(7,S.get 7),(9,S.get 9),(10,S.get 10),(11,S.get 11),(12,S.get 12),(13,S.get 13),(14,r4),(15,r5)],(Eff.hp ef2 (S.nx+ef1.add.length) (Eff.hp ef1 S.nx S.hp)),((S.nx+ef1.add.length)+ef2.add.length),S.gh⟩)))))) fun K hK=>?_
  repeat' (first|(refine hK _ ?_;clear hK K)|refine And.intro ?_ ?_|exact cl|refine .inl ⟨_,_,zqA,?_⟩|(refine st ?_;try simp only[encX,zaa,zab,zac,encF,encM])|fail)
  all_goals
  refine sZ [1,2,3,4,5,6,7,9,10,11,12,13,14,15,17] (fun P S K=>XvLoad P 27 (M S.hp S.nx) (S.get 1) (fun r0 _=>XvBuildS P 35 2 S.nx [(0,(.atom (.string { data := #[107,105,110,103,115] }))),(1,(.atom (.string { data := #[111,100,101,115] })))] (fun r1 ef1=>XvFnIV P (M (Eff.hp ef1 S.nx S.hp) (S.nx+ef1.add.length)) (.fn 22 []) [r0,r1] (fun r2 ef2=>XvExtract r2 0 (fun r4 _=>XvExtract r2 1 (fun r5 _=>K ⟨[(1,S.get 1),(2,S.get 2),(3,S.get 3),(4,S.get 4),(5,S.get 5),(6,S.get 6),(7,S.get 7),(9,S.get 9),(10,S.get 10),(11,S.get 11),(12,S.get 12),(13,S.get 13),(14,S.get 14),(15,S.get 15),(17,r5)],(Eff.hp ef2 (S.nx+ef1.add.length) (Eff.hp ef1 S.nx S.hp)),((S.nx+ef1.add.length)+ef2.add.length),S.gh⟩)))))) fun K hK=>?_
  repeat' (first|(refine hK _ ?_;clear hK K)|refine And.intro ?_ ?_|exact cl|refine .inl ⟨_,_,zou,?_⟩|(refine st ?_;try simp only[encX,zaa,zab,zac,encF,encM])|fail)
  all_goals
  refine Tri.seq ?_
  refine sZ [1,2,4,6,10,12,14,113] (fun P S K=>XvBinOV P .neq 41 (.const (.int .i64 0)) (S.get 3) (.atom (.int .i64 0)) (fun r1 _=>Xgq r1 false (fun k=>k (S.get 5)) (fun g3 r3=>Xgq g3 false (fun k=>XvBinOV P .neq 41 (.const (.int .i64 0)) r3 (.atom (.int .i64 0)) (fun r4 _=>k r4)) (fun g4 r4=>XvPick g4 (.atom (.bool true)) r4 (fun r5 _=>Xgq r5 false (fun k=>k (S.get 7)) (fun g7 r7=>Xgq g7 false (fun k=>XvBinOV P .neq 41 (.const (.int .i64 0)) r7 (.atom (.int .i64 0)) (fun r8 _=>k r8)) (fun g8 r8=>XvPick g8 (.atom (.bool true)) r8 (fun r9 _=>Xgq r9 false (fun k=>k (S.get 9)) (fun g11 r11=>Xgq g11 false (fun k=>XvBinOV P .neq 41 (.const (.int .i64 0)) r11 (.atom (.int .i64 0)) (fun r12 _=>k r12)) (fun g12 r12=>XvPick g12 (.atom (.bool true)) r12 (fun r13 _=>Xgq r13 false (fun k=>k (S.get 11)) (fun g15 r15=>Xgq g15 false (fun k=>XvBinOV P .neq 41 (.const (.int .i64 0)) r15 (.atom (.int .i64 0)) (fun r16 _=>k r16)) (fun g16 r16=>XvPick g16 (.atom (.bool true)) r16 (fun r17 _=>Xgq r17 false (fun k=>k (S.get 13)) (fun g19 r19=>Xgq g19 false (fun k=>XvBinOV P .neq 41 (.const (.int .i64 0)) r19 (.atom (.int .i64 0)) (fun r20 _=>k r20)) (fun g20 r20=>XvPick g20 (.atom (.bool true)) r20 (fun r21 _=>Xgq r21 false (fun k=>k (S.get 15)) (fun g23 r23=>Xgq g23 false (fun k=>XvBinOV P .neq 41 (.const (.int .i64 0)) r23 (.atom (.int .i64 0)) (fun r24 _=>k r24)) (fun g24 r24=>XvPick g24 (.atom (.bool true)) r24 (fun r25 _=>Xgq r25 false (fun k=>k (S.get 17)) (fun g27 r27=>Xgq g27 false (fun k=>XvBinOV P .neq 41 (.const (.int .i64 14)) r27 (.atom (.int .i64 14)) (fun r28 _=>k r28)) (fun g28 r28=>XvPick g28 (.atom (.bool true)) r28 (fun r29 _=>Xgq r29 false (fun k=>k (S.get 2)) (fun g31 r31=>Xgq g31 false (fun k=>XvLen P 23 (M S.hp S.nx) r31 (fun r32 _=>k r32)) (fun g32 r32=>Xgq g32 false (fun k=>XvBinOV P .neq 3 (.const (.int .i64 1)) r32 (.atom (.int .i64 1)) (fun r33 _=>k r33)) (fun g33 r33=>XvPick g33 (.atom (.bool true)) r33 (fun r34 _=>Xgq r34 false (fun k=>k (S.get 4)) (fun g36 r36=>Xgq g36 false (fun k=>XvLen P 23 (M S.hp S.nx) r36 (fun r37 _=>k r37)) (fun g37 r37=>Xgq g37 false (fun k=>XvBinOV P .neq 3 (.const (.int .i64 2)) r37 (.atom (.int .i64 2)) (fun r38 _=>k r38)) (fun g38 r38=>XvPick g38 (.atom (.bool true)) r38 (fun r39 _=>Xgq r39 false (fun k=>k (S.get 6)) (fun g41 r41=>Xgq g41 false (fun k=>XvLen P 23 (M S.hp S.nx) r41 (fun r42 _=>k r42)) (fun g42 r42=>Xgq g42 false (fun k=>XvBinOV P .neq 3 (.const (.int .i64 1)) r42 (.atom (.int .i64 1)) (fun r43 _=>k r43)) (fun g43 r43=>XvPick g43 (.atom (.bool true)) r43 (fun r44 _=>K ⟨[(1,S.get 1),(2,S.get 2),(4,S.get 4),(6,S.get 6),(10,S.get 10),(12,S.get 12),(14,S.get 14),(113,r44)],S.hp,S.nx,S.gh⟩))))))))))))))))))))))))))))))))))) fun K hK=>?_
  repeat' (first|(refine hK _ ?_;clear hK K)|((first|refine zav (fun hg=>?_) (fun hg=>?_)|refine fun(hg:(_:Prop))=>?_)<;>((try simp only[BQ] at hg);try (exfalso;omega)))|(refine st ?_;try simp only[encX,zaa,zab,zac,encF,encM])|fail)
  all_goals
  refine Tri.cond rfl (fun h113=>?_) (fun h113=>?_)
  ·try (cases h113;done)
   all_goals (try simp only[CQ] at h113)
   all_goals
   refine sY [0] (fun P S K=>K ⟨[(0,(.atom (.bool false)))],S.hp,S.nx,S.gh⟩) ?_
   all_goals
   refine Tri.ret ?_
   show ResOk _ _ _ _
   exfalso;revert h113;decide +kernel
  try (cases h113;done)
  all_goals (try simp only[CQ] at h113)
  all_goals
  refine Tri.skip ?_
  refine Tri.seq ?_
  refine sD 22 [4,10,12,14,135] (fun P GD S K=>XvIndexAddr P 23 (S.get 2) (.atom (.int .i64 0)) (fun r1 ef1=>XvLoad P 40 (M S.hp S.nx) r1 (fun r2 ef2=>XvFieldAddr P 27 0 (S.get 1) (fun r3 ef3=>XvLoad P 23 (M S.hp S.nx) r3 (fun r4 ef4=>XvIndexAddr P 23 r4 (.atom (.int .i64 0)) (fun r5 ef5=>XvLoad P 40 (M S.hp S.nx) r5 (fun r6 ef6=>XvBinOV P .neq 40 (.tmp 120) r2 r6 (fun r7 ef7=>Xge r7 false (fun k=>k (S.get 4) e0) (fun g9 r9 ef9=>Xge g9 false (fun k=>XvIndexAddr P 23 r9 (.atom (.int .i64 0)) k) (fun g10 r10 ef10=>Xge g10 false (fun k=>XvLoad P 40 (M S.hp S.nx) r10 k) (fun g11 r11 ef11=>Xge g11 false (fun k=>XvBuild P 40 [(0,(.atom (.string { data := #[107,105,110,103,115] }))),(1,(.atom (.string { data := #[107,105,110,103] }))),(2,(.atom (.string { data := #[110,111,117,110] })))] k) (fun g12 r12 ef12=>Xge g12 false (fun k=>XvBinOV P .neq 40 (.tmp 126) r11 r12 k) (fun g13 r13 ef13=>XvPick g13 (.atom (.bool true)) r13 (fun r14 ef14=>Xge r14 false (fun k=>k (S.get 6) e0) (fun g16 r16 ef16=>Xge g16 false (fun k=>XvIndexAddr P 23 r16 (.atom (.int .i64 0)) k) (fun g17 r17 ef17=>Xge g17 false (fun k=>XvLoad P 40 (M S.hp S.nx) r17 k) (fun g18 r18 ef18=>Xge g18 false (fun k=>XvBuild P 40 [(0,(.atom (.string { data := #[104,105,115] }))),(1,(.atom (.string { data := #[104,105,115] })))] k) (fun g19 r19 ef19=>Xge g19 false (fun k=>XvBinOV P .neq 40 (.tmp 133) r18 r19 k) (fun g20 r20 ef20=>XvPick g20 (.atom (.bool true)) r20 (fun r21 ef21=>(trOk S.nx GD [⟨S.nx,0,[],[],[]⟩,⟨S.nx,0,ef1.rd,[],[]⟩,⟨S.nx,0,ef2.rd,[],[]⟩,⟨S.nx,0,ef3.rd,[],[]⟩,⟨S.nx,0,ef4.rd,[],[]⟩,⟨S.nx,0,ef5.rd,[],[]⟩,⟨S.nx,0,ef6.rd,[],[]⟩,⟨S.nx,0,ef7.rd,[],[]⟩,⟨S.nx,0,[],[],[]⟩,⟨S.nx,0,ef9.rd,[],[]⟩,⟨S.nx,0,ef10.rd,[],[]⟩,⟨S.nx,0,ef11.rd,[],[]⟩,⟨S.nx,0,ef12.rd,[],[]⟩,⟨S.nx,0,ef13.rd,[],[]⟩,⟨S.nx,0,ef14.rd,[],[]⟩,⟨S.nx,0,[],[],[]⟩,⟨S.nx,0,ef16.rd,[],[]⟩,⟨S.nx,0,ef17.rd,[],[]⟩,⟨S.nx,0,ef18.rd,[],[]⟩,⟨S.nx,0,ef19.rd,[],[]⟩,⟨S.nx,0,ef20.rd,[],[]⟩,⟨S.nx,0,ef21.rd,[],[]⟩]=true∧K ⟨[(4,S.get 4),(10,S.get 10),(12,S.get 12),(14,S.get 14),(135,r21)],S.hp,S.nx,S.gh⟩))))))))))))))))))))) fun K hK=>?_
  repeat' (first|(refine hK _ ?_;clear hK K)|(refine(?_:trOk _ _ _=true);(try simp only[zlD]);kernel_rfl)|((first|refine zav (fun hg=>?_) (fun hg=>?_)|refine fun(hg:(_:Prop))=>?_)<;>((try simp only[BQ] at hg);try (exfalso;omega)))|refine And.intro ?_ ?_|exact cl|(refine st ?_;try simp only[encX,zaa,zab,zac,encF,encM,zlD])|fail)
  all_goals
  refine Tri.cond rfl (fun h135=>?_) (fun h135=>?_)
  ·try (cases h135;done)
   all_goals (try simp only[CQ] at h135)
   all_goals
   refine sY [0] (fun P S K=>K ⟨[(0,(.atom (.bool false)))],S.hp,S.nx,S.gh⟩) ?_
   all_goals
   refine Tri.ret ?_
   show ResOk _ _ _ _
   exfalso
   first
     | exact absurd h135 (by decide +kernel)
     | exact absurd hg (by decide +kernel)
     | (revert h135;decide +kernel)
     | (rename_i q1;exact absurd q1 (by decide +kernel))
     | (rename_i q1 q2;exact absurd q1 (by decide +kernel))
     | (rename_i q1 q2;exact absurd q2 (by decide +kernel))
  try (cases h135;done)
  all_goals (try simp only[CQ] at h135)
  all_goals
  refine Tri.skip ?_
  refine sD 21 [0] (fun P GD S K=>XvBuildS P 35 4 S.nx [(0,(.atom (.string { data := #[49,111,100,101,47,110,111,117,110] }))),(1,(.atom (.string { data := #[50,111,100,101,47,110,111,117,110] }))),(2,(.atom (.string { data := #[50,111,100,101,47,118,101,114,98] }))),(3,(.atom (.string { data := #[51,111,100,101,115,47] })))] (fun r1 ef1=>XvFnDV P (M (Eff.hp ef1 S.nx S.hp) (S.nx+ef1.add.length)) (.fn 23 []) [(S.get 10),r1] (fun r2 ef2=>Xge r2 true (fun k=>XvLoad P 40 (M (Eff.hp ef2 (S.nx+ef1.add.length) (Eff.hp ef1 S.nx S.hp)) ((S.nx+ef1.add.length)+ef2.add.length)) (S.get 12) k) (fun g4 r4 ef4=>Xge g4 true (fun k=>k (S.get 4) e0) (fun g5 r5 ef5=>Xge g5 true (fun k=>XvIndexAddr P 23 r5 (.atom (.int .i64 1)) k) (fun g6 r6 ef6=>Xge g6 true (fun k=>XvLoad P 40 (M (Eff.hp ef2 (S.nx+ef1.add.length) (Eff.hp ef1 S.nx S.hp)) ((S.nx+ef1.add.length)+ef2.add.length)) r6 k) (fun g7 r7 ef7=>Xge g7 true (fun k=>XvBinOV P .eql 40 (.tmp 143) r4 r7 k) (fun g8 r8 ef8=>XvPick g8 r8 (.atom (.bool false)) (fun r9 ef9=>Xge r9 true (fun k=>XvFieldAddr P 40 2 (S.get 12) k) (fun g11 r11 ef11=>Xge g11 true (fun k=>XvLoad P 9 (M (Eff.hp ef2 (S.nx+ef1.add.length) (Eff.hp ef1 S.nx S.hp)) ((S.nx+ef1.add.length)+ef2.add.length)) r11 k) (fun g12 r12 ef12=>Xge g12 true (fun k=>XvBinOV P .eql 9 (.const (.string { data := #[118,101,114,98] })) r12 (.atom (.string { data := #[118,101,114,98] })) k) (fun g13 r13 ef13=>XvPick g13 r13 (.atom (.bool false)) (fun r14 ef14=>Xge r14 true (fun k=>k (S.get 14) e0) (fun g16 r16 ef16=>Xge g16 true (fun k=>XvBuildS P 22 1 ((S.nx+ef1.add.length)+ef2.add.length) [(0,(.atom (.int .i64 0)))] k) (fun g17 r17 ef17=>Xge g17 true (fun k=>XvFnDV P (M (Eff.hp ef17 ((S.nx+ef1.add.length)+ef2.add.length) (Eff.hp ef2 (S.nx+ef1.add.length) (Eff.hp ef1 S.nx S.hp))) (((S.nx+ef1.add.length)+ef2.add.length)+ef17.add.length)) (.fn 24 []) [r16,r17] k) (fun g18 r18 ef18=>XvPick g18 r18 (.atom (.bool false)) (fun r19 ef19=>(trOk S.nx GD [⟨S.nx,0,[],[],[]⟩,(Eff.tr ef1 S.nx),(Eff.tr ef2 (S.nx+ef1.add.length)),⟨((S.nx+ef1.add.length)+ef2.add.length),0,[],[],[]⟩,⟨((S.nx+ef1.add.length)+ef2.add.length),0,ef4.rd,[],[]⟩,⟨((S.nx+ef1.add.length)+ef2.add.length),0,ef5.rd,[],[]⟩,⟨((S.nx+ef1.add.length)+ef2.add.length),0,ef6.rd,[],[]⟩,⟨((S.nx+ef1.add.length)+ef2.add.length),0,ef7.rd,[],[]⟩,⟨((S.nx+ef1.add.length)+ef2.add.length),0,ef8.rd,[],[]⟩,⟨((S.nx+ef1.add.length)+ef2.add.length),0,ef9.rd,[],[]⟩,⟨((S.nx+ef1.add.length)+ef2.add.length),0,[],[],[]⟩,⟨((S.nx+ef1.add.length)+ef2.add.length),0,ef11.rd,[],[]⟩,⟨((S.nx+ef1.add.length)+ef2.add.length),0,ef12.rd,[],[]⟩,⟨((S.nx+ef1.add.length)+ef2.add.length),0,ef13.rd,[],[]⟩,⟨((S.nx+ef1.add.length)+ef2.add.length),0,ef14.rd,[],[]⟩,⟨((S.nx+ef1.add.length)+ef2.add.length),0,[],[],[]⟩,⟨((S.nx+ef1.add.length)+ef2.add.length),0,ef16.rd,[],[]⟩,(Eff.tr ef17 ((S.nx+ef1.add.length)+ef2.add.length)),(Eff.tr ef18 (((S.nx+ef1.add.length)+ef2.add.length)+ef17.add.length)),⟨((((S.nx+ef1.add.length)+ef2.add.length)+ef17.add.length)+ef18.add.length),0,ef19.rd,[],[]⟩,⟨((((S.nx+ef1.add.length)+ef2.add.length)+ef17.add.length)+ef18.add.length),0,[],[],[]⟩]=true∧K ⟨[(0,r19)],(Eff.hp ef18 (((S.nx+ef1.add.length)+ef2.add.length)+ef17.add.length) (Eff.hp ef17 ((S.nx+ef1.add.length)+ef2.add.length) (Eff.hp ef2 (S.nx+ef1.add.length) (Eff.hp ef1 S.nx S.hp)))),((((S.nx+ef1.add.length)+ef2.add.length)+ef17.add.length)+ef18.add.length),S.gh⟩)))))))))))))))))) fun K hK=>?_
  repeat' (first|(refine hK _ ?_;clear hK K)|(refine(?_:trOk _ _ _=true);kernel_rfl)|((first|refine zav (fun hg=>?_) (fun hg=>?_)|refine fun(hg:(_:Prop))=>?_)<;>((try simp only[BQ] at hg);try (exfalso;omega)))|refine And.intro ?_ ?_|exact cl|refine .inl ⟨_,_,zhf outsL outsL (by decide) (by decide),?_⟩|refine .inl ⟨_,_,zir [0] [0] (by decide) (by decide),?_⟩|(refine st ?_;try simp only[encX,zaa,zab,zac,encF,encM])|fail)
  all_goals
  refine Tri.ret ?_
  show ResOk _ _ _ _
  first
  | (exact absurd (by decide +kernel) hg)
  | exact ResOk.val lsrM27 lpvM27
end Go.Proofs.Ytehoglapajkabaa
