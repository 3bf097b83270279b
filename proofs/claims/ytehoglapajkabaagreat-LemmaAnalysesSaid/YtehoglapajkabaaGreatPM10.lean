/-
  The clean machine: a nil field of an own struct,seen as a frozen row that is empty;a nil result seen so.
-/
import Derived.Test.YtehoglapajkabaaGreatPM0
import Derived.Test.YtehoglapajkabaaGreatPVR
set_option linter.all false
namespace Go.Proofs.YtehoglapajkabaaGreat
open Go Go.RowKit
theorem ResR.cell1{P:Program}{S:St}{rv:ResultVar}{r:PV}(x:PV) (h:zeM P S [rv]=some [x]) (hs:sealed S.obj (fun _=>false) 5 x=r) (hp:r.pure=true):ResR P S [rv] r []:=
  ⟨[x],h,ResOk.frz 5 (by rw[zdM];exact hs) hp⟩
theorem ResR.cells{P:Program}{S:St}{rv:List ResultVar}{r:PV}(x y:PV) (l:List PV) (h:zeM P S rv=some (x :: y :: l)) (hs:sealed S.obj (fun _=>false) 6 (.tup (x :: y :: l))=r) (hp:r.pure=true):ResR P S rv r []:=
  ⟨x :: y :: l,h,ResOk.frz 6 (by rw[zdM];exact hs) hp⟩
set_option maxRecDepth 20000
set_option maxHeartbeats 1000000
def choT (x:LexD) (ws:List ByteArray) (k:Nat):FormD×Bool:=match zlC x ws k with
  | some f=>(f,true)
  | none=>(noF,false)
theorem zfW{l:List PrefD}{i:Nat}(h:i<l.length):l.drop i=fA l i :: l.drop (i+1):=by rw[List.drop_eq_getElem_cons h,zmG h]
def znP (x:LexD) (ws:List ByteArray) (n:Nat):List Int:=((List.range n).filter fun k => !(choT x ws k).2).map fun(k:Nat)=>(k:Int)
theorem zeF (x:LexD) (ws:List ByteArray) (n:Nat):znP x ws (n+1)=if (choT x ws n).2=true then znP x ws n else znP x ws n++[(n:Int)]:=by
  unfold znP
  rw[List.range_succ,List.filter_append,List.map_append]
  cases h:(choT x ws n).2<;>simp[h]
def zqG (x:LexD) (ws:List ByteArray):List Int:=if errX x ws≠0 then [] else znP x ws ws.length
def zkx (x:LexD) (ws:List ByteArray) (n:Nat):List FormD:=(List.range n).map fun k=>(choT x ws k).1
theorem zm4 (x:LexD) (ws:List ByteArray) (n:Nat):zkx x ws (n+1)=zkx x ws n++[(choT x ws n).1]:=by
  unfold zkx;rw[List.range_succ,List.map_append];rfl
def sureX (x:LexD) (ws:List ByteArray):Bool:=(List.range ws.length).all fun k=>(choT x ws k).2
def zgg (x:LexD) (ws:List ByteArray):List FormD×Int:=if errX x ws≠0 then ([],errX x ws) else if sureX x ws then (zkx x ws ws.length,0) else ([],14)
theorem zoN{x:LexD}{ws:List ByteArray}(h:errX x ws≠0):zgg x ws=([],errX x ws):=if_pos h
theorem zm3{x:LexD}{ws:List ByteArray}(h:¬errX x ws≠0) {i:Nat}(hi:i<ws.length) (h2:(choT x ws i).2=false):zgg x ws=([],14):=by
  unfold zgg;rw[if_neg h,if_neg]
  intro ha
  have:=List.all_eq_true.1 ha i (List.mem_range.2 hi)
  rw[h2] at this;cases this
theorem zm2{x:LexD}{ws:List ByteArray}(h:¬errX x ws≠0) (h2:∀j,j<ws.length→(choT x ws j).2=true):zgg x ws=(zkx x ws ws.length,0):=by
  unfold zgg;rw[if_neg h,if_pos]
  exact List.all_eq_true.2 fun j hj=>h2 j (List.mem_range.1 hj)
def zcG (x:LexD) (ws:List ByteArray) (k:Int):FormD×Int:=
  if errX x ws≠0 then (noF,errX x ws) else if k<0∨(ws.length:Int)≤k then (noF,5) else if (choT x ws k.toNat).2 then ((choT x ws k.toNat).1,0) else (noF,14)
theorem zlB{x:LexD}{ws:List ByteArray}{k:Int}(h:errX x ws≠0):zcG x ws k=(noF,errX x ws):=if_pos h
theorem zlA{x:LexD}{ws:List ByteArray}{k:Int}(h:¬errX x ws≠0) (h2:k<0∨(ws.length:Int)≤k):zcG x ws k=(noF,5):=by
  unfold zcG;rw[if_neg h,if_pos h2]
theorem zj4{x:LexD}{ws:List ByteArray}{k:Int}(h:¬errX x ws≠0) (h2:¬ (k<0∨(ws.length:Int)≤k)) (h3:(choT x ws k.toNat).2=false):zcG x ws k=(noF,14):=by
  unfold zcG;rw[if_neg h,if_neg h2,h3];rfl
theorem zj3{x:LexD}{ws:List ByteArray}{k:Int}(h:¬errX x ws≠0) (h2:¬ (k<0∨(ws.length:Int)≤k)) (h3:(choT x ws k.toNat).2=true):zcG x ws k=((choT x ws k.toNat).1,0):=by
  unfold zcG;rw[if_neg h,if_neg h2,h3];rfl
def ziJ:List ByteArray:=[⟨#[110,111,117,110]⟩,⟨#[118,101,114,98]⟩,⟨#[110,97,109,101]⟩]
def zkp:List ByteArray:=[⟨#[97,110,110,97]⟩,⟨#[114,111,109,101]⟩,⟨#[107,105,110,103]⟩,⟨#[116,104,101]⟩,⟨#[111,102]⟩,⟨#[111,100,101]⟩,⟨#[108,121,114,101]⟩,⟨#[120]⟩,⟨#[111,100,101,115]⟩,⟨#[107,105,110,103,115]⟩,⟨#[97,110,110,97,115]⟩,⟨#[108,121,114,101,115]⟩,⟨#[115]⟩,⟨#[104,105,115]⟩]
def zaV (n:Int):ByteArray:=ls ziJ (zaQ n 3).toNat
def zgu (n:Int):ByteArray:=ls zkp (zaQ n 14).toNat
theorem zcK (n:Int) (hn:I64 n):Pure Tryz.prog 40 [encI n] (encS (zaV n)) []:=by
  have h0:=zbO (n:=n) (most:=3) (by decide)
  have h3:=zbP (n:=n) (most:=3) (by decide)
  have hg:([.atom (.string ⟨#[110,111,117,110]⟩),.atom (.string ⟨#[118,101,114,98]⟩),.atom (.string ⟨#[110,97,109,101]⟩)]:List PV).getD (zaQ n 3).toNat .junk=.atom (.string (zaV n)):=za9 (l:=ziJ) (k:=(zaQ n 3).toNat) (by show _<3;omega)
  refine Pure.intro (ts:=[2]) Tryz.func40 (by kernel_rfl) rfl rfl rfl (Nat.le_of_ble_eq_true rfl) ?_ ?_
  · simp[zan,zal,encI,encS,PV.pure,zaz]
  refine sY [0] (fun P S K=>K ⟨[(0,S.get 0)],S.hp,S.nx,S.gh⟩) ?_
  all_goals
  refine sZ [2] (fun P S K=>XvBuildS P 37 3 S.nx [(0,(.atom (.string { data := #[110,111,117,110] }))),(1,(.atom (.string { data := #[118,101,114,98] }))),(2,(.atom (.string { data := #[110,97,109,101] })))] (fun r0 ef0=>XvFnIV P (M (Eff.hp ef0 S.nx S.hp) (S.nx+ef0.add.length)) (.fn 31 []) [(S.get 0),(.atom (.int .i64 3))] (fun r2 ef2=>XvIndexAddr P 37 r0 r2 (fun r3 _=>XvLoad P 9 (M (Eff.hp ef2 (S.nx+ef0.add.length) (Eff.hp ef0 S.nx S.hp)) ((S.nx+ef0.add.length)+ef2.add.length)) r3 (fun r4 _=>K ⟨[(2,r4)],(Eff.hp ef2 (S.nx+ef0.add.length) (Eff.hp ef0 S.nx S.hp)),((S.nx+ef0.add.length)+ef2.add.length),S.gh⟩))))) fun K hK=>?_
  repeat' (first|(refine hK _ ?_;clear hK K)|refine And.intro ?_ ?_|exact cl|refine .inl ⟨_,_,zaM n 3 hn (by decide),?_⟩|(refine st ?_;try simp only[hg])|refine sx ?_ (by simp only[hg];exact rfl)|fail)
  all_goals
  refine Tri.ret ?_
  show ResOk _ _ _ _
  exact ResOk.val zbM zbA
theorem zfI (n:Int) (hn:I64 n):Pure Tryz.prog 39 [encI n] (encS (zgu n)) []:=by
  have h0:=zbO (n:=n) (most:=14) (by decide)
  have h3:=zbP (n:=n) (most:=14) (by decide)
  have hg:([.atom (.string ⟨#[97,110,110,97]⟩),.atom (.string ⟨#[114,111,109,101]⟩),.atom (.string ⟨#[107,105,110,103]⟩),.atom (.string ⟨#[116,104,101]⟩),.atom (.string ⟨#[111,102]⟩),.atom (.string ⟨#[111,100,101]⟩),.atom (.string ⟨#[108,121,114,101]⟩),.atom (.string ⟨#[120]⟩),.atom (.string ⟨#[111,100,101,115]⟩),.atom (.string ⟨#[107,105,110,103,115]⟩),.atom (.string ⟨#[97,110,110,97,115]⟩),.atom (.string ⟨#[108,121,114,101,115]⟩),.atom (.string ⟨#[115]⟩),.atom (.string ⟨#[104,105,115]⟩)]:List PV).getD (zaQ n 14).toNat .junk=.atom (.string (zgu n)):=za9 (l:=zkp) (k:=(zaQ n 14).toNat) (by show _<14;omega)
  refine Pure.intro (ts:=[2]) Tryz.func39 (by kernel_rfl) rfl rfl rfl (Nat.le_of_ble_eq_true rfl) ?_ ?_
  · simp[zan,zal,encI,encS,PV.pure,zaz]
  refine sY [0] (fun P S K=>K ⟨[(0,S.get 0)],S.hp,S.nx,S.gh⟩) ?_
  all_goals
  refine sY [0,3] (fun P S K=>XvBuildS P 37 14 S.nx [(0,(.atom (.string { data := #[97,110,110,97] }))),(1,(.atom (.string { data := #[114,111,109,101] }))),(2,(.atom (.string { data := #[107,105,110,103] }))),(3,(.atom (.string { data := #[116,104,101] }))),(4,(.atom (.string { data := #[111,102] }))),(5,(.atom (.string { data := #[111,100,101] }))),(6,(.atom (.string { data := #[108,121,114,101] }))),(7,(.atom (.string { data := #[120] }))),(8,(.atom (.string { data := #[111,100,101,115] }))),(9,(.atom (.string { data := #[107,105,110,103,115] }))),(10,(.atom (.string { data := #[97,110,110,97,115] }))),(11,(.atom (.string { data := #[108,121,114,101,115] }))),(12,(.atom (.string { data := #[115] }))),(13,(.atom (.string { data := #[104,105,115] })))] (fun r0 ef0=>K ⟨[(0,S.get 0),(3,r0)],(Eff.hp ef0 S.nx S.hp),(S.nx+ef0.add.length),S.gh⟩)) ?_
  all_goals
  refine sZ [2] (fun P S K=>XvLen P 37 (M S.hp S.nx) (S.get 3) (fun r3 _=>XvFnIV P (M S.hp S.nx) (.fn 31 []) [(S.get 0),r3] (fun r4 ef4=>XvIndexAddr P 37 (S.get 3) r4 (fun r5 _=>XvLoad P 9 (M (Eff.hp ef4 S.nx S.hp) (S.nx+ef4.add.length)) r5 (fun r6 _=>K ⟨[(2,r6)],(Eff.hp ef4 S.nx S.hp),(S.nx+ef4.add.length),S.gh⟩))))) fun K hK=>?_
  repeat' (first|(refine hK _ ?_;clear hK K)|refine And.intro ?_ ?_|exact cl|refine .inl ⟨_,_,zaM n 14 hn (by decide),?_⟩|(refine st ?_;try simp only[hg])|refine sx ?_ (by simp only[hg];exact rfl)|fail)
  all_goals
  refine Tri.ret ?_
  show ResOk _ _ _ _
  exact ResOk.val zbM zbA
def zeP (l:List Int):List ByteArray:=(l.take 7).map zgu
theorem take_liM{l:List Int}{k:Nat}(h:k<l.length):l.take (k+1)=l.take k++[li l k]:=by rw[List.take_succ_eq_append_getElem h];simp[li,List.getD_eq_getElem?_getD,h]
theorem zcg (s:ByteArray) (least most:Int) (hs:s.size≤9223372036854775807):Pure Tryz.prog 42 [encS s,encI least,encI most] (.atom (.bool (letS s least most))) []:=by
  refine Pure.intro (ts:=[6]) Tryz.func42 (by kernel_rfl) rfl rfl rfl (Nat.le_of_ble_eq_true rfl) ?_ ?_
  · simp[zan,zal,encI,encS,PV.pure,zaz]
  refine sY [0,1,2] (fun P S K=>K ⟨[(0,S.get 0),(1,S.get 1),(2,S.get 2)],S.hp,S.nx,S.gh⟩) ?_
  all_goals
  refine Tri.seq ?_
  refine sZ [0,17] (fun P S K=>XvLen P 9 (M S.hp S.nx) (S.get 0) (fun r1 _=>XvBinOV P .lss 3 (.tmp 10) r1 (S.get 1) (fun r3 _=>Xgq r3 false (fun k=>k (S.get 0)) (fun g5 r5=>Xgq g5 false (fun k=>XvLen P 9 (M S.hp S.nx) r5 (fun r6 _=>k r6)) (fun g6 r6=>Xgq g6 false (fun k=>k (S.get 2)) (fun g7 r7=>Xgq g7 false (fun k=>XvBinOV P .gtr 3 (.tmp 15) r6 r7 (fun r8 _=>k r8)) (fun g8 r8=>XvPick g8 (.atom (.bool true)) r8 (fun r9 _=>K ⟨[(0,S.get 0),(17,r9)],S.hp,S.nx,S.gh⟩)))))))) fun K hK=>?_
  repeat' (first|(refine hK _ ?_;clear hK K)|((first|refine zak (fun hg=>?_) (fun hg=>?_)|refine fun(hg:(_:Prop))=>?_)<;>((try simp only[BQ] at hg);try (exfalso;omega)))|refine And.intro ?_ ?_|exact cl|refine zai ?_ _|refine zaj ?_ _|refine st ?_|fail)
  all_goals
  refine Tri.cond rfl (fun h17=>?_) (fun h17=>?_)
  ·try (cases h17;done)
   all_goals (try simp only[CQ] at h17)
   all_goals
   refine sY [6] (fun P S K=>K ⟨[(6,(.atom (.bool false)))],S.hp,S.nx,S.gh⟩) ?_
   all_goals
   refine Tri.ret ?_
   show ResOk _ _ _ _
   rw[show letS s least most=false from Bool.eq_false_iff.2 (fun h=>by have:=(letS_iff.1 h).2;omega)]
   exact ResOk.val zbM zbA
  ·try (cases h17;done)
   all_goals (try simp only[CQ] at h17)
   all_goals
   refine Tri.skip ?_
   refine Tri.seq ?_
   refine sY [0,19,20] (fun P S K=>XvLen P 9 (M S.hp S.nx) (S.get 0) (fun r1 _=>K ⟨[(0,S.get 0),(19,r1),(20,(.atom (.int .i64 0)))],S.hp,S.nx,S.gh⟩)) ?_
   all_goals
   refine Tri.block ?_
   refine Tri.loop (α:=(i:Nat) ×' (i≤s.size∧∀j,j<i→97≤(zbU s j).toNat∧(zbU s j).toNat≤122)) (fun z=>(fun(i:Nat)=>(⟨[(0,encS s),(19,encI s.size),(20,encI i)],[],0,[]⟩:St)) z.1) (fun z=>(fun(i:Nat)=>s.size - i) z.1) ⟨0,⟨by omega,by omega⟩⟩ [] ?_ ?_
   ·exact zaT
   ·rintro⟨i,⟨hi,hlo⟩⟩
    refine sY [0,19,20,21] (fun P S K=>XvBinOV P .lss 3 (.tmp 19) (S.get 20) (S.get 19) (fun r0 _=>K ⟨[(0,S.get 0),(19,S.get 19),(20,S.get 20),(21,r0)],S.hp,S.nx,S.gh⟩)) ?_
    all_goals
    refine Tri.seq ?_
    refine Tri.cond rfl (fun h21=>?_) (fun h21=>?_)
    ·try (cases h21;done)
     all_goals (try simp only[CQ] at h21)
     all_goals
     refine Tri.skip ?_
     refine Tri.seq ?_
     refine Tri.block ?_
     refine sY [0,7,19,20] (fun P S K=>K ⟨[(0,S.get 0),(7,(S.get 20)),(19,S.get 19),(20,S.get 20)],S.hp,S.nx,S.gh⟩) ?_
     all_goals
     refine sZ [0,19,20,32] (fun P S K=>XvIndex P 9 (S.get 0) (S.get 7) (fun r2 _=>XvBinOV P .lss 5 (.const (.int .u8 97)) r2 (.atom (.int .u8 97)) (fun r3 _=>Xgq r3 false (fun k=>k (S.get 0)) (fun g5 r5=>Xgq g5 false (fun k=>k (S.get 7)) (fun g6 r6=>Xgq g6 false (fun k=>XvIndex P 9 r5 r6 (fun r7 _=>k r7)) (fun g7 r7=>Xgq g7 false (fun k=>XvBinOV P .gtr 5 (.const (.int .u8 122)) r7 (.atom (.int .u8 122)) (fun r8 _=>k r8)) (fun g8 r8=>XvPick g8 (.atom (.bool true)) r8 (fun r9 _=>K ⟨[(0,S.get 0),(19,S.get 19),(20,S.get 20),(32,r9)],S.hp,S.nx,S.gh⟩)))))))) fun K hK=>?_
     repeat' (first|(refine hK _ ?_;clear hK K)|((first|refine zak (fun hg=>?_) (fun hg=>?_)|refine fun(hg:(_:Prop))=>?_)<;>((try simp only[BQ] at hg);try (exfalso;omega)))|refine And.intro ?_ ?_|exact cl|refine zai ?_ _|refine zaj ?_ _|refine st ?_|fail)
     all_goals
     refine Tri.cond rfl (fun h32=>?_) (fun h32=>?_)
     ·try (cases h32;done)
      all_goals (try simp only[CQ] at h32)
      all_goals
      refine sY [6] (fun P S K=>K ⟨[(6,(.atom (.bool false)))],S.hp,S.nx,S.gh⟩) ?_
      all_goals
      refine Tri.ret ?_
      show ResOk _ _ _ _
      rw[show letS s least most=false from Bool.eq_false_iff.2 (fun h=>by have:=(letS_iff.1 h).1 i (by omega);omega)]
      exact ResOk.val zbM zbA
     ·try (cases h32;done)
      all_goals (try simp only[CQ] at h32)
      all_goals
      refine Tri.skip ?_
      refine rY [0,19,20] (fun P S K=>XvBinOV P .add 3 (.const (.int .i64 1)) (S.get 20) (.atom (.int .i64 1)) (fun r0 _=>K ⟨[(0,S.get 0),(19,S.get 19),(20,r0)],S.hp,S.nx,S.gh⟩)) ?_
      all_goals try simp (disch:=omega) only[zae,zaf]
      all_goals
      refine⟨⟨i+1,by omega,fun j hj=>?_⟩,[],by dsimp only;omega,?_⟩
      · rcases Nat.lt_succ_iff_lt_or_eq.1 hj with hj|rfl
        · exact hlo j hj
        · omega
      · exact zaT
    ·try (cases h21;done)
     all_goals (try simp only[CQ] at h21)
     all_goals
     refine Tri.exit ?_
     refine sY [6] (fun P S K=>K ⟨[(6,(.atom (.bool true)))],S.hp,S.nx,S.gh⟩) ?_
     all_goals
     refine Tri.ret ?_
     show ResOk _ _ _ _
     rw[show letS s least most=true from letS_iff.2 ⟨fun j hj=>hlo j (by omega),by omega,by omega⟩]
     exact ResOk.val zbM zbA
theorem zbl (s:ByteArray) (hs:s.size≤9223372036854775807):Pure Tryz.prog 43 [encS s] (.atom (.bool (letS s 1 8))) []:=by
  refine Pure.intro (ts:=[2]) Tryz.func43 (by kernel_rfl) rfl rfl rfl (Nat.le_of_ble_eq_true rfl) ?_ ?_
  · simp[zan,zal,encI,encS,PV.pure,zaz]
  refine sY [0] (fun P S K=>K ⟨[(0,S.get 0)],S.hp,S.nx,S.gh⟩) ?_
  all_goals
  refine sZ [2] (fun P S K=>XvFnIV P (M S.hp S.nx) (.fn 42 []) [(S.get 0),(.atom (.int .i64 1)),(.atom (.int .i64 8))] (fun r1 ef1=>K ⟨[(2,r1)],(Eff.hp ef1 S.nx S.hp),(S.nx+ef1.add.length),S.gh⟩)) fun K hK=>?_
  repeat' (first|(refine hK _ ?_;clear hK K)|refine And.intro ?_ ?_|exact cl|refine .inl ⟨_,_,zcg s 1 8 hs,?_⟩|refine st ?_|fail)
  all_goals
  refine Tri.ret ?_
  show ResOk _ _ _ _
  exact ResOk.val zbM zbA
theorem vX_badF{x:LexD}{i:Nat}(h:¬ (64<x.forms.length∨32<x.rules.length∨32<x.prefs.length)) (hi:i<x.forms.length) (hf:zeO (fF x.forms i)=false):zbx x=1:=by
  unfold zbx zfT;rw[if_neg h,if_neg];rw[allF_no hi hf];simp
theorem vX_badR{x:LexD}{i:Nat}(h:¬ (64<x.forms.length∨32<x.rules.length∨32<x.prefs.length)) (hi:i<x.rules.length) (hf:ze6 (fR x.rules i)=false):zbx x=1:=by
  unfold zbx zfT;rw[if_neg h,if_neg]
  intro ha
  rw[Bool.and_eq_true,Bool.and_eq_true] at ha
  have:=List.all_eq_true.1 ha.1.2 _ (zcE hi)
  rw[hf] at this;cases this
theorem vX_badA{x:LexD}{i:Nat}(h:¬ (64<x.forms.length∨32<x.rules.length∨32<x.prefs.length)) (hi:i<x.prefs.length) (hf:zfu (fA x.prefs i)=false):zbx x=1:=by
  unfold zbx zfT;rw[if_neg h,if_neg]
  intro ha
  rw[Bool.and_eq_true,Bool.and_eq_true] at ha
  have:=List.all_eq_true.1 ha.2 _ (zb2 hi)
  rw[hf] at this;cases this
theorem vX_ok{x:LexD}(h:¬ (64<x.forms.length∨32<x.rules.length∨32<x.prefs.length)) (h1:∀j,j<x.forms.length→zeO (fF x.forms j)=true) (h2:∀j,j<x.rules.length→ze6 (fR x.rules j)=true) (h3:∀j,j<x.prefs.length→zfu (fA x.prefs j)=true):zbx x=0:=by
  unfold zbx zfT;rw[if_neg h,if_pos]
  rw[Bool.and_eq_true,Bool.and_eq_true]
  refine⟨⟨allF_yes h1,List.all_eq_true.2 fun y hy=>?_⟩,List.all_eq_true.2 fun y hy=>?_⟩
  · obtain⟨j,hj,rfl⟩:=List.getElem_of_mem hy;rw[←zrt hj];exact h2 j hj
  · obtain⟨j,hj,rfl⟩:=List.getElem_of_mem hy;rw[←zmG hj];exact h3 j hj
theorem size0 (s:ByteArray):s.size=0↔s=⟨#[]⟩:=by
  cases s with|mk a=>simp[ByteArray.size]
theorem let0 (s:ByteArray):letS s 0 8=(decide (s=⟨#[]⟩) || letS s 1 8):=by
  by_cases h:s=⟨#[]⟩
  · subst h;rfl
  · rw[decide_eq_false h,Bool.false_or]
    have:s.size≠0:=fun e=>h ((size0 s).1 e)
    unfold letS
    rw[decide_eq_true (show(0:Int)≤s.size by omega),decide_eq_true (show(1:Int)≤s.size by omega)]
theorem zmF (p:PrefD):zfu p=((decide (p.after=⟨#[]⟩) || letS p.after 1 8) && (decide (p.before=⟨#[]⟩) || letS p.before 1 8) && !decide (p.after++p.before=⟨#[]⟩) && letS p.cls 1 8):=by
  have e:decide (0<p.after.size+p.before.size) = !decide (p.after++p.before=⟨#[]⟩):=by
    rw[←decide_not]
    congr 1
    rw[←size0,ByteArray.size_append]
    exact propext ⟨fun h=>by omega,fun h=>by omega⟩
  unfold zfu
  rw[e,let0,let0,Bool.and_assoc,Bool.and_assoc,Bool.and_assoc,Bool.and_assoc,Bool.and_comm (letS p.cls 1 8)]
theorem zd5 (x:LexD) (hx:HeldX x):Pure Tryz.prog 13 [encX x] (encI (zbx x)) []:=by
  have hnf:=hx.nforms
  have hnr:=hx.nrules
  have hnp:=hx.nprefs
  refine Pure.intro (ts:=[2]) Tryz.func13 (by kernel_rfl) rfl rfl rfl (Nat.le_of_ble_eq_true rfl) ?_ ?_
  · simp[zaG,PV.pure,zaz]
  refine sZ [1] (fun P S K=>XvBox S.nx (S.get 0) (fun r0 ef0=>K ⟨[(1,r0)],(Eff.hp ef0 S.nx S.hp),(S.nx+ef0.add.length),S.gh⟩)) fun K hK=>?_
  repeat' (first|(refine hK _ ?_;clear hK K)|refine And.intro ?_ ?_|exact cl|(refine st ?_;try simp only[encX,zaa,zab,zac,encF,encR,encA])|refine sx ?_ (by simp only[encX,zaa,zab,zac,encF,encR,encA];exact rfl)|fail)
  all_goals
  refine Tri.seq ?_
  refine sZ [1,24] (fun P S K=>XvFieldAddr P 27 0 (S.get 1) (fun r0 _=>XvLoad P 23 (M S.hp S.nx) r0 (fun r1 _=>XvLen P 23 (M S.hp S.nx) r1 (fun r2 _=>XvBinOV P .gtr 3 (.const (.int .i64 64)) r2 (.atom (.int .i64 64)) (fun r3 _=>Xgq r3 false (fun k=>XvFieldAddr P 27 1 (S.get 1) (fun r5 _=>k r5)) (fun g5 r5=>Xgq g5 false (fun k=>XvLoad P 24 (M S.hp S.nx) r5 (fun r6 _=>k r6)) (fun g6 r6=>Xgq g6 false (fun k=>XvLen P 24 (M S.hp S.nx) r6 (fun r7 _=>k r7)) (fun g7 r7=>Xgq g7 false (fun k=>XvBinOV P .gtr 3 (.const (.int .i64 32)) r7 (.atom (.int .i64 32)) (fun r8 _=>k r8)) (fun g8 r8=>XvPick g8 (.atom (.bool true)) r8 (fun r9 _=>Xgq r9 false (fun k=>XvFieldAddr P 27 2 (S.get 1) (fun r11 _=>k r11)) (fun g11 r11=>Xgq g11 false (fun k=>XvLoad P 25 (M S.hp S.nx) r11 (fun r12 _=>k r12)) (fun g12 r12=>Xgq g12 false (fun k=>XvLen P 25 (M S.hp S.nx) r12 (fun r13 _=>k r13)) (fun g13 r13=>Xgq g13 false (fun k=>XvBinOV P .gtr 3 (.const (.int .i64 32)) r13 (.atom (.int .i64 32)) (fun r14 _=>k r14)) (fun g14 r14=>XvPick g14 (.atom (.bool true)) r14 (fun r15 _=>K ⟨[(1,S.get 1),(24,r15)],S.hp,S.nx,S.gh⟩))))))))))))))) fun K hK=>?_
  repeat' (first|(refine hK _ ?_;clear hK K)|((first|refine zak (fun hg=>?_) (fun hg=>?_)|refine fun(hg:(_:Prop))=>?_)<;>((try simp only[BQ] at hg);try (exfalso;omega)))|refine And.intro ?_ ?_|exact cl|refine zai ?_ _|refine zaj ?_ _|(refine st ?_;try simp only[encX,zaa,zab,zac,encF,encR,encA])|refine sx ?_ (by simp only[encX,zaa,zab,zac,encF,encR,encA];exact rfl)|fail)
  all_goals
  refine Tri.cond rfl (fun h24=>?_) (fun h24=>?_)
  ·try (cases h24;done)
   all_goals (try simp only[CQ] at h24)
   all_goals
   refine sY [2] (fun P S K=>K ⟨[(2,(.atom (.int .i64 4)))],S.hp,S.nx,S.gh⟩) ?_
   all_goals
   refine Tri.ret ?_
   show ResOk _ _ _ _
   rw[show zbx x=4 from if_pos (by omega)]
   exact ResOk.val zbM zbA
  ·try (cases h24;done)
   all_goals (try simp only[CQ] at h24)
   all_goals
   refine Tri.skip ?_
   refine Tri.seq ?_
   refine sZ [1,26,27,28] (fun P S K=>XvFieldAddr P 27 0 (S.get 1) (fun r0 _=>XvLoad P 23 (M S.hp S.nx) r0 (fun r1 _=>XvLen P 23 (M S.hp S.nx) r1 (fun r2 _=>K ⟨[(1,S.get 1),(26,r1),(27,r2),(28,(.atom (.int .i64 0)))],S.hp,S.nx,S.gh⟩)))) fun K hK=>?_
   repeat' (first|(refine hK _ ?_;clear hK K)|refine And.intro ?_ ?_|exact cl|(refine st ?_;try simp only[encX,zaa,zab,zac,encF,encR,encA])|refine sx ?_ (by simp only[encX,zaa,zab,zac,encF,encR,encA];exact rfl)|fail)
   all_goals
   refine Tri.block ?_
   refine Tri.loop (α:=(i:Nat) ×' (i≤x.forms.length∧∀j,j<i→zeO (fF x.forms j)=true)) (fun z=>(fun(i:Nat)=>(⟨[(1,.ptr 0 3 0 0),(26,zaa x.forms),(27,encI x.forms.length),(28,encI i)],[(0,some ⟨3,[encX x]⟩)],1,[]⟩:St)) z.1) (fun z=>(fun(i:Nat)=>x.forms.length - i) z.1) ⟨0,⟨Nat.zero_le _,fun j hj=>absurd hj (Nat.not_lt_zero _)⟩⟩ [0] ?_ ?_
   ·exact zaT
   ·rintro ⟨i,⟨hi,hf⟩⟩
    refine sY [1,26,27,28,29] (fun P S K=>XvBinOV P .lss 3 (.tmp 27) (S.get 28) (S.get 27) (fun r0 _=>K ⟨[(1,S.get 1),(26,S.get 26),(27,S.get 27),(28,S.get 28),(29,r0)],S.hp,S.nx,S.gh⟩)) ?_
    all_goals
    refine Tri.seq ?_
    refine Tri.cond rfl (fun h29=>?_) (fun h29=>?_)
    ·try (cases h29;done)
     all_goals (try simp only[CQ] at h29)
     all_goals
     refine Tri.skip ?_
     refine Tri.seq ?_
     refine Tri.block ?_
     have hil:i<x.forms.length:=by omega
     refine sZ [1,4,26,27,28] (fun P S K=>XvIndexAddr P 23 (S.get 26) (S.get 28) (fun r0 _=>XvLoad P 73 (M S.hp S.nx) r0 (fun r1 _=>XvAlloc P 73 S.nx (fun r2 ef2=>XvStore P 73 (M (Eff.hp ef2 S.nx S.hp) (S.nx+ef2.add.length)) r2 r1 (fun r3 ef3=>K ⟨[(1,S.get 1),(4,r2),(26,S.get 26),(27,S.get 27),(28,S.get 28)],(Eff.hp ef3 (S.nx+ef2.add.length) (Eff.hp ef2 S.nx S.hp)),((S.nx+ef2.add.length)+ef3.add.length),S.gh⟩))))) fun K hK=>?_
     repeat' (first|(refine hK _ ?_;clear hK K)|refine And.intro ?_ ?_|exact cl|(refine st ?_;try simp only[encX,zaa,zab,zac,encF,encR,encA,zao hil])|refine sx ?_ (by simp only[encX,zaa,zab,zac,encF,encR,encA,zao hil];exact rfl)|fail)
     all_goals
     refine sZ [1,26,27,28,47] (fun P S K=>XvFieldAddr P 73 0 (S.get 4) (fun r0 _=>XvLoad P 9 (M S.hp S.nx) r0 (fun r1 _=>XvFnIV P (M S.hp S.nx) (.fn 42 []) [r1,(.atom (.int .i64 1)),(.atom (.int .i64 24))] (fun r2 ef2=>XvUn .not r2 (fun r3 _=>Xgq r3 false (fun k=>XvFieldAddr P 73 1 (S.get 4) (fun r5 _=>k r5)) (fun g5 r5=>Xgq g5 false (fun k=>XvLoad P 9 (M (Eff.hp ef2 S.nx S.hp) (S.nx+ef2.add.length)) r5 (fun r6 _=>k r6)) (fun g6 r6=>Xge g6 false (fun k=>XvFnIV P (M (Eff.hp ef2 S.nx S.hp) (S.nx+ef2.add.length)) (.fn 42 []) [r6,(.atom (.int .i64 1)),(.atom (.int .i64 24))] k) (fun g7 r7 ef7=>Xgq g7 false (fun k=>XvUn .not r7 (fun r8 _=>k r8)) (fun g8 r8=>XvPick g8 (.atom (.bool true)) r8 (fun r9 _=>Xgq r9 false (fun k=>XvFieldAddr P 73 2 (S.get 4) (fun r11 _=>k r11)) (fun g11 r11=>Xgq g11 false (fun k=>XvLoad P 9 (M (Eff.hp ef7 (S.nx+ef2.add.length) (Eff.hp ef2 S.nx S.hp)) ((S.nx+ef2.add.length)+ef7.add.length)) r11 (fun r12 _=>k r12)) (fun g12 r12=>Xge g12 false (fun k=>XvFnIV P (M (Eff.hp ef7 (S.nx+ef2.add.length) (Eff.hp ef2 S.nx S.hp)) ((S.nx+ef2.add.length)+ef7.add.length)) (.fn 43 []) [r12] k) (fun g13 r13 ef13=>Xgq g13 false (fun k=>XvUn .not r13 (fun r14 _=>k r14)) (fun g14 r14=>XvPick g14 (.atom (.bool true)) r14 (fun r15 _=>K ⟨[(1,S.get 1),(26,S.get 26),(27,S.get 27),(28,S.get 28),(47,r15)],(Eff.hp ef13 ((S.nx+ef2.add.length)+ef7.add.length) (Eff.hp ef7 (S.nx+ef2.add.length) (Eff.hp ef2 S.nx S.hp))),(((S.nx+ef2.add.length)+ef7.add.length)+ef13.add.length),S.gh⟩))))))))))))))) fun K hK=>?_
     repeat' (first|(refine hK _ ?_;clear hK K)|((first|refine zak (fun hg=>?_) (fun hg=>?_)|refine fun(hg:(_:Prop))=>?_)<;>((try simp only[BQ] at hg);try (exfalso;omega)))|refine And.intro ?_ ?_|exact cl|refine zai ?_ _|refine zaj ?_ _|refine .inl ⟨_,_,zcg _ 1 24 (up47 (hx.forms _ (zci hil)).word),?_⟩|refine .inl ⟨_,_,zcg _ 1 24 (up47 (hx.forms _ (zci hil)).lem),?_⟩|refine .inl ⟨_,_,zbl _ (up47 (hx.forms _ (zci hil)).cls),?_⟩|refine .inl ⟨_,_,zcg _ 0 8 (up47 (hx.rules _ (zcE hjl)).suf),?_⟩|refine .inl ⟨_,_,zcg _ 0 8 (up47 (hx.rules _ (zcE hjl)).put),?_⟩|refine .inl ⟨_,_,zbl _ (up47 (hx.rules _ (zcE hjl)).cls),?_⟩|refine .inl ⟨_,_,zbl _ (up47 (hx.prefs _ (zb2 hkl)).after),?_⟩|refine .inl ⟨_,_,zbl _ (up47 (hx.prefs _ (zb2 hkl)).before),?_⟩|refine .inl ⟨_,_,zbl _ (up47 (hx.prefs _ (zb2 hkl)).cls),?_⟩|(refine st ?_;try simp only[encX,zaa,zab,zac,encF,encR,encA])|refine sx ?_ (by simp only[encX,zaa,zab,zac,encF,encR,encA];exact rfl)|fail)
     all_goals try simp (disch:=omega) only[zae,zaf]
     all_goals
     refine Tri.cond rfl (fun h47=>?_) (fun h47=>?_)
     ·try (cases h47;done)
      all_goals (try simp only[CQ] at h47)
      all_goals
      refine sY [2] (fun P S K=>K ⟨[(2,(.atom (.int .i64 1)))],S.hp,S.nx,S.gh⟩) ?_
      all_goals
      refine Tri.ret ?_
      show ResOk _ _ _ _
      rw[vX_badF (by omega) hil (by unfold zeO;simp_all)]
      exact ResOk.val zbM zbA
     ·try (cases h47;done)
      all_goals (try simp only[CQ] at h47)
      all_goals
      refine Tri.skip ?_
      refine rY [1,26,27,28] (fun P S K=>XvBinOV P .add 3 (.const (.int .i64 1)) (S.get 28) (.atom (.int .i64 1)) (fun r0 _=>K ⟨[(1,S.get 1),(26,S.get 26),(27,S.get 27),(28,r0)],S.hp,S.nx,S.gh⟩)) ?_
      all_goals try simp (disch:=omega) only[zae,zaf]
      all_goals
      refine⟨⟨i+1,by omega,fun j hj=>?_⟩,[0],by dsimp only;omega,?_⟩
      · rcases Nat.lt_succ_iff_lt_or_eq.1 hj with hj|rfl
        · exact hf j hj
        · unfold zeO;simp_all
      · exact zaT
    ·try (cases h29;done)
     all_goals (try simp only[CQ] at h29)
     all_goals
     refine Tri.exit ?_
     refine Tri.seq ?_
     refine sZ [1,50,51,52] (fun P S K=>XvFieldAddr P 27 1 (S.get 1) (fun r0 _=>XvLoad P 24 (M S.hp S.nx) r0 (fun r1 _=>XvLen P 24 (M S.hp S.nx) r1 (fun r2 _=>K ⟨[(1,S.get 1),(50,r1),(51,r2),(52,(.atom (.int .i64 0)))],S.hp,S.nx,S.gh⟩)))) fun K hK=>?_
     repeat' (first|(refine hK _ ?_;clear hK K)|refine And.intro ?_ ?_|exact cl|(refine st ?_;try simp only[encX,zaa,zab,zac,encF,encR,encA])|refine sx ?_ (by simp only[encX,zaa,zab,zac,encF,encR,encA];exact rfl)|fail)
     all_goals
     refine Tri.block ?_
     refine Tri.loop (α:=(j:Nat) ×' (j≤x.rules.length∧∀i,i<j→ze6 (fR x.rules i)=true)) (fun z=>(fun(j:Nat)=>(⟨[(1,.ptr 0 3 0 0),(50,zab x.rules),(51,encI x.rules.length),(52,encI j)],[(0,some ⟨3,[encX x]⟩)],1,[]⟩:St)) z.1) (fun z=>(fun(j:Nat)=>x.rules.length - j) z.1) ⟨0,⟨Nat.zero_le _,fun j hj=>absurd hj (Nat.not_lt_zero _)⟩⟩ [0] ?_ ?_
     ·exact zaT
     ·rintro⟨j,⟨hj,hr⟩⟩
      refine sY [1,50,51,52,53] (fun P S K=>XvBinOV P .lss 3 (.tmp 51) (S.get 52) (S.get 51) (fun r0 _=>K ⟨[(1,S.get 1),(50,S.get 50),(51,S.get 51),(52,S.get 52),(53,r0)],S.hp,S.nx,S.gh⟩)) ?_
      all_goals
      refine Tri.seq ?_
      refine Tri.cond rfl (fun h53=>?_) (fun h53=>?_)
      ·try (cases h53;done)
       all_goals (try simp only[CQ] at h53)
       all_goals
       refine Tri.skip ?_
       refine Tri.seq ?_
       refine Tri.block ?_
       have hjl:j<x.rules.length:=by omega
       refine sZ [1,6,50,51,52] (fun P S K=>XvIndexAddr P 24 (S.get 50) (S.get 52) (fun r0 _=>XvLoad P 90 (M S.hp S.nx) r0 (fun r1 _=>XvAlloc P 90 S.nx (fun r2 ef2=>XvStore P 90 (M (Eff.hp ef2 S.nx S.hp) (S.nx+ef2.add.length)) r2 r1 (fun r3 ef3=>K ⟨[(1,S.get 1),(6,r2),(50,S.get 50),(51,S.get 51),(52,S.get 52)],(Eff.hp ef3 (S.nx+ef2.add.length) (Eff.hp ef2 S.nx S.hp)),((S.nx+ef2.add.length)+ef3.add.length),S.gh⟩))))) fun K hK=>?_
       repeat' (first|(refine hK _ ?_;clear hK K)|refine And.intro ?_ ?_|exact cl|(refine st ?_;try simp only[encX,zaa,zab,zac,encF,encR,encA,zbj hjl])|refine sx ?_ (by simp only[encX,zaa,zab,zac,encF,encR,encA,zbj hjl];exact rfl)|fail)
       all_goals
       refine sZ [1,50,51,52,81] (fun P S K=>XvFieldAddr P 90 0 (S.get 6) (fun r0 _=>XvLoad P 9 (M S.hp S.nx) r0 (fun r1 _=>XvFnIV P (M S.hp S.nx) (.fn 42 []) [r1,(.atom (.int .i64 0)),(.atom (.int .i64 8))] (fun r2 ef2=>XvUn .not r2 (fun r3 _=>Xgq r3 false (fun k=>XvFieldAddr P 90 1 (S.get 6) (fun r5 _=>k r5)) (fun g5 r5=>Xgq g5 false (fun k=>XvLoad P 9 (M (Eff.hp ef2 S.nx S.hp) (S.nx+ef2.add.length)) r5 (fun r6 _=>k r6)) (fun g6 r6=>Xge g6 false (fun k=>XvFnIV P (M (Eff.hp ef2 S.nx S.hp) (S.nx+ef2.add.length)) (.fn 42 []) [r6,(.atom (.int .i64 0)),(.atom (.int .i64 8))] k) (fun g7 r7 ef7=>Xgq g7 false (fun k=>XvUn .not r7 (fun r8 _=>k r8)) (fun g8 r8=>XvPick g8 (.atom (.bool true)) r8 (fun r9 _=>Xgq r9 false (fun k=>XvFieldAddr P 90 2 (S.get 6) (fun r11 _=>k r11)) (fun g11 r11=>Xgq g11 false (fun k=>XvLoad P 9 (M (Eff.hp ef7 (S.nx+ef2.add.length) (Eff.hp ef2 S.nx S.hp)) ((S.nx+ef2.add.length)+ef7.add.length)) r11 (fun r12 _=>k r12)) (fun g12 r12=>Xge g12 false (fun k=>XvFnIV P (M (Eff.hp ef7 (S.nx+ef2.add.length) (Eff.hp ef2 S.nx S.hp)) ((S.nx+ef2.add.length)+ef7.add.length)) (.fn 43 []) [r12] k) (fun g13 r13 ef13=>Xgq g13 false (fun k=>XvUn .not r13 (fun r14 _=>k r14)) (fun g14 r14=>XvPick g14 (.atom (.bool true)) r14 (fun r15 _=>Xgq r15 false (fun k=>XvFieldAddr P 90 3 (S.get 6) (fun r17 _=>k r17)) (fun g17 r17=>Xgq g17 false (fun k=>XvLoad P 3 (M (Eff.hp ef13 ((S.nx+ef2.add.length)+ef7.add.length) (Eff.hp ef7 (S.nx+ef2.add.length) (Eff.hp ef2 S.nx S.hp))) (((S.nx+ef2.add.length)+ef7.add.length)+ef13.add.length)) r17 (fun r18 _=>k r18)) (fun g18 r18=>Xgq g18 false (fun k=>XvBinOV P .lss 3 (.const (.int .i64 0)) r18 (.atom (.int .i64 0)) (fun r19 _=>k r19)) (fun g19 r19=>XvPick g19 (.atom (.bool true)) r19 (fun r20 _=>Xgq r20 false (fun k=>XvFieldAddr P 90 3 (S.get 6) (fun r22 _=>k r22)) (fun g22 r22=>Xgq g22 false (fun k=>XvLoad P 3 (M (Eff.hp ef13 ((S.nx+ef2.add.length)+ef7.add.length) (Eff.hp ef7 (S.nx+ef2.add.length) (Eff.hp ef2 S.nx S.hp))) (((S.nx+ef2.add.length)+ef7.add.length)+ef13.add.length)) r22 (fun r23 _=>k r23)) (fun g23 r23=>Xgq g23 false (fun k=>XvBinOV P .gtr 3 (.const (.int .i64 8)) r23 (.atom (.int .i64 8)) (fun r24 _=>k r24)) (fun g24 r24=>XvPick g24 (.atom (.bool true)) r24 (fun r25 _=>K ⟨[(1,S.get 1),(50,S.get 50),(51,S.get 51),(52,S.get 52),(81,r25)],(Eff.hp ef13 ((S.nx+ef2.add.length)+ef7.add.length) (Eff.hp ef7 (S.nx+ef2.add.length) (Eff.hp ef2 S.nx S.hp))),(((S.nx+ef2.add.length)+ef7.add.length)+ef13.add.length),S.gh⟩))))))))))))))))))))))) fun K hK=>?_
       repeat' (first|(refine hK _ ?_;clear hK K)|((first|refine zak (fun hg=>?_) (fun hg=>?_)|refine fun(hg:(_:Prop))=>?_)<;>((try simp only[BQ] at hg);try (exfalso;omega)))|refine And.intro ?_ ?_|exact cl|refine zai ?_ _|refine zaj ?_ _|refine .inl ⟨_,_,zcg _ 1 24 (up47 (hx.forms _ (zci hil)).word),?_⟩|refine .inl ⟨_,_,zcg _ 1 24 (up47 (hx.forms _ (zci hil)).lem),?_⟩|refine .inl ⟨_,_,zbl _ (up47 (hx.forms _ (zci hil)).cls),?_⟩|refine .inl ⟨_,_,zcg _ 0 8 (up47 (hx.rules _ (zcE hjl)).suf),?_⟩|refine .inl ⟨_,_,zcg _ 0 8 (up47 (hx.rules _ (zcE hjl)).put),?_⟩|refine .inl ⟨_,_,zbl _ (up47 (hx.rules _ (zcE hjl)).cls),?_⟩|refine .inl ⟨_,_,zbl _ (up47 (hx.prefs _ (zb2 hkl)).after),?_⟩|refine .inl ⟨_,_,zbl _ (up47 (hx.prefs _ (zb2 hkl)).before),?_⟩|refine .inl ⟨_,_,zbl _ (up47 (hx.prefs _ (zb2 hkl)).cls),?_⟩|(refine st ?_;try simp only[encX,zaa,zab,zac,encF,encR,encA])|refine sx ?_ (by simp only[encX,zaa,zab,zac,encF,encR,encA];exact rfl)|fail)
       all_goals try simp (disch:=omega) only[zae,zaf]
       all_goals
       refine Tri.cond rfl (fun h81=>?_) (fun h81=>?_)
       ·try (cases h81;done)
        all_goals (try simp only[CQ] at h81)
        all_goals
        refine sY [2] (fun P S K=>K ⟨[(2,(.atom (.int .i64 1)))],S.hp,S.nx,S.gh⟩) ?_
        all_goals
        refine Tri.ret ?_
        show ResOk _ _ _ _
        rw[vX_badR (by omega) hjl (by unfold ze6;simp_all<;>omega)]
        exact ResOk.val zbM zbA
       ·try (cases h81;done)
        all_goals (try simp only[CQ] at h81)
        all_goals
        refine Tri.skip ?_
        refine rY [1,50,51,52] (fun P S K=>XvBinOV P .add 3 (.const (.int .i64 1)) (S.get 52) (.atom (.int .i64 1)) (fun r0 _=>K ⟨[(1,S.get 1),(50,S.get 50),(51,S.get 51),(52,r0)],S.hp,S.nx,S.gh⟩)) ?_
        all_goals try simp (disch:=omega) only[zae,zaf]
        all_goals
        refine⟨⟨j+1,by omega,fun i hi=>?_⟩,[0],by dsimp only;omega,?_⟩
        · rcases Nat.lt_succ_iff_lt_or_eq.1 hi with hi|rfl
          · exact hr i hi
          · unfold ze6;simp_all<;>omega
        · exact zaT
      ·try (cases h53;done)
       all_goals (try simp only[CQ] at h53)
       all_goals
       refine Tri.exit ?_
       refine Tri.seq ?_
       refine sZ [84,85,86] (fun P S K=>XvFieldAddr P 27 2 (S.get 1) (fun r0 _=>XvLoad P 25 (M S.hp S.nx) r0 (fun r1 _=>XvLen P 25 (M S.hp S.nx) r1 (fun r2 _=>K ⟨[(84,r1),(85,r2),(86,(.atom (.int .i64 0)))],S.hp,S.nx,S.gh⟩)))) fun K hK=>?_
       repeat' (first|(refine hK _ ?_;clear hK K)|refine And.intro ?_ ?_|exact cl|(refine st ?_;try simp only[encX,zaa,zab,zac,encF,encR,encA])|refine sx ?_ (by simp only[encX,zaa,zab,zac,encF,encR,encA];exact rfl)|fail)
       all_goals
       refine Tri.block ?_
       refine Tri.loop (α:=(k:Nat) ×' (k≤x.prefs.length∧∀i,i<k→zfu (fA x.prefs i)=true)) (fun z=>(fun(k:Nat)=>(⟨[(84,zac x.prefs),(85,encI x.prefs.length),(86,encI k)],[],0,[]⟩:St)) z.1) (fun z=>(fun(k:Nat)=>x.prefs.length - k) z.1) ⟨0,⟨Nat.zero_le _,fun j hj=>absurd hj (Nat.not_lt_zero _)⟩⟩ [] ?_ ?_
       ·exact zaT
       ·rintro⟨k,⟨hk,ha⟩⟩
        refine sY [84,85,86,87] (fun P S K=>XvBinOV P .lss 3 (.tmp 85) (S.get 86) (S.get 85) (fun r0 _=>K ⟨[(84,S.get 84),(85,S.get 85),(86,S.get 86),(87,r0)],S.hp,S.nx,S.gh⟩)) ?_
        all_goals
        refine Tri.seq ?_
        refine Tri.cond rfl (fun h87=>?_) (fun h87=>?_)
        ·try (cases h87;done)
         all_goals (try simp only[CQ] at h87)
         all_goals
         refine Tri.skip ?_
         refine Tri.seq ?_
         refine Tri.block ?_
         have hkl:k<x.prefs.length:=by omega
         have hp1:=(hx.prefs _ (zb2 hkl)).after
         have hp2:=(hx.prefs _ (zb2 hkl)).before
         refine sZ [8,84,85,86] (fun P S K=>XvIndexAddr P 25 (S.get 84) (S.get 86) (fun r0 _=>XvLoad P 91 (M S.hp S.nx) r0 (fun r1 _=>XvAlloc P 91 S.nx (fun r2 ef2=>XvStore P 91 (M (Eff.hp ef2 S.nx S.hp) (S.nx+ef2.add.length)) r2 r1 (fun r3 ef3=>K ⟨[(8,r2),(84,S.get 84),(85,S.get 85),(86,S.get 86)],(Eff.hp ef3 (S.nx+ef2.add.length) (Eff.hp ef2 S.nx S.hp)),((S.nx+ef2.add.length)+ef3.add.length),S.gh⟩))))) fun K hK=>?_
         repeat' (first|(refine hK _ ?_;clear hK K)|refine And.intro ?_ ?_|exact cl|(refine st ?_;try simp only[encX,zaa,zab,zac,encF,encR,encA,zbI hkl])|refine sx ?_ (by simp only[encX,zaa,zab,zac,encF,encR,encA,zbI hkl];exact rfl)|fail)
         all_goals
         refine sZ [84,85,86,123] (fun P S K=>XvFieldAddr P 91 0 (S.get 8) (fun r0 _=>XvLoad P 9 (M S.hp S.nx) r0 (fun r1 _=>XvBinOV P .neq 9 (.const (.string { data := #[] })) r1 (.atom (.string { data := #[] })) (fun r2 _=>Xgq r2 true (fun k=>XvFieldAddr P 91 0 (S.get 8) (fun r4 _=>k r4)) (fun g4 r4=>Xgq g4 true (fun k=>XvLoad P 9 (M S.hp S.nx) r4 (fun r5 _=>k r5)) (fun g5 r5=>Xge g5 true (fun k=>XvFnIV P (M S.hp S.nx) (.fn 43 []) [r5] k) (fun g6 r6 ef6=>Xgq g6 true (fun k=>XvUn .not r6 (fun r7 _=>k r7)) (fun g7 r7=>XvPick g7 r7 (.atom (.bool false)) (fun r8 _=>Xgq r8 false (fun k=>XvFieldAddr P 91 1 (S.get 8) (fun r10 _=>k r10)) (fun g10 r10=>Xgq g10 false (fun k=>XvLoad P 9 (M (Eff.hp ef6 S.nx S.hp) (S.nx+ef6.add.length)) r10 (fun r11 _=>k r11)) (fun g11 r11=>Xgq g11 false (fun k=>XvBinOV P .neq 9 (.const (.string { data := #[] })) r11 (.atom (.string { data := #[] })) (fun r12 _=>k r12)) (fun g12 r12=>Xgq g12 false (fun k=>k r12) (fun g13 r13=>Xgq r13 true (fun k=>XvFieldAddr P 91 1 (S.get 8) (fun r14 _=>k r14)) (fun g14 r14=>Xgq g14 true (fun k=>XvLoad P 9 (M (Eff.hp ef6 S.nx S.hp) (S.nx+ef6.add.length)) r14 (fun r15 _=>k r15)) (fun g15 r15=>Xge g15 true (fun k=>XvFnIV P (M (Eff.hp ef6 S.nx S.hp) (S.nx+ef6.add.length)) (.fn 43 []) [r15] k) (fun g16 r16 ef16=>Xgq g16 true (fun k=>XvUn .not r16 (fun r17 _=>k r17)) (fun g17 r17=>Xgq g13 false (fun k=>XvPick g17 r17 (.atom (.bool false)) (fun r18 _=>k r18)) (fun g18 r18=>XvPick g18 (.atom (.bool true)) r18 (fun r19 _=>Xgq r19 false (fun k=>XvFieldAddr P 91 0 (S.get 8) (fun r21 _=>k r21)) (fun g21 r21=>Xgq g21 false (fun k=>XvLoad P 9 (M (Eff.hp ef16 (S.nx+ef6.add.length) (Eff.hp ef6 S.nx S.hp)) ((S.nx+ef6.add.length)+ef16.add.length)) r21 (fun r22 _=>k r22)) (fun g22 r22=>Xgq g22 false (fun k=>XvFieldAddr P 91 1 (S.get 8) (fun r23 _=>k r23)) (fun g23 r23=>Xgq g23 false (fun k=>XvLoad P 9 (M (Eff.hp ef16 (S.nx+ef6.add.length) (Eff.hp ef6 S.nx S.hp)) ((S.nx+ef6.add.length)+ef16.add.length)) r23 (fun r24 _=>k r24)) (fun g24 r24=>Xgq g24 false (fun k=>XvBinOV P .add 9 (.tmp 114) r22 r24 (fun r25 _=>k r25)) (fun g25 r25=>Xgq g25 false (fun k=>XvBinOV P .eql 9 (.const (.string { data := #[] })) r25 (.atom (.string { data := #[] })) (fun r26 _=>k r26)) (fun g26 r26=>XvPick g26 (.atom (.bool true)) r26 (fun r27 _=>Xgq r27 false (fun k=>XvFieldAddr P 91 2 (S.get 8) (fun r29 _=>k r29)) (fun g29 r29=>Xgq g29 false (fun k=>XvLoad P 9 (M (Eff.hp ef16 (S.nx+ef6.add.length) (Eff.hp ef6 S.nx S.hp)) ((S.nx+ef6.add.length)+ef16.add.length)) r29 (fun r30 _=>k r30)) (fun g30 r30=>Xge g30 false (fun k=>XvFnIV P (M (Eff.hp ef16 (S.nx+ef6.add.length) (Eff.hp ef6 S.nx S.hp)) ((S.nx+ef6.add.length)+ef16.add.length)) (.fn 43 []) [r30] k) (fun g31 r31 ef31=>Xgq g31 false (fun k=>XvUn .not r31 (fun r32 _=>k r32)) (fun g32 r32=>XvPick g32 (.atom (.bool true)) r32 (fun r33 _=>K ⟨[(84,S.get 84),(85,S.get 85),(86,S.get 86),(123,r33)],(Eff.hp ef31 ((S.nx+ef6.add.length)+ef16.add.length) (Eff.hp ef16 (S.nx+ef6.add.length) (Eff.hp ef6 S.nx S.hp))),(((S.nx+ef6.add.length)+ef16.add.length)+ef31.add.length),S.gh⟩))))))))))))))))))))))))))))))) fun K hK=>?_
         repeat' (first|(refine hK _ ?_;clear hK K)|((first|refine zak (fun hg=>?_) (fun hg=>?_)|refine fun(hg:(_:Prop))=>?_)<;>((try simp only[BQ] at hg);try (exfalso;omega)))|refine And.intro ?_ ?_|exact cl|refine zai ?_ _|refine zaj ?_ _|refine .inl ⟨_,_,zbl _ (up47 (hx.forms _ (zci hil)).cls),?_⟩|refine .inl ⟨_,_,zbl _ (up47 (hx.rules _ (zcE hjl)).cls),?_⟩|refine .inl ⟨_,_,zbl _ (up47 (hx.prefs _ (zb2 hkl)).after),?_⟩|refine .inl ⟨_,_,zbl _ (up47 (hx.prefs _ (zb2 hkl)).before),?_⟩|refine .inl ⟨_,_,zbl _ (up47 (hx.prefs _ (zb2 hkl)).cls),?_⟩|(refine st ?_;try simp only[encX,zaa,zab,zac,encF,encR,encA])|refine sx ?_ (by simp only[encX,zaa,zab,zac,encF,encR,encA];exact rfl)|fail)
         all_goals try simp (disch:=omega) only[zae,zaf]
         all_goals
         refine Tri.cond rfl (fun h123=>?_) (fun h123=>?_)
         ·try (cases h123;done)
          all_goals (try simp only[CQ] at h123)
          all_goals
          refine sY [2] (fun P S K=>K ⟨[(2,(.atom (.int .i64 1)))],S.hp,S.nx,S.gh⟩) ?_
          all_goals
          refine Tri.ret ?_
          show ResOk _ _ _ _
          rw[vX_badA (by omega) hkl (by rw[zmF];simp_all)]
          exact ResOk.val zbM zbA
         ·try (cases h123;done)
          all_goals (try simp only[CQ] at h123)
          all_goals
          refine Tri.skip ?_
          refine rY [84,85,86] (fun P S K=>XvBinOV P .add 3 (.const (.int .i64 1)) (S.get 86) (.atom (.int .i64 1)) (fun r0 _=>K ⟨[(84,S.get 84),(85,S.get 85),(86,r0)],S.hp,S.nx,S.gh⟩)) ?_
          all_goals try simp (disch:=omega) only[zae,zaf]
          all_goals
          refine⟨⟨k+1,by omega,fun i hi=>?_⟩,[],by dsimp only;omega,?_⟩
          · rcases Nat.lt_succ_iff_lt_or_eq.1 hi with hi|rfl
            · exact ha i hi
            · rw[zmF];simp_all
          · exact zaT
        ·try (cases h87;done)
         all_goals (try simp only[CQ] at h87)
         all_goals
         refine Tri.exit ?_
         refine sY [2] (fun P S K=>K ⟨[(2,(.atom (.int .i64 0)))],S.hp,S.nx,S.gh⟩) ?_
         all_goals
         refine Tri.ret ?_
         show ResOk _ _ _ _
         rw[vX_ok (by omega) (fun j hj=>hf j (by omega)) (fun i hi=>hr i (by omega)) (fun i hi=>ha i (by omega))]
         exact ResOk.val zbM zbA
end Go.Proofs.YtehoglapajkabaaGreat
