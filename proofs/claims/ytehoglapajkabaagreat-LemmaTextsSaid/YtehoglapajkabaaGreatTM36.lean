/-
  passimref06.capital,seen by the clean machine.
-/
import Derived.Test.YtehoglapajkabaaGreatTF5
import Derived.Test.YtehoglapajkabaaGreatTM0
import Derived.Test.YtehoglapajkabaaGreatTF4
import Derived.Test.YtehoglapajkabaaGreatTM30
import Derived.Test.YtehoglapajkabaaGreatTVD
set_option linter.all false
namespace Go.Proofs.YtehoglapajkabaaGreat
open Go Go.RowKit
def capS (s:ByteArray):ByteArray:=Elder.capS s
theorem zkL (s:ByteArray):(capS s).size=s.size:=by
  obtain⟨⟨l⟩⟩:=s
  cases l<;>rfl
theorem zgb (s:ByteArray) (hs:s.size≤9223372036854775807):Pure Tryz.prog 86 [encS s] (encS (capS s)) []:=
  Pure.atoms [.string s] _ (enters_of Tryz.func86 (by kernel_rfl) rfl) (fun w=>(Calls.drawn (Elder.capital_any s w hs) fun e w' h=>⟨_,h.1⟩).mono fun e w' h=>⟨h.1.1,⟨h.1.2,h.2⟩⟩)
set_option maxRecDepth 20000
set_option maxHeartbeats 1000000
def zif (w:ByteArray) (how:Int):ByteArray:=if how=6 then capS w else if how=7 then w++⟨#[44]⟩ else if how=8 then w++⟨#[46]⟩ else if how=9 then capS w++⟨#[46]⟩ else if how=10 then ⟨#[40]⟩++w++⟨#[41]⟩ else if how=11 then w++⟨#[63]⟩ else w
theorem size_one (c:UInt8):(⟨#[c]⟩:ByteArray).size=1:=rfl
theorem zmf (w:ByteArray) (how:Int):(zif w how).size≤w.size+2:=by
  unfold zif
  repeat' split
  all_goals first|omega|(simp only[ByteArray.size_append,zkL,size_one];omega)
theorem zkB (w:ByteArray) (how:Int) (hw:w.size≤4096):Pure Tryz.prog 66 [encS w,encI how] (encS (zif w how)) []:=by
  have hc:=zkL w
  have h1:((⟨#[40]⟩:ByteArray)++w).size=1+w.size:=by rw[ByteArray.size_append];rfl
  have h2:(⟨#[40]⟩:ByteArray).size=1:=rfl
  have h3:(⟨#[41]⟩:ByteArray).size=1:=rfl
  have h4:(⟨#[44]⟩:ByteArray).size=1:=rfl
  have h5:(⟨#[46]⟩:ByteArray).size=1:=rfl
  have h6:(⟨#[63]⟩:ByteArray).size=1:=rfl
  have hd:zif w how=if how=6 then capS w else if how=7 then w++⟨#[44]⟩ else if how=8 then w++⟨#[46]⟩ else if how=9 then capS w++⟨#[46]⟩ else if how=10 then ⟨#[40]⟩++w++⟨#[41]⟩ else if how=11 then w++⟨#[63]⟩ else w:=rfl
  refine Pure.intro (ts:=[4]) Tryz.func66 (by kernel_rfl) rfl rfl rfl (Nat.le_of_ble_eq_true rfl) ?_ ?_
  · simp[zah,zag,encI,encS,PV.pure,zax]
  refine sY [0,1] (fun P S K=>K ⟨[(0,S.get 0),(1,S.get 1)],S.hp,S.nx,S.gh⟩) ?_
  all_goals
  refine Tri.seq ?_
  refine sY [0,5] (fun P S K=>K ⟨[(0,S.get 0),(5,(S.get 1))],S.hp,S.nx,S.gh⟩) ?_
  all_goals
  refine Tri.block ?_
  refine sY [0,5,6] (fun P S K=>XvBinOV P .eql 3 (.const (.int .i64 6)) (S.get 5) (.atom (.int .i64 6)) (fun r0 _=>K ⟨[(0,S.get 0),(5,S.get 5),(6,r0)],S.hp,S.nx,S.gh⟩)) ?_
  all_goals
  refine Tri.cond rfl (fun h6=>?_) (fun h6=>?_)
  ·try (cases h6;done)
   all_goals (try simp only[CQ] at h6)
   all_goals
   refine sZ [4] (fun P S K=>XvFnIV P (M S.hp S.nx) (.fn 86 []) [(S.get 0)] (fun r1 ef1=>K ⟨[(4,r1)],(Eff.hp ef1 S.nx S.hp),(S.nx+ef1.add.length),S.gh⟩)) fun K hK=>?_
   repeat' (first|(refine hK _ ?_;clear hK K)|refine And.intro ?_ ?_|exact cl|refine .inl ⟨_,_,zgb w (by omega),?_⟩|refine st ?_|fail)
   all_goals
   refine Tri.ret ?_
   show ResOk _ _ _ _
   rw[hd,if_pos (by omega)]
   exact ResOk.val zfJ zfK
  try (cases h6;done)
  all_goals (try simp only[CQ] at h6)
  all_goals
  refine sY [0,5,10] (fun P S K=>XvBinOV P .eql 3 (.const (.int .i64 7)) (S.get 5) (.atom (.int .i64 7)) (fun r0 _=>K ⟨[(0,S.get 0),(5,S.get 5),(10,r0)],S.hp,S.nx,S.gh⟩)) ?_
  all_goals
  refine Tri.cond rfl (fun h10=>?_) (fun h10=>?_)
  ·try (cases h10;done)
   all_goals (try simp only[CQ] at h10)
   all_goals
   refine sY [4] (fun P S K=>XvBinOV P .add 9 (.const (.string { data := #[44] })) (S.get 0) (.atom (.string { data := #[44] })) (fun r1 _=>K ⟨[(4,r1)],S.hp,S.nx,S.gh⟩)) ?_
   all_goals try simp (disch:=omega) only[zae,zaf]
   all_goals
   refine Tri.ret ?_
   show ResOk _ _ _ _
   rw[hd,if_neg (by omega),if_pos (by omega)]
   exact ResOk.val zfJ zfK
  try (cases h10;done)
  all_goals (try simp only[CQ] at h10)
  all_goals
  refine sY [0,5,14] (fun P S K=>XvBinOV P .eql 3 (.const (.int .i64 8)) (S.get 5) (.atom (.int .i64 8)) (fun r0 _=>K ⟨[(0,S.get 0),(5,S.get 5),(14,r0)],S.hp,S.nx,S.gh⟩)) ?_
  all_goals
  refine Tri.cond rfl (fun h14=>?_) (fun h14=>?_)
  ·try (cases h14;done)
   all_goals (try simp only[CQ] at h14)
   all_goals
   refine sY [4] (fun P S K=>XvBinOV P .add 9 (.const (.string { data := #[46] })) (S.get 0) (.atom (.string { data := #[46] })) (fun r1 _=>K ⟨[(4,r1)],S.hp,S.nx,S.gh⟩)) ?_
   all_goals try simp (disch:=omega) only[zae,zaf]
   all_goals
   refine Tri.ret ?_
   show ResOk _ _ _ _
   rw[hd,if_neg (by omega),if_neg (by omega),if_pos (by omega)]
   exact ResOk.val zfJ zfK
  try (cases h14;done)
  all_goals (try simp only[CQ] at h14)
  all_goals
  refine sY [0,5,18] (fun P S K=>XvBinOV P .eql 3 (.const (.int .i64 9)) (S.get 5) (.atom (.int .i64 9)) (fun r0 _=>K ⟨[(0,S.get 0),(5,S.get 5),(18,r0)],S.hp,S.nx,S.gh⟩)) ?_
  all_goals
  refine Tri.cond rfl (fun h18=>?_) (fun h18=>?_)
  ·try (cases h18;done)
   all_goals (try simp only[CQ] at h18)
   all_goals
   refine sZ [4] (fun P S K=>XvFnIV P (M S.hp S.nx) (.fn 86 []) [(S.get 0)] (fun r1 ef1=>XvBinOV P .add 9 (.const (.string { data := #[46] })) r1 (.atom (.string { data := #[46] })) (fun r2 _=>K ⟨[(4,r2)],(Eff.hp ef1 S.nx S.hp),(S.nx+ef1.add.length),S.gh⟩))) fun K hK=>?_
   repeat' (first|(refine hK _ ?_;clear hK K)|refine And.intro ?_ ?_|exact cl|refine .inl ⟨_,_,zgb w (by omega),?_⟩|refine st ?_|fail)
   all_goals try simp (disch:=omega) only[zae,zaf]
   all_goals
   refine Tri.ret ?_
   show ResOk _ _ _ _
   rw[hd,if_neg (by omega),if_neg (by omega),if_neg (by omega),if_pos (by omega)]
   exact ResOk.val zfJ zfK
  try (cases h18;done)
  all_goals (try simp only[CQ] at h18)
  all_goals
  refine sY [0,5,23] (fun P S K=>XvBinOV P .eql 3 (.const (.int .i64 10)) (S.get 5) (.atom (.int .i64 10)) (fun r0 _=>K ⟨[(0,S.get 0),(5,S.get 5),(23,r0)],S.hp,S.nx,S.gh⟩)) ?_
  all_goals
  refine Tri.cond rfl (fun h23=>?_) (fun h23=>?_)
  ·try (cases h23;done)
   all_goals (try simp only[CQ] at h23)
   all_goals
   refine sY [4] (fun P S K=>XvBinOV P .add 9 (.tmp 25) (.atom (.string { data := #[40] })) (S.get 0) (fun r1 _=>XvBinOV P .add 9 (.const (.string { data := #[41] })) r1 (.atom (.string { data := #[41] })) (fun r2 _=>K ⟨[(4,r2)],S.hp,S.nx,S.gh⟩))) ?_
   all_goals try simp (disch:=omega) only[zae,zaf]
   all_goals
   refine Tri.ret ?_
   show ResOk _ _ _ _
   rw[hd,if_neg (by omega),if_neg (by omega),if_neg (by omega),if_neg (by omega),if_pos (by omega)]
   exact ResOk.val zfJ zfK
  try (cases h23;done)
  all_goals (try simp only[CQ] at h23)
  all_goals
  refine sY [0,28] (fun P S K=>XvBinOV P .eql 3 (.const (.int .i64 11)) (S.get 5) (.atom (.int .i64 11)) (fun r0 _=>K ⟨[(0,S.get 0),(28,r0)],S.hp,S.nx,S.gh⟩)) ?_
  all_goals
  refine Tri.cond rfl (fun h28=>?_) (fun h28=>?_)
  ·try (cases h28;done)
   all_goals (try simp only[CQ] at h28)
   all_goals
   refine sY [4] (fun P S K=>XvBinOV P .add 9 (.const (.string { data := #[63] })) (S.get 0) (.atom (.string { data := #[63] })) (fun r1 _=>K ⟨[(4,r1)],S.hp,S.nx,S.gh⟩)) ?_
   all_goals try simp (disch:=omega) only[zae,zaf]
   all_goals
   refine Tri.ret ?_
   show ResOk _ _ _ _
   rw[hd,if_neg (by omega),if_neg (by omega),if_neg (by omega),if_neg (by omega),if_neg (by omega),if_pos (by omega)]
   exact ResOk.val zfJ zfK
  try (cases h28;done)
  all_goals (try simp only[CQ] at h28)
  all_goals
  refine Tri.skip ?_
  refine sY [4] (fun P S K=>K ⟨[(4,(S.get 0))],S.hp,S.nx,S.gh⟩) ?_
  all_goals
  refine Tri.ret ?_
  show ResOk _ _ _ _
  rw[hd,if_neg (by omega),if_neg (by omega),if_neg (by omega),if_neg (by omega),if_neg (by omega),if_neg (by omega)]
  exact ResOk.val zfJ zfK
def zfX:List ByteArray:=[⟨#[97,110,110,97]⟩,⟨#[114,111,109,101]⟩,⟨#[107,105,110,103]⟩,⟨#[116,104,101]⟩,⟨#[111,102]⟩,⟨#[111,100,101]⟩,⟨#[108,121,114,101]⟩,⟨#[120]⟩,⟨#[49,50]⟩]
theorem zgw (k:Nat):(ls zfX k).size≤4:=by
  rcases Nat.lt_or_ge k 9 with h|h
  · have:∀k,k<9→(ls zfX k).size≤4:=by decide
    exact this k h
  · rw[ls,List.getD_eq_getElem?_getD,List.getElem?_eq_none (by exact h)];exact Nat.zero_le _
def zjv (n:Int):ByteArray:=zif (ls zfX (n.tmod 9).toNat) (n.tdiv 9)
theorem zhJ (n:Int):(zjv n).size≤6:=by
  have:=zmf (ls zfX (n.tmod 9).toNat) (n.tdiv 9)
  have:=zgw (n.tmod 9).toNat
  unfold zjv;omega
def texN (l:List Int) (k:Int):Nat→ByteArray
  | 0=>⟨#[]⟩
  | i+1=>(if 0<i then texN l k i++blankB else texN l k i)++zjv (atI l (k+1+(i:Int)) 108)
theorem zjw (l:List Int) (k:Int):∀i,(texN l k i).size≤7 * i
  | 0=>Nat.le_refl _
  | i+1=>by
    have:=zjw l k i
    have:=zhJ (atI l (k+1+(i:Int)) 108)
    have e:blankB.size=1:=rfl
    rw[texN,ByteArray.size_append]
    split
    · rw[ByteArray.size_append];omega
    · omega
def texT (l:List Int) (k:Int):ByteArray:=texN l k (1+(atI l k 9).toNat)
theorem zpT (l:List Int) (k:Int):(texT l k).size≤63:=by
  have:=zjw l k (1+(atI l k 9).toNat)
  have:=zdP (l:=l) (i:=k) (m:=9) (by decide)
  have:=zeQ (l:=l) (i:=k) (m:=9) (by decide)
  unfold texT;omega
theorem ztf (l:List Int) (k:Int) (hl:Fits l) (hk0:0≤k) (hk:k≤1000000):Pure Tryz.prog 34 [ints l,encI k] (encS (texT l k)) []:=by
  have h9:=zeQ (l:=l) (i:=k) (m:=9) (by decide)
  have h9':=zdP (l:=l) (i:=k) (m:=9) (by decide)
  have hone:(⟨#[32]⟩:ByteArray).size=1:=rfl
  refine Pure.intro (ts:=[4]) Tryz.func34 (by kernel_rfl) rfl rfl rfl (Nat.le_of_ble_eq_true rfl) ?_ ?_
  · simp[zah,zag,encI,encS,PV.pure,zax]
  refine sY [0,1] (fun P S K=>K ⟨[(0,S.get 0),(1,S.get 1)],S.hp,S.nx,S.gh⟩) ?_
  all_goals
  refine sY [0,1,5] (fun P S K=>XvBuildS P 37 9 S.nx [(0,(.atom (.string { data := #[97,110,110,97] }))),(1,(.atom (.string { data := #[114,111,109,101] }))),(2,(.atom (.string { data := #[107,105,110,103] }))),(3,(.atom (.string { data := #[116,104,101] }))),(4,(.atom (.string { data := #[111,102] }))),(5,(.atom (.string { data := #[111,100,101] }))),(6,(.atom (.string { data := #[108,121,114,101] }))),(7,(.atom (.string { data := #[120] }))),(8,(.atom (.string { data := #[49,50] })))] (fun r0 ef0=>K ⟨[(0,S.get 0),(1,S.get 1),(5,r0)],(Eff.hp ef0 S.nx S.hp),(S.nx+ef0.add.length),S.gh⟩)) ?_
  all_goals
  refine sY [0,1,5,6] (fun P S K=>K ⟨[(0,S.get 0),(1,S.get 1),(5,S.get 5),(6,(.atom (.string { data := #[] })))],S.hp,S.nx,S.gh⟩) ?_
  all_goals
  refine Tri.seq ?_
  refine sY [0,1,5,6,7] (fun P S K=>K ⟨[(0,S.get 0),(1,S.get 1),(5,S.get 5),(6,S.get 6),(7,(.atom (.int .i64 0)))],S.hp,S.nx,S.gh⟩) ?_
  all_goals
  refine Tri.block ?_
  refine Tri.loop (α:=(s:ByteArray) ×' (i:Nat) ×' ((i:Int)≤1+atI l k 9∧s.size≤7 * i∧s=texN l k i)) (fun z=>(fun(s:ByteArray) (i:Nat)=>(⟨[(0,ints l),(1,encI k),(5,.ob 0 1 0 9),(6,encS s),(7,encI i)],[(0,some ⟨1,[.atom (.string ⟨#[97,110,110,97]⟩),.atom (.string ⟨#[114,111,109,101]⟩),.atom (.string ⟨#[107,105,110,103]⟩),.atom (.string ⟨#[116,104,101]⟩),.atom (.string ⟨#[111,102]⟩),.atom (.string ⟨#[111,100,101]⟩),.atom (.string ⟨#[108,121,114,101]⟩),.atom (.string ⟨#[120]⟩),.atom (.string ⟨#[49,50]⟩)]⟩)],1,[]⟩:St)) z.1 z.2.1) (fun z=>(fun(s:ByteArray) (i:Nat)=>10 - i) z.1 z.2.1) ⟨⟨#[]⟩,0,⟨by omega,Nat.le_refl _,rfl⟩⟩ [0] ?_ ?_
  ·exact zfn
  rintro⟨s,i,⟨hi,hsz,hs⟩⟩
  refine Tri.seq ?_
  refine sZ [0,1,5,6,7,16] (fun P S K=>XvFnIV P (M S.hp S.nx) (.fn 38 []) [(S.get 0),(S.get 1),(.atom (.int .i64 9))] (fun r3 ef3=>XvBinOV P .add 3 (.tmp 14) (.atom (.int .i64 1)) r3 (fun r4 _=>XvBinOV P .lss 3 (.tmp 15) (S.get 7) r4 (fun r5 _=>K ⟨[(0,S.get 0),(1,S.get 1),(5,S.get 5),(6,S.get 6),(7,S.get 7),(16,r5)],(Eff.hp ef3 S.nx S.hp),(S.nx+ef3.add.length),S.gh⟩)))) fun K hK=>?_
  repeat' (first|(refine hK _ ?_;clear hK K)|refine .inl ⟨_,_,zcz l k 9 hl (by unfold I64;omega) (by decide),?_⟩|refine st ?_|fail)
  all_goals try simp (disch:=omega) only[zae,zaf]
  all_goals
  refine Tri.cond rfl (fun h16=>?_) (fun h16=>?_)
  ·try (cases h16;done)
   all_goals (try simp only[CQ] at h16)
   all_goals
   refine Tri.skip ?_
   refine Tri.seq ?_
   refine Tri.block ?_
   refine sZ [0,1,5,6,7,8] (fun P S K=>XvBinOV P .add 3 (.const (.int .i64 1)) (S.get 1) (.atom (.int .i64 1)) (fun r2 _=>XvBinOV P .add 3 (.tmp 22) r2 (S.get 7) (fun r4 _=>XvFnIV P (M S.hp S.nx) (.fn 38 []) [(S.get 0),r4,(.atom (.int .i64 108))] (fun r5 ef5=>K ⟨[(0,S.get 0),(1,S.get 1),(5,S.get 5),(6,S.get 6),(7,S.get 7),(8,r5)],(Eff.hp ef5 S.nx S.hp),(S.nx+ef5.add.length),S.gh⟩)))) fun K hK=>?_
   repeat' (first|(refine hK _ ?_;clear hK K)|refine .inl ⟨_,_,zcz l (k+1+(i:Int)) 108 hl (by unfold I64;omega) (by decide),?_⟩|(refine st ?_;try simp only[zae (x:=k+1) (by omega) (by omega),zae (x:=k+1+(i:Int)) (by omega) (by omega)])|fail)
   all_goals try simp (disch:=omega) only[zae,zaf]
   generalize hn:atI l (k+1+(i:Int)) 108=n
   have hn0:0≤n:=hn▸zeQ (by decide)
   have hn1:n<108:=hn▸zdP (by decide)
   have hqa:=zc4 (k:=9) hn0 hn1 (by decide)
   have hra:=zee (k:=9) hn0 (by decide)
   have ht4:=zgw (n.tmod 9).toNat
   have hu:=zhJ n
   have hun:zif (ls zfX (n.tmod 9).toNat) (n.tdiv 9)=zjv n:=rfl
   have hsb:(s++(⟨#[32]⟩:ByteArray)).size=s.size+1:=by rw[ByteArray.size_append];rfl
   have hga:([.atom (.string ⟨#[97,110,110,97]⟩),.atom (.string ⟨#[114,111,109,101]⟩),.atom (.string ⟨#[107,105,110,103]⟩),.atom (.string ⟨#[116,104,101]⟩),.atom (.string ⟨#[111,102]⟩),.atom (.string ⟨#[111,100,101]⟩),.atom (.string ⟨#[108,121,114,101]⟩),.atom (.string ⟨#[120]⟩),.atom (.string ⟨#[49,50]⟩)]:List PV).getD (n.tmod 9).toNat .junk=.atom (.string (ls zfX (n.tmod 9).toNat)):=zbn (l:=zfX) (k:=(n.tmod 9).toNat) (by show _<9;omega)
   all_goals
   refine sZ [0,1,5,6,7,9] (fun P S K=>XvBinOV P .rem 3 (.const (.int .i64 9)) (S.get 8) (.atom (.int .i64 9)) (fun r2 _=>XvIndexAddr P 37 (S.get 5) r2 (fun r3 _=>XvLoad P 9 (M S.hp S.nx) r3 (fun r4 _=>XvBinOV P .quo 3 (.const (.int .i64 9)) (S.get 8) (.atom (.int .i64 9)) (fun r6 _=>XvFnIV P (M S.hp S.nx) (.fn 66 []) [r4,r6] (fun r7 ef7=>K ⟨[(0,S.get 0),(1,S.get 1),(5,S.get 5),(6,S.get 6),(7,S.get 7),(9,r7)],(Eff.hp ef7 S.nx S.hp),(S.nx+ef7.add.length),S.gh⟩)))))) fun K hK=>?_
   repeat' (first|(refine hK _ ?_;clear hK K)|((first|refine zaw (fun hg=>?_) (fun hg=>?_)|refine fun(hg:(_:Prop))=>?_)<;>((try simp only[BQ] at hg);try (exfalso;omega)))|refine And.intro ?_ ?_|exact cl|refine .inl ⟨_,_,zkB (ls zfX (n.tmod 9).toNat) (n.tdiv 9) (by omega),?_⟩|(refine st ?_;try simp only[zae (x:=n.tdiv 9) (by omega) (by omega),hga,hun])|fail)
   all_goals try simp (disch:=omega) only[zae,zaf]
   all_goals
   refine Tri.seq ?_
   refine sY [0,1,5,6,7,9,34] (fun P S K=>XvBinOV P .gtr 3 (.const (.int .i64 0)) (S.get 7) (.atom (.int .i64 0)) (fun r1 _=>K ⟨[(0,S.get 0),(1,S.get 1),(5,S.get 5),(6,S.get 6),(7,S.get 7),(9,S.get 9),(34,r1)],S.hp,S.nx,S.gh⟩)) ?_
   all_goals
   refine Tri.cond rfl (fun h34=>?_) (fun h34=>?_)
   ·try (cases h34;done)
    all_goals (try simp only[CQ] at h34)
    all_goals
    refine rY [0,1,5,6,7,9] (fun P S K=>XvBinOV P .add 9 (.const (.string { data := #[32] })) (S.get 6) (.atom (.string { data := #[32] })) (fun r1 _=>K ⟨[(0,S.get 0),(1,S.get 1),(5,S.get 5),(6,r1),(7,S.get 7),(9,S.get 9)],S.hp,S.nx,S.gh⟩)) ?_
    all_goals try simp (disch:=omega) only[zae,zaf]
    all_goals
    refine rY [0,1,5,6,7] (fun P S K=>XvBinOV P .add 9 (.tmp 38) (S.get 6) (S.get 9) (fun r2 _=>K ⟨[(0,S.get 0),(1,S.get 1),(5,S.get 5),(6,r2),(7,S.get 7)],S.hp,S.nx,S.gh⟩)) ?_
    all_goals try simp (disch:=omega) only[zae,zaf]
    all_goals
    refine rY [0,1,5,6,7] (fun P S K=>XvBinOV P .add 3 (.const (.int .i64 1)) (S.get 7) (.atom (.int .i64 1)) (fun r1 _=>K ⟨[(0,S.get 0),(1,S.get 1),(5,S.get 5),(6,S.get 6),(7,r1)],S.hp,S.nx,S.gh⟩)) ?_
    all_goals try simp (disch:=omega) only[zae,zaf]
    all_goals
    first
    | (refine⟨⟨s++⟨#[32]⟩++zjv n,i+1,by omega,by rw[ByteArray.size_append];omega,by rw[texN,if_pos (by omega),hn,←hs];rfl⟩,[0],by dsimp only;omega,?_⟩
       exact zfn;done)
    | (refine⟨⟨s++zjv n,i+1,by omega,by rw[ByteArray.size_append];omega,by rw[texN,if_neg (by omega),hn,←hs]⟩,[0],by dsimp only;omega,?_⟩
       exact zfn;done)
   try (cases h34;done)
   all_goals (try simp only[CQ] at h34)
   all_goals
   refine Tri.skip ?_
   refine rY [0,1,5,6,7] (fun P S K=>XvBinOV P .add 9 (.tmp 38) (S.get 6) (S.get 9) (fun r2 _=>K ⟨[(0,S.get 0),(1,S.get 1),(5,S.get 5),(6,r2),(7,S.get 7)],S.hp,S.nx,S.gh⟩)) ?_
   all_goals try simp (disch:=omega) only[zae,zaf]
   all_goals
   refine rY [0,1,5,6,7] (fun P S K=>XvBinOV P .add 3 (.const (.int .i64 1)) (S.get 7) (.atom (.int .i64 1)) (fun r1 _=>K ⟨[(0,S.get 0),(1,S.get 1),(5,S.get 5),(6,S.get 6),(7,r1)],S.hp,S.nx,S.gh⟩)) ?_
   all_goals try simp (disch:=omega) only[zae,zaf]
   all_goals
   first
   | (refine⟨⟨s++⟨#[32]⟩++zjv n,i+1,by omega,by rw[ByteArray.size_append];omega,by rw[texN,if_pos (by omega),hn,←hs];rfl⟩,[0],by dsimp only;omega,?_⟩
      exact zfn;done)
   | (refine⟨⟨s++zjv n,i+1,by omega,by rw[ByteArray.size_append];omega,by rw[texN,if_neg (by omega),hn,←hs]⟩,[0],by dsimp only;omega,?_⟩
      exact zfn;done)
  try (cases h16;done)
  all_goals (try simp only[CQ] at h16)
  all_goals
  refine Tri.exit ?_
  refine sY [4] (fun P S K=>K ⟨[(4,(S.get 6))],S.hp,S.nx,S.gh⟩) ?_
  all_goals
  refine Tri.ret ?_
  show ResOk _ _ _ _
  rw[show texT l k=s by rw[hs];unfold texT;congr 1;omega]
  exact ResOk.val zfJ zfK
theorem leqM36{p:Prop}(h:p:=by(refine⟨4,?_,?_,rfl,by simp,rfl,fun _ h _=>absurd h (Nat.not_lt_zero _)⟩<;>(simp only[List.forall_mem_cons];repeat' (first|refine And.intro ?_ ?_|(intro p hp;exact absurd hp List.not_mem_nil)|rfl|exact sp (zaQ _)|exact sp (zaL _)|exact(zat _ _ _ (zah _)).trans (zbW _ _).symm|exact(zat _ _ _ (zag _)).trans (zbV _ _).symm|exact sp (by assumption)|(intro o ho;cases ho;refine⟨by decide,?_⟩;first|(refine LeqS.row rfl ?_ ?_;(next=>(first|rfl|(simp only[List.map_append,List.map_cons,List.map_nil,List.append_nil,List.nil_append,List.append_assoc,List.cons_append,encI,encS,ints,strs];done)|(simp[encI,encS,ints,strs,encF,encR,encA,encX];done)));(next=>(first|rfl|exact zao _|exact zar _|exact zav _|exact zau _|exact zaK _|exact za1 _|exact za2 _|exact zas _|(simp[zas,zao,zar,zav,zau,zax,PV.pure,zah,zag,zaQ,zaK,za1,za2,zaL,zas,encF,encS];done)));done)|refine⟨_,rfl,rfl,?_⟩)|(simp[St.born,St.known,retV,St.get,St.obj,lk,sealed,PV.ren,renL,rmap,AO.ren,ints,strs,encI,encS,zan,zam,zal,zak,zaB,zaA,zaz,zay,zaY,zaX,zaW,zaV,zcQ,zaa,zac,zad,zab,zai,zaj,zaE,za4,zaH,zbc,zaI,zbd,zap,encF,encR,encA,zbF,encX]<;>omega))));first|done|fail):p:=h
theorem lsrM36{p:Prop}(h:p:=by(first|rfl|(simp[St.born,St.known,retV,St.get,St.obj,lk,sealed,PV.ren,renL,rmap,AO.ren,ints,strs,encI,encS,zan,zam,zal,zak,zaB,zaA,zaz,zay,zaY,zaX,zaW,zaV,zcQ,zaa,zac,zad,zab,zai,zaj,zaE,za4,zaH,zbc,zaI,zbd,zap,encF,encR,encA,zbF,encX];done));first|done|fail):p:=h
theorem zs7{x:LexD}{w:ByteArray}{f:FormD}(h:f∈allX x w):f.word=w:=by
  unfold allX at h
  split at h
  · rcases mem_foldl_putF.1 h with h|h
    · exact of_decide_eq_true (List.mem_filter.1 h).2
    · cases h
  · split at h
    · rcases mem_foldl_putF.1 h with h|h
      · obtain⟨r,_,hr⟩:=List.mem_filterMap.1 h
        obtain⟨s,_,rfl⟩:=Option.map_eq_some_iff.1 hr
        rfl
      · cases h
    · rw[List.mem_singleton.1 h]
theorem zr3{x:LexD}{ws:List ByteArray}{n k:Nat}(h:k<n):decide ((k:Int)∈zgi x ws n) = !(choT x ws k).2:=by
  have:(k:Int)∈zgi x ws n↔(choT x ws k).2=false:=by
    unfold zgi
    rw[List.mem_map]
    constructor
    · rintro⟨j,hj,e⟩
      have:j=k:=by omega
      subst this
      have:=(List.mem_filter.1 hj).2
      simpa using this
    · intro g
      exact⟨k,List.mem_filter.2 ⟨List.mem_range.2 h,by rw[g];rfl⟩,rfl⟩
  cases hc:(choT x ws k).2 with
  | true=>exact decide_eq_false fun g=>by rw[hc] at this;cases this.1 g
  | false=>exact decide_eq_true (this.2 hc)
theorem zeg{x:LexD}{ws:List ByteArray}{k:Nat}(he:errX x ws=0) (h:k<ws.length):decide ((k:Int)∈zcS x ws) = !(choT x ws k).2:=by
  unfold zcS
  rw[if_neg (by omega)];exact zr3 h
theorem zoY (x:LexD) {ws:List ByteArray}{q:ByteArray}{k:Nat}(h:k+1<ws.length):choT x (ws++[q]++ws) k=choT x ws k:=by
  have hlen:(ws++[q]++ws).length=ws.length+1+ws.length:=by simp;omega
  have hat:∀i,i<ws.length→ls (ws++[q]++ws) i=ls ws i:=fun i hi=>by rw[zsg (by simp;omega),zsg hi]
  refine zkK (hat k (by omega)) (zd2 ?_ ?_) (zd2 ?_ ?_)
  · rw[hlen];omega
  · intro h1 h2;exact hat _ (by omega)
  · rw[hlen];omega
  · intro h1 h2;exact hat _ (by omega)
theorem zoX (x:LexD) {ws:List ByteArray}{q:ByteArray}{k:Nat}(h0:0<k) (h:k<ws.length):choT x (ws++[q]++ws) (ws.length+1+k)=choT x ws k:=by
  have hl1:(ws++[q]).length=ws.length+1:=by simp
  have hlen:(ws++[q]++ws).length=ws.length+1+ws.length:=by simp;omega
  have hat:∀i,ls (ws++[q]++ws) (ws.length+1+i)=ls ws i:=fun i=>by rw[←hl1,ls_app2]
  refine zkK (hat k) (zd2 ?_ ?_) (zd2 ?_ ?_)
  · rw[hlen];omega
  · intro h1 h2
    rw[show(((ws.length+1+k:Nat):Int) - 1).toNat=ws.length+1+(k - 1) by omega,hat];congr 1;omega
  · rw[hlen];omega
  · intro h1 h2
    rw[show(((ws.length+1+k:Nat):Int)+1).toNat=ws.length+1+(k+1) by omega,hat];congr 1
theorem zka (x:LexD) (ws:List ByteArray):(zcS x ws).length≤ws.length:=by
  unfold zcS;split
  · exact Nat.zero_le _
  · exact zr2 x ws _
theorem znG (s:ByteArray):(zbZ s).length≤s.size:=by
  rw[zd7,List.length_map]
  exact Nat.le_trans (List.length_filter_le _ _) (zmK s)
def qqB:ByteArray:=⟨#[113,113]⟩
theorem zle{x:LexD}{ws:List ByteArray}{k:Nat}(he:errX x ws=0) (hk:k<ws.length):
    (∃c1 c2:ByteArray,zbI x ws (k:Int)=(⟨ls ws k,c1,c2⟩,0)∧decide ((k:Int)∈zcS x ws)=false)∨(∃c:FormD,zbI x ws (k:Int)=(c,14)∧decide ((k:Int)∈zcS x ws)=true):=by
  rw[zpi he hk,zeg he hk]
  unfold chE
  cases h:(choT x ws k).2 with
  | true=>
    refine .inl ⟨(choT x ws k).1.lem,(choT x ws k).1.cls,?_,rfl⟩
    rw[if_pos rfl,←zs7 (choT_mem h)]
  | false=>exact .inr ⟨_,rfl,rfl⟩
theorem zpR{x:LexD}{ws:List ByteArray}{q:ByteArray}{k:Nat}(he:errX x ws=0) (he2:errX x (ws++[q]++ws)=0) (hk:k<ws.length):
    (decide ((k:Int)+1<(ws.length:Int))=true∧decide ((k:Int)∈zcS x (ws++[q]++ws))=decide ((k:Int)∈zcS x ws))∨∃b:Bool,decide ((k:Int)+1<(ws.length:Int))=false∧decide ((k:Int)∈zcS x (ws++[q]++ws))=b:=by
  by_cases h:(k:Int)+1<(ws.length:Int)
  · refine .inl ⟨decide_eq_true h,?_⟩
    rw[zeg he2 (by simp;omega),zeg he hk,zoY x (by omega)]
  · exact .inr ⟨_,decide_eq_false h,rfl⟩
theorem znO{x:LexD}{ws:List ByteArray}{q:ByteArray}{k:Nat}(he:errX x ws=0) (he2:errX x (ws++[q]++ws)=0) (hk:k<ws.length):
    (decide ((0:Int)<(k:Int))=true∧decide ((ws.length:Int)+1+(k:Int)∈zcS x (ws++[q]++ws))=decide ((k:Int)∈zcS x ws))∨∃b:Bool,decide ((0:Int)<(k:Int))=false∧decide ((ws.length:Int)+1+(k:Int)∈zcS x (ws++[q]++ws))=b:=by
  by_cases h:(0:Int)<(k:Int)
  · refine .inl ⟨decide_eq_true h,?_⟩
    rw[show(ws.length:Int)+1+(k:Int)=((ws.length+1+k:Nat):Int) by omega,zeg he2 (by simp;omega),zeg he hk,zoX x (by omega) hk]
  · exact .inr ⟨_,decide_eq_false h,rfl⟩
theorem znN (l m:List Int) (hl:Fits l) (hm:Fits m) (hlv:Pure Tryz.prog 20 [] (.atom (.bool true)) []):
    Pure Tryz.prog 6 [ints l,ints m] (.atom (.bool true)) []:=by
  have hx:=zsc l
  have hv:=zh0 l
  generalize hxe:zgQ l=x at hx hv
  have hmade:=ztg l hl
  rw[hxe] at hmade
  have htx:=ztf m 0 hm (by omega) (by omega)
  have hsz:=zpT m 0
  generalize texT m 0=s at htx hsz
  have hw1:=zis s (by omega)
  have hj1:=zk0 s qqB (by omega) (by decide)
  have hqz:qqB.size=2:=rfl
  have hbz:(⟨#[32]⟩:ByteArray).size=1:=rfl
  have ht1:(s++⟨#[32]⟩++qqB).size=s.size+3:=by rw[ByteArray.size_append,ByteArray.size_append,hqz,hbz]
  have hj2:=zk0 (s++⟨#[32]⟩++qqB) s (by omega) (by omega)
  have ht2:((s++⟨#[32]⟩++qqB)++⟨#[32]⟩++s).size=s.size+3+1+s.size:=by rw[ByteArray.size_append,ByteArray.size_append,ht1,hbz]
  have hww:zbZ ((s++⟨#[32]⟩++qqB)++⟨#[32]⟩++s)=zbZ s++[qqB]++zbZ s:=by
    have h1:=zji (s++⟨#[32]⟩++qqB) s
    have h2:=zji s qqB
    rw[show zbZ qqB=[qqB] from words_qq] at h2
    exact h1.trans (by rw[show zbZ (s++⟨#[32]⟩++qqB)=_ from h2])
  generalize (s++⟨#[32]⟩++qqB)=t1 at hj1 hj2 ht1 ht2 hww
  generalize (t1++⟨#[32]⟩++s)=t at hj2 ht2 hww
  have hw2:=zis t (by omega)
  rw[hww] at hw2
  have hWp:(zbZ s).all zbp=true:=List.all_eq_true.2 (words_ok (by omega))
  have hLp:(zbZ s++[qqB]++zbZ s).all zbp=true:=zm2 (zm2 hWp (by kernel_rfl)) hWp
  have hWl:(zbZ s).length≤63:=Nat.le_trans (znG s) hsz
  generalize zbZ s=W at hw1 hw2 hWp hLp hWl
  have hLl:(W++[qqB]++W).length=W.length+1+W.length:=by simp;omega
  have heW:errX x W=0:=zfv hv hWp
  have heL:errX x (W++[qqB]++W)=0:=zfv hv hLp
  have hcase:=fun k (hk:k<W.length)=>zle heW hk
  have hleft:=fun k (hk:k<W.length)=>zpR heW heL hk
  have hright:=fun k (hk:k<W.length)=>znO heW heL hk
  have hoW:=zka x W
  have hoL:=zka x (W++[qqB]++W)
  have hopW:=zh2 x W hx (by omega) (ziy hWp)
  have hopL:=zh2 x (W++[qqB]++W) hx (by omega) (ziy hLp)
  rw[heW] at hopW
  rw[heL] at hopL
  generalize zcS x W=os at hcase hleft hright hoW hopW
  generalize zcS x (W++[qqB]++W)=ob at hleft hright hoL hopL
  generalize (W++[qqB]++W)=LW at hw2 hopL hoL hLl
  refine Pure.intro (ts:=[4]) Tryz.func6 (by kernel_rfl) rfl rfl rfl (Nat.le_of_ble_eq_true rfl) ?_ ?_
  · simp[zah,zag,encI,encS,PV.pure,zax]
  refine sY [0,1] (fun P S K=>K ⟨[(0,S.get 0),(1,S.get 1)],S.hp,S.nx,S.gh⟩) ?_
  all_goals
  refine sZ [1,5] (fun P S K=>XvFnIV P (M S.hp S.nx) (.fn 7 []) [(S.get 0)] (fun r1 ef1=>XvFnIV P (M (Eff.hp ef1 S.nx S.hp) (S.nx+ef1.add.length)) (.fn 14 []) [r1] (fun r2 ef2=>XvAlloc P 27 ((S.nx+ef1.add.length)+ef2.add.length) (fun r3 ef3=>XvStore P 27 (M (Eff.hp ef3 ((S.nx+ef1.add.length)+ef2.add.length) (Eff.hp ef2 (S.nx+ef1.add.length) (Eff.hp ef1 S.nx S.hp))) (((S.nx+ef1.add.length)+ef2.add.length)+ef3.add.length)) r3 r2 (fun r4 ef4=>K ⟨[(1,S.get 1),(5,r3)],(Eff.hp ef4 (((S.nx+ef1.add.length)+ef2.add.length)+ef3.add.length) (Eff.hp ef3 ((S.nx+ef1.add.length)+ef2.add.length) (Eff.hp ef2 (S.nx+ef1.add.length) (Eff.hp ef1 S.nx S.hp)))),((((S.nx+ef1.add.length)+ef2.add.length)+ef3.add.length)+ef4.add.length),S.gh⟩))))) fun K hK=>?_
  repeat' (first|(refine hK _ ?_;clear hK K)|refine And.intro ?_ ?_|exact cl|refine .inl ⟨_,_,hmade,?_⟩|refine .inl ⟨_,_,own_pure x hx,?_⟩|(refine st ?_;try simp only[encX,zaa,zac,zad,encF,zab,zai,zaj])|fail)
  all_goals
  refine sZ [5,6] (fun P S K=>XvFnIV P (M S.hp S.nx) (.fn 34 []) [(S.get 1),(.atom (.int .i64 0))] (fun r1 ef1=>K ⟨[(5,S.get 5),(6,r1)],(Eff.hp ef1 S.nx S.hp),(S.nx+ef1.add.length),S.gh⟩)) fun K hK=>?_
  repeat' (first|(refine hK _ ?_;clear hK K)|refine And.intro ?_ ?_|exact cl|refine .inl ⟨_,_,htx,?_⟩|refine .inl ⟨_,_,hw1,?_⟩|refine .inl ⟨_,_,hopW,?_⟩|refine .inl ⟨_,_,hj1,?_⟩|refine .inl ⟨_,_,hj2,?_⟩|refine .inl ⟨_,_,hlv,?_⟩|(refine st ?_;try simp only[encX,zaa,zac,zad,encF,zab,zai,zaj])|fail)
  all_goals
  refine sZ [5,6,7] (fun P S K=>XvFnIV P (M S.hp S.nx) (.fn 35 []) [(S.get 6)] (fun r1 ef1=>K ⟨[(5,S.get 5),(6,S.get 6),(7,r1)],(Eff.hp ef1 S.nx S.hp),(S.nx+ef1.add.length),S.gh⟩)) fun K hK=>?_
  repeat' (first|(refine hK _ ?_;clear hK K)|refine And.intro ?_ ?_|exact cl|refine .inl ⟨_,_,htx,?_⟩|refine .inl ⟨_,_,hw1,?_⟩|refine .inl ⟨_,_,hopW,?_⟩|refine .inl ⟨_,_,hj1,?_⟩|refine .inl ⟨_,_,hj2,?_⟩|refine .inl ⟨_,_,hlv,?_⟩|(refine st ?_;try simp only[encX,zaa,zac,zad,encF,zab,zai,zaj])|fail)
  all_goals
  refine sZ [5,6,7,8,9] (fun P S K=>XvLoad P 27 (M S.hp S.nx) (S.get 5) (fun r0 _=>XvFnIV P (M S.hp S.nx) (.fn 28 []) [r0,(S.get 7)] (fun r2 ef2=>XvExtract r2 0 (fun r4 _=>XvExtract r2 1 (fun r5 _=>K ⟨[(5,S.get 5),(6,S.get 6),(7,S.get 7),(8,r4),(9,r5)],(Eff.hp ef2 S.nx S.hp),(S.nx+ef2.add.length),S.gh⟩))))) fun K hK=>?_
  repeat' (first|(refine hK _ ?_;clear hK K)|refine And.intro ?_ ?_|exact cl|refine .inl ⟨_,_,htx,?_⟩|refine .inl ⟨_,_,hw1,?_⟩|refine .inl ⟨_,_,hopW,?_⟩|refine .inl ⟨_,_,hj1,?_⟩|refine .inl ⟨_,_,hj2,?_⟩|refine .inl ⟨_,_,hlv,?_⟩|(refine st ?_;try simp only[encX,zaa,zac,zad,encF,zab,zai,zaj])|fail)
  all_goals
  refine Tri.seq ?_
  refine sY [5,6,7,8,32] (fun P S K=>XvBinOV P .neq 40 (.const (.int .i64 0)) (S.get 9) (.atom (.int .i64 0)) (fun r1 _=>K ⟨[(5,S.get 5),(6,S.get 6),(7,S.get 7),(8,S.get 8),(32,r1)],S.hp,S.nx,S.gh⟩)) ?_
  all_goals
  refine Tri.cond rfl (fun h32=>?_) (fun h32=>?_)
  ·try (cases h32;done)
   all_goals (try simp only[CQ] at h32)
   all_goals
   refine sY [4] (fun P S K=>K ⟨[(4,(.atom (.bool false)))],S.hp,S.nx,S.gh⟩) ?_
   all_goals
   refine Tri.ret ?_
   show ResOk _ _ _ _
   done
  try (cases h32;done)
  all_goals (try simp only[CQ] at h32)
  all_goals
  refine Tri.skip ?_
  refine sZ [5,7,8,10] (fun P S K=>XvFnIV P (M S.hp S.nx) (.fn 36 []) [(S.get 6),(.atom (.string { data := #[113,113] }))] (fun r1 ef1=>XvFnIV P (M (Eff.hp ef1 S.nx S.hp) (S.nx+ef1.add.length)) (.fn 36 []) [r1,(S.get 6)] (fun r3 ef3=>K ⟨[(5,S.get 5),(7,S.get 7),(8,S.get 8),(10,r3)],(Eff.hp ef3 (S.nx+ef1.add.length) (Eff.hp ef1 S.nx S.hp)),((S.nx+ef1.add.length)+ef3.add.length),S.gh⟩))) fun K hK=>?_
  repeat' (first|(refine hK _ ?_;clear hK K)|refine And.intro ?_ ?_|exact cl|refine .inl ⟨_,_,htx,?_⟩|refine .inl ⟨_,_,hw1,?_⟩|refine .inl ⟨_,_,hopW,?_⟩|refine .inl ⟨_,_,hj1,?_⟩|refine .inl ⟨_,_,hj2,?_⟩|refine .inl ⟨_,_,hlv,?_⟩|(refine st ?_;try simp only[encX,zaa,zac,zad,encF,zab,zai,zaj])|fail)
  all_goals
  refine sD 9 [5,7,8,11,12] (fun P GD S K=>XvLoad P 27 (M S.hp S.nx) (S.get 5) (fun r0 ef0=>XvFnDV P (M S.hp S.nx) (.fn 35 []) [(S.get 10)] (fun r2 ef2=>XvFnDV P (M (Eff.hp ef2 S.nx S.hp) (S.nx+ef2.add.length)) (.fn 28 []) [r0,r2] (fun r3 ef3=>XvExtract r3 0 (fun r5 ef5=>XvExtract r3 1 (fun r6 ef6=>(trOk S.nx GD [⟨S.nx,0,ef0.rd,[],[]⟩,⟨S.nx,0,[],[],[]⟩,(Eff.tr ef2 S.nx),(Eff.tr ef3 (S.nx+ef2.add.length)),⟨((S.nx+ef2.add.length)+ef3.add.length),0,[],[],[]⟩,⟨((S.nx+ef2.add.length)+ef3.add.length),0,ef5.rd,[],[]⟩,⟨((S.nx+ef2.add.length)+ef3.add.length),0,ef6.rd,[],[]⟩,⟨((S.nx+ef2.add.length)+ef3.add.length),0,[],[],[]⟩,⟨((S.nx+ef2.add.length)+ef3.add.length),0,[],[],[]⟩]=true∧K ⟨[(5,S.get 5),(7,S.get 7),(8,S.get 8),(11,r5),(12,r6)],(Eff.hp ef3 (S.nx+ef2.add.length) (Eff.hp ef2 S.nx S.hp)),((S.nx+ef2.add.length)+ef3.add.length),S.gh⟩))))))) fun K hK=>?_
  repeat' (first|(refine hK _ ?_;clear hK K)|(refine(?_:trOk _ _ _=true);kernel_rfl)|refine And.intro ?_ ?_|exact cl|refine .inl ⟨_,_,hw2,?_⟩|refine .inl ⟨_,_,hopL,?_⟩|(refine st ?_;try simp only[encX,zaa,zac,zad,encF,zab,zai,zaj])|fail)
  all_goals
  refine Tri.seq ?_
  refine sY [5,7,8,11,45] (fun P S K=>XvBinOV P .neq 40 (.const (.int .i64 0)) (S.get 12) (.atom (.int .i64 0)) (fun r1 _=>K ⟨[(5,S.get 5),(7,S.get 7),(8,S.get 8),(11,S.get 11),(45,r1)],S.hp,S.nx,S.gh⟩)) ?_
  all_goals
  refine Tri.cond rfl (fun h45=>?_) (fun h45=>?_)
  ·try (cases h45;done)
   all_goals (try simp only[CQ] at h45)
   all_goals
   refine sY [4] (fun P S K=>K ⟨[(4,(.atom (.bool false)))],S.hp,S.nx,S.gh⟩) ?_
   all_goals
   refine Tri.ret ?_
   show ResOk _ _ _ _
   done
  try (cases h45;done)
  all_goals (try simp only[CQ] at h45)
  all_goals
  refine Tri.skip ?_
  refine Tri.seq ?_
  refine sY [5,7,8,11,13] (fun P S K=>K ⟨[(5,S.get 5),(7,S.get 7),(8,S.get 8),(11,S.get 11),(13,(.atom (.int .i64 0)))],S.hp,S.nx,S.gh⟩) ?_
  all_goals
  refine Tri.block ?_
  refine Tri.loop (α:=(i:Nat) ×' (i≤W.length)) (fun z=>(fun(i:Nat)=>(⟨[(5,.ptr 0 3 0 0),(7,strs W),(8,ints os),(11,ints ob),(13,encI i)],[(0,some ⟨3,[encX x]⟩)],1,[]⟩:St)) z.1) (fun z=>(fun(i:Nat)=>W.length - i) z.1) ⟨0,Nat.zero_le _⟩ [0] ?_ ?_
  ·exact leqM36
  rintro⟨i,hi⟩
  refine Tri.seq ?_
  refine sZ [5,7,8,11,13,49] (fun P S K=>XvLen P 37 (M S.hp S.nx) (S.get 7) (fun r2 _=>XvBinOV P .lss 3 (.tmp 48) (S.get 13) r2 (fun r3 _=>K ⟨[(5,S.get 5),(7,S.get 7),(8,S.get 8),(11,S.get 11),(13,S.get 13),(49,r3)],S.hp,S.nx,S.gh⟩))) fun K hK=>?_
  repeat' (first|(refine hK _ ?_;clear hK K)|(refine st ?_;try simp only[encX,zaa,zac,zad,encF,zab,zai,zaj])|fail)
  all_goals
  refine Tri.cond rfl (fun h49=>?_) (fun h49=>?_)
  ·try (cases h49;done)
   all_goals (try simp only[CQ] at h49)
   all_goals
   refine Tri.skip ?_
   refine Tri.seq ?_
   refine Tri.block ?_
   have hil:i<W.length:=by omega
   have hpw:([ls W i]:List ByteArray).all zbp=true:=by have:=List.all_eq_true.1 hWp _ (zf3 hil);simpa using this
   have he1:errX x [ls W i]=0:=zfv hv hpw
   have hal:allE x (ls W i)=allX x (ls W i):=if_pos he1
   have hpos:=znD x (ls W i)
   obtain⟨al,hale⟩:∃al,allX x (ls W i)=al:=⟨_,rfl⟩
   rw[hale] at hal hpos
   have hl0:decide ((al.length:Int)=0)=false:=decide_eq_false (by omega)
   have hci:=hcase i hil
   have hle:=hleft i hil
   have hri:=hright i hil
   refine sD 11 [5,7,8,11,13,14,15] (fun P GD S K=>XvLoad P 27 (M S.hp S.nx) (S.get 5) (fun r0 ef0=>XvIndexAddr P 37 (S.get 7) (S.get 13) (fun r3 ef3=>XvLoad P 9 (M S.hp S.nx) r3 (fun r4 ef4=>XvFnDV P (M S.hp S.nx) (.fn 15 []) [r0,r4] (fun r5 ef5=>XvExtract r5 0 (fun r7 ef7=>XvExtract r5 1 (fun r8 ef8=>(trOk S.nx GD [⟨S.nx,0,ef0.rd,[],[]⟩,⟨S.nx,0,[],[],[]⟩,⟨S.nx,0,[],[],[]⟩,⟨S.nx,0,ef3.rd,[],[]⟩,⟨S.nx,0,ef4.rd,[],[]⟩,(Eff.tr ef5 S.nx),⟨(S.nx+ef5.add.length),0,[],[],[]⟩,⟨(S.nx+ef5.add.length),0,ef7.rd,[],[]⟩,⟨(S.nx+ef5.add.length),0,ef8.rd,[],[]⟩,⟨(S.nx+ef5.add.length),0,[],[],[]⟩,⟨(S.nx+ef5.add.length),0,[],[],[]⟩]=true∧K ⟨[(5,S.get 5),(7,S.get 7),(8,S.get 8),(11,S.get 11),(13,S.get 13),(14,r7),(15,r8)],(Eff.hp ef5 S.nx S.hp),(S.nx+ef5.add.length),S.gh⟩)))))))) fun K hK=>?_
   repeat' (first|(refine hK _ ?_;clear hK K)|(refine(?_:trOk _ _ _=true);(try simp only[zbn hil,he1,hal]);kernel_rfl)|refine And.intro ?_ ?_|exact cl|refine .inl ⟨_,_,zh3 x (ls W i) hx (ziy hWp _ (zf3 hil)),?_⟩|(refine st ?_;try simp only[encX,zaa,zac,zad,encF,zab,zai,zaj,zbn hil,he1,hal])|fail)
   all_goals
   rcases hci with ⟨c1,c2,hce,hco⟩|⟨c,hce,hco⟩
   all_goals
   refine sZ [5,7,8,11,13,14,15,16,17] (fun P S K=>XvLoad P 27 (M S.hp S.nx) (S.get 5) (fun r0 _=>XvFnIV P (M S.hp S.nx) (.fn 32 []) [r0,(S.get 7),(S.get 13)] (fun r3 ef3=>XvExtract r3 0 (fun r5 _=>XvExtract r3 1 (fun r6 _=>XvAlloc P 73 (S.nx+ef3.add.length) (fun r7 ef7=>XvStore P 73 (M (Eff.hp ef7 (S.nx+ef3.add.length) (Eff.hp ef3 S.nx S.hp)) ((S.nx+ef3.add.length)+ef7.add.length)) r7 r5 (fun r8 ef8=>K ⟨[(5,S.get 5),(7,S.get 7),(8,S.get 8),(11,S.get 11),(13,S.get 13),(14,S.get 14),(15,S.get 15),(16,r7),(17,r6)],(Eff.hp ef8 ((S.nx+ef3.add.length)+ef7.add.length) (Eff.hp ef7 (S.nx+ef3.add.length) (Eff.hp ef3 S.nx S.hp))),(((S.nx+ef3.add.length)+ef7.add.length)+ef8.add.length),S.gh⟩))))))) fun K hK=>?_
   repeat' (first|(refine hK _ ?_;clear hK K)|refine And.intro ?_ ?_|exact cl|refine .inl ⟨_,_,zf5 x W (i:Int) hx (by omega) (ziy hWp) (by unfold I64;omega),?_⟩|(refine st ?_;try simp only[encX,zaa,zac,zad,encF,zab,zai,zaj,hce])|fail)
   all_goals
   refine Tri.seq ?_
   refine sD 36 [5,7,8,11,13,103] (fun P GD S K=>XvBinOV P .neq 40 (.const (.int .i64 0)) (S.get 15) (.atom (.int .i64 0)) (fun r1 ef1=>Xge r1 false (fun k=>k (S.get 14) e0) (fun g3 r3 ef3=>Xge g3 false (fun k=>XvLen P 23 (M S.hp S.nx) r3 k) (fun g4 r4 ef4=>Xge g4 false (fun k=>XvBinOV P .eql 3 (.const (.int .i64 0)) r4 (.atom (.int .i64 0)) k) (fun g5 r5 ef5=>XvPick g5 (.atom (.bool true)) r5 (fun r6 ef6=>Xge r6 false (fun k=>k (S.get 17) e0) (fun g8 r8 ef8=>Xge g8 false (fun k=>XvBinOV P .neq 40 (.const (.int .i64 0)) r8 (.atom (.int .i64 0)) k) (fun g9 r9 ef9=>Xge g9 false (fun k=>k r9 e0) (fun g10 r10 ef10=>Xge r10 true (fun k=>k (S.get 17) e0) (fun g11 r11 ef11=>Xge g11 true (fun k=>XvBinOV P .neq 40 (.const (.int .i64 14)) r11 (.atom (.int .i64 14)) k) (fun g12 r12 ef12=>Xge g10 false (fun k=>XvPick g12 r12 (.atom (.bool false)) k) (fun g13 r13 ef13=>XvPick g13 (.atom (.bool true)) r13 (fun r14 ef14=>Xge r14 false (fun k=>k (S.get 17) e0) (fun g16 r16 ef16=>Xge g16 false (fun k=>XvBinOV P .eql 40 (.const (.int .i64 0)) r16 (.atom (.int .i64 0)) k) (fun g17 r17 ef17=>Xge g17 false (fun k=>k r17 e0) (fun g18 r18 ef18=>Xge r18 true (fun k=>XvFieldAddr P 73 0 (S.get 16) k) (fun g19 r19 ef19=>Xge g19 true (fun k=>XvLoad P 9 (M S.hp S.nx) r19 k) (fun g20 r20 ef20=>Xge g20 true (fun k=>k (S.get 7) e0) (fun g21 r21 ef21=>Xge g21 true (fun k=>k (S.get 13) e0) (fun g22 r22 ef22=>Xge g22 true (fun k=>XvIndexAddr P 37 r21 r22 k) (fun g23 r23 ef23=>Xge g23 true (fun k=>XvLoad P 9 (M S.hp S.nx) r23 k) (fun g24 r24 ef24=>Xge g24 true (fun k=>XvBinOV P .neq 9 (.tmp 92) r20 r24 k) (fun g25 r25 ef25=>Xge g18 false (fun k=>XvPick g25 r25 (.atom (.bool false)) k) (fun g26 r26 ef26=>XvPick g26 (.atom (.bool true)) r26 (fun r27 ef27=>Xge r27 false (fun k=>k (S.get 17) e0) (fun g29 r29 ef29=>Xge g29 false (fun k=>XvBinOV P .eql 40 (.const (.int .i64 14)) r29 (.atom (.int .i64 14)) k) (fun g30 r30 ef30=>Xge g30 false (fun k=>k (S.get 8) e0) (fun g31 r31 ef31=>Xge g31 false (fun k=>k (S.get 13) e0) (fun g32 r32 ef32=>Xge g32 false (fun k=>XvFnDV P (M S.hp S.nx) (.fn 37 []) [r31,r32] k) (fun g33 r33 ef33=>Xge g33 false (fun k=>XvBinOV P .neq 4 (.tmp 101) r30 r33 k) (fun g34 r34 ef34=>XvPick g34 (.atom (.bool true)) r34 (fun r35 ef35=>(trOk S.nx GD [⟨S.nx,0,[],[],[]⟩,⟨S.nx,0,ef1.rd,[],[]⟩,⟨S.nx,0,[],[],[]⟩,⟨S.nx,0,ef3.rd,[],[]⟩,⟨S.nx,0,ef4.rd,[],[]⟩,⟨S.nx,0,ef5.rd,[],[]⟩,⟨S.nx,0,ef6.rd,[],[]⟩,⟨S.nx,0,[],[],[]⟩,⟨S.nx,0,ef8.rd,[],[]⟩,⟨S.nx,0,ef9.rd,[],[]⟩,⟨S.nx,0,ef10.rd,[],[]⟩,⟨S.nx,0,ef11.rd,[],[]⟩,⟨S.nx,0,ef12.rd,[],[]⟩,⟨S.nx,0,ef13.rd,[],[]⟩,⟨S.nx,0,ef14.rd,[],[]⟩,⟨S.nx,0,[],[],[]⟩,⟨S.nx,0,ef16.rd,[],[]⟩,⟨S.nx,0,ef17.rd,[],[]⟩,⟨S.nx,0,ef18.rd,[],[]⟩,⟨S.nx,0,ef19.rd,[],[]⟩,⟨S.nx,0,ef20.rd,[],[]⟩,⟨S.nx,0,ef21.rd,[],[]⟩,⟨S.nx,0,ef22.rd,[],[]⟩,⟨S.nx,0,ef23.rd,[],[]⟩,⟨S.nx,0,ef24.rd,[],[]⟩,⟨S.nx,0,ef25.rd,[],[]⟩,⟨S.nx,0,ef26.rd,[],[]⟩,⟨S.nx,0,ef27.rd,[],[]⟩,⟨S.nx,0,[],[],[]⟩,⟨S.nx,0,ef29.rd,[],[]⟩,⟨S.nx,0,ef30.rd,[],[]⟩,⟨S.nx,0,ef31.rd,[],[]⟩,⟨S.nx,0,ef32.rd,[],[]⟩,(Eff.tr ef33 S.nx),⟨(S.nx+ef33.add.length),0,ef34.rd,[],[]⟩,⟨(S.nx+ef33.add.length),0,ef35.rd,[],[]⟩]=true∧K ⟨[(5,S.get 5),(7,S.get 7),(8,S.get 8),(11,S.get 11),(13,S.get 13),(103,r35)],(Eff.hp ef33 S.nx S.hp),(S.nx+ef33.add.length),S.gh⟩))))))))))))))))))))))))))))))))) fun K hK=>?_
   repeat' (first|(refine hK _ ?_;clear hK K)|(refine(?_:trOk _ _ _=true);(try simp only[↓SE,zbn hil,hl0,hco]);kernel_rfl)|((first|refine zaw (fun hg=>?_) (fun hg=>?_)|refine fun(hg:(_:Prop))=>?_)<;>((try simp only[BQ,List.length_map] at hg);try (cases hg;done);try (exfalso;omega)))|refine And.intro ?_ ?_|exact cl|refine .inl ⟨_,_,zgq os (i:Int) (by omega),?_⟩|(refine st ?_;try simp only[encX,zaa,zac,zad,encF,zab,zai,zaj,↓SE,zbn hil,hl0,hco])|fail)
   all_goals
   refine Tri.cond rfl (fun h103=>?_) (fun h103=>?_)
   ·try (cases h103;done)
    all_goals (try simp only[CQ] at h103)
    all_goals
    refine sY [4] (fun P S K=>K ⟨[(4,(.atom (.bool false)))],S.hp,S.nx,S.gh⟩) ?_
    all_goals
    refine Tri.ret ?_
    show ResOk _ _ _ _
    done
   try (cases h103;done)
   all_goals (try simp only[CQ] at h103)
   all_goals
   refine Tri.skip ?_
   rcases hle with ⟨hA,hA2⟩|⟨pa,hA,hA2⟩<;>rcases hri with ⟨hB,hB2⟩|⟨pb,hB,hB2⟩
   all_goals
   refine sZ [5,7,8,11,13,134] (fun P S K=>XvBinOV P .add 3 (.const (.int .i64 1)) (S.get 13) (.atom (.int .i64 1)) (fun r1 _=>XvLen P 37 (M S.hp S.nx) (S.get 7) (fun r3 _=>XvBinOV P .lss 3 (.tmp 107) r1 r3 (fun r4 _=>Xgq r4 true (fun k=>k (S.get 8)) (fun g6 r6=>Xgq g6 true (fun k=>k (S.get 13)) (fun g7 r7=>Xge g7 true (fun k=>XvFnIV P (M S.hp S.nx) (.fn 37 []) [r6,r7] k) (fun g8 r8 ef8=>Xgq g8 true (fun k=>k (S.get 11)) (fun g9 r9=>Xgq g9 true (fun k=>k (S.get 13)) (fun g10 r10=>Xge g10 true (fun k=>XvFnIV P (M (Eff.hp ef8 S.nx S.hp) (S.nx+ef8.add.length)) (.fn 37 []) [r9,r10] k) (fun g11 r11 ef11=>Xgq g11 true (fun k=>XvBinOV P .neq 4 (.tmp 115) r8 r11 (fun r12 _=>k r12)) (fun g12 r12=>XvPick g12 r12 (.atom (.bool false)) (fun r13 _=>Xgq r13 false (fun k=>k (S.get 13)) (fun g15 r15=>Xgq g15 false (fun k=>XvBinOV P .gtr 3 (.const (.int .i64 0)) r15 (.atom (.int .i64 0)) (fun r16 _=>k r16)) (fun g16 r16=>Xgq g16 false (fun k=>k r16) (fun g17 r17=>Xgq r17 true (fun k=>k (S.get 8)) (fun g18 r18=>Xgq g18 true (fun k=>k (S.get 13)) (fun g19 r19=>Xge g19 true (fun k=>XvFnIV P (M (Eff.hp ef11 (S.nx+ef8.add.length) (Eff.hp ef8 S.nx S.hp)) ((S.nx+ef8.add.length)+ef11.add.length)) (.fn 37 []) [r18,r19] k) (fun g20 r20 ef20=>Xgq g20 true (fun k=>k (S.get 11)) (fun g21 r21=>Xgq g21 true (fun k=>k (S.get 7)) (fun g22 r22=>Xgq g22 true (fun k=>XvLen P 37 (M (Eff.hp ef20 ((S.nx+ef8.add.length)+ef11.add.length) (Eff.hp ef11 (S.nx+ef8.add.length) (Eff.hp ef8 S.nx S.hp))) (((S.nx+ef8.add.length)+ef11.add.length)+ef20.add.length)) r22 (fun r23 _=>k r23)) (fun g23 r23=>Xgq g23 true (fun k=>XvBinOV P .add 3 (.const (.int .i64 1)) r23 (.atom (.int .i64 1)) (fun r24 _=>k r24)) (fun g24 r24=>Xgq g24 true (fun k=>k (S.get 13)) (fun g25 r25=>Xgq g25 true (fun k=>XvBinOV P .add 3 (.tmp 129) r24 r25 (fun r26 _=>k r26)) (fun g26 r26=>Xge g26 true (fun k=>XvFnIV P (M (Eff.hp ef20 ((S.nx+ef8.add.length)+ef11.add.length) (Eff.hp ef11 (S.nx+ef8.add.length) (Eff.hp ef8 S.nx S.hp))) (((S.nx+ef8.add.length)+ef11.add.length)+ef20.add.length)) (.fn 37 []) [r21,r26] k) (fun g27 r27 ef27=>Xgq g27 true (fun k=>XvBinOV P .neq 4 (.tmp 131) r20 r27 (fun r28 _=>k r28)) (fun g28 r28=>Xgq g17 false (fun k=>XvPick g28 r28 (.atom (.bool false)) (fun r29 _=>k r29)) (fun g29 r29=>XvPick g29 (.atom (.bool true)) r29 (fun r30 _=>K ⟨[(5,S.get 5),(7,S.get 7),(8,S.get 8),(11,S.get 11),(13,S.get 13),(134,r30)],(Eff.hp ef27 (((S.nx+ef8.add.length)+ef11.add.length)+ef20.add.length) (Eff.hp ef20 ((S.nx+ef8.add.length)+ef11.add.length) (Eff.hp ef11 (S.nx+ef8.add.length) (Eff.hp ef8 S.nx S.hp)))),((((S.nx+ef8.add.length)+ef11.add.length)+ef20.add.length)+ef27.add.length),S.gh⟩)))))))))))))))))))))))))))) fun K hK=>?_
   repeat' (first|(refine hK _ ?_;clear hK K)|((first|refine zaw (fun hg=>?_) (fun hg=>?_)|refine fun(hg:(_:Prop))=>?_)<;>((try simp only[BQ,List.length_map] at hg);try (cases hg;done);try (exfalso;omega)))|refine And.intro ?_ ?_|exact cl|refine .inl ⟨_,_,zgq os (i:Int) (by omega),?_⟩|refine .inl ⟨_,_,zgq ob (i:Int) (by omega),?_⟩|refine .inl ⟨_,_,zgq ob ((W.length:Int)+1+(i:Int)) (by omega),?_⟩|(refine st ?_;try simp only[encX,zaa,zac,zad,encF,zab,zai,zaj,↓SE,zae (x:=(i:Int)+1) (by omega) (by omega),zae (x:=(W.length:Int)+1) (by omega) (by omega),zae (x:=(W.length:Int)+1+(i:Int)) (by omega) (by omega),hA,hA2,hB,hB2,hco])|fail)
   all_goals try simp (disch:=omega) only[zae,zaf]
   all_goals
   refine Tri.cond rfl (fun h134=>?_) (fun h134=>?_)
   ·try (cases h134;done)
    all_goals (try simp only[CQ] at h134)
    all_goals
    refine sY [4] (fun P S K=>K ⟨[(4,(.atom (.bool false)))],S.hp,S.nx,S.gh⟩) ?_
    all_goals
    refine Tri.ret ?_
    show ResOk _ _ _ _
    done
   try (cases h134;done)
   all_goals (try simp only[CQ] at h134)
   all_goals
   refine Tri.skip ?_
   refine rY [5,7,8,11,13] (fun P S K=>XvBinOV P .add 3 (.const (.int .i64 1)) (S.get 13) (.atom (.int .i64 1)) (fun r1 _=>K ⟨[(5,S.get 5),(7,S.get 7),(8,S.get 8),(11,S.get 11),(13,r1)],S.hp,S.nx,S.gh⟩)) ?_
   all_goals try simp (disch:=omega) only[zae,zaf]
   all_goals
   refine⟨⟨i+1,by omega⟩,[0],by dsimp only;omega,?_⟩
   exact leqM36
  try (cases h49;done)
  all_goals (try simp only[CQ] at h49)
  all_goals
  refine Tri.exit ?_
  refine sZ [4] (fun P S K=>XvFnIV P (M S.hp S.nx) (.fn 20 []) [] (fun r0 ef0=>K ⟨[(4,r0)],(Eff.hp ef0 S.nx S.hp),(S.nx+ef0.add.length),S.gh⟩)) fun K hK=>?_
  repeat' (first|(refine hK _ ?_;clear hK K)|refine And.intro ?_ ?_|exact cl|refine .inl ⟨_,_,htx,?_⟩|refine .inl ⟨_,_,hw1,?_⟩|refine .inl ⟨_,_,hopW,?_⟩|refine .inl ⟨_,_,hj1,?_⟩|refine .inl ⟨_,_,hj2,?_⟩|refine .inl ⟨_,_,hlv,?_⟩|(refine st ?_;try simp only[encX,zaa,zac,zad,encF,zab,zai,zaj])|fail)
  all_goals
  refine Tri.ret ?_
  show ResOk _ _ _ _
  exact ResOk.val lsrM36 zb7
end Go.Proofs.YtehoglapajkabaaGreat
