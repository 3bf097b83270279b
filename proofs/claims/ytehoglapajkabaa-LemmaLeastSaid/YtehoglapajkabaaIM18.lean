/-
  The clean machine: a scope in which the run jumps back to a label;results in cells of a function that works on its caller's objects.
-/
import Derived.Test.YtehoglapajkabaaIM15
import Derived.ScopeJumps
import Derived.Deep.LoopGhost
import Derived.Test.YtehoglapajkabaaIM0
set_option linter.all false
namespace Go.Proofs.Ytehoglapajkabaa
open Go Go.RowKit
def jumpQ (l:Nat) (R:St→Prop) (Q:Exit→St→Prop):Exit→St→Prop
  | .goto l',S=>l'=l∧R S
  | e,S=>Q e S
section
variable {P:Program} {n:Nat} {S:St} {Q:Exit→St→Prop}
theorem Tri.goto{l:Nat}(h:Q (.goto l) S):Tri P n (.goto l) S Q:=fun _ _ D μ F _ _ _ hS=>wp_goto ⟨S,D,μ,F,h,hS⟩
theorem Tri.lab{l:Nat}(h:Q .normal S):Tri P n (.label l) S Q:=fun _ _ D μ F _ _ _ hS=>wp_label ⟨S,D,μ,F,h,hS⟩
theorem Tri.jumps{α:Type}{c rest:Code}(l:Nat) (S0:α→St) (m:α→Nat) (hf:findLabel c l=some (.seq .skip rest))
    (pass:∀x,Tri P n rest (S0 x) (jumpQ l (fun S'=>∃y L,m y<m x∧Leq L S' (S0 y)) Q))
    (first:(∀x,Tri P n rest (S0 x) (jumpQ l (fun S'=>∃y L,Leq L S' (S0 y)) Q))→Tri P n c S (jumpQ l (fun S'=>∃y L,Leq L S' (S0 y)) Q)):Tri P n (.scope c) S Q:=fun w0 F0 D μ F G a w hS=>by
  let J:Nat→Act→World→Prop:=fun k a w=>∃x D μ F,m x=k∧Sim w0 F0 D μ F G (S0 x) n a w
  have first':=first fun x=>Tri.mono (pass x) fun e S' h=>by
    cases e with
    | goto l'=>obtain⟨h1,y,L,_,h2⟩:=h;exact⟨h1,y,L,h2⟩
    | _=>exact h
  refine wp_scope_jumps l (fun a w=>∃k,J k a w) (fun a w=>leastOf fun k=>J k a w) hf (wp_mono (first' w0 F0 D μ F G a w hS) fun e a' w' ⟨S',D',μ',F',h1,h2⟩=>?_) fun a1 w1 hJ=>?_
  · cases e with
    | goto l'=>obtain⟨h1,y,L,h3⟩:=h1;exact⟨h1,m y,y,_,_,_,rfl,h2.leq h3⟩
    | _=>exact⟨S',D',μ',F',h1,h2⟩
  · obtain⟨x,D1,μ1,F1,hk,hSx⟩:=(leastOf_spec hJ).1
    refine wp_mono (Tri.seq (x:=.skip) (Tri.skip (pass x)) w0 F0 D1 μ1 F1 G a1 w1 hSx) fun e a' w' ⟨S',D',μ',F',h1,h2⟩=>?_
    cases e with
    | goto l'=>
      obtain⟨h1,y,L,hlt,h3⟩:=h1
      have hy:J (m y) a' w':=⟨y,_,_,_,rfl,h2.leq h3⟩
      exact⟨h1,⟨m y,hy⟩,Nat.lt_of_le_of_lt ((leastOf_spec (p:=fun k=>J k a' w') ⟨m y,hy⟩).2 _ hy) (by rw[←hk];exact hlt)⟩
    | _=>exact⟨S',D',μ',F',h1,h2⟩
end
set_option maxRecDepth 20000
set_option maxHeartbeats 1000000
def allE (x:LexD) (w:ByteArray):List FormD:=if errX x [w]=0 then allX x w else []
theorem zhB (x:LexD) (w:ByteArray) (hx:HeldX x) (hw:w.size≤9223372036854775807):Pure Try.prog 12 [encX x,encS w] (.tup [zaa (allE x w),encI (errX x [w])]) []:=by
  refine Pure.intro (ts:=[4,5]) Try.func12 (by kernel_rfl) rfl rfl rfl (Nat.le_of_ble_eq_true rfl) ?_ ?_
  · simp[zaR,encS,PV.pure,zaw]
  refine sZ [1,2] (fun P S K=>XvBox S.nx (S.get 0) (fun r0 ef0=>K ⟨[(1,S.get 1),(2,r0)],(Eff.hp ef0 S.nx S.hp),(S.nx+ef0.add.length),S.gh⟩)) fun K hK=>?_
  repeat' (first|(refine hK _ ?_;clear hK K)|refine And.intro ?_ ?_|exact cl|(refine st ?_;try simp only[encX,zaa,zab,zac,zad])|fail)
  all_goals
  refine Tri.seq ?_
  refine sZ [1,2,6] (fun P S K=>XvLoad P 27 (M S.hp S.nx) (S.get 2) (fun r0 _=>XvFnIV P (M S.hp S.nx) (.fn 27 []) [r0] (fun r1 ef1=>K ⟨[(1,S.get 1),(2,S.get 2),(6,r1)],(Eff.hp ef1 S.nx S.hp),(S.nx+ef1.add.length),S.gh⟩))) fun K hK=>?_
  repeat' (first|(refine hK _ ?_;clear hK K)|refine .inl ⟨_,_,zef x hx,?_⟩|(refine st ?_;try simp only[encX,zaa,zab,zac,zad])|fail)
  all_goals
  refine sY [1,2,6,10] (fun P S K=>XvBinOV P .neq 41 (.const (.int .i64 0)) (S.get 6) (.atom (.int .i64 0)) (fun r1 _=>K ⟨[(1,S.get 1),(2,S.get 2),(6,S.get 6),(10,r1)],S.hp,S.nx,S.gh⟩)) ?_
  all_goals
  refine Tri.cond rfl (fun h10=>?_) (fun h10=>?_)
  ·try (cases h10;done)
   all_goals (try simp only[CQ] at h10)
   all_goals
   refine sY [4,5] (fun P S K=>K ⟨[(4,(.atom (.slice none 0 0))),(5,(S.get 6))],S.hp,S.nx,S.gh⟩) ?_
   refine Tri.asSl 4 3 rfl ?_
   all_goals
   refine Tri.ret ?_
   show ResOk _ _ _ _
   have e1:errX x [w]=zbc x:=by unfold errX;rw[if_pos (by assumption)]
   rw[show allE x w=[] from if_neg (by rw[e1];assumption),e1]
   exact ResOk.val zci zca
  try (cases h10;done)
  all_goals (try simp only[CQ] at h10)
  all_goals
  refine Tri.skip ?_
  refine Tri.seq ?_
  refine sZ [1,2,15] (fun P S K=>XvBuildS P 35 1 S.nx [(0,(S.get 1))] (fun r1 ef1=>XvFnIV P (M (Eff.hp ef1 S.nx S.hp) (S.nx+ef1.add.length)) (.fn 28 []) [r1] (fun r2 ef2=>XvUn .not r2 (fun r3 _=>K ⟨[(1,S.get 1),(2,S.get 2),(15,r3)],(Eff.hp ef2 (S.nx+ef1.add.length) (Eff.hp ef1 S.nx S.hp)),((S.nx+ef1.add.length)+ef2.add.length),S.gh⟩)))) fun K hK=>?_
  repeat' (first|(refine hK _ ?_;clear hK K)|refine And.intro ?_ ?_|exact cl|refine .inl ⟨_,_,zfM [w] (by simp) (by simpa using hw),?_⟩|(refine st ?_;try simp only[encX,zaa,zab,zac,zad])|fail)
  all_goals try simp (disch:=omega) only[zae,zaf]
  all_goals
  refine Tri.cond rfl (fun h15=>?_) (fun h15=>?_)
  ·try (cases h15;done)
   all_goals (try simp only[CQ] at h15)
   all_goals
   refine sY [4,5] (fun P S K=>K ⟨[(4,(.atom (.slice none 0 0))),(5,(.atom (.int .i64 1)))],S.hp,S.nx,S.gh⟩) ?_
   refine Tri.asSl 4 3 rfl ?_
   all_goals
   refine Tri.ret ?_
   show ResOk _ _ _ _
   have e1:errX x [w]=1:=by unfold errX;rw[if_neg (by simp_all),if_neg (by simp_all)]
   rw[show allE x w=[] from if_neg (by rw[e1];decide),e1]
   exact ResOk.val zci zca
  try (cases h15;done)
  all_goals (try simp only[CQ] at h15)
  all_goals
  refine Tri.skip ?_
  refine sZ [4,5] (fun P S K=>XvLoad P 27 (M S.hp S.nx) (S.get 2) (fun r0 _=>XvFnIV P (M S.hp S.nx) (.fn 29 []) [r0,(S.get 1)] (fun r2 ef2=>K ⟨[(4,r2),(5,(.atom (.int .i64 0)))],(Eff.hp ef2 S.nx S.hp),(S.nx+ef2.add.length),S.gh⟩))) fun K hK=>?_
  repeat' (first|(refine hK _ ?_;clear hK K)|refine .inl ⟨_,_,zjr x w hx (zjc (by simp_all)),?_⟩|(refine st ?_;try simp only[encX,zaa,zab,zac,zad])|fail)
  all_goals
  refine Tri.ret ?_
  show ResOk _ _ _ _
  have e1:errX x [w]=0:=by unfold errX;rw[if_neg (by simp_all),if_pos (by simp_all)]
  rw[show allE x w=allX x w from if_pos e1,e1]
  exact ResOk.val zci zca
def idxG (g:FormD→Bool) (l:List FormD):Int:=match l.findIdx? g with|some k=>k|none => -1
theorem zq3{g:FormD→Bool}{l:List FormD}(h:∀j,j<l.length→g (fF l j)=false):idxG g l = -1:=by
  unfold idxG
  rw[List.findIdx?_eq_none_iff.2 fun x hx=>by
    obtain⟨j,hj,rfl⟩:=List.getElem_of_mem hx
    have:=h j hj
    rwa [zek hj] at this]
theorem idxG_at{g:FormD→Bool}{l:List FormD}{k:Nat}(hk:k<l.length) (h:∀j,j<k→g (fF l j)=false) (hg:g (fF l k)=true):idxG g l=k:=by
  unfold idxG
  rw[List.findIdx?_eq_some_iff_getElem.2 ⟨hk,by rw[←zek hk];exact hg,fun j hj=>by rw[←zek (by omega),h j hj];decide⟩]
theorem idxG_any (g:FormD→Bool) (l:List FormD):decide (0≤idxG g l)=l.any g:=by
  unfold idxG
  cases h:l.findIdx? g with
  | none=>
    rw[List.findIdx?_eq_none_iff] at h
    rw[decide_eq_false (by decide)]
    exact(List.any_eq_false.2 fun x hx=>by rw[h x hx];decide).symm
  | some k=>
    obtain⟨hk,hg,_⟩:=List.findIdx?_eq_some_iff_getElem.1 h
    have h0:(0:Int)≤(k:Int):=by omega
    refine(decide_eq_true h0).trans ?_
    exact(List.any_eq_true.2 ⟨_,List.getElem_mem hk,hg⟩).symm
theorem zlC (l:List FormD) (g:FormD→Bool) (f:FuncId) (c:ByteArray) (hg:∀s,s∈l→Pure Try.prog f [encF s,.fptr 1 [encS c] 0 0] (.atom (.bool (g s))) []) (hl:l.length≤1000000000):Pure Try.prog 80 [zaa l,.fn f [.fptr 1 [encS c] 0 0]] (encI (idxG g l)) []:=by
  refine Pure.intro (ts:=[4]) Try.func80 (by kernel_rfl) rfl rfl rfl (Nat.le_of_ble_eq_true rfl) ?_ ?_
  · simp[zaa,zaH,PV.pure,zaw,encS]
  refine sY [0,1] (fun P S K=>K ⟨[(0,S.get 0),(1,S.get 1)],S.hp,S.nx,S.gh⟩) ?_
  all_goals
  refine Tri.seq ?_
  refine sZ [0,1,7,8] (fun P S K=>XvLen P 23 (M S.hp S.nx) (S.get 0) (fun r1 _=>K ⟨[(0,S.get 0),(1,S.get 1),(7,r1),(8,(.atom (.int .i64 0)))],S.hp,S.nx,S.gh⟩)) fun K hK=>?_
  repeat' (first|(refine hK _ ?_;clear hK K)|(refine st ?_;try simp only[zaa,encF])|fail)
  all_goals
  refine Tri.block ?_
  refine Tri.loop (α:=(i:Nat) ×' (i≤l.length∧∀j,j<i→g (fF l j)=false)) (fun z=>(fun(i:Nat)=>(⟨[(0,zaa l),(1,.fn f [.fptr 1 [encS c] 0 0]),(7,encI l.length),(8,encI i)],[],0,[]⟩:St)) z.1) (fun z=>(fun(i:Nat)=>l.length - i) z.1) ⟨0,⟨Nat.zero_le _,fun j hj=>absurd hj (Nat.not_lt_zero _)⟩⟩ [] ?_ ?_
  ·exact zbm
  rintro⟨i,⟨hi,hno⟩⟩
  refine sY [0,1,7,8,9] (fun P S K=>XvBinOV P .lss 3 (.tmp 7) (S.get 8) (S.get 7) (fun r0 _=>K ⟨[(0,S.get 0),(1,S.get 1),(7,S.get 7),(8,S.get 8),(9,r0)],S.hp,S.nx,S.gh⟩)) ?_
  all_goals
  refine Tri.seq ?_
  refine Tri.cond rfl (fun h9=>?_) (fun h9=>?_)
  ·try (cases h9;done)
   all_goals (try simp only[CQ] at h9)
   all_goals
   refine Tri.skip ?_
   refine Tri.seq ?_
   refine Tri.block ?_
   have hil:i<l.length:=by omega
   refine sY [0,1,5,7,8] (fun P S K=>K ⟨[(0,S.get 0),(1,S.get 1),(5,(S.get 8)),(7,S.get 7),(8,S.get 8)],S.hp,S.nx,S.gh⟩) ?_
   all_goals
   refine sZ [0,1,5,7,8,16] (fun P S K=>XvIndexAddr P 23 (S.get 0) (S.get 5) (fun r3 _=>XvLoad P 40 (M S.hp S.nx) r3 (fun r4 _=>XvFnIV P (M S.hp S.nx) (S.get 1) [r4] (fun r5 ef5=>K ⟨[(0,S.get 0),(1,S.get 1),(5,S.get 5),(7,S.get 7),(8,S.get 8),(16,r5)],(Eff.hp ef5 S.nx S.hp),(S.nx+ef5.add.length),S.gh⟩)))) fun K hK=>?_
   repeat' (first|(refine hK _ ?_;clear hK K)|refine And.intro ?_ ?_|exact cl|refine .inl ⟨_,_,hg _ (zdp hil),?_⟩|(refine st ?_;try simp only[zaa,encF,zba hil])|fail)
   all_goals
   refine Tri.cond rfl (fun h16=>?_) (fun h16=>?_)
   ·try (cases h16;done)
    all_goals (try simp only[CQ] at h16)
    all_goals
    refine sY [4] (fun P S K=>K ⟨[(4,(S.get 5))],S.hp,S.nx,S.gh⟩) ?_
    all_goals
    refine Tri.ret ?_
    show ResOk _ _ _ _
    rw[idxG_at hil hno (by assumption)]
    exact ResOk.val zci zca
   try (cases h16;done)
   all_goals (try simp only[CQ] at h16)
   all_goals
   refine Tri.skip ?_
   refine rY [0,1,7,8] (fun P S K=>XvBinOV P .add 3 (.const (.int .i64 1)) (S.get 8) (.atom (.int .i64 1)) (fun r0 _=>K ⟨[(0,S.get 0),(1,S.get 1),(7,S.get 7),(8,r0)],S.hp,S.nx,S.gh⟩)) ?_
   all_goals try simp (disch:=omega) only[zae,zaf]
   all_goals
   refine⟨⟨i+1,by omega,fun j hj=>?_⟩,[],by dsimp only;omega,?_⟩
   · rcases Nat.lt_succ_iff_lt_or_eq.1 hj with hj|rfl
     · exact hno j hj
     · assumption
   · exact zbm
  try (cases h9;done)
  all_goals (try simp only[CQ] at h9)
  all_goals
  refine Tri.exit ?_
  refine sY [4] (fun P S K=>K ⟨[(4,(.atom (.int .i64 (-1))))],S.hp,S.nx,S.gh⟩) ?_
  all_goals
  refine Tri.ret ?_
  show ResOk _ _ _ _
  rw[zq3 fun j hj=>hno j (by omega)]
  exact ResOk.val zci zca
theorem zrL (l:List FormD) (g:FormD→Bool) (f:FuncId) (c:ByteArray) (hg:∀s,s∈l→Pure Try.prog f [encF s,.fptr 1 [encS c] 0 0] (.atom (.bool (g s))) []) (hl:l.length≤1000000000):Pure Try.prog 61 [zaa l,.fn f [.fptr 1 [encS c] 0 0]] (.atom (.bool (l.any g))) []:=by
  refine Pure.intro (ts:=[4]) Try.func61 (by kernel_rfl) rfl rfl rfl (Nat.le_of_ble_eq_true rfl) ?_ ?_
  · simp[zaa,zaH,PV.pure,zaw,encS]
  refine sY [0,1] (fun P S K=>K ⟨[(0,S.get 0),(1,S.get 1)],S.hp,S.nx,S.gh⟩) ?_
  all_goals
  refine sZ [4] (fun P S K=>XvFnIV P (M S.hp S.nx) (.fn 80 []) [(S.get 0),(S.get 1)] (fun r2 ef2=>XvBinOV P .geq 3 (.const (.int .i64 0)) r2 (.atom (.int .i64 0)) (fun r3 _=>K ⟨[(4,r3)],(Eff.hp ef2 S.nx S.hp),(S.nx+ef2.add.length),S.gh⟩))) fun K hK=>?_
  repeat' (first|(refine hK _ ?_;clear hK K)|refine And.intro ?_ ?_|exact cl|refine .inl ⟨_,_,zlC l g f c hg hl,?_⟩|(refine st ?_;try simp only[zaa])|fail)
  all_goals
  refine Tri.ret ?_
  show ResOk _ _ _ _
  rw[←idxG_any]
  exact ResOk.val zci zca
def entB (x:LexD) (u:ByteArray):PV:=.tup [encS u,zaa (allX x u)]
def za3 (x:LexD):PV:=.agg [zaa x.forms,zab x.rules,zac x.prefs,.mp 1]
def hpB (x:LexD) (kn:List ByteArray):List AO:=[⟨4,[za3 x]⟩,⟨0,kn.map (entB x)⟩]
theorem zcH (x:LexD) (kn:List ByteArray):zaw (kn.map (entB x))=true:=zbh (entB x) (fun u=>by simp[entB,encS,PV.pure,zaw,zaK]) kn
theorem zbU (H:Nat→Option AO) (keep:Nat→Bool) (n:Nat) (x:LexD) (l:List ByteArray):(l.map (entB x)).map (sealed H keep n)=l.map (entB x):=zak H keep n (zcH x l)
theorem zbV (ρ:Nat→Nat) (x:LexD) (l:List ByteArray):(l.map (entB x)).map (PV.ren ρ)=l.map (entB x):=zaO ρ (zcH x l)
theorem zh9{x:LexD}{kn:List ByteArray}(hs:∀s,s∈kn→s.size≤140737488355328):∀e,e∈kn.map (entB x)→∃q v,e=.tup [q,v]∧zeg Try.prog 9 q:=fun e he=>by
  obtain⟨s,hm,rfl⟩:=List.mem_map.1 he
  exact⟨_,_,rfl,zdZ (by kernel_rfl) (by have:=hs s hm;omega)⟩
theorem zmc{x:LexD}{kn:List ByteArray}{w:ByteArray}(hs:∀s,s∈kn→s.size≤140737488355328) (hw:w.size≤140737488355328) (h:w∈kn):MapGet Try.prog 9 (kn.map (entB x)) (encS w) (some (zaa (allX x w))):=
  MapGet.hit (Maps.string_keyed (by kernel_rfl)) (zh9 hs) (zdZ (by kernel_rfl) (by omega)) (List.mem_map.2 ⟨w,h,rfl⟩)
theorem zjl{x:LexD}{kn:List ByteArray}{w:ByteArray}(hs:∀s,s∈kn→s.size≤140737488355328) (hw:w.size≤140737488355328) (h:w∉kn):MapGet Try.prog 9 (kn.map (entB x)) (encS w) none:=
  MapGet.miss (Maps.string_keyed (by kernel_rfl)) (zh9 hs) (zdZ (by kernel_rfl) (by omega)) (fun v hv=>by
    obtain⟨u,hu,e⟩:=List.mem_map.1 hv
    simp only[entB,PV.tup.injEq,List.cons.injEq,encS,PV.atom.injEq,Value.string.injEq] at e
    exact h (e.1▸hu))
theorem zmb{x:LexD}{kn:List ByteArray}{w:ByteArray}(hs:∀s,s∈kn→s.size≤140737488355328) (hw:w.size≤140737488355328) (h:w∉kn):MapPut Try.prog 9 (kn.map (entB x)) (encS w) (zaa (allX x w)) ((kn++[w]).map (entB x)):=
  ⟨Maps.string_keyed (by kernel_rfl),zh9 hs,zdZ (by kernel_rfl) (by omega),.inr ⟨fun u hu=>by
    obtain⟨y,hy,e⟩:=List.mem_map.1 hu
    simp only[entB,PV.tup.injEq,List.cons.injEq,encS,PV.atom.injEq,Value.string.injEq] at e
    exact h (e.1▸hy),by rw[List.map_append];rfl⟩⟩
theorem ResP.book{S:St}{ts:List Nat}{r:PV}{x:LexD}{kn kn':List ByteArray}(hr:retV S ts=r) (hp:r.pure=true) (hg:S.gh=[.mark 0,.mark 1]) (h0:S.obj 0=some ⟨4,[za3 x]⟩) (h1:S.obj 1=some ⟨0,kn'.map (entB x)⟩):ResP S ts r (hpB x kn) ((hpB x kn').map some) []:=by
  refine ResP.of [0,1] (by rw[hr,zas _ _ _ hp,za8 _ _ hp]) rfl (by decide) hg rfl (fun i hi=>?_) (fun i o ho=>?_)
  · match i,hi with
    | 0,_|1,_=>rfl
  · match i,ho with
    | 0,ho=>
      cases ho
      refine⟨_,h0,rfl,?_⟩
      simp[za3,sealed,PV.ren,renL,rmap,zaa,zab,zac,zaD,zaE,zaG,zad,zai,zaj,-List.map_map]
    | 1,ho=>
      cases ho
      refine⟨_,h1,rfl,?_⟩
      rw[zbU,zbV]
theorem ball_hit (x:LexD) (kn:List ByteArray) (w:ByteArray) (hs:∀s,s∈kn→s.size≤140737488355328) (hw:w.size≤140737488355328) (h:w∈kn):Proc Try.prog 43 [.ptr 0 4 0 0,encS w] (hpB x kn) (zaa (allX x w)) ((hpB x kn).map some) []:=by
  unfold hpB
  refine Proc.intro (ts:=[4]) Try.func43 (by kernel_rfl) rfl rfl rfl (Nat.le_of_ble_eq_true rfl) rfl ?_
  simp only[za9,zbw,List.map_cons,List.map_nil,List.length_cons,List.length_nil,Nat.zero_add,Nat.reduceAdd]
  refine sY [0,1] (fun P S K=>K ⟨[(0,S.get 0),(1,S.get 1)],S.hp,S.nx,S.gh⟩) ?_
  all_goals
  refine sZ [0,1,5,6] (fun P S K=>XvNil (S.get 0) (fun r1 _=>XvFieldAddr P 113 1 r1 (fun r2 _=>XvLoad P 111 (M S.hp S.nx) r2 (fun r3 _=>XvLookup P 111 (M S.hp S.nx) r3 (S.get 1) true (fun r5 _=>XvExtract r5 0 (fun r7 _=>XvExtract r5 1 (fun r8 _=>K ⟨[(0,S.get 0),(1,S.get 1),(5,r7),(6,r8)],S.hp,S.nx,S.gh⟩))))))) fun K hK=>?_
  repeat' (first|(refine hK _ ?_;clear hK K)|refine And.intro ?_ ?_|refine⟨_,zmc hs hw h,?_⟩|(refine st ?_;try simp only[za3,zaa,zab,zac])|refine sx ?_ (by simp only[za3,zaa,zab,zac];exact rfl)|fail)
  all_goals
  refine Tri.seq ?_
  refine sY [0,1,5,17] (fun P S K=>XvUn .not (S.get 6) (fun r1 _=>K ⟨[(0,S.get 0),(1,S.get 1),(5,S.get 5),(17,r1)],S.hp,S.nx,S.gh⟩)) ?_
  all_goals try simp (disch:=omega) only[zae,zaf]
  all_goals
  refine Tri.cond rfl (fun h17=>?_) (fun h17=>?_)
  ·try (cases h17;done)
   all_goals (try simp only[CQ] at h17)
   all_goals
   refine sZ [0,1,5] (fun P S K=>XvNil (S.get 0) (fun r1 _=>XvFieldAddr P 113 0 r1 (fun r2 _=>XvLoad P 27 (M S.hp S.nx) r2 (fun r3 _=>XvFnIV P (M S.hp S.nx) (.fn 29 []) [r3,(S.get 1)] (fun r5 ef5=>K ⟨[(0,S.get 0),(1,S.get 1),(5,r5)],(Eff.hp ef5 S.nx S.hp),(S.nx+ef5.add.length),S.gh⟩))))) fun K hK=>?_
   skip
   all_goals
   refine rZ [5] (fun P S K=>XvNil (S.get 0) (fun r1 _=>XvFieldAddr P 113 1 r1 (fun r2 _=>XvLoad P 111 (M S.hp S.nx) r2 (fun r3 _=>XvUpdate P 111 (M S.hp S.nx) r3 (S.get 1) (S.get 5) (fun r6 ef6=>K ⟨[(5,S.get 5)],(Eff.hp ef6 S.nx S.hp),(S.nx+ef6.add.length),S.gh⟩))))) fun K hK=>?_
   repeat' (first|(refine hK _ ?_;clear hK K)|refine And.intro ?_ ?_|refine⟨_,zmc hs hw h,?_⟩|(refine st ?_;try simp only[za3,zaa,zab,zac])|refine sx ?_ (by simp only[za3,zaa,zab,zac];exact rfl)|fail)
   all_goals
   refine sY [4] (fun P S K=>K ⟨[(4,(S.get 5))],S.hp,S.nx,S.gh⟩) ?_
   all_goals
   refine Tri.ret ?_
   show ResP _ _ _ _ _ _
   exact ResP.book rfl (zaK _) rfl rfl rfl
  try (cases h17;done)
  all_goals (try simp only[CQ] at h17)
  all_goals
  refine Tri.skip ?_
  refine sY [4] (fun P S K=>K ⟨[(4,(S.get 5))],S.hp,S.nx,S.gh⟩) ?_
  all_goals
  refine Tri.ret ?_
  show ResP _ _ _ _ _ _
  exact ResP.book rfl (zaK _) rfl rfl rfl
theorem zrx (x:LexD) (kn:List ByteArray) (w:ByteArray) (hx:HeldX x) (hs:∀s,s∈kn→s.size≤140737488355328) (hw:w.size≤140737488355328) (h:w∉kn):Proc Try.prog 43 [.ptr 0 4 0 0,encS w] (hpB x kn) (zaa (allX x w)) ((hpB x (kn++[w])).map some) []:=by
  unfold hpB
  refine Proc.intro (ts:=[4]) Try.func43 (by kernel_rfl) rfl rfl rfl (Nat.le_of_ble_eq_true rfl) rfl ?_
  simp only[za9,zbw,List.map_cons,List.map_nil,List.length_cons,List.length_nil,Nat.zero_add,Nat.reduceAdd]
  refine sY [0,1] (fun P S K=>K ⟨[(0,S.get 0),(1,S.get 1)],S.hp,S.nx,S.gh⟩) ?_
  all_goals
  refine sZ [0,1,5,6] (fun P S K=>XvNil (S.get 0) (fun r1 _=>XvFieldAddr P 113 1 r1 (fun r2 _=>XvLoad P 111 (M S.hp S.nx) r2 (fun r3 _=>XvLookup P 111 (M S.hp S.nx) r3 (S.get 1) true (fun r5 _=>XvExtract r5 0 (fun r7 _=>XvExtract r5 1 (fun r8 _=>K ⟨[(0,S.get 0),(1,S.get 1),(5,r7),(6,r8)],S.hp,S.nx,S.gh⟩))))))) fun K hK=>?_
  repeat' (first|(refine hK _ ?_;clear hK K)|refine And.intro ?_ ?_|refine⟨_,zjl hs hw h,?_⟩|refine⟨_,zmb hs hw h,?_⟩|(refine st ?_;try simp only[za3,zaa,zab,zac,zad])|refine sx ?_ (by simp only[za3,zaa,zab,zac,zad];exact rfl)|fail)
  all_goals
  refine Tri.seq ?_
  refine sY [0,1,5,17] (fun P S K=>XvUn .not (S.get 6) (fun r1 _=>K ⟨[(0,S.get 0),(1,S.get 1),(5,S.get 5),(17,r1)],S.hp,S.nx,S.gh⟩)) ?_
  all_goals try simp (disch:=omega) only[zae,zaf]
  all_goals
  refine Tri.cond rfl (fun h17=>?_) (fun h17=>?_)
  ·try (cases h17;done)
   all_goals (try simp only[CQ] at h17)
   all_goals
   refine sZ [0,1,5] (fun P S K=>XvNil (S.get 0) (fun r1 _=>XvFieldAddr P 113 0 r1 (fun r2 _=>XvLoad P 27 (M S.hp S.nx) r2 (fun r3 _=>XvFnIV P (M S.hp S.nx) (.fn 29 []) [r3,(S.get 1)] (fun r5 ef5=>K ⟨[(0,S.get 0),(1,S.get 1),(5,r5)],(Eff.hp ef5 S.nx S.hp),(S.nx+ef5.add.length),S.gh⟩))))) fun K hK=>?_
   repeat' (first|(refine hK _ ?_;clear hK K)|refine .inl ⟨_,_,zjr x w hx hw,?_⟩|(refine st ?_;try simp only[za3,zaa,zab,zac,zad])|fail)
   all_goals
   refine rZ [5] (fun P S K=>XvNil (S.get 0) (fun r1 _=>XvFieldAddr P 113 1 r1 (fun r2 _=>XvLoad P 111 (M S.hp S.nx) r2 (fun r3 _=>XvUpdate P 111 (M S.hp S.nx) r3 (S.get 1) (S.get 5) (fun r6 ef6=>K ⟨[(5,S.get 5)],(Eff.hp ef6 S.nx S.hp),(S.nx+ef6.add.length),S.gh⟩))))) fun K hK=>?_
   repeat' (first|(refine hK _ ?_;clear hK K)|refine And.intro ?_ ?_|refine⟨_,zjl hs hw h,?_⟩|refine⟨_,zmb hs hw h,?_⟩|(refine st ?_;try simp only[za3,zaa,zab,zac,zad])|refine sx ?_ (by simp only[za3,zaa,zab,zac,zad];exact rfl)|fail)
   all_goals
   refine sY [4] (fun P S K=>K ⟨[(4,(S.get 5))],S.hp,S.nx,S.gh⟩) ?_
   all_goals
   refine Tri.ret ?_
   show ResP _ _ _ _ _ _
   exact ResP.book rfl (zaK _) rfl rfl rfl
  try (cases h17;done)
  all_goals (try simp only[CQ] at h17)
  all_goals
  refine Tri.skip ?_
  refine sY [4] (fun P S K=>K ⟨[(4,(S.get 5))],S.hp,S.nx,S.gh⟩) ?_
  all_goals
  refine Tri.ret ?_
  show ResP _ _ _ _ _ _
  exact ResP.book rfl (zaK _) rfl rfl rfl
theorem zjW (x:LexD) (kn:List ByteArray) (w:ByteArray) (hx:HeldX x) (hs:∀s,s∈kn→s.size≤140737488355328) (hw:w.size≤140737488355328):Proc Try.prog 43 [.ptr 0 4 0 0,encS w] (hpB x kn) (zaa (allX x w)) ((hpB x (putS kn w)).map some) []:=by
  unfold putS
  by_cases h:w∈kn
  · rw[if_pos (hasS_iff.2 h)];exact ball_hit x kn w hs hw h
  · rw[if_neg (mt hasS_iff.1 h)];exact zrx x kn w hx hs hw h
theorem zgA{kn:List ByteArray}{w:ByteArray}(hs:∀s,s∈kn→s.size≤140737488355328) (hw:w.size≤140737488355328):∀s,s∈putS kn w→s.size≤140737488355328:=fun s h=>(mem_putS.1 h).elim (hs s) (fun e=>e▸hw)
theorem zrw (f:FormD) (c:ByteArray):Pure Try.prog 62 [encF f,.fptr 1 [encS c] 0 0] (.atom (.bool (!decide (f.cls=c)))) []:=by
  refine Pure.intro (ts:=[3]) Try.func62 (by kernel_rfl) rfl rfl rfl (Nat.le_of_ble_eq_true rfl) ?_ ?_
  · simp[encF,encS,PV.pure,zaw]
  refine sZ [1,2] (fun P S K=>XvBox S.nx (S.get 0) (fun r0 ef0=>K ⟨[(1,S.get 1),(2,r0)],(Eff.hp ef0 S.nx S.hp),(S.nx+ef0.add.length),S.gh⟩)) fun K hK=>?_
  repeat' (first|(refine hK _ ?_;clear hK K)|refine And.intro ?_ ?_|exact cl|(refine st ?_;try simp only[encF])|fail)
  all_goals
  refine sZ [3] (fun P S K=>XvFieldAddr P 40 2 (S.get 2) (fun r0 _=>XvLoad P 9 (M S.hp S.nx) r0 (fun r1 _=>XvLoad P 9 (M S.hp S.nx) (S.get 1) (fun r2 _=>XvBinOV P .neq 9 (.tmp 6) r1 r2 (fun r3 _=>K ⟨[(3,r3)],S.hp,S.nx,S.gh⟩))))) fun K hK=>?_
  repeat' (first|(refine hK _ ?_;clear hK K)|refine And.intro ?_ ?_|exact cl|(refine st ?_;try simp only[encF])|fail)
  all_goals
  refine Tri.ret ?_
  show ResOk _ _ _ _
  exact ResOk.val zci zca
def zhc (x:LexD) (b:Nat):PV:=.agg [zaa x.forms,zab x.rules,zac x.prefs,.mp b]
theorem vProc.bk{P:Program}{S:St}{f:FuncId}{vals args:List PV}{r:PV}{K:PV→Eff→Prop}{x:LexD}{kn kn':List ByteArray}(a b:Nat) (hpr:Proc P f args (hpB x kn) r ((hpB x kn').map some) []) (hab:[a,b].Nodup) (hr:r.pure=true)
    (hv:vals=args.map (PV.ren (rmap [a,b] S.nx))) (h0:S.obj a=some ⟨4,[zhc x b]⟩) (h1:S.obj b=some ⟨0,kn.map (entB x)⟩) (hk:K r ⟨[],[],[(a,⟨4,[zhc x b]⟩),(b,⟨0,kn'.map (entB x)⟩)],[]⟩):vProc P S f vals K:=by
  refine vProc.of [a,b] hpr hab rfl hv (fun i o hi=>?_) ?_
  · match i,hi with
    | 0,hi=>
      cases hi
      have:S.obj (rmap [a,b] S.nx 0)=some ⟨4,[zhc x b]⟩:=h0
      rw[this]
      simp[AO.ren,za3,zhc,PV.ren,renL,rmap,zaa,zab,zac,zad,zai,zaj]
    | 1,hi=>
      cases hi
      have:S.obj (rmap [a,b] S.nx 1)=some ⟨0,kn.map (entB x)⟩:=h1
      rw[this]
      simp[AO.ren,zbV,-List.map_map]
  · rw[za8 _ _ hr]
    have e:zaW (pmap [a,b] S.nx) [a,b] ((hpB x kn').map some)=[(a,⟨4,[zhc x b]⟩),(b,⟨0,kn'.map (entB x)⟩)]:=by
      simp[hpB,zaW,AO.ren,za3,zhc,PV.ren,renL,pmap,zaa,zab,zac,zad,zai,zaj,zbV,-List.map_map]
    rw[e]
    exact hk
theorem zrA{x:LexD}(w:ByteArray) (hx:HeldX x):(allX x w).length≤2000001:=by
  have h1:=hx.nforms
  have h2:=hx.nrules
  have h3:=zlV x w
  rw[zmE]
  have:=zbu (rawX x w) []
  simp only[List.length_nil,Nat.zero_add] at this
  omega
def knB (kn ws:List ByteArray) (k:Int) (c:ByteArray):List ByteArray:=if c=.empty then kn else if 0≤k∧k<ws.length then putS kn (ls ws k.toNat) else kn
theorem zjV{x:LexD}{ws:List ByteArray}{k:Int}{c:ByteArray}(h:c≠.empty) (hk:¬ (0≤k∧k<ws.length)):zcJ x ws k c=false:=by
  unfold zcJ
  rw[decide_eq_false h,Bool.false_or]
  by_cases h0:0≤k
  · rw[decide_eq_false (show ¬k<ws.length by omega)];simp
  · rw[decide_eq_false h0];simp
theorem zlp{x:LexD}{ws:List ByteArray}{k:Int}{c:ByteArray}(h:c≠.empty) (hk:0≤k) (hk2:k<ws.length):zcJ x ws k c = !(allX x (ls ws k.toNat)).any fun f => !decide (f.cls=c):=by
  unfold zcJ
  rw[decide_eq_false h,Bool.false_or,decide_eq_true hk,decide_eq_true hk2,Bool.true_and,Bool.true_and]
  induction allX x (ls ws k.toNat) with
  | nil=>rfl
  | cons a l ih=>rw[List.all_cons,List.any_cons,ih];cases decide (a.cls=c)<;>rfl
theorem zmD (x:LexD) (kn ws:List ByteArray) (k:Int) (c:ByteArray) (hx:HeldX x) (hs:∀s,s∈kn→s.size≤140737488355328) (hw:∀s,s∈ws→s.size≤140737488355328) (hn:ws.length≤1000000):Proc Try.prog 44 [.ptr 0 4 0 0,strs ws,encI k,encS c] (hpB x kn) (.atom (.bool (zcJ x ws k c))) ((hpB x (knB kn ws k c)).map some) []:=by
  unfold hpB
  refine Proc.intro (ts:=[8]) Try.func44 (by kernel_rfl) rfl rfl rfl (Nat.le_of_ble_eq_true rfl) rfl ?_
  simp only[za9,zbw,List.map_cons,List.map_nil,List.length_cons,List.length_nil,Nat.zero_add,Nat.reduceAdd]
  refine sZ [0,1,2,7] (fun P S K=>XvBox S.nx (S.get 3) (fun r0 ef0=>K ⟨[(0,S.get 0),(1,S.get 1),(2,S.get 2),(7,r0)],(Eff.hp ef0 S.nx S.hp),(S.nx+ef0.add.length),S.gh⟩)) fun K hK=>?_
  repeat' (first|(refine hK _ ?_;clear hK K)|(refine st ?_;try simp only[za3,zaa,zab,zac,zad])|refine sx ?_ (by simp only[za3,zaa,zab,zac,zad];exact rfl)|fail)
  all_goals
  refine Tri.seq ?_
  refine sZ [0,1,2,7,10] (fun P S K=>XvLoad P 9 (M S.hp S.nx) (S.get 7) (fun r0 _=>XvBinOV P .eql 9 (.const (.string { data := #[] })) r0 (.atom (.string { data := #[] })) (fun r1 _=>K ⟨[(0,S.get 0),(1,S.get 1),(2,S.get 2),(7,S.get 7),(10,r1)],S.hp,S.nx,S.gh⟩))) fun K hK=>?_
  repeat' (first|(refine hK _ ?_;clear hK K)|(refine st ?_;try simp only[za3,zaa,zab,zac,zad])|refine sx ?_ (by simp only[za3,zaa,zab,zac,zad];exact rfl)|fail)
  all_goals
  refine Tri.cond rfl (fun h10=>?_) (fun h10=>?_)
  ·try (cases h10;done)
   all_goals (try simp only[CQ] at h10)
   all_goals
   refine sY [8] (fun P S K=>K ⟨[(8,(.atom (.bool true)))],S.hp,S.nx,S.gh⟩) ?_
   all_goals
   refine Tri.ret ?_
   show ResP _ _ _ _ _ _
   have hc:c=.empty:=by assumption
   rw[show knB kn ws k c=kn from if_pos hc,show zcJ x ws k c=true by unfold zcJ;rw[decide_eq_true hc,Bool.true_or]]
   exact ResP.book rfl rfl rfl rfl rfl
  try (cases h10;done)
  all_goals (try simp only[CQ] at h10)
  all_goals
  refine Tri.skip ?_
  have hce:c≠.empty:=by assumption
  rcases(show(0≤k∧k<ws.length∧k.toNat<ws.length)∨(k<0∨(0≤k∧¬k<ws.length)) by omega) with hin|hin|hin
  all_goals
  refine sZ [8] (fun P S K=>XvBinOV P .geq 3 (.const (.int .i64 0)) (S.get 2) (.atom (.int .i64 0)) (fun r1 _=>Xgq r1 true (fun k=>k (S.get 2)) (fun g3 r3=>Xgq g3 true (fun k=>k (S.get 1)) (fun g4 r4=>Xgq g4 true (fun k=>XvLen P 35 (M S.hp S.nx) r4 (fun r5 _=>k r5)) (fun g5 r5=>Xgq g5 true (fun k=>XvBinOV P .lss 3 (.tmp 16) r3 r5 (fun r6 _=>k r6)) (fun g6 r6=>XvPick g6 r6 (.atom (.bool false)) (fun r7 _=>Xgq r7 true (fun k=>k (S.get 0)) (fun g9 r9=>Xgq g9 true (fun k=>k (S.get 1)) (fun g10 r10=>Xgq g10 true (fun k=>k (S.get 2)) (fun g11 r11=>Xgq g11 true (fun k=>XvIndexAddr P 35 r10 r11 (fun r12 _=>k r12)) (fun g12 r12=>Xgq g12 true (fun k=>XvLoad P 9 (M S.hp S.nx) r12 (fun r13 _=>k r13)) (fun g13 r13=>Xge g13 true (fun k=>XvFnIV P (M S.hp S.nx) (.fn 43 []) [r9,r13] k) (fun g14 r14 ef14=>Xgq g14 true (fun k=>XvMakeFV (.func 62) [] [(S.get 7)] (fun r15 _=>k r15)) (fun g15 r15=>Xge g15 true (fun k=>XvFnIV P (M (Eff.hp ef14 S.nx S.hp) (S.nx+ef14.add.length)) (.fn 61 []) [r14,r15] k) (fun g16 r16 ef16=>Xgq g16 true (fun k=>XvUn .not r16 (fun r17 _=>k r17)) (fun g17 r17=>XvPick g17 r17 (.atom (.bool false)) (fun r18 _=>K ⟨[(8,r18)],(Eff.hp ef16 (S.nx+ef14.add.length) (Eff.hp ef14 S.nx S.hp)),((S.nx+ef14.add.length)+ef16.add.length),S.gh⟩))))))))))))))))) fun K hK=>?_
  repeat' (first|(refine hK _ ?_;clear hK K)|((first|refine zav (fun hg=>?_) (fun hg=>?_)|refine fun(hg:(_:Prop))=>?_)<;>((try simp only[BQ,List.length_map] at hg);try (cases hg;done);try (exfalso;omega)))|refine And.intro ?_ ?_|exact cl|refine .inr (vProc.bk 0 1 (zjW x kn (ls ws k.toNat) hx hs (hw _ (zfX hin.2.2))) (by decide) (zaK _) rfl rfl rfl ?_)|refine .inl ⟨_,_,zrL (allX x (ls ws k.toNat)) (fun f => !decide (f.cls=c)) _ c (fun s hs=>zrw s c) (by have:=zrA (ls ws k.toNat) hx;omega),?_⟩|(refine st ?_;try simp only[za3,zaa,zab,zac,zad,zlj hin.1,zlj hin.2.1,zaM hin.2.2];try simp only[za3,zaa,zab,zac,zad,zlj hin.1,dec_no hin.2];try simp only[za3,zaa,zab,zac,zad,dec_no (show ¬0≤k by omega)])|fail)
  all_goals try simp (disch:=omega) only[zae,zaf]
  all_goals
  refine Tri.ret ?_
  show ResP _ _ _ _ _ _
  first
  | (exfalso;simp_all;done)
  | (rw[show knB kn ws k c=putS kn (ls ws k.toNat) by unfold knB;rw[if_neg hce,if_pos ⟨hin.1,hin.2.1⟩],zlp hce hin.1 hin.2.1]
     exact ResP.book rfl rfl rfl rfl rfl)
  | (rw[show knB kn ws k c=kn by unfold knB;rw[if_neg hce,if_neg (by omega)],zjV hce (by omega)]
     exact ResP.book rfl rfl rfl rfl rfl)
theorem zcX{p:Prop}(h:p:=by(refine⟨4,?_,?_,rfl,by simp,rfl,fun i h _=>(match i,h with|0,_=>(by first|rfl|simp[sealed,PV.ren,rmap])|1,_=>(by first|rfl|simp[sealed,PV.ren,rmap])|i+2,h=>absurd h (by simp))⟩<;>(simp only[List.forall_mem_cons];repeat' (first|refine And.intro ?_ ?_|(intro p hp;exact absurd hp List.not_mem_nil)|rfl|exact sp (zaR _)|exact sp (zaK _)|exact(zas _ _ _ (zah _)).trans (zbQ _ _).symm|exact(zas _ _ _ (zag _)).trans (zbP _ _).symm|exact sp (by assumption)|(intro o ho;cases ho;refine⟨by decide,?_⟩;first|(refine LeqS.row rfl ?_ ?_;(next=>(first|rfl|(simp only[List.map_append,List.map_cons,List.map_nil,List.append_nil,List.nil_append,List.append_assoc,List.cons_append,encI,encS,ints,strs];done)|(simp[encI,encS,ints,strs,encF,encR,encA];done)));(next=>(first|rfl|exact zal _|exact zaq _|exact zau _|exact zat _|exact zcH _|exact zaH _|exact zaT _|exact zaU _|exact zar _|(simp[zar,zal,zaq,zau,zat,zaw,PV.pure,zah,zag,zcH,zaR,zaH,zaT,zaU,zaK,zar,encF,encS];done)));done)|refine⟨_,rfl,rfl,?_⟩)|(simp[St.born,St.known,retV,St.get,St.obj,lk,sealed,PV.ren,renL,rmap,AO.ren,ints,strs,encI,encS,zap,zao,zan,zam,zaC,zaB,zaA,zaz,za1,za0,zaZ,zaY,zbU,zbV,zhc,za3,zcx,zaa,zab,zac,zad,zai,zaj,zaD,za2,zaE,zbd,zaG,zbe,zaL,encF,encR,encA,zbF]<;>omega))));first|done|fail):p:=h
def atC (c:ByteArray) (l:List FormD):List FormD:=l.filter fun f=>decide (f.cls=c)
def knP (x:LexD) (ws:List ByteArray) (k:Nat) (kn:List ByteArray) (p:PrefD):List ByteArray:=if zcJ x ws ((k:Int) - 1) p.after=true then knB (knB kn ws ((k:Int) - 1) p.after) ws ((k:Int)+1) p.before else knB kn ws ((k:Int) - 1) p.after
def zej (x:LexD) (ws:List ByteArray) (k:Nat) (p:PrefD):Bool:=zcJ x ws ((k:Int) - 1) p.after && zcJ x ws ((k:Int)+1) p.before
def runC (x:LexD) (ws:List ByteArray) (k:Nat) (l:List FormD):List PrefD→Nat→FormD→List ByteArray→(FormD×Bool)×List ByteArray
  | ps,1,out,kn=>((out,true),kn)
  | [],_,_,kn=>((noF,false),kn)
  | p :: ps,_,out,kn=>if zej x ws k p=true then runC x ws k l ps (atC p.cls l).length ((atC p.cls l).getLastD out) (knP x ws k kn p) else runC x ws k l ps 0 out (knP x ws k kn p)
theorem zfg (x:LexD) (ws:List ByteArray) (k:Nat) (l:List FormD) (ps:List PrefD) (out:FormD) (kn:List ByteArray):runC x ws k l ps 1 out kn=((out,true),kn):=by cases ps<;>rfl
theorem zlP{x:LexD}{ws:List ByteArray}{k:Nat}{l:List FormD}{n:Nat}(h:n≠1) (out:FormD) (kn:List ByteArray):runC x ws k l [] n out kn=((noF,false),kn):=by
  match n,h with
  | 0,_=>rfl
  | n+2,_=>rfl
theorem zf8{x:LexD}{ws:List ByteArray}{k:Nat}{l:List FormD}{n:Nat}{p:PrefD}{ps:List PrefD}(h:n≠1) (hb:zej x ws k p=true) (out:FormD) (kn:List ByteArray):runC x ws k l (p :: ps) n out kn=runC x ws k l ps (atC p.cls l).length ((atC p.cls l).getLastD out) (knP x ws k kn p):=by
  match n,h with
  | 0,_=>rw[runC,if_pos hb];simp
  | n+2,_=>rw[runC,if_pos hb];simp
theorem zfF{x:LexD}{ws:List ByteArray}{k:Nat}{l:List FormD}{n:Nat}{p:PrefD}{ps:List PrefD}(h:n≠1) (hb:zej x ws k p=false) (out:FormD) (kn:List ByteArray):runC x ws k l (p :: ps) n out kn=runC x ws k l ps 0 out (knP x ws k kn p):=by
  match n,h with
  | 0,_=>rw[runC,if_neg (by rw[hb];decide)];simp
  | n+2,_=>rw[runC,if_neg (by rw[hb];decide)];simp
theorem last_one{l:List FormD}(h:l.length=1) (f:FormD):some (l.getLastD f)=l.head? := by
  match l,h with
  | [a],_=>rfl
theorem ze3 (x:LexD) (ws:List ByteArray) (k:Nat) (l:List FormD):∀(ps:List PrefD) (n:Nat) (out:FormD) (kn:List ByteArray),(runC x ws k l ps n out kn).1=if n=1 then (out,true) else match zmB x ws k l ps with|some f=>(f,true)|none=>(noF,false)
  | ps,1,out,kn=>by rw[zfg,if_pos rfl]
  | [],0,out,kn=>rfl
  | [],n+2,out,kn=>by rw[zlP (by omega),if_neg (by omega)];rfl
  | p :: ps,n,out,kn=>by
    by_cases h:n=1
    · subst h;rw[zfg,if_pos rfl]
    · rw[if_neg h]
      unfold zmB
      cases hb:zej x ws k p with
      | true=>
        rw[zf8 h hb,ze3 x ws k l ps]
        unfold zej at hb
        rw[Bool.and_eq_true] at hb
        rw[hb.1,hb.2]
        simp only[Bool.true_and,decide_eq_true_eq]
        by_cases h1:(atC p.cls l).length=1
        · have h1':(l.filter fun f=>decide (f.cls=p.cls)).length=1:=h1
          rw[if_pos h1,if_pos h1',←last_one h1' out];rfl
        · have h1':¬ (l.filter fun f=>decide (f.cls=p.cls)).length=1:=h1
          rw[if_neg h1,if_neg h1']
      | false=>
        rw[zfF h hb,ze3 x ws k l ps,if_neg (by decide)]
        unfold zej at hb
        rw[hb]
        simp
def runX (x:LexD) (ws kn:List ByteArray) (k:Nat):(FormD×Bool)×List ByteArray:=runC x ws k (allX x (ls ws k)) x.prefs (allX x (ls ws k)).length (fF (allX x (ls ws k)) 0) (putS kn (ls ws k))
theorem zkT (x:LexD) (ws kn:List ByteArray) (k:Nat):(runX x ws kn k).1=match zln x ws k with|some f=>(f,true)|none=>(noF,false):=by
  unfold runX zln
  rw[ze3]
  by_cases h:(allX x (ls ws k)).length=1
  · rw[if_pos h,if_pos h]
    match allX x (ls ws k),h with
    | [a],_=>rfl
  · rw[if_neg h,if_neg h]
theorem zbR{ws kn:List ByteArray}{k:Int}{c:ByteArray}(hs:∀s,s∈kn→s.size≤140737488355328) (hw:∀s,s∈ws→s.size≤140737488355328):∀s,s∈knB kn ws k c→s.size≤140737488355328:=by
  unfold knB
  split
  · exact hs
  · split
    · exact zgA hs (hw _ (zfX (by omega)))
    · exact hs
theorem zml{x:LexD}{ws kn:List ByteArray}{k:Nat}{p:PrefD}(hs:∀s,s∈kn→s.size≤140737488355328) (hw:∀s,s∈ws→s.size≤140737488355328):∀s,s∈knP x ws k kn p→s.size≤140737488355328:=by
  unfold knP
  split
  · exact zbR (zbR hs hw) hw
  · exact zbR hs hw
theorem zgu{x:LexD}{ws:List ByteArray}{k:Nat}{l:List FormD}(hw:∀s,s∈ws→s.size≤140737488355328):∀(ps:List PrefD) (n:Nat) (out:FormD) (kn:List ByteArray),(∀s,s∈kn→s.size≤140737488355328)→∀s,s∈(runC x ws k l ps n out kn).2→s.size≤140737488355328
  | ps,1,out,kn,h=>by rw[zfg];exact h
  | [],0,out,kn,h=>h
  | [],n+2,out,kn,h=>h
  | p :: ps,n,out,kn,h=>by
    by_cases h1:n=1
    · subst h1;rw[zfg];exact h
    · cases hb:zej x ws k p with
      | true=>rw[zf8 h1 hb];exact zgu hw ps _ _ _ (zml h hw)
      | false=>rw[zfF h1 hb];exact zgu hw ps _ _ _ (zml h hw)
theorem zeq{x:LexD}{ws kn:List ByteArray}{k:Nat}(hk:k<ws.length) (hs:∀s,s∈kn→s.size≤140737488355328) (hw:∀s,s∈ws→s.size≤140737488355328):∀s,s∈(runX x ws kn k).2→s.size≤140737488355328:=zgu hw _ _ _ _ (zgA hs (hw _ (zfX hk)))
theorem zdB{l:List FormD}{j:Nat}{c:ByteArray}(h:j<l.length):atC c (l.take (j+1))=atC c (l.take j)++if (fF l j).cls=c then [fF l j] else []:=by
  unfold atC
  rw[zhW h,List.filter_append]
  by_cases hc:(fF l j).cls=c<;>simp[hc]
theorem zfs (l:List FormD) (a b:FormD):(l++[a]).getLastD b=a:=by simp[List.getLastD_eq_getLast?]
theorem zlq (c:ByteArray) (l:List FormD):(atC c l).length≤l.length:=List.length_filter_le _ _
theorem ResPR.book2{P:Program}{S:St}{rv:List ResultVar}{v1 v2:PV}{x:LexD}{kn kn':List ByteArray}(h:zfH P S rv=some [v1,v2]) (hp:(PV.tup [v1,v2]).pure=true) (hg:S.gh=[.mark 0,.mark 1]) (h0:S.obj 0=some ⟨4,[za3 x]⟩) (h1:S.obj 1=some ⟨0,kn'.map (entB x)⟩):ResPR P S rv (.tup [v1,v2]) (hpB x kn) ((hpB x kn').map some) []:=
  ⟨[v1,v2],h,ResP.book (by rw[zeR]) hp hg h0 h1⟩
theorem zjX (c:ByteArray) (l:List FormD) (j:Nat):(atC c (l.take j)).length≤j:=Nat.le_trans (zlq _ _) (by rw[List.length_take];omega)
theorem argsB (ws:List ByteArray) (k:Int) (c:ByteArray) (n:Nat):[PV.ptr 0 4 0 0,strs ws,encI k,encS c]=[PV.ptr 0 4 0 0,strs ws,encI k,encS c].map (PV.ren (rmap [0,1] n)):=by
  have h:∀ρ,(strs ws).ren ρ=strs ws:=fun ρ=>za8 ρ _ (zag ws)
  simp[PV.ren,rmap,h,encI,encS]
theorem zlk (x:LexD) (kn ws:List ByteArray) (k:Nat) (hx:HeldX x) (hk:k<ws.length) (hs:∀s,s∈kn→s.size≤140737488355328) (hw:∀s,s∈ws→s.size≤140737488355328) (hn:ws.length≤1000000):Proc Try.prog 26 [.ptr 0 4 0 0,strs ws,encI k] (hpB x kn) (.tup [encF (runX x ws kn k).1.1,.atom (.bool (runX x ws kn k).1.2)]) ((hpB x (runX x ws kn k).2).map some) []:=by
  unfold hpB
  have hnp:=hx.nprefs
  have hal:=zmG x (ls ws k) hx
  have hap:=zmF x (ls ws k)
  refine Proc.introR (rv:=[.cell 6 40,.tmp 7]) Try.func26 (by kernel_rfl) rfl rfl rfl (Nat.le_of_ble_eq_true rfl) rfl ?_
  simp only[za9,zbw,List.map_cons,List.map_nil,List.length_cons,List.length_nil,Nat.zero_add,Nat.reduceAdd]
  refine sZ [0,1,2,6,7,8,9,11] (fun P S K=>XvAlloc P 40 S.nx (fun r0 ef0=>K ⟨[(0,S.get 0),(1,S.get 1),(2,S.get 2),(6,r0),(7,(.atom (.bool false))),(8,S.get 8),(9,S.get 9),(11,S.get 11)],(Eff.hp ef0 S.nx S.hp),(S.nx+ef0.add.length),S.gh⟩)) fun K hK=>?_
  repeat' (first|(refine hK _ ?_;clear hK K)|refine And.intro ?_ ?_|exact cl|(refine st ?_;try simp only[za3,zaa,zab,zac,zad,encF,encA])|refine sx ?_ (by simp only[za3,zaa,zab,zac,zad,encF,encA];exact rfl)|fail)
  all_goals
  refine Tri.jumps (α:=(i:Nat) ×' (n:Nat) ×' (out:FormD) ×' (kn2:List ByteArray) ×' (i≤x.prefs.length∧n≤1000000∧(∀s,s∈kn2→s.size≤140737488355328)∧runC x ws k (allX x (ls ws k)) (x.prefs.drop i) n out kn2=runX x ws kn k)) 0 (fun z=>(fun(i:Nat) (n:Nat) (out:FormD) (kn2:List ByteArray)=>(⟨[(0,.ptr 0 4 0 0),(1,strs ws),(2,encI k),(6,.ptr 2 3 0 0),(7,.atom (.bool false)),(8,zaa (allX x (ls ws k))),(9,.ptr 3 3 0 0),(10,encI n),(11,encI i)],[(0,some ⟨4,[za3 x]⟩),(1,some ⟨0,kn2.map (entB x)⟩),(2,some ⟨3,[encF noF]⟩),(3,some ⟨3,[encF out]⟩)],4,[.mark 0,.mark 1]⟩:St)) z.1 z.2.1 z.2.2.1 z.2.2.2.1) (fun z=>(fun(i:Nat) (n:Nat) (out:FormD) (kn2:List ByteArray)=>x.prefs.length - i) z.1 z.2.1 z.2.2.1 z.2.2.2.1) rfl ?_ ?_
  ·rintro⟨i,n,out,kn2,⟨hi,hnn,hs2,hrun⟩⟩
   refine Tri.seq ?_
   refine sY [0,1,2,6,7,8,9,11,27] (fun P S K=>XvBinOV P .eql 3 (.const (.int .i64 1)) (S.get 10) (.atom (.int .i64 1)) (fun r1 _=>K ⟨[(0,S.get 0),(1,S.get 1),(2,S.get 2),(6,S.get 6),(7,S.get 7),(8,S.get 8),(9,S.get 9),(11,S.get 11),(27,r1)],S.hp,S.nx,S.gh⟩)) ?_
   all_goals
   refine Tri.cond rfl (fun h27=>?_) (fun h27=>?_)
   ·try (cases h27;done)
    all_goals (try simp only[CQ] at h27)
    all_goals
    refine sZ [0,1,2,6,7,8,9,11] (fun P S K=>XvLoad P 40 (M S.hp S.nx) (S.get 9) (fun r0 _=>XvStore P 40 (M S.hp S.nx) (S.get 6) r0 (fun r1 ef1=>K ⟨[(0,S.get 0),(1,S.get 1),(2,S.get 2),(6,S.get 6),(7,(.atom (.bool true))),(8,S.get 8),(9,S.get 9),(11,S.get 11)],(Eff.hp ef1 S.nx S.hp),(S.nx+ef1.add.length),S.gh⟩))) fun K hK=>?_
    repeat' (first|(refine hK _ ?_;clear hK K)|refine And.intro ?_ ?_|exact cl|(refine st ?_;try simp only[za3,zaa,zab,zac,zad,encF,encA])|refine sx ?_ (by simp only[za3,zaa,zab,zac,zad,encF,encA];exact rfl)|fail)
    all_goals
    refine Tri.ret ?_
    show ResPR _ _ _ _ _ _ _
    have hn1:n=1:=by omega
    subst hn1
    rw[←hrun,zfg]
    exact ResPR.book2 rfl rfl rfl rfl rfl
   try (cases h27;done)
   all_goals (try simp only[CQ] at h27)
   all_goals
   refine Tri.skip ?_
   refine Tri.seq ?_
   refine sZ [0,1,2,6,7,8,9,11,36] (fun P S K=>XvNil (S.get 0) (fun r2 _=>XvFieldAddr P 113 0 r2 (fun r3 _=>XvFieldAddr P 27 2 r3 (fun r4 _=>XvLoad P 25 (M S.hp S.nx) r4 (fun r5 _=>XvLen P 25 (M S.hp S.nx) r5 (fun r6 _=>XvBinOV P .eql 3 (.tmp 35) (S.get 11) r6 (fun r7 _=>K ⟨[(0,S.get 0),(1,S.get 1),(2,S.get 2),(6,S.get 6),(7,S.get 7),(8,S.get 8),(9,S.get 9),(11,S.get 11),(36,r7)],S.hp,S.nx,S.gh⟩))))))) fun K hK=>?_
   repeat' (first|(refine hK _ ?_;clear hK K)|refine And.intro ?_ ?_|exact cl|(refine st ?_;try simp only[za3,zaa,zab,zac,zad,encF,encA])|refine sx ?_ (by simp only[za3,zaa,zab,zac,zad,encF,encA];exact rfl)|fail)
   all_goals
   refine Tri.cond rfl (fun h36=>?_) (fun h36=>?_)
   ·try (cases h36;done)
    all_goals (try simp only[CQ] at h36)
    all_goals
    refine sZ [0,1,2,6,7,8,9,11] (fun P S K=>XvBuild P 40 [] (fun r0 _=>XvStore P 40 (M S.hp S.nx) (S.get 6) r0 (fun r1 ef1=>K ⟨[(0,S.get 0),(1,S.get 1),(2,S.get 2),(6,S.get 6),(7,(.atom (.bool false))),(8,S.get 8),(9,S.get 9),(11,S.get 11)],(Eff.hp ef1 S.nx S.hp),(S.nx+ef1.add.length),S.gh⟩))) fun K hK=>?_
    repeat' (first|(refine hK _ ?_;clear hK K)|refine And.intro ?_ ?_|exact cl|(refine st ?_;try simp only[za3,zaa,zab,zac,zad,encF,encA])|refine sx ?_ (by simp only[za3,zaa,zab,zac,zad,encF,encA];exact rfl)|fail)
    all_goals
    refine Tri.ret ?_
    show ResPR _ _ _ _ _ _ _
    rw[←hrun,List.drop_eq_nil_of_le (by omega),zlP (by omega)]
    exact ResPR.book2 rfl rfl rfl rfl rfl
   try (cases h36;done)
   all_goals (try simp only[CQ] at h36)
   all_goals
   refine Tri.skip ?_
   have hil:i<x.prefs.length:=by omega
   refine sZ [0,1,2,6,7,8,9,11,12] (fun P S K=>XvNil (S.get 0) (fun r1 _=>XvFieldAddr P 113 0 r1 (fun r2 _=>XvFieldAddr P 27 2 r2 (fun r3 _=>XvLoad P 25 (M S.hp S.nx) r3 (fun r4 _=>XvIndexAddr P 25 r4 (S.get 11) (fun r6 _=>XvLoad P 67 (M S.hp S.nx) r6 (fun r7 _=>XvAlloc P 67 S.nx (fun r8 ef8=>XvStore P 67 (M (Eff.hp ef8 S.nx S.hp) (S.nx+ef8.add.length)) r8 r7 (fun r9 ef9=>K ⟨[(0,S.get 0),(1,S.get 1),(2,S.get 2),(6,S.get 6),(7,S.get 7),(8,S.get 8),(9,S.get 9),(11,S.get 11),(12,r8)],(Eff.hp ef9 (S.nx+ef8.add.length) (Eff.hp ef8 S.nx S.hp)),((S.nx+ef8.add.length)+ef9.add.length),S.gh⟩))))))))) fun K hK=>?_
   repeat' (first|(refine hK _ ?_;clear hK K)|refine And.intro ?_ ?_|exact cl|(refine st ?_;try simp only[za3,zaa,zab,zac,zad,encF,encA,zft hil])|fail)
   all_goals
   refine sY [0,1,2,6,7,8,9,11,12] (fun P S K=>XvBinOV P .add 3 (.const (.int .i64 1)) (S.get 11) (.atom (.int .i64 1)) (fun r1 _=>K ⟨[(0,S.get 0),(1,S.get 1),(2,S.get 2),(6,S.get 6),(7,S.get 7),(8,S.get 8),(9,S.get 9),(11,r1),(12,S.get 12)],S.hp,S.nx,S.gh⟩)) ?_
   all_goals try simp (disch:=omega) only[zae,zaf]
   all_goals
   refine sY [0,1,2,6,7,8,9,10,11,12] (fun P S K=>K ⟨[(0,S.get 0),(1,S.get 1),(2,S.get 2),(6,S.get 6),(7,S.get 7),(8,S.get 8),(9,S.get 9),(10,(.atom (.int .i64 0))),(11,S.get 11),(12,S.get 12)],S.hp,S.nx,S.gh⟩) ?_
   all_goals
   refine Tri.seq ?_
   cases hb1:zcJ x ws ((k:Int) - 1) (fA x.prefs i).after
   all_goals
   refine sZ [0,1,2,6,7,8,9,10,11,12,63] (fun P S K=>XvBinOV P .sub 3 (.const (.int .i64 1)) (S.get 2) (.atom (.int .i64 1)) (fun r3 _=>XvFieldAddr P 67 0 (S.get 12) (fun r4 _=>XvLoad P 9 (M S.hp S.nx) r4 (fun r5 _=>XvFnIV P (M S.hp S.nx) (.fn 44 []) [(S.get 0),(S.get 1),r3,r5] (fun r6 ef6=>Xgq r6 true (fun k=>k (S.get 0)) (fun g8 r8=>Xgq g8 true (fun k=>k (S.get 1)) (fun g9 r9=>Xgq g9 true (fun k=>k (S.get 2)) (fun g10 r10=>Xgq g10 true (fun k=>XvBinOV P .add 3 (.const (.int .i64 1)) r10 (.atom (.int .i64 1)) (fun r11 _=>k r11)) (fun g11 r11=>Xgq g11 true (fun k=>XvFieldAddr P 67 1 (S.get 12) (fun r12 _=>k r12)) (fun g12 r12=>Xgq g12 true (fun k=>XvLoad P 9 (M (Eff.hp ef6 S.nx S.hp) (S.nx+ef6.add.length)) r12 (fun r13 _=>k r13)) (fun g13 r13=>Xge g13 true (fun k=>XvFnIV P (M (Eff.hp ef6 S.nx S.hp) (S.nx+ef6.add.length)) (.fn 44 []) [r8,r9,r11,r13] k) (fun g14 r14 ef14=>XvPick g14 r14 (.atom (.bool false)) (fun r15 _=>K ⟨[(0,S.get 0),(1,S.get 1),(2,S.get 2),(6,S.get 6),(7,S.get 7),(8,S.get 8),(9,S.get 9),(10,S.get 10),(11,S.get 11),(12,S.get 12),(63,r15)],(Eff.hp ef14 (S.nx+ef6.add.length) (Eff.hp ef6 S.nx S.hp)),((S.nx+ef6.add.length)+ef14.add.length),S.gh⟩))))))))))))) fun K hK=>?_
   repeat' (first|(refine hK _ ?_;clear hK K)|((first|refine zav (fun hg=>?_) (fun hg=>?_)|refine fun(hg:(_:Prop))=>?_)<;>((try simp only[BQ] at hg);try (exfalso;omega)))|refine .inr (vProc.bk 0 1 (zmD x kn2 ws ((k:Int) - 1) (fA x.prefs i).after hx hs2 hw hn) (by decide) rfl (argsB _ _ _ _) rfl rfl ?_)|refine .inr (vProc.bk 0 1 (zmD x (knB kn2 ws ((k:Int) - 1) (fA x.prefs i).after) ws ((k:Int)+1) (fA x.prefs i).before hx (zbR hs2 hw) hw hn) (by decide) rfl (argsB _ _ _ _) rfl rfl ?_)|(refine st ?_;try simp only[za3,zaa,zab,zac,zad,encF,encA,hb1,zae (x:=((k:Int) - 1)) (by omega) (by omega),zae (x:=((k:Int)+1)) (by omega) (by omega)])|fail)
   all_goals try simp (disch:=omega) only[zae,zaf]
   all_goals (try (rw[hb1] at hg;cases hg;done))
   all_goals
   refine Tri.cond rfl (fun h63=>?_) (fun h63=>?_)
   ·try (cases h63;done)
    all_goals (try simp only[CQ] at h63)
    all_goals
    refine sZ [0,1,2,6,7,8,9,10,11,12,64,65,66] (fun P S K=>XvLen P 23 (M S.hp S.nx) (S.get 8) (fun r1 _=>K ⟨[(0,S.get 0),(1,S.get 1),(2,S.get 2),(6,S.get 6),(7,S.get 7),(8,S.get 8),(9,S.get 9),(10,S.get 10),(11,S.get 11),(12,S.get 12),(64,(S.get 8)),(65,r1),(66,(.atom (.int .i64 0)))],S.hp,S.nx,S.gh⟩)) fun K hK=>?_
    repeat' (first|(refine hK _ ?_;clear hK K)|refine And.intro ?_ ?_|exact cl|(refine st ?_;try simp only[za3,zaa,zab,zac,zad,encF,encA])|refine sx ?_ (by simp only[za3,zaa,zab,zac,zad,encF,encA];exact rfl)|fail)
    all_goals
    refine Tri.block ?_
    refine Tri.loop (α:=(n2:Nat) ×' (out2:FormD) ×' (j:Nat) ×' (j≤(allX x (ls ws k)).length∧n2=(atC (fA x.prefs i).cls ((allX x (ls ws k)).take j)).length∧out2=(atC (fA x.prefs i).cls ((allX x (ls ws k)).take j)).getLastD out)) (fun z=>(fun(n2:Nat) (out2:FormD) (j:Nat)=>(⟨[(0,.ptr 0 4 0 0),(1,strs ws),(2,encI k),(6,.ptr 2 3 0 0),(7,.atom (.bool false)),(8,zaa (allX x (ls ws k))),(9,.ptr 3 3 0 0),(10,encI n2),(11,encI ((i:Int)+1)),(12,.ptr 4 3 0 0),(64,zaa (allX x (ls ws k))),(65,encI (allX x (ls ws k)).length),(66,encI j)],[(0,some ⟨4,[za3 x]⟩),(1,some ⟨0,(knB (knB kn2 ws ((k:Int) - 1) (fA x.prefs i).after) ws ((k:Int)+1) (fA x.prefs i).before).map (entB x)⟩),(2,some ⟨3,[encF noF]⟩),(3,some ⟨3,[encF out2]⟩),(4,some ⟨3,[encA (fA x.prefs i)]⟩)],5,[.mark 0,.mark 1]⟩:St)) z.1 z.2.1 z.2.2.1) (fun z=>(fun(n2:Nat) (out2:FormD) (j:Nat)=>(allX x (ls ws k)).length - j) z.1 z.2.1 z.2.2.1) ⟨0,out,0,⟨Nat.zero_le _,rfl,rfl⟩⟩ [0,1,2,3,4] ?_ ?_
    ·exact zcX
    rintro⟨n2,out2,j,⟨hj,hn2,ho2⟩⟩
    have hnb:n2≤j:=Nat.le_trans (Nat.le_of_eq hn2) (zjX _ _ _)
    refine sY [0,1,2,6,7,8,9,10,11,12,64,65,66,67] (fun P S K=>XvBinOV P .lss 3 (.tmp 65) (S.get 66) (S.get 65) (fun r0 _=>K ⟨[(0,S.get 0),(1,S.get 1),(2,S.get 2),(6,S.get 6),(7,S.get 7),(8,S.get 8),(9,S.get 9),(10,S.get 10),(11,S.get 11),(12,S.get 12),(64,S.get 64),(65,S.get 65),(66,S.get 66),(67,r0)],S.hp,S.nx,S.gh⟩)) ?_
    all_goals
    refine Tri.seq ?_
    refine Tri.cond rfl (fun h67=>?_) (fun h67=>?_)
    ·try (cases h67;done)
     all_goals (try simp only[CQ] at h67)
     all_goals
     refine Tri.skip ?_
     refine Tri.seq ?_
     refine Tri.block ?_
     have hjl:j<(allX x (ls ws k)).length:=by omega
     refine sZ [0,1,2,6,7,8,9,10,11,12,14,64,65,66] (fun P S K=>XvIndexAddr P 23 (S.get 64) (S.get 66) (fun r0 _=>XvLoad P 40 (M S.hp S.nx) r0 (fun r1 _=>XvAlloc P 40 S.nx (fun r2 ef2=>XvStore P 40 (M (Eff.hp ef2 S.nx S.hp) (S.nx+ef2.add.length)) r2 r1 (fun r3 ef3=>K ⟨[(0,S.get 0),(1,S.get 1),(2,S.get 2),(6,S.get 6),(7,S.get 7),(8,S.get 8),(9,S.get 9),(10,S.get 10),(11,S.get 11),(12,S.get 12),(14,r2),(64,S.get 64),(65,S.get 65),(66,S.get 66)],(Eff.hp ef3 (S.nx+ef2.add.length) (Eff.hp ef2 S.nx S.hp)),((S.nx+ef2.add.length)+ef3.add.length),S.gh⟩))))) fun K hK=>?_
     repeat' (first|(refine hK _ ?_;clear hK K)|refine And.intro ?_ ?_|exact cl|(refine st ?_;try simp only[za3,zaa,zab,zac,zad,encF,encA,zba hjl])|fail)
     all_goals
     refine sZ [0,1,2,6,7,8,9,10,11,12,14,64,65,66,74] (fun P S K=>XvFieldAddr P 40 2 (S.get 14) (fun r0 _=>XvLoad P 9 (M S.hp S.nx) r0 (fun r1 _=>XvFieldAddr P 67 2 (S.get 12) (fun r2 _=>XvLoad P 9 (M S.hp S.nx) r2 (fun r3 _=>XvBinOV P .eql 9 (.tmp 73) r1 r3 (fun r4 _=>K ⟨[(0,S.get 0),(1,S.get 1),(2,S.get 2),(6,S.get 6),(7,S.get 7),(8,S.get 8),(9,S.get 9),(10,S.get 10),(11,S.get 11),(12,S.get 12),(14,S.get 14),(64,S.get 64),(65,S.get 65),(66,S.get 66),(74,r4)],S.hp,S.nx,S.gh⟩)))))) fun K hK=>?_
     repeat' (first|(refine hK _ ?_;clear hK K)|refine And.intro ?_ ?_|exact cl|(refine st ?_;try simp only[za3,zaa,zab,zac,zad,encF,encA])|refine sx ?_ (by simp only[za3,zaa,zab,zac,zad,encF,encA];exact rfl)|fail)
     all_goals
     refine Tri.cond rfl (fun h74=>?_) (fun h74=>?_)
     ·try (cases h74;done)
      all_goals (try simp only[CQ] at h74)
      all_goals
      refine sZ [0,1,2,6,7,8,9,10,11,12,64,65,66] (fun P S K=>XvLoad P 40 (M S.hp S.nx) (S.get 14) (fun r0 _=>XvStore P 40 (M S.hp S.nx) (S.get 9) r0 (fun r1 ef1=>K ⟨[(0,S.get 0),(1,S.get 1),(2,S.get 2),(6,S.get 6),(7,S.get 7),(8,S.get 8),(9,S.get 9),(10,S.get 10),(11,S.get 11),(12,S.get 12),(64,S.get 64),(65,S.get 65),(66,S.get 66)],(Eff.hp ef1 S.nx S.hp),(S.nx+ef1.add.length),S.gh⟩))) fun K hK=>?_
      repeat' (first|(refine hK _ ?_;clear hK K)|refine And.intro ?_ ?_|exact cl|(refine st ?_;try simp only[za3,zaa,zab,zac,zad,encF,encA])|refine sx ?_ (by simp only[za3,zaa,zab,zac,zad,encF,encA];exact rfl)|fail)
      all_goals
      refine rY [0,1,2,6,7,8,9,10,11,12,64,65,66] (fun P S K=>XvBinOV P .add 3 (.const (.int .i64 1)) (S.get 10) (.atom (.int .i64 1)) (fun r1 _=>K ⟨[(0,S.get 0),(1,S.get 1),(2,S.get 2),(6,S.get 6),(7,S.get 7),(8,S.get 8),(9,S.get 9),(10,r1),(11,S.get 11),(12,S.get 12),(64,S.get 64),(65,S.get 65),(66,S.get 66)],S.hp,S.nx,S.gh⟩)) ?_
      all_goals try simp (disch:=omega) only[zae,zaf]
      all_goals
      refine rY [0,1,2,6,7,8,9,10,11,12,64,65,66] (fun P S K=>XvBinOV P .add 3 (.const (.int .i64 1)) (S.get 66) (.atom (.int .i64 1)) (fun r0 _=>K ⟨[(0,S.get 0),(1,S.get 1),(2,S.get 2),(6,S.get 6),(7,S.get 7),(8,S.get 8),(9,S.get 9),(10,S.get 10),(11,S.get 11),(12,S.get 12),(64,S.get 64),(65,S.get 65),(66,r0)],S.hp,S.nx,S.gh⟩)) ?_
      all_goals try simp (disch:=omega) only[zae,zaf]
      all_goals
      first
      | (refine⟨⟨n2+1,fF (allX x (ls ws k)) j,j+1,by omega,by rw[zdB hjl,if_pos (by assumption),List.length_append,←hn2];rfl,by rw[zdB hjl,if_pos (by assumption),zfs]⟩,[0,1,2,3,4],by dsimp only;omega,?_⟩
         exact zcX)
      | (refine⟨⟨n2,out2,j+1,by omega,by rw[zdB hjl,if_neg (by assumption),List.append_nil,←hn2],by rw[zdB hjl,if_neg (by assumption),List.append_nil,←ho2]⟩,[0,1,2,3,4],by dsimp only;omega,?_⟩
         exact zcX)
     try (cases h74;done)
     all_goals (try simp only[CQ] at h74)
     all_goals
     refine Tri.skip ?_
     refine rY [0,1,2,6,7,8,9,10,11,12,64,65,66] (fun P S K=>XvBinOV P .add 3 (.const (.int .i64 1)) (S.get 66) (.atom (.int .i64 1)) (fun r0 _=>K ⟨[(0,S.get 0),(1,S.get 1),(2,S.get 2),(6,S.get 6),(7,S.get 7),(8,S.get 8),(9,S.get 9),(10,S.get 10),(11,S.get 11),(12,S.get 12),(64,S.get 64),(65,S.get 65),(66,r0)],S.hp,S.nx,S.gh⟩)) ?_
     all_goals try simp (disch:=omega) only[zae,zaf]
     all_goals
     first
     | (refine⟨⟨n2+1,fF (allX x (ls ws k)) j,j+1,by omega,by rw[zdB hjl,if_pos (by assumption),List.length_append,←hn2];rfl,by rw[zdB hjl,if_pos (by assumption),zfs]⟩,[0,1,2,3,4],by dsimp only;omega,?_⟩
        exact zcX)
     | (refine⟨⟨n2,out2,j+1,by omega,by rw[zdB hjl,if_neg (by assumption),List.append_nil,←hn2],by rw[zdB hjl,if_neg (by assumption),List.append_nil,←ho2]⟩,[0,1,2,3,4],by dsimp only;omega,?_⟩
        exact zcX)
    try (cases h67;done)
    all_goals (try simp only[CQ] at h67)
    all_goals
    refine Tri.exit ?_
    refine Tri.goto ⟨rfl,?_⟩
    first
    | (have hb2:zej x ws k (fA x.prefs i)=true:=by unfold zej;rw[hb1,h63];rfl
       have hkn:knP x ws k kn2 (fA x.prefs i)=knB (knB kn2 ws ((k:Int) - 1) (fA x.prefs i).after) ws ((k:Int)+1) (fA x.prefs i).before:=if_pos hb1
       have e1:n2=(atC (fA x.prefs i).cls (allX x (ls ws k))).length:=by rw[hn2,List.take_of_length_le (by omega)]
       have e2:out2=(atC (fA x.prefs i).cls (allX x (ls ws k))).getLastD out:=by rw[ho2,List.take_of_length_le (by omega)]
       have e3:=zlq (fA x.prefs i).cls (allX x (ls ws k))
       refine⟨⟨i+1,n2,out2,_,by omega,by omega,zbR (zbR hs2 hw) hw,by rw[←hrun,zfR hil,zf8 (by omega) hb2,hkn,e1,e2]⟩,[0,1,2,3],by dsimp only;omega,?_⟩
       exact zcX)
    | (have hb2:zej x ws k (fA x.prefs i)=false:=by unfold zej;rw[hb1,h63];rfl
       have hkn:knP x ws k kn2 (fA x.prefs i)=knB (knB kn2 ws ((k:Int) - 1) (fA x.prefs i).after) ws ((k:Int)+1) (fA x.prefs i).before:=if_pos hb1
       refine⟨⟨i+1,0,out,_,by omega,by omega,zbR (zbR hs2 hw) hw,by rw[←hrun,zfR hil,zfF (by omega) hb2,hkn]⟩,[0,1,2,3],by dsimp only;omega,?_⟩
       exact zcX)
    | (have hb2:zej x ws k (fA x.prefs i)=false:=by unfold zej;rw[hb1];rfl
       have hkn:knP x ws k kn2 (fA x.prefs i)=knB kn2 ws ((k:Int) - 1) (fA x.prefs i).after:=if_neg (by rw[hb1];decide)
       refine⟨⟨i+1,0,out,_,by omega,by omega,zbR hs2 hw,by rw[←hrun,zfR hil,zfF (by omega) hb2,hkn]⟩,[0,1,2,3],by dsimp only;omega,?_⟩
       exact zcX)
   try (cases h63;done)
   all_goals (try simp only[CQ] at h63)
   all_goals
   refine Tri.skip ?_
   refine Tri.goto ⟨rfl,?_⟩
   first
   | (have hb2:zej x ws k (fA x.prefs i)=true:=by unfold zej;rw[hb1,h63];rfl
      have hkn:knP x ws k kn2 (fA x.prefs i)=knB (knB kn2 ws ((k:Int) - 1) (fA x.prefs i).after) ws ((k:Int)+1) (fA x.prefs i).before:=if_pos hb1
      have e1:n2=(atC (fA x.prefs i).cls (allX x (ls ws k))).length:=by rw[hn2,List.take_of_length_le (by omega)]
      have e2:out2=(atC (fA x.prefs i).cls (allX x (ls ws k))).getLastD out:=by rw[ho2,List.take_of_length_le (by omega)]
      have e3:=zlq (fA x.prefs i).cls (allX x (ls ws k))
      refine⟨⟨i+1,n2,out2,_,by omega,by omega,zbR (zbR hs2 hw) hw,by rw[←hrun,zfR hil,zf8 (by omega) hb2,hkn,e1,e2]⟩,[0,1,2,3],by dsimp only;omega,?_⟩
      exact zcX)
   | (have hb2:zej x ws k (fA x.prefs i)=false:=by unfold zej;rw[hb1,h63];rfl
      have hkn:knP x ws k kn2 (fA x.prefs i)=knB (knB kn2 ws ((k:Int) - 1) (fA x.prefs i).after) ws ((k:Int)+1) (fA x.prefs i).before:=if_pos hb1
      refine⟨⟨i+1,0,out,_,by omega,by omega,zbR (zbR hs2 hw) hw,by rw[←hrun,zfR hil,zfF (by omega) hb2,hkn]⟩,[0,1,2,3],by dsimp only;omega,?_⟩
      exact zcX)
   | (have hb2:zej x ws k (fA x.prefs i)=false:=by unfold zej;rw[hb1];rfl
      have hkn:knP x ws k kn2 (fA x.prefs i)=knB kn2 ws ((k:Int) - 1) (fA x.prefs i).after:=if_neg (by rw[hb1];decide)
      refine⟨⟨i+1,0,out,_,by omega,by omega,zbR hs2 hw,by rw[←hrun,zfR hil,zfF (by omega) hb2,hkn]⟩,[0,1,2,3],by dsimp only;omega,?_⟩
      exact zcX)
  intro hJ
  refine sZ [0,1,2,6,7,8,9,11] (fun P S K=>XvIndexAddr P 35 (S.get 1) (S.get 2) (fun r3 _=>XvLoad P 9 (M S.hp S.nx) r3 (fun r4 _=>XvFnIV P (M S.hp S.nx) (.fn 43 []) [(S.get 0),r4] (fun r5 ef5=>K ⟨[(0,S.get 0),(1,S.get 1),(2,S.get 2),(6,S.get 6),(7,S.get 7),(8,r5),(9,S.get 9),(11,S.get 11)],(Eff.hp ef5 S.nx S.hp),(S.nx+ef5.add.length),S.gh⟩)))) fun K hK=>?_
  repeat' (first|(refine hK _ ?_;clear hK K)|refine And.intro ?_ ?_|exact cl|refine .inr (vProc.bk 0 1 (zjW x kn (ls ws k) hx hs (hw _ (zfX hk))) (by decide) (zaK _) rfl rfl rfl ?_)|(refine st ?_;try simp only[za3,zaa,zab,zac,zad,encF,encA,zaM hk])|fail)
  all_goals
  refine sZ [0,1,2,6,7,8,9,10,11] (fun P S K=>XvIndexAddr P 23 (S.get 8) (.atom (.int .i64 0)) (fun r1 _=>XvLoad P 40 (M S.hp S.nx) r1 (fun r2 _=>XvLen P 23 (M S.hp S.nx) (S.get 8) (fun r4 _=>XvAlloc P 40 S.nx (fun r5 ef5=>XvStore P 40 (M (Eff.hp ef5 S.nx S.hp) (S.nx+ef5.add.length)) r5 r2 (fun r6 ef6=>K ⟨[(0,S.get 0),(1,S.get 1),(2,S.get 2),(6,S.get 6),(7,S.get 7),(8,S.get 8),(9,r5),(10,r4),(11,(.atom (.int .i64 0)))],(Eff.hp ef6 (S.nx+ef5.add.length) (Eff.hp ef5 S.nx S.hp)),((S.nx+ef5.add.length)+ef6.add.length),S.gh⟩)))))) fun K hK=>?_
  repeat' (first|(refine hK _ ?_;clear hK K)|refine And.intro ?_ ?_|exact cl|(refine st ?_;try simp only[za3,zaa,zab,zac,zad,encF,encA,zba hap])|fail)
  all_goals
  refine Tri.seq (Tri.lab (Tri.weak (L:=[0,1,2,3]) ?_ (hJ ⟨0,(allX x (ls ws k)).length,fF (allX x (ls ws k)) 0,putS kn (ls ws k),⟨Nat.zero_le _,hal,zgA hs (hw _ (zfX hk)),rfl⟩⟩)))
  exact zcX
end Go.Proofs.Ytehoglapajkabaa
