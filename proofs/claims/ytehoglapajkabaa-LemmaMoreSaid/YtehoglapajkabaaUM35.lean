/-
  The choice at a word leans on what stands beside it;the law LemmaBeside.
-/
import Derived.Test.YtehoglapajkabaaUM0
import Derived.Test.YtehoglapajkabaaUA11
import Derived.Test.YtehoglapajkabaaUM20
set_option linter.all false
namespace Go.Proofs.Ytehoglapajkabaa
open Go Go.RowKit
set_option maxRecDepth 20000
set_option maxHeartbeats 1000000
def chE (x:LexD) (ws:List ByteArray) (k:Nat):FormD×Int:=if (choT x ws k).2 then ((choT x ws k).1,0) else (noF,14)
theorem zhI{x:LexD}{ws:List ByteArray}{k:Nat}(he:errX x ws=0) (hk:k<ws.length):zbF x ws (k:Int)=chE x ws k:=by
  unfold zbF chE
  rw[if_neg (by omega),if_neg (by omega),Int.toNat_natCast]
theorem znP (m:List Int):(zgg m).length≤7:=by unfold zgg;simp;omega
theorem za8{ws:List ByteArray}(h:ws.all zbR=true):∀w,w∈ws→w.size≤9223372036854775807:=fun w hw=>up47 (zhr h w hw)
set_option maxHeartbeats 8000000
theorem zgK{p:Prop}(h:p:=by(refine⟨4,?_,?_,rfl,by simp,rfl,fun _ h _=>absurd h (Nat.not_lt_zero _)⟩<;>(simp only[List.forall_mem_cons];repeat' (first|refine And.intro ?_ ?_|(intro p hp;exact absurd hp List.not_mem_nil)|rfl|exact sp (zaY _)|exact sp (zaS _)|exact(zaz _ _ _ (zam _)).trans (zcx _ _).symm|exact(zaz _ _ _ (zal _)).trans (zcw _ _).symm|exact sp (by assumption)|(intro o ho;cases ho;refine⟨by decide,?_⟩;first|(refine LeqS.row rfl ?_ ?_;(next=>(first|rfl|(simp only[List.map_append,List.map_cons,List.map_nil,List.append_nil,List.nil_append,List.append_assoc,List.cons_append,encI,encS,ints,strs];done)|(simp[encI,encS,ints,strs,encF,encR,encA,encX];done)));(next=>(first|rfl|exact zay _|exact zax _|exact zaD _|exact zaC _|exact zaE _|exact za5 _|exact za6 _|exact zav _|(simp[zav,zay,zax,zaD,zaC,zaA,PV.pure,zam,zal,zaY,zaE,za5,za6,zaS,zav,encF,encS];done)));done)|refine⟨_,rfl,rfl,?_⟩)|(simp[St.born,St.known,retV,St.get,St.obj,lk,sealed,PV.ren,renL,rmap,AO.ren,ints,strs,encI,encS,zau,zat,zas,zar,zaP,zaO,zaN,zaM,zbg,zbf,zbe,zbd,zcH,zaa,zac,zad,zab,zae,zaf,zaF,za7,zaH,zbj,zaI,zbk,zaU,encF,encR,encA,zbG,encX]<;>omega))));first|done|fail):p:=h
theorem lsrM35{p:Prop}(h:p:=by(first|rfl|(simp[St.born,St.known,retV,St.get,St.obj,lk,sealed,PV.ren,renL,rmap,AO.ren,ints,strs,encI,encS,zau,zat,zas,zar,zaP,zaO,zaN,zaM,zbg,zbf,zbe,zbd,zcH,zaa,zac,zad,zab,zae,zaf,zaF,za7,zaH,zbj,zaI,zbk,zaU,encF,encR,encA,zbG,encX];done));first|done|fail):p:=h
def zkK (x:LexD) (r:RuleD):LexD:=⟨x.forms,x.rules++[r],x.prefs⟩
def zir (x:LexD) (f:FormD):LexD:=⟨x.forms++[f],x.rules,x.prefs⟩
def zgA (x:LexD) (p:PrefD):LexD:=⟨x.forms,x.rules,x.prefs++[p]⟩
def zjE:List ByteArray:=[⟨#[115]⟩,⟨#[]⟩,⟨#[101]⟩]
def zkT (n:Int):RuleD:=⟨ls zjE (zbJ n 3).toNat,⟨#[111]⟩,⟨#[118,101,114,98]⟩,zbJ (n.tdiv 3) 3⟩
def zjh (n:Int):FormD:=⟨zdV n,zdV (n.tdiv 14),⟨#[110,97,109,101]⟩⟩
def zkU (n:Int):PrefD:=⟨zaG n,⟨#[]⟩,zaG (n.tdiv 3)⟩
theorem zlM{x k:Int}(h:I64 x) (hk:0<k):I64 (x.tdiv k):=by
  obtain⟨h1,h2⟩:=h
  rcases Int.le_total 0 x with h0|h0
  · have a:=Int.tdiv_nonneg h0 (Int.le_of_lt hk)
    have b:=Int.tdiv_le_self k h0
    unfold I64;omega
  · obtain⟨y,rfl⟩:∃y,x = -y:=⟨-x,by omega⟩
    have a:=Int.tdiv_nonneg (a:=y) (by omega) (Int.le_of_lt hk)
    have b:=Int.tdiv_le_self (a:=y) k (by omega)
    rw[Int.neg_tdiv]
    unfold I64;omega
theorem zm8 (n:Int):zfl (zkT n)=true:=by
  have h0:=zcC (n:=n) (most:=3) (by decide)
  have h1:=zcD (n:=n) (most:=3) (by decide)
  have h2:=zcC (n:=n.tdiv 3) (most:=3) (by decide)
  have h3:=zcD (n:=n.tdiv 3) (most:=3) (by decide)
  have e1:∀k:Fin 3,letS (ls zjE k.val) 0 8=true:=by decide
  have e2:letS ⟨#[111]⟩ 0 8=true:=by decide
  have e3:letS ⟨#[118,101,114,98]⟩ 1 8=true:=by decide
  unfold zfl zkT
  simp only[e1 ⟨(zbJ n 3).toNat,by omega⟩,e2,e3]
  rw[decide_eq_true h2,decide_eq_true (show zbJ (n.tdiv 3) 3≤8 by omega)];rfl
theorem zm9 (n:Int):zfm (zjh n)=true:=by
  have e:letS ⟨#[110,97,109,101]⟩ 1 8=true:=by decide
  unfold zfm zjh;simp only[zeA,e];rfl
theorem zna (n:Int):zfn (zkU n)=true:=by
  have hp:=(letS_iff.1 (zb1 n)).2.1
  have he:letS ⟨#[]⟩ 0 8=true:=by decide
  unfold zfn zkU
  simp only[zb1,he,zh9 (zb1 n) (show(0:Int)≤1 by decide) (show(8:Int)≤8 by decide)]
  rw[decide_eq_true (by omega)];rfl
theorem zgF (l:List Int):zfk (zc6 l)=true:=by
  show((mkF l _).all zfm && (mkR l _).all zfl && (mkA l _).all zfn)=true
  rw[zh5,zh4,zh6];rfl
theorem zfv{x:LexD}(h:zfk x=true) (h1:x.forms.length≤6) (h2:x.rules.length≤6) (h3:x.prefs.length≤6):zbL x=0∧HeldX x:=by
  refine⟨?_,zjv h (by omega) (by omega) (by omega)⟩
  unfold zbL;rw[if_neg (by omega),if_pos h]
theorem ruleE_ok (l:List Int) (n:Int):zbL (zkK (zc6 l) (zkT n))=0∧HeldX (zkK (zc6 l) (zkT n)):=by
  have hl:=zdO l
  have hf:=zgF l
  refine zfv ?_ (by show(zc6 l).forms.length≤6;omega) (by simp[zkK];omega) (by show(zc6 l).prefs.length≤6;omega)
  unfold zfk at *
  simp only[Bool.and_eq_true,zkK,List.all_append] at *
  exact⟨⟨hf.1.1,hf.1.2,by simp[zm8]⟩,hf.2⟩
theorem formE_ok (l:List Int) (n:Int):zbL (zir (zc6 l) (zjh n))=0∧HeldX (zir (zc6 l) (zjh n)):=by
  have hl:=zdO l
  have hf:=zgF l
  refine zfv ?_ (by simp[zir];omega) (by show(zc6 l).rules.length≤6;omega) (by show(zc6 l).prefs.length≤6;omega)
  unfold zfk at *
  simp only[Bool.and_eq_true,zir,List.all_append] at *
  exact⟨⟨⟨hf.1.1,by simp[zm9]⟩,hf.1.2⟩,hf.2⟩
theorem prefE_ok (l:List Int) (n:Int):zbL (zgA (zc6 l) (zkU n))=0∧HeldX (zgA (zc6 l) (zkU n)):=by
  have hl:=zdO l
  have hf:=zgF l
  refine zfv ?_ (by show(zc6 l).forms.length≤6;omega) (by show(zc6 l).rules.length≤6;omega) (by simp[zgA];omega)
  unfold zfk at *
  simp only[Bool.and_eq_true,zgA,List.all_append] at *
  exact⟨hf.1,hf.2,by simp[zna]⟩
theorem zpL{x:LexD}{r:RuleD}{w:ByteArray}(h:(x.forms.any fun f=>decide (f.word=w))=true):allX (zkK x r) w=allX x w:=by
  obtain⟨f,hf,hw⟩:=List.any_eq_true.1 h
  have hne:zd7 x w≠[]:=fun e=>by
    have:f∈zd7 x w:=mem_foldl_putF.2 (.inl (List.mem_filter.2 ⟨hf,hw⟩))
    rw[e] at this;cases this
  have e1:zd7 (zkK x r) w=zd7 x w:=rfl
  unfold allX;rw[e1,if_pos hne,if_pos hne]
theorem zqA{x:LexD}{f:FormD}{w:ByteArray}(h:decide (w=f.word)=false):allX (zir x f) w=allX x w:=by
  have e1:zd7 (zir x f) w=zd7 x w:=by
    unfold zd7 zbQ zir
    simp only[List.filter_append]
    have:decide (f.word=w)=false:=by
      rw[decide_eq_false_iff_not] at h ⊢;exact fun e=>h e.symm
    simp[this]
  have e2:zgr (zir x f) w=zgr x w:=rfl
  unfold allX;rw[e1,e2]
theorem zgX{x:LexD}{p:PrefD}{ws:List ByteArray}{k:Nat}{l:List FormD}{f:FormD}:∀ {ps:List PrefD},zf1 x ws k l ps=some f→zf1 (zgA x p) ws k l (ps++[p])=some f
  | [],h=>by cases h
  | q :: ps,h=>by
    rw[List.cons_append,zf1]
    rw[zf1] at h
    have eb:∀j c,zcl (zgA x p) ws j c=zcl x ws j c:=fun _ _=>rfl
    rw[eb,eb]
    split at h
    · rename_i hc;rw[if_pos hc];exact h
    · rename_i hc;rw[if_neg hc];exact zgX h
theorem zpR{x:LexD}{p:PrefD}{ws:List ByteArray}{k:Nat}(h:(choT x ws k).2=true):choT (zgA x p) ws k=choT x ws k:=by
  have ea:allX (zgA x p) (ls ws k)=allX x (ls ws k):=rfl
  unfold choT at *
  have:ze1 (zgA x p) ws k=ze1 x ws k:=by
    cases hc:ze1 x ws k with
    | none=>rw[hc] at h;cases h
    | some f=>
      unfold ze1 at *
      rw[ea]
      split at hc
      · rename_i h1;rw[if_pos h1];exact hc
      · rename_i h1;rw[if_neg h1];exact zgX hc
  rw[this]
theorem ch_more{x:LexD}{p:PrefD}{ws:List ByteArray}{k:Nat}(h:(chE x ws k).2=0):chE (zgA x p) ws k=chE x ws k:=by
  have hc:(choT x ws k).2=true:=by
    unfold chE at h
    cases hc:(choT x ws k).2 with
    | true=>rfl
    | false=>rw[hc] at h;cases h
  unfold chE;rw[zpR hc]
theorem zjS{fs:List FormD}{i:Nat}{w:ByteArray}(h:i<fs.length):(fs.take (i+1)).any (fun f=>decide (f.word=w))=((fs.take i).any (fun f=>decide (f.word=w)) || decide ((fF fs i).word=w)):=by
  rw[zfy h,List.any_append];simp
theorem zm7{b:Bool}{q:Prop} [Decidable q] {a a2 a3:List FormD}(h1:b=true→a2=a) (h2:decide q=false→a3=a):(b=false∧(decide q=true∧q=True)∧decide ((0:Nat)=0)=true∧decide ((0:Nat)=0)=true)∨(b=false∧(decide q=false∧q=False)∧decide ((0:Nat)=0)=true∧decide (a=a3)=true)∨(b=true∧(decide q=true∧q=True)∧decide (a=a2)=true∧decide ((0:Nat)=0)=true)∨(b=true∧(decide q=false∧q=False)∧decide (a=a2)=true∧decide (a=a3)=true):=by
  by_cases hq:q
  · cases b
    · exact .inl ⟨rfl,⟨decide_eq_true hq,eq_true hq⟩,rfl,rfl⟩
    · exact .inr (.inr (.inl ⟨rfl,⟨decide_eq_true hq,eq_true hq⟩,decide_eq_true (h1 rfl).symm,rfl⟩))
  · have h3:=decide_eq_true (h2 (decide_eq_false hq)).symm
    cases b
    · exact .inr (.inl ⟨rfl,⟨decide_eq_false hq,eq_false hq⟩,rfl,h3⟩)
    · exact .inr (.inr (.inr ⟨rfl,⟨decide_eq_false hq,eq_false hq⟩,decide_eq_true (h1 rfl).symm,h3⟩))
theorem zpZ (l m:List Int) (n:Int) (hl:Fits l) (hm:Fits m) (hn:I64 n) (hlv:Pure Try.prog 9 [] (.atom (.bool true)) []):
    Pure Try.prog 4 [ints l,ints m,encI n] (.atom (.bool true)) []:=by
  have hx:=zp4 l
  have hv:=zht l
  have hxl:=zdO l
  have hW:=zmn m
  have hWl:=znP m
  obtain⟨hrv,hrx⟩:=ruleE_ok l n
  obtain⟨hfv,hfx⟩:=formE_ok l n
  obtain⟨hpv,hpx⟩:=prefE_ok l n
  have hmade:=zq1 l hl
  have hwm:=zkM m hm
  generalize zc6 l=x at hx hv hxl hrv hrx hfv hfx hpv hpx hmade
  generalize zgg m=W at hW hWl hwm
  have hq3:=zlM (k:=3) hn (by decide)
  have hq14:=zlM (k:=14) hn (by decide)
  have h30:=zcC (n:=n) (most:=3) (by decide)
  have h31:=zcD (n:=n) (most:=3) (by decide)
  have h32:=zcC (n:=n.tdiv 3) (most:=3) (by decide)
  have h33:=zcD (n:=n.tdiv 3) (most:=3) (by decide)
  have hg1:([.atom (.string ⟨#[115]⟩),.atom (.string ⟨#[]⟩),.atom (.string ⟨#[101]⟩)]:List PV).getD (zbJ n 3).toNat .junk=.atom (.string (ls zjE (zbJ n 3).toNat)):=zaL (l:=zjE) (k:=(zbJ n 3).toNat) (by show _<3;omega)
  have hg2:([.atom (.string ⟨#[110,111,117,110]⟩),.atom (.string ⟨#[118,101,114,98]⟩),.atom (.string ⟨#[110,97,109,101]⟩)]:List PV).getD (zbJ n 3).toNat .junk=.atom (.string (zaG n)):=zaL (l:=zfr) (k:=(zbJ n 3).toNat) (by show _<3;omega)
  have hg3:([.atom (.string ⟨#[110,111,117,110]⟩),.atom (.string ⟨#[118,101,114,98]⟩),.atom (.string ⟨#[110,97,109,101]⟩)]:List PV).getD (zbJ (n.tdiv 3) 3).toNat .junk=.atom (.string (zaG (n.tdiv 3))):=zaL (l:=zfr) (k:=(zbJ (n.tdiv 3) 3).toNat) (by show _<3;omega)
  obtain⟨Rs,hRs⟩:∃Rs,x.rules++[zkT n]=Rs:=⟨_,rfl⟩
  obtain⟨Fs,hFs⟩:∃Fs,x.forms++[zjh n]=Fs:=⟨_,rfl⟩
  obtain⟨Ps,hPs⟩:∃Ps,x.prefs++[zkU n]=Ps:=⟨_,rfl⟩
  refine Pure.intro (ts:=[6]) Try.func4 (by kernel_rfl) rfl rfl rfl (Nat.le_of_ble_eq_true rfl) ?_ ?_
  · simp[zam,encI,PV.pure,zaA]
  refine sZ [0,1,2] (fun P S K=>K ⟨[(0,S.get 0),(1,S.get 1),(2,S.get 2)],S.hp,S.nx,S.gh⟩) fun K hK=>?_
  repeat' (first|(refine hK _ ?_;clear hK K)|refine And.intro ?_ ?_|exact cl|exact zaw _|exact za3 _|exact za4 _|(refine st ?_;try simp only[encX,zaa,zac,zad,encF,zab,zae,zaf])|refine sx ?_ (by simp only[encX,zaa,zac,zad,encF,zab,zae,zaf];exact rfl)|fail)
  all_goals
  refine sZ [1,2,7] (fun P S K=>XvFnIV P (M S.hp S.nx) (.fn 7 []) [(S.get 0)] (fun r1 ef1=>XvAlloc P 33 (S.nx+ef1.add.length) (fun r2 ef2=>XvStore P 33 (M (Eff.hp ef2 (S.nx+ef1.add.length) (Eff.hp ef1 S.nx S.hp)) ((S.nx+ef1.add.length)+ef2.add.length)) r2 r1 (fun r3 ef3=>K ⟨[(1,S.get 1),(2,S.get 2),(7,r2)],(Eff.hp ef3 ((S.nx+ef1.add.length)+ef2.add.length) (Eff.hp ef2 (S.nx+ef1.add.length) (Eff.hp ef1 S.nx S.hp))),(((S.nx+ef1.add.length)+ef2.add.length)+ef3.add.length),S.gh⟩)))) fun K hK=>?_
  repeat' (first|(refine hK _ ?_;clear hK K)|refine And.intro ?_ ?_|exact cl|exact zaw _|exact za3 _|exact za4 _|refine .inl ⟨_,_,hmade,?_⟩|refine .inl ⟨_,_,hwm,?_⟩|refine .inl ⟨_,_,zan x W (i:Int) hx (by omega) (za8 hW) (by unfold I64;omega),?_⟩|refine .inl ⟨_,_,zan xp W (i:Int) hpx (by omega) (za8 hW) (by unfold I64;omega),?_⟩|refine .inl ⟨_,_,hlv,?_⟩|(refine st ?_;try simp only[encX,zaa,zac,zad,encF,zab,zae,zaf])|refine sx ?_ (by simp only[encX,zaa,zac,zad,encF,zab,zae,zaf];exact rfl)|fail)
  all_goals
  refine sZ [2,7,8] (fun P S K=>XvFnIV P (M S.hp S.nx) (.fn 8 []) [(S.get 1)] (fun r1 ef1=>K ⟨[(2,S.get 2),(7,S.get 7),(8,r1)],(Eff.hp ef1 S.nx S.hp),(S.nx+ef1.add.length),S.gh⟩)) fun K hK=>?_
  repeat' (first|(refine hK _ ?_;clear hK K)|refine And.intro ?_ ?_|exact cl|exact zaw _|exact za3 _|exact za4 _|refine .inl ⟨_,_,hmade,?_⟩|refine .inl ⟨_,_,hwm,?_⟩|refine .inl ⟨_,_,zan x W (i:Int) hx (by omega) (za8 hW) (by unfold I64;omega),?_⟩|refine .inl ⟨_,_,zan xp W (i:Int) hpx (by omega) (za8 hW) (by unfold I64;omega),?_⟩|refine .inl ⟨_,_,hlv,?_⟩|(refine st ?_;try simp only[encX,zaa,zac,zad,encF,zab,zae,zaf])|refine sx ?_ (by simp only[encX,zaa,zac,zad,encF,zab,zae,zaf];exact rfl)|fail)
  all_goals
  refine sZ [2,7,8,9] (fun P S K=>XvLoad P 33 (M S.hp S.nx) (S.get 7) (fun r0 _=>XvAlloc P 33 S.nx (fun r1 ef1=>XvStore P 33 (M (Eff.hp ef1 S.nx S.hp) (S.nx+ef1.add.length)) r1 r0 (fun r2 ef2=>K ⟨[(2,S.get 2),(7,S.get 7),(8,S.get 8),(9,r1)],(Eff.hp ef2 (S.nx+ef1.add.length) (Eff.hp ef1 S.nx S.hp)),((S.nx+ef1.add.length)+ef2.add.length),S.gh⟩)))) fun K hK=>?_
  repeat' (first|(refine hK _ ?_;clear hK K)|refine And.intro ?_ ?_|exact cl|exact zaw _|exact za3 _|exact za4 _|refine zah ?_ _|refine zai ?_ _|(refine st ?_;try simp only[encX,zaa,zac,zad,encF,zab,zae,zaf])|refine sx ?_ (by simp only[encX,zaa,zac,zad,encF,zab,zae,zaf];exact rfl)|fail)
  all_goals
  refine sD 16 [2,7,8,9] (fun P GD S K=>XvBuildS P 30 0 S.nx [] (fun r0 ef0=>XvFieldAddr P 33 1 (S.get 7) (fun r1 ef1=>XvLoad P 30 (M (Eff.hp ef0 S.nx S.hp) (S.nx+ef0.add.length)) r1 (fun r2 ef2=>(30=30∧XvAppend P 30 (M (Eff.hp ef0 S.nx S.hp) (S.nx+ef0.add.length)) r0 r2 (fun r3 ef3=>XvBuildS P 35 3 ((S.nx+ef0.add.length)+ef3.add.length) [(0,(.atom (.string { data := #[115] }))),(1,(.atom (.string { data := #[] }))),(2,(.atom (.string { data := #[101] })))] (fun r4 ef4=>XvFnDV P (M (Eff.hp ef4 ((S.nx+ef0.add.length)+ef3.add.length) (Eff.hp ef3 (S.nx+ef0.add.length) (Eff.hp ef0 S.nx S.hp))) (((S.nx+ef0.add.length)+ef3.add.length)+ef4.add.length)) (.fn 10 []) [(S.get 2),(.atom (.int .i64 3))] (fun r6 ef6=>XvIndexAddr P 35 r4 r6 (fun r7 ef7=>XvLoad P 9 (M (Eff.hp ef6 (((S.nx+ef0.add.length)+ef3.add.length)+ef4.add.length) (Eff.hp ef4 ((S.nx+ef0.add.length)+ef3.add.length) (Eff.hp ef3 (S.nx+ef0.add.length) (Eff.hp ef0 S.nx S.hp)))) ((((S.nx+ef0.add.length)+ef3.add.length)+ef4.add.length)+ef6.add.length)) r7 (fun r8 ef8=>XvBinOV P .quo 3 (.const (.int .i64 3)) (S.get 2) (.atom (.int .i64 3)) (fun r10 ef10=>XvFnDV P (M (Eff.hp ef6 (((S.nx+ef0.add.length)+ef3.add.length)+ef4.add.length) (Eff.hp ef4 ((S.nx+ef0.add.length)+ef3.add.length) (Eff.hp ef3 (S.nx+ef0.add.length) (Eff.hp ef0 S.nx S.hp)))) ((((S.nx+ef0.add.length)+ef3.add.length)+ef4.add.length)+ef6.add.length)) (.fn 10 []) [r10,(.atom (.int .i64 3))] (fun r11 ef11=>XvBuild P 48 [(0,r8),(1,(.atom (.string { data := #[111] }))),(2,(.atom (.string { data := #[118,101,114,98] }))),(3,r11)] (fun r12 ef12=>XvBuildS P 30 1 (((((S.nx+ef0.add.length)+ef3.add.length)+ef4.add.length)+ef6.add.length)+ef11.add.length) [(0,r12)] (fun r13 ef13=>(30=30∧XvAppend P 30 (M (Eff.hp ef13 (((((S.nx+ef0.add.length)+ef3.add.length)+ef4.add.length)+ef6.add.length)+ef11.add.length) (Eff.hp ef11 ((((S.nx+ef0.add.length)+ef3.add.length)+ef4.add.length)+ef6.add.length) (Eff.hp ef6 (((S.nx+ef0.add.length)+ef3.add.length)+ef4.add.length) (Eff.hp ef4 ((S.nx+ef0.add.length)+ef3.add.length) (Eff.hp ef3 (S.nx+ef0.add.length) (Eff.hp ef0 S.nx S.hp)))))) ((((((S.nx+ef0.add.length)+ef3.add.length)+ef4.add.length)+ef6.add.length)+ef11.add.length)+ef13.add.length)) r3 r13 (fun r14 ef14=>XvFieldAddr P 33 1 (S.get 9) (fun r15 ef15=>(trOk S.nx GD [(Eff.tr ef0 S.nx),⟨(S.nx+ef0.add.length),0,ef1.rd,[],[]⟩,⟨(S.nx+ef0.add.length),0,ef2.rd,[],[]⟩,(Eff.tr ef3 (S.nx+ef0.add.length)),(Eff.tr ef4 ((S.nx+ef0.add.length)+ef3.add.length)),⟨(((S.nx+ef0.add.length)+ef3.add.length)+ef4.add.length),0,[],[],[]⟩,(Eff.tr ef6 (((S.nx+ef0.add.length)+ef3.add.length)+ef4.add.length)),⟨((((S.nx+ef0.add.length)+ef3.add.length)+ef4.add.length)+ef6.add.length),0,ef7.rd,[],[]⟩,⟨((((S.nx+ef0.add.length)+ef3.add.length)+ef4.add.length)+ef6.add.length),0,ef8.rd,[],[]⟩,⟨((((S.nx+ef0.add.length)+ef3.add.length)+ef4.add.length)+ef6.add.length),0,[],[],[]⟩,⟨((((S.nx+ef0.add.length)+ef3.add.length)+ef4.add.length)+ef6.add.length),0,ef10.rd,[],[]⟩,(Eff.tr ef11 ((((S.nx+ef0.add.length)+ef3.add.length)+ef4.add.length)+ef6.add.length)),⟨(((((S.nx+ef0.add.length)+ef3.add.length)+ef4.add.length)+ef6.add.length)+ef11.add.length),0,ef12.rd,[],[]⟩,(Eff.tr ef13 (((((S.nx+ef0.add.length)+ef3.add.length)+ef4.add.length)+ef6.add.length)+ef11.add.length)),(Eff.tr ef14 ((((((S.nx+ef0.add.length)+ef3.add.length)+ef4.add.length)+ef6.add.length)+ef11.add.length)+ef13.add.length)),⟨(((((((S.nx+ef0.add.length)+ef3.add.length)+ef4.add.length)+ef6.add.length)+ef11.add.length)+ef13.add.length)+ef14.add.length),0,ef15.rd,[],[]⟩]=true∧XvStore P 30 (M (Eff.hp ef14 ((((((S.nx+ef0.add.length)+ef3.add.length)+ef4.add.length)+ef6.add.length)+ef11.add.length)+ef13.add.length) (Eff.hp ef13 (((((S.nx+ef0.add.length)+ef3.add.length)+ef4.add.length)+ef6.add.length)+ef11.add.length) (Eff.hp ef11 ((((S.nx+ef0.add.length)+ef3.add.length)+ef4.add.length)+ef6.add.length) (Eff.hp ef6 (((S.nx+ef0.add.length)+ef3.add.length)+ef4.add.length) (Eff.hp ef4 ((S.nx+ef0.add.length)+ef3.add.length) (Eff.hp ef3 (S.nx+ef0.add.length) (Eff.hp ef0 S.nx S.hp))))))) (((((((S.nx+ef0.add.length)+ef3.add.length)+ef4.add.length)+ef6.add.length)+ef11.add.length)+ef13.add.length)+ef14.add.length)) r15 r14 (fun r16 ef16=>K ⟨[(2,S.get 2),(7,S.get 7),(8,S.get 8),(9,S.get 9)],(Eff.hp ef16 (((((((S.nx+ef0.add.length)+ef3.add.length)+ef4.add.length)+ef6.add.length)+ef11.add.length)+ef13.add.length)+ef14.add.length) (Eff.hp ef14 ((((((S.nx+ef0.add.length)+ef3.add.length)+ef4.add.length)+ef6.add.length)+ef11.add.length)+ef13.add.length) (Eff.hp ef13 (((((S.nx+ef0.add.length)+ef3.add.length)+ef4.add.length)+ef6.add.length)+ef11.add.length) (Eff.hp ef11 ((((S.nx+ef0.add.length)+ef3.add.length)+ef4.add.length)+ef6.add.length) (Eff.hp ef6 (((S.nx+ef0.add.length)+ef3.add.length)+ef4.add.length) (Eff.hp ef4 ((S.nx+ef0.add.length)+ef3.add.length) (Eff.hp ef3 (S.nx+ef0.add.length) (Eff.hp ef0 S.nx S.hp)))))))),((((((((S.nx+ef0.add.length)+ef3.add.length)+ef4.add.length)+ef6.add.length)+ef11.add.length)+ef13.add.length)+ef14.add.length)+ef16.add.length),S.gh⟩))))))))))))))))))) fun K hK=>?_
  repeat' (first|(refine hK _ ?_;clear hK K)|(refine(?_:trOk _ _ _=true);(try simp only[zag hq3.1 hq3.2,hg1]);kernel_rfl)|((first|refine zak (fun hg=>?_) (fun hg=>?_)|refine fun(hg:(_:Prop))=>?_)<;>((try simp only[BQ,List.length_map] at hg);try (cases hg;done);try (exfalso;omega)))|refine And.intro ?_ ?_|exact cl|exact zaw _|exact za3 _|exact za4 _|refine zah ?_ _|refine zai ?_ _|refine .inl ⟨_,_,hmade,?_⟩|refine .inl ⟨_,_,hwm,?_⟩|refine .inl ⟨_,_,zbz n 3 hn (by decide),?_⟩|refine⟨_,_,zbz n 3 hn (by decide),?_⟩|refine .inl ⟨_,_,zbz (n.tdiv 3) 3 hq3 (by decide),?_⟩|refine⟨_,_,zbz (n.tdiv 3) 3 hq3 (by decide),?_⟩|refine .inl ⟨_,_,zan x W (i:Int) hx (by omega) (za8 hW) (by unfold I64;omega),?_⟩|refine⟨_,_,zan x W (i:Int) hx (by omega) (za8 hW) (by unfold I64;omega),?_⟩|refine .inl ⟨_,_,zan xp W (i:Int) hpx (by omega) (za8 hW) (by unfold I64;omega),?_⟩|refine⟨_,_,zan xp W (i:Int) hpx (by omega) (za8 hW) (by unfold I64;omega),?_⟩|refine .inl ⟨_,_,hlv,?_⟩|refine⟨_,_,hlv,?_⟩|(refine st ?_;try simp only[encX,zaa,zac,zad,encF,zab,zae,zaf,zag hq3.1 hq3.2,hg1])|refine sx ?_ (by simp only[encX,zaa,zac,zad,encF,zab,zae,zaf,zag hq3.1 hq3.2,hg1];exact rfl)|fail)
  all_goals try simp (disch:=omega) only[zag,zaj]
  rw[show List.map encR x.rules++[PV.agg [PV.atom (.string (ls zjE (zbJ n 3).toNat)),PV.atom (.string ⟨#[111]⟩),PV.atom (.string ⟨#[118,101,114,98]⟩),PV.atom (.int .i64 (zbJ (n.tdiv 3) 3))]]=Rs.map encR by rw[←hRs,List.map_append];rfl,show x.rules.length+1=Rs.length by rw[←hRs,List.length_append];rfl]
  all_goals
  refine sZ [2,7,8,9,10] (fun P S K=>XvLoad P 33 (M S.hp S.nx) (S.get 7) (fun r0 _=>XvAlloc P 33 S.nx (fun r1 ef1=>XvStore P 33 (M (Eff.hp ef1 S.nx S.hp) (S.nx+ef1.add.length)) r1 r0 (fun r2 ef2=>K ⟨[(2,S.get 2),(7,S.get 7),(8,S.get 8),(9,S.get 9),(10,r1)],(Eff.hp ef2 (S.nx+ef1.add.length) (Eff.hp ef1 S.nx S.hp)),((S.nx+ef1.add.length)+ef2.add.length),S.gh⟩)))) fun K hK=>?_
  repeat' (first|(refine hK _ ?_;clear hK K)|refine And.intro ?_ ?_|exact cl|exact zaw _|exact za3 _|exact za4 _|refine zah ?_ _|refine zai ?_ _|(refine st ?_;try simp only[encX,zaa,zac,zad,encF,zab,zae,zaf])|refine sx ?_ (by simp only[encX,zaa,zac,zad,encF,zab,zae,zaf];exact rfl)|fail)
  all_goals
  refine sZ [2,7,8,9,10,11] (fun P S K=>XvFnIV P (M S.hp S.nx) (.fn 13 []) [(S.get 2)] (fun r1 ef1=>XvBinOV P .quo 3 (.const (.int .i64 14)) (S.get 2) (.atom (.int .i64 14)) (fun r3 _=>XvFnIV P (M (Eff.hp ef1 S.nx S.hp) (S.nx+ef1.add.length)) (.fn 13 []) [r3] (fun r4 ef4=>XvBuild P 50 [(0,r1),(1,r4),(2,(.atom (.string { data := #[110,97,109,101] })))] (fun r5 _=>XvAlloc P 50 ((S.nx+ef1.add.length)+ef4.add.length) (fun r6 ef6=>XvStore P 50 (M (Eff.hp ef6 ((S.nx+ef1.add.length)+ef4.add.length) (Eff.hp ef4 (S.nx+ef1.add.length) (Eff.hp ef1 S.nx S.hp))) (((S.nx+ef1.add.length)+ef4.add.length)+ef6.add.length)) r6 r5 (fun r7 ef7=>K ⟨[(2,S.get 2),(7,S.get 7),(8,S.get 8),(9,S.get 9),(10,S.get 10),(11,r6)],(Eff.hp ef7 (((S.nx+ef1.add.length)+ef4.add.length)+ef6.add.length) (Eff.hp ef6 ((S.nx+ef1.add.length)+ef4.add.length) (Eff.hp ef4 (S.nx+ef1.add.length) (Eff.hp ef1 S.nx S.hp)))),((((S.nx+ef1.add.length)+ef4.add.length)+ef6.add.length)+ef7.add.length),S.gh⟩))))))) fun K hK=>?_
  repeat' (first|(refine hK _ ?_;clear hK K)|((first|refine zak (fun hg=>?_) (fun hg=>?_)|refine fun(hg:(_:Prop))=>?_)<;>((try simp only[BQ,List.length_map] at hg);try (cases hg;done);try (exfalso;omega)))|refine And.intro ?_ ?_|exact cl|exact zaw _|exact za3 _|exact za4 _|refine zah ?_ _|refine zai ?_ _|refine .inl ⟨_,_,hmade,?_⟩|refine .inl ⟨_,_,hwm,?_⟩|refine .inl ⟨_,_,zdJ n hn,?_⟩|refine .inl ⟨_,_,zdJ (n.tdiv 14) hq14,?_⟩|refine .inl ⟨_,_,zan x W (i:Int) hx (by omega) (za8 hW) (by unfold I64;omega),?_⟩|refine .inl ⟨_,_,zan xp W (i:Int) hpx (by omega) (za8 hW) (by unfold I64;omega),?_⟩|refine .inl ⟨_,_,hlv,?_⟩|(refine st ?_;try simp only[encX,zaa,zac,zad,encF,zab,zae,zaf,zag hq14.1 hq14.2])|refine sx ?_ (by simp only[encX,zaa,zac,zad,encF,zab,zae,zaf,zag hq14.1 hq14.2];exact rfl)|fail)
  all_goals try simp (disch:=omega) only[zag,zaj]
  all_goals
  refine sD 8 [2,7,8,9,10,11] (fun P GD S K=>XvBuildS P 29 0 S.nx [] (fun r0 ef0=>XvFieldAddr P 33 0 (S.get 7) (fun r1 ef1=>XvLoad P 29 (M (Eff.hp ef0 S.nx S.hp) (S.nx+ef0.add.length)) r1 (fun r2 ef2=>(29=29∧XvAppend P 29 (M (Eff.hp ef0 S.nx S.hp) (S.nx+ef0.add.length)) r0 r2 (fun r3 ef3=>XvLoad P 50 (M (Eff.hp ef3 (S.nx+ef0.add.length) (Eff.hp ef0 S.nx S.hp)) ((S.nx+ef0.add.length)+ef3.add.length)) (S.get 11) (fun r4 ef4=>XvBuildS P 29 1 ((S.nx+ef0.add.length)+ef3.add.length) [(0,r4)] (fun r5 ef5=>(29=29∧XvAppend P 29 (M (Eff.hp ef5 ((S.nx+ef0.add.length)+ef3.add.length) (Eff.hp ef3 (S.nx+ef0.add.length) (Eff.hp ef0 S.nx S.hp))) (((S.nx+ef0.add.length)+ef3.add.length)+ef5.add.length)) r3 r5 (fun r6 ef6=>XvFieldAddr P 33 0 (S.get 10) (fun r7 ef7=>(trOk S.nx GD [(Eff.tr ef0 S.nx),⟨(S.nx+ef0.add.length),0,ef1.rd,[],[]⟩,⟨(S.nx+ef0.add.length),0,ef2.rd,[],[]⟩,(Eff.tr ef3 (S.nx+ef0.add.length)),⟨((S.nx+ef0.add.length)+ef3.add.length),0,ef4.rd,[],[]⟩,(Eff.tr ef5 ((S.nx+ef0.add.length)+ef3.add.length)),(Eff.tr ef6 (((S.nx+ef0.add.length)+ef3.add.length)+ef5.add.length)),⟨((((S.nx+ef0.add.length)+ef3.add.length)+ef5.add.length)+ef6.add.length),0,ef7.rd,[],[]⟩]=true∧XvStore P 29 (M (Eff.hp ef6 (((S.nx+ef0.add.length)+ef3.add.length)+ef5.add.length) (Eff.hp ef5 ((S.nx+ef0.add.length)+ef3.add.length) (Eff.hp ef3 (S.nx+ef0.add.length) (Eff.hp ef0 S.nx S.hp)))) ((((S.nx+ef0.add.length)+ef3.add.length)+ef5.add.length)+ef6.add.length)) r7 r6 (fun r8 ef8=>K ⟨[(2,S.get 2),(7,S.get 7),(8,S.get 8),(9,S.get 9),(10,S.get 10),(11,S.get 11)],(Eff.hp ef8 ((((S.nx+ef0.add.length)+ef3.add.length)+ef5.add.length)+ef6.add.length) (Eff.hp ef6 (((S.nx+ef0.add.length)+ef3.add.length)+ef5.add.length) (Eff.hp ef5 ((S.nx+ef0.add.length)+ef3.add.length) (Eff.hp ef3 (S.nx+ef0.add.length) (Eff.hp ef0 S.nx S.hp))))),(((((S.nx+ef0.add.length)+ef3.add.length)+ef5.add.length)+ef6.add.length)+ef8.add.length),S.gh⟩))))))))))))) fun K hK=>?_
  repeat' (first|(refine hK _ ?_;clear hK K)|(refine(?_:trOk _ _ _=true);kernel_rfl)|((first|refine zak (fun hg=>?_) (fun hg=>?_)|refine fun(hg:(_:Prop))=>?_)<;>((try simp only[BQ,List.length_map] at hg);try (cases hg;done);try (exfalso;omega)))|refine And.intro ?_ ?_|exact cl|exact zaw _|exact za3 _|exact za4 _|refine zah ?_ _|refine zai ?_ _|(refine st ?_;try simp only[encX,zaa,zac,zad,encF,zab,zae,zaf])|refine sx ?_ (by simp only[encX,zaa,zac,zad,encF,zab,zae,zaf];exact rfl)|fail)
  rw[show List.map encF x.forms++[PV.agg [PV.atom (.string (zdV n)),PV.atom (.string (zdV (n.tdiv 14))),PV.atom (.string ⟨#[110,97,109,101]⟩)]]=Fs.map encF by rw[←hFs,List.map_append];rfl,show x.forms.length+1=Fs.length by rw[←hFs,List.length_append];rfl]
  all_goals
  refine sZ [2,7,8,9,10,11,12] (fun P S K=>XvLoad P 33 (M S.hp S.nx) (S.get 7) (fun r0 _=>XvAlloc P 33 S.nx (fun r1 ef1=>XvStore P 33 (M (Eff.hp ef1 S.nx S.hp) (S.nx+ef1.add.length)) r1 r0 (fun r2 ef2=>K ⟨[(2,S.get 2),(7,S.get 7),(8,S.get 8),(9,S.get 9),(10,S.get 10),(11,S.get 11),(12,r1)],(Eff.hp ef2 (S.nx+ef1.add.length) (Eff.hp ef1 S.nx S.hp)),((S.nx+ef1.add.length)+ef2.add.length),S.gh⟩)))) fun K hK=>?_
  repeat' (first|(refine hK _ ?_;clear hK K)|refine And.intro ?_ ?_|exact cl|exact zaw _|exact za3 _|exact za4 _|refine zah ?_ _|refine zai ?_ _|(refine st ?_;try simp only[encX,zaa,zac,zad,encF,zab,zae,zaf])|refine sx ?_ (by simp only[encX,zaa,zac,zad,encF,zab,zae,zaf];exact rfl)|fail)
  all_goals
  refine Tri.cut (α:=Unit) (fun⟨⟩=>⟨[(7,.ptr 0 3 0 0),(8,strs W),(9,.ptr 1 3 0 0),(10,.ptr 2 3 0 0),(11,.ptr 3 3 0 0),(12,.ptr 4 3 0 0)],[(0,some ⟨3,[encX x]⟩),(1,some ⟨3,[.agg [zaa x.forms,zac Rs,zad x.prefs]]⟩),(2,some ⟨3,[.agg [zaa Fs,zac x.rules,zad x.prefs]]⟩),(3,some ⟨3,[.agg [.atom (.string (zdV n)),.atom (.string (zdV (n.tdiv 14))),.atom (.string ⟨#[110,97,109,101]⟩)]]⟩),(4,some ⟨3,[.agg [zaa x.forms,zac x.rules,zad Ps]]⟩)],5,[]⟩) ?_ ?_
  ·skip
   refine rD 19 [7,8,9,10,11,12] (fun P GD S K=>XvBuildS P 31 0 S.nx [] (fun r0 ef0=>XvFieldAddr P 33 2 (S.get 7) (fun r1 ef1=>XvLoad P 31 (M (Eff.hp ef0 S.nx S.hp) (S.nx+ef0.add.length)) r1 (fun r2 ef2=>(31=31∧XvAppend P 31 (M (Eff.hp ef0 S.nx S.hp) (S.nx+ef0.add.length)) r0 r2 (fun r3 ef3=>XvBuildS P 35 3 ((S.nx+ef0.add.length)+ef3.add.length) [(0,(.atom (.string { data := #[110,111,117,110] }))),(1,(.atom (.string { data := #[118,101,114,98] }))),(2,(.atom (.string { data := #[110,97,109,101] })))] (fun r4 ef4=>XvFnDV P (M (Eff.hp ef4 ((S.nx+ef0.add.length)+ef3.add.length) (Eff.hp ef3 (S.nx+ef0.add.length) (Eff.hp ef0 S.nx S.hp))) (((S.nx+ef0.add.length)+ef3.add.length)+ef4.add.length)) (.fn 10 []) [(S.get 2),(.atom (.int .i64 3))] (fun r6 ef6=>XvIndexAddr P 35 r4 r6 (fun r7 ef7=>XvLoad P 9 (M (Eff.hp ef6 (((S.nx+ef0.add.length)+ef3.add.length)+ef4.add.length) (Eff.hp ef4 ((S.nx+ef0.add.length)+ef3.add.length) (Eff.hp ef3 (S.nx+ef0.add.length) (Eff.hp ef0 S.nx S.hp)))) ((((S.nx+ef0.add.length)+ef3.add.length)+ef4.add.length)+ef6.add.length)) r7 (fun r8 ef8=>XvBuildS P 35 3 ((((S.nx+ef0.add.length)+ef3.add.length)+ef4.add.length)+ef6.add.length) [(0,(.atom (.string { data := #[110,111,117,110] }))),(1,(.atom (.string { data := #[118,101,114,98] }))),(2,(.atom (.string { data := #[110,97,109,101] })))] (fun r9 ef9=>XvBinOV P .quo 3 (.const (.int .i64 3)) (S.get 2) (.atom (.int .i64 3)) (fun r11 ef11=>XvFnDV P (M (Eff.hp ef9 ((((S.nx+ef0.add.length)+ef3.add.length)+ef4.add.length)+ef6.add.length) (Eff.hp ef6 (((S.nx+ef0.add.length)+ef3.add.length)+ef4.add.length) (Eff.hp ef4 ((S.nx+ef0.add.length)+ef3.add.length) (Eff.hp ef3 (S.nx+ef0.add.length) (Eff.hp ef0 S.nx S.hp))))) (((((S.nx+ef0.add.length)+ef3.add.length)+ef4.add.length)+ef6.add.length)+ef9.add.length)) (.fn 10 []) [r11,(.atom (.int .i64 3))] (fun r12 ef12=>XvIndexAddr P 35 r9 r12 (fun r13 ef13=>XvLoad P 9 (M (Eff.hp ef12 (((((S.nx+ef0.add.length)+ef3.add.length)+ef4.add.length)+ef6.add.length)+ef9.add.length) (Eff.hp ef9 ((((S.nx+ef0.add.length)+ef3.add.length)+ef4.add.length)+ef6.add.length) (Eff.hp ef6 (((S.nx+ef0.add.length)+ef3.add.length)+ef4.add.length) (Eff.hp ef4 ((S.nx+ef0.add.length)+ef3.add.length) (Eff.hp ef3 (S.nx+ef0.add.length) (Eff.hp ef0 S.nx S.hp)))))) ((((((S.nx+ef0.add.length)+ef3.add.length)+ef4.add.length)+ef6.add.length)+ef9.add.length)+ef12.add.length)) r13 (fun r14 ef14=>XvBuild P 52 [(0,r8),(2,r14)] (fun r15 ef15=>XvBuildS P 31 1 ((((((S.nx+ef0.add.length)+ef3.add.length)+ef4.add.length)+ef6.add.length)+ef9.add.length)+ef12.add.length) [(0,r15)] (fun r16 ef16=>(31=31∧XvAppend P 31 (M (Eff.hp ef16 ((((((S.nx+ef0.add.length)+ef3.add.length)+ef4.add.length)+ef6.add.length)+ef9.add.length)+ef12.add.length) (Eff.hp ef12 (((((S.nx+ef0.add.length)+ef3.add.length)+ef4.add.length)+ef6.add.length)+ef9.add.length) (Eff.hp ef9 ((((S.nx+ef0.add.length)+ef3.add.length)+ef4.add.length)+ef6.add.length) (Eff.hp ef6 (((S.nx+ef0.add.length)+ef3.add.length)+ef4.add.length) (Eff.hp ef4 ((S.nx+ef0.add.length)+ef3.add.length) (Eff.hp ef3 (S.nx+ef0.add.length) (Eff.hp ef0 S.nx S.hp))))))) (((((((S.nx+ef0.add.length)+ef3.add.length)+ef4.add.length)+ef6.add.length)+ef9.add.length)+ef12.add.length)+ef16.add.length)) r3 r16 (fun r17 ef17=>XvFieldAddr P 33 2 (S.get 12) (fun r18 ef18=>(trOk S.nx GD [(Eff.tr ef0 S.nx),⟨(S.nx+ef0.add.length),0,ef1.rd,[],[]⟩,⟨(S.nx+ef0.add.length),0,ef2.rd,[],[]⟩,(Eff.tr ef3 (S.nx+ef0.add.length)),(Eff.tr ef4 ((S.nx+ef0.add.length)+ef3.add.length)),⟨(((S.nx+ef0.add.length)+ef3.add.length)+ef4.add.length),0,[],[],[]⟩,(Eff.tr ef6 (((S.nx+ef0.add.length)+ef3.add.length)+ef4.add.length)),⟨((((S.nx+ef0.add.length)+ef3.add.length)+ef4.add.length)+ef6.add.length),0,ef7.rd,[],[]⟩,⟨((((S.nx+ef0.add.length)+ef3.add.length)+ef4.add.length)+ef6.add.length),0,ef8.rd,[],[]⟩,(Eff.tr ef9 ((((S.nx+ef0.add.length)+ef3.add.length)+ef4.add.length)+ef6.add.length)),⟨(((((S.nx+ef0.add.length)+ef3.add.length)+ef4.add.length)+ef6.add.length)+ef9.add.length),0,[],[],[]⟩,⟨(((((S.nx+ef0.add.length)+ef3.add.length)+ef4.add.length)+ef6.add.length)+ef9.add.length),0,ef11.rd,[],[]⟩,(Eff.tr ef12 (((((S.nx+ef0.add.length)+ef3.add.length)+ef4.add.length)+ef6.add.length)+ef9.add.length)),⟨((((((S.nx+ef0.add.length)+ef3.add.length)+ef4.add.length)+ef6.add.length)+ef9.add.length)+ef12.add.length),0,ef13.rd,[],[]⟩,⟨((((((S.nx+ef0.add.length)+ef3.add.length)+ef4.add.length)+ef6.add.length)+ef9.add.length)+ef12.add.length),0,ef14.rd,[],[]⟩,⟨((((((S.nx+ef0.add.length)+ef3.add.length)+ef4.add.length)+ef6.add.length)+ef9.add.length)+ef12.add.length),0,ef15.rd,[],[]⟩,(Eff.tr ef16 ((((((S.nx+ef0.add.length)+ef3.add.length)+ef4.add.length)+ef6.add.length)+ef9.add.length)+ef12.add.length)),(Eff.tr ef17 (((((((S.nx+ef0.add.length)+ef3.add.length)+ef4.add.length)+ef6.add.length)+ef9.add.length)+ef12.add.length)+ef16.add.length)),⟨((((((((S.nx+ef0.add.length)+ef3.add.length)+ef4.add.length)+ef6.add.length)+ef9.add.length)+ef12.add.length)+ef16.add.length)+ef17.add.length),0,ef18.rd,[],[]⟩]=true∧XvStore P 31 (M (Eff.hp ef17 (((((((S.nx+ef0.add.length)+ef3.add.length)+ef4.add.length)+ef6.add.length)+ef9.add.length)+ef12.add.length)+ef16.add.length) (Eff.hp ef16 ((((((S.nx+ef0.add.length)+ef3.add.length)+ef4.add.length)+ef6.add.length)+ef9.add.length)+ef12.add.length) (Eff.hp ef12 (((((S.nx+ef0.add.length)+ef3.add.length)+ef4.add.length)+ef6.add.length)+ef9.add.length) (Eff.hp ef9 ((((S.nx+ef0.add.length)+ef3.add.length)+ef4.add.length)+ef6.add.length) (Eff.hp ef6 (((S.nx+ef0.add.length)+ef3.add.length)+ef4.add.length) (Eff.hp ef4 ((S.nx+ef0.add.length)+ef3.add.length) (Eff.hp ef3 (S.nx+ef0.add.length) (Eff.hp ef0 S.nx S.hp)))))))) ((((((((S.nx+ef0.add.length)+ef3.add.length)+ef4.add.length)+ef6.add.length)+ef9.add.length)+ef12.add.length)+ef16.add.length)+ef17.add.length)) r18 r17 (fun r19 ef19=>K ⟨[(7,S.get 7),(8,S.get 8),(9,S.get 9),(10,S.get 10),(11,S.get 11),(12,S.get 12)],(Eff.hp ef19 ((((((((S.nx+ef0.add.length)+ef3.add.length)+ef4.add.length)+ef6.add.length)+ef9.add.length)+ef12.add.length)+ef16.add.length)+ef17.add.length) (Eff.hp ef17 (((((((S.nx+ef0.add.length)+ef3.add.length)+ef4.add.length)+ef6.add.length)+ef9.add.length)+ef12.add.length)+ef16.add.length) (Eff.hp ef16 ((((((S.nx+ef0.add.length)+ef3.add.length)+ef4.add.length)+ef6.add.length)+ef9.add.length)+ef12.add.length) (Eff.hp ef12 (((((S.nx+ef0.add.length)+ef3.add.length)+ef4.add.length)+ef6.add.length)+ef9.add.length) (Eff.hp ef9 ((((S.nx+ef0.add.length)+ef3.add.length)+ef4.add.length)+ef6.add.length) (Eff.hp ef6 (((S.nx+ef0.add.length)+ef3.add.length)+ef4.add.length) (Eff.hp ef4 ((S.nx+ef0.add.length)+ef3.add.length) (Eff.hp ef3 (S.nx+ef0.add.length) (Eff.hp ef0 S.nx S.hp))))))))),(((((((((S.nx+ef0.add.length)+ef3.add.length)+ef4.add.length)+ef6.add.length)+ef9.add.length)+ef12.add.length)+ef16.add.length)+ef17.add.length)+ef19.add.length),S.gh⟩)))))))))))))))))))))) fun K hK=>?_
   repeat' (first|(refine hK _ ?_;clear hK K)|(refine(?_:trOk _ _ _=true);(try simp only[zag hq3.1 hq3.2,hg2,hg3]);kernel_rfl)|((first|refine zak (fun hg=>?_) (fun hg=>?_)|refine fun(hg:(_:Prop))=>?_)<;>((try simp only[BQ,List.length_map] at hg);try (cases hg;done);try (exfalso;omega)))|refine And.intro ?_ ?_|exact cl|exact zaw _|exact za3 _|exact za4 _|refine zah ?_ _|refine zai ?_ _|refine .inl ⟨_,_,hmade,?_⟩|refine .inl ⟨_,_,hwm,?_⟩|refine .inl ⟨_,_,zbz n 3 hn (by decide),?_⟩|refine⟨_,_,zbz n 3 hn (by decide),?_⟩|refine .inl ⟨_,_,zbz (n.tdiv 3) 3 hq3 (by decide),?_⟩|refine⟨_,_,zbz (n.tdiv 3) 3 hq3 (by decide),?_⟩|refine .inl ⟨_,_,zan x W (i:Int) hx (by omega) (za8 hW) (by unfold I64;omega),?_⟩|refine⟨_,_,zan x W (i:Int) hx (by omega) (za8 hW) (by unfold I64;omega),?_⟩|refine .inl ⟨_,_,zan xp W (i:Int) hpx (by omega) (za8 hW) (by unfold I64;omega),?_⟩|refine⟨_,_,zan xp W (i:Int) hpx (by omega) (za8 hW) (by unfold I64;omega),?_⟩|refine .inl ⟨_,_,hlv,?_⟩|refine⟨_,_,hlv,?_⟩|(refine st ?_;try simp only[encX,zaa,zac,zad,encF,zab,zae,zaf,zag hq3.1 hq3.2,hg2,hg3])|refine sx ?_ (by simp only[encX,zaa,zac,zad,encF,zab,zae,zaf,zag hq3.1 hq3.2,hg2,hg3];exact rfl)|fail)
   all_goals try simp (disch:=omega) only[zag,zaj]
   rw[show List.map encA x.prefs++[PV.agg [PV.atom (.string (zaG n)),PV.atom (.string ⟨#[]⟩),PV.atom (.string (zaG (n.tdiv 3)))]]=Ps.map encA by rw[←hPs,List.map_append];rfl,show x.prefs.length+1=Ps.length by rw[←hPs,List.length_append];rfl]
   all_goals
   refine⟨(),[0,1,7,8,13],?_⟩
   exact zgK
  rintro⟨⟩
  refine Tri.seq ?_
  subst hRs hFs hPs
  obtain⟨xr,hxr⟩:∃xr,zkK x (zkT n)=xr:=⟨_,rfl⟩
  obtain⟨xf,hxf⟩:∃xf,zir x (zjh n)=xf:=⟨_,rfl⟩
  obtain⟨xp,hxp⟩:∃xp,zgA x (zkU n)=xp:=⟨_,rfl⟩
  obtain⟨f,hf⟩:∃f,zjh n=f:=⟨_,rfl⟩
  rw[show PV.agg [zaa x.forms,zac (x.rules++[zkT n]),zad x.prefs]=encX xr by rw[←hxr];rfl,show PV.agg [zaa (x.forms++[zjh n]),zac x.rules,zad x.prefs]=encX xf by rw[←hxf];rfl,show PV.agg [zaa x.forms,zac x.rules,zad (x.prefs++[zkU n])]=encX xp by rw[←hxp];rfl,show PV.agg [PV.atom (.string (zdV n)),PV.atom (.string (zdV (n.tdiv 14))),PV.atom (.string ⟨#[110,97,109,101]⟩)]=encF f by rw[←hf];rfl]
  rw[hxr] at hrv hrx
  rw[hxf] at hfv hfx
  rw[hxp] at hpv hpx
  refine sZ [7,8,9,10,11,12,13] (fun P S K=>K ⟨[(7,S.get 7),(8,S.get 8),(9,S.get 9),(10,S.get 10),(11,S.get 11),(12,S.get 12),(13,(.atom (.int .i64 0)))],S.hp,S.nx,S.gh⟩) fun K hK=>?_
  repeat' (first|(refine hK _ ?_;clear hK K)|refine And.intro ?_ ?_|exact cl|exact zaw _|exact za3 _|exact za4 _|(refine st ?_;try simp only[encX,zaa,zac,zad,encF,zab,zae,zaf])|refine sx ?_ (by simp only[encX,zaa,zac,zad,encF,zab,zae,zaf];exact rfl)|fail)
  all_goals
  refine Tri.block ?_
  refine Tri.loop (α:=(i:Nat) ×' (i≤W.length)) (fun z=>(fun(i:Nat)=>(⟨[(7,.ptr 0 3 0 0),(8,strs W),(9,.ptr 1 3 0 0),(10,.ptr 2 3 0 0),(11,.ptr 3 3 0 0),(12,.ptr 4 3 0 0),(13,encI i)],[(0,some ⟨3,[encX x]⟩),(1,some ⟨3,[encX xr]⟩),(2,some ⟨3,[encX xf]⟩),(3,some ⟨3,[encF f]⟩),(4,some ⟨3,[encX xp]⟩)],5,[]⟩:St)) z.1) (fun z=>(fun(i:Nat)=>W.length - i) z.1) ⟨0,Nat.zero_le _⟩ [0,1,2,3,4] ?_ ?_
  ·exact zgK
  rintro⟨i,hi⟩
  refine Tri.seq ?_
  refine sZ [7,8,9,10,11,12,13,85] (fun P S K=>XvLen P 35 (M S.hp S.nx) (S.get 8) (fun r2 _=>XvBinOV P .lss 3 (.tmp 84) (S.get 13) r2 (fun r3 _=>K ⟨[(7,S.get 7),(8,S.get 8),(9,S.get 9),(10,S.get 10),(11,S.get 11),(12,S.get 12),(13,S.get 13),(85,r3)],S.hp,S.nx,S.gh⟩))) fun K hK=>?_
  repeat' (first|(refine hK _ ?_;clear hK K)|refine And.intro ?_ ?_|exact cl|exact zaw _|exact za3 _|exact za4 _|(refine st ?_;try simp only[encX,zaa,zac,zad,encF,zab,zae,zaf])|refine sx ?_ (by simp only[encX,zaa,zac,zad,encF,zab,zae,zaf];exact rfl)|fail)
  all_goals
  refine Tri.cond rfl (fun h85=>?_) (fun h85=>?_)
  ·try (cases h85;done)
   all_goals (try simp only[CQ] at h85)
   all_goals
   refine Tri.skip ?_
   refine Tri.seq ?_
   refine Tri.block ?_
   have hiW:i<W.length:=by omega
   have hwi:=za8 hW _ (zfW hiW)
   have hpw:([ls W i]:List ByteArray).all zbR=true:=by have:=List.all_eq_true.1 hW _ (zfW hiW);simpa using this
   have he1:errX x [ls W i]=0:=zdU hv hpw
   have he2:errX xr [ls W i]=0:=zdU hrv hpw
   have he3:errX xf [ls W i]=0:=zdU hfv hpw
   have hb1:allE x (ls W i)=allX x (ls W i):=if_pos he1
   have hb2:allE xr (ls W i)=allX xr (ls W i):=if_pos he2
   have hb3:allE xf (ls W i)=allX xf (ls W i):=if_pos he3
   have ha:=zge x (ls W i) hx
   have ha2:=zge xr (ls W i) hrx
   have ha3:=zge xf (ls W i) hfx
   have hs2:(x.forms.any fun f=>decide (f.word=ls W i))=true→allX xr (ls W i)=allX x (ls W i):=fun h=>by rw[←hxr];exact zpL h
   have hs3:decide (ls W i=f.word)=false→allX xf (ls W i)=allX x (ls W i):=fun h=>by rw[←hxf,hf];exact zqA h
   obtain⟨a,hae⟩:∃a,allX x (ls W i)=a:=⟨_,rfl⟩
   obtain⟨a2,hae2⟩:∃a2,allX xr (ls W i)=a2:=⟨_,rfl⟩
   obtain⟨a3,hae3⟩:∃a3,allX xf (ls W i)=a3:=⟨_,rfl⟩
   rw[hae] at hb1 ha hs2 hs3
   rw[hae2] at hb2 ha2 hs2
   rw[hae3] at hb3 ha3 hs3
   refine sD 12 [7,8,9,10,11,12,13,14,15] (fun P GD S K=>XvLoad P 33 (M S.hp S.nx) (S.get 7) (fun r0 ef0=>XvFnDV P (M S.hp S.nx) (.fn 6 []) [r0] (fun r1 ef1=>XvIndexAddr P 35 (S.get 8) (S.get 13) (fun r4 ef4=>XvLoad P 9 (M (Eff.hp ef1 S.nx S.hp) (S.nx+ef1.add.length)) r4 (fun r5 ef5=>XvFnDV P (M (Eff.hp ef1 S.nx S.hp) (S.nx+ef1.add.length)) (.fn 12 []) [r1,r5] (fun r6 ef6=>XvExtract r6 0 (fun r8 ef8=>XvExtract r6 1 (fun r9 ef9=>(trOk S.nx GD [⟨S.nx,0,ef0.rd,[],[]⟩,(Eff.tr ef1 S.nx),⟨(S.nx+ef1.add.length),0,[],[],[]⟩,⟨(S.nx+ef1.add.length),0,[],[],[]⟩,⟨(S.nx+ef1.add.length),0,ef4.rd,[],[]⟩,⟨(S.nx+ef1.add.length),0,ef5.rd,[],[]⟩,(Eff.tr ef6 (S.nx+ef1.add.length)),⟨((S.nx+ef1.add.length)+ef6.add.length),0,[],[],[]⟩,⟨((S.nx+ef1.add.length)+ef6.add.length),0,ef8.rd,[],[]⟩,⟨((S.nx+ef1.add.length)+ef6.add.length),0,ef9.rd,[],[]⟩,⟨((S.nx+ef1.add.length)+ef6.add.length),0,[],[],[]⟩,⟨((S.nx+ef1.add.length)+ef6.add.length),0,[],[],[]⟩]=true∧K ⟨[(7,S.get 7),(8,S.get 8),(9,S.get 9),(10,S.get 10),(11,S.get 11),(12,S.get 12),(13,S.get 13),(14,r8),(15,r9)],(Eff.hp ef6 (S.nx+ef1.add.length) (Eff.hp ef1 S.nx S.hp)),((S.nx+ef1.add.length)+ef6.add.length),S.gh⟩))))))))) fun K hK=>?_
   repeat' (first|(refine hK _ ?_;clear hK K)|(refine(?_:trOk _ _ _=true);(try simp only[zaL hiW,he1,hb1]);kernel_rfl)|refine And.intro ?_ ?_|exact cl|exact zaw _|exact za3 _|exact za4 _|refine zah ?_ _|refine zai ?_ _|refine .inl ⟨_,_,hmade,?_⟩|refine .inl ⟨_,_,hwm,?_⟩|refine .inl ⟨_,_,zaZ x hx,?_⟩|refine⟨_,_,zaZ x hx,?_⟩|refine .inl ⟨_,_,zaZ xr hrx,?_⟩|refine⟨_,_,zaZ xr hrx,?_⟩|refine .inl ⟨_,_,zaZ xf hfx,?_⟩|refine⟨_,_,zaZ xf hfx,?_⟩|refine .inl ⟨_,_,zaZ xp hpx,?_⟩|refine⟨_,_,zaZ xp hpx,?_⟩|refine .inl ⟨_,_,zbc x (ls W i) hx hwi,?_⟩|refine⟨_,_,zbc x (ls W i) hx hwi,?_⟩|refine .inl ⟨_,_,zbc xr (ls W i) hrx hwi,?_⟩|refine⟨_,_,zbc xr (ls W i) hrx hwi,?_⟩|refine .inl ⟨_,_,zbc xf (ls W i) hfx hwi,?_⟩|refine⟨_,_,zbc xf (ls W i) hfx hwi,?_⟩|refine .inl ⟨_,_,zan x W (i:Int) hx (by omega) (za8 hW) (by unfold I64;omega),?_⟩|refine⟨_,_,zan x W (i:Int) hx (by omega) (za8 hW) (by unfold I64;omega),?_⟩|refine .inl ⟨_,_,zan xp W (i:Int) hpx (by omega) (za8 hW) (by unfold I64;omega),?_⟩|refine⟨_,_,zan xp W (i:Int) hpx (by omega) (za8 hW) (by unfold I64;omega),?_⟩|refine .inl ⟨_,_,hlv,?_⟩|refine⟨_,_,hlv,?_⟩|(refine st ?_;try simp only[encX,zaa,zac,zad,encF,zab,zae,zaf,zaL hiW,he1,hb1])|refine sx ?_ (by simp only[encX,zaa,zac,zad,encF,zab,zae,zaf,zaL hiW,he1,hb1];exact rfl)|fail)
   all_goals
   refine sD 12 [7,8,9,10,11,12,13,14,15,16,17] (fun P GD S K=>XvLoad P 33 (M S.hp S.nx) (S.get 9) (fun r0 ef0=>XvFnDV P (M S.hp S.nx) (.fn 6 []) [r0] (fun r1 ef1=>XvIndexAddr P 35 (S.get 8) (S.get 13) (fun r4 ef4=>XvLoad P 9 (M (Eff.hp ef1 S.nx S.hp) (S.nx+ef1.add.length)) r4 (fun r5 ef5=>XvFnDV P (M (Eff.hp ef1 S.nx S.hp) (S.nx+ef1.add.length)) (.fn 12 []) [r1,r5] (fun r6 ef6=>XvExtract r6 0 (fun r8 ef8=>XvExtract r6 1 (fun r9 ef9=>(trOk S.nx GD [⟨S.nx,0,ef0.rd,[],[]⟩,(Eff.tr ef1 S.nx),⟨(S.nx+ef1.add.length),0,[],[],[]⟩,⟨(S.nx+ef1.add.length),0,[],[],[]⟩,⟨(S.nx+ef1.add.length),0,ef4.rd,[],[]⟩,⟨(S.nx+ef1.add.length),0,ef5.rd,[],[]⟩,(Eff.tr ef6 (S.nx+ef1.add.length)),⟨((S.nx+ef1.add.length)+ef6.add.length),0,[],[],[]⟩,⟨((S.nx+ef1.add.length)+ef6.add.length),0,ef8.rd,[],[]⟩,⟨((S.nx+ef1.add.length)+ef6.add.length),0,ef9.rd,[],[]⟩,⟨((S.nx+ef1.add.length)+ef6.add.length),0,[],[],[]⟩,⟨((S.nx+ef1.add.length)+ef6.add.length),0,[],[],[]⟩]=true∧K ⟨[(7,S.get 7),(8,S.get 8),(9,S.get 9),(10,S.get 10),(11,S.get 11),(12,S.get 12),(13,S.get 13),(14,S.get 14),(15,S.get 15),(16,r8),(17,r9)],(Eff.hp ef6 (S.nx+ef1.add.length) (Eff.hp ef1 S.nx S.hp)),((S.nx+ef1.add.length)+ef6.add.length),S.gh⟩))))))))) fun K hK=>?_
   repeat' (first|(refine hK _ ?_;clear hK K)|(refine(?_:trOk _ _ _=true);(try simp only[zaL hiW,he2,hb2]);kernel_rfl)|refine And.intro ?_ ?_|exact cl|exact zaw _|exact za3 _|exact za4 _|refine zah ?_ _|refine zai ?_ _|refine .inl ⟨_,_,hmade,?_⟩|refine .inl ⟨_,_,hwm,?_⟩|refine .inl ⟨_,_,zaZ x hx,?_⟩|refine⟨_,_,zaZ x hx,?_⟩|refine .inl ⟨_,_,zaZ xr hrx,?_⟩|refine⟨_,_,zaZ xr hrx,?_⟩|refine .inl ⟨_,_,zaZ xf hfx,?_⟩|refine⟨_,_,zaZ xf hfx,?_⟩|refine .inl ⟨_,_,zaZ xp hpx,?_⟩|refine⟨_,_,zaZ xp hpx,?_⟩|refine .inl ⟨_,_,zbc x (ls W i) hx hwi,?_⟩|refine⟨_,_,zbc x (ls W i) hx hwi,?_⟩|refine .inl ⟨_,_,zbc xr (ls W i) hrx hwi,?_⟩|refine⟨_,_,zbc xr (ls W i) hrx hwi,?_⟩|refine .inl ⟨_,_,zbc xf (ls W i) hfx hwi,?_⟩|refine⟨_,_,zbc xf (ls W i) hfx hwi,?_⟩|refine .inl ⟨_,_,zan x W (i:Int) hx (by omega) (za8 hW) (by unfold I64;omega),?_⟩|refine⟨_,_,zan x W (i:Int) hx (by omega) (za8 hW) (by unfold I64;omega),?_⟩|refine .inl ⟨_,_,zan xp W (i:Int) hpx (by omega) (za8 hW) (by unfold I64;omega),?_⟩|refine⟨_,_,zan xp W (i:Int) hpx (by omega) (za8 hW) (by unfold I64;omega),?_⟩|refine .inl ⟨_,_,hlv,?_⟩|refine⟨_,_,hlv,?_⟩|(refine st ?_;try simp only[encX,zaa,zac,zad,encF,zab,zae,zaf,zaL hiW,he2,hb2])|refine sx ?_ (by simp only[encX,zaa,zac,zad,encF,zab,zae,zaf,zaL hiW,he2,hb2];exact rfl)|fail)
   all_goals
   refine sD 12 [7,8,9,10,11,12,13,14,15,16,17,18,19] (fun P GD S K=>XvLoad P 33 (M S.hp S.nx) (S.get 10) (fun r0 ef0=>XvFnDV P (M S.hp S.nx) (.fn 6 []) [r0] (fun r1 ef1=>XvIndexAddr P 35 (S.get 8) (S.get 13) (fun r4 ef4=>XvLoad P 9 (M (Eff.hp ef1 S.nx S.hp) (S.nx+ef1.add.length)) r4 (fun r5 ef5=>XvFnDV P (M (Eff.hp ef1 S.nx S.hp) (S.nx+ef1.add.length)) (.fn 12 []) [r1,r5] (fun r6 ef6=>XvExtract r6 0 (fun r8 ef8=>XvExtract r6 1 (fun r9 ef9=>(trOk S.nx GD [⟨S.nx,0,ef0.rd,[],[]⟩,(Eff.tr ef1 S.nx),⟨(S.nx+ef1.add.length),0,[],[],[]⟩,⟨(S.nx+ef1.add.length),0,[],[],[]⟩,⟨(S.nx+ef1.add.length),0,ef4.rd,[],[]⟩,⟨(S.nx+ef1.add.length),0,ef5.rd,[],[]⟩,(Eff.tr ef6 (S.nx+ef1.add.length)),⟨((S.nx+ef1.add.length)+ef6.add.length),0,[],[],[]⟩,⟨((S.nx+ef1.add.length)+ef6.add.length),0,ef8.rd,[],[]⟩,⟨((S.nx+ef1.add.length)+ef6.add.length),0,ef9.rd,[],[]⟩,⟨((S.nx+ef1.add.length)+ef6.add.length),0,[],[],[]⟩,⟨((S.nx+ef1.add.length)+ef6.add.length),0,[],[],[]⟩]=true∧K ⟨[(7,S.get 7),(8,S.get 8),(9,S.get 9),(10,S.get 10),(11,S.get 11),(12,S.get 12),(13,S.get 13),(14,S.get 14),(15,S.get 15),(16,S.get 16),(17,S.get 17),(18,r8),(19,r9)],(Eff.hp ef6 (S.nx+ef1.add.length) (Eff.hp ef1 S.nx S.hp)),((S.nx+ef1.add.length)+ef6.add.length),S.gh⟩))))))))) fun K hK=>?_
   repeat' (first|(refine hK _ ?_;clear hK K)|(refine(?_:trOk _ _ _=true);(try simp only[zaL hiW,he3,hb3]);kernel_rfl)|refine And.intro ?_ ?_|exact cl|exact zaw _|exact za3 _|exact za4 _|refine zah ?_ _|refine zai ?_ _|refine .inl ⟨_,_,hmade,?_⟩|refine .inl ⟨_,_,hwm,?_⟩|refine .inl ⟨_,_,zaZ x hx,?_⟩|refine⟨_,_,zaZ x hx,?_⟩|refine .inl ⟨_,_,zaZ xr hrx,?_⟩|refine⟨_,_,zaZ xr hrx,?_⟩|refine .inl ⟨_,_,zaZ xf hfx,?_⟩|refine⟨_,_,zaZ xf hfx,?_⟩|refine .inl ⟨_,_,zaZ xp hpx,?_⟩|refine⟨_,_,zaZ xp hpx,?_⟩|refine .inl ⟨_,_,zbc x (ls W i) hx hwi,?_⟩|refine⟨_,_,zbc x (ls W i) hx hwi,?_⟩|refine .inl ⟨_,_,zbc xr (ls W i) hrx hwi,?_⟩|refine⟨_,_,zbc xr (ls W i) hrx hwi,?_⟩|refine .inl ⟨_,_,zbc xf (ls W i) hfx hwi,?_⟩|refine⟨_,_,zbc xf (ls W i) hfx hwi,?_⟩|refine .inl ⟨_,_,zan x W (i:Int) hx (by omega) (za8 hW) (by unfold I64;omega),?_⟩|refine⟨_,_,zan x W (i:Int) hx (by omega) (za8 hW) (by unfold I64;omega),?_⟩|refine .inl ⟨_,_,zan xp W (i:Int) hpx (by omega) (za8 hW) (by unfold I64;omega),?_⟩|refine⟨_,_,zan xp W (i:Int) hpx (by omega) (za8 hW) (by unfold I64;omega),?_⟩|refine .inl ⟨_,_,hlv,?_⟩|refine⟨_,_,hlv,?_⟩|(refine st ?_;try simp only[encX,zaa,zac,zad,encF,zab,zae,zaf,zaL hiW,he3,hb3])|refine sx ?_ (by simp only[encX,zaa,zac,zad,encF,zab,zae,zaf,zaL hiW,he3,hb3];exact rfl)|fail)
   all_goals
   refine Tri.seq ?_
   refine sZ [7,8,9,10,11,12,13,14,16,18,127] (fun P S K=>XvBinOV P .neq 41 (.const (.int .i64 0)) (S.get 15) (.atom (.int .i64 0)) (fun r1 _=>Xgq r1 false (fun k=>k (S.get 17)) (fun g3 r3=>Xgq g3 false (fun k=>XvBinOV P .neq 41 (.const (.int .i64 0)) r3 (.atom (.int .i64 0)) (fun r4 _=>k r4)) (fun g4 r4=>XvPick g4 (.atom (.bool true)) r4 (fun r5 _=>Xgq r5 false (fun k=>k (S.get 19)) (fun g7 r7=>Xgq g7 false (fun k=>XvBinOV P .neq 41 (.const (.int .i64 0)) r7 (.atom (.int .i64 0)) (fun r8 _=>k r8)) (fun g8 r8=>XvPick g8 (.atom (.bool true)) r8 (fun r9 _=>K ⟨[(7,S.get 7),(8,S.get 8),(9,S.get 9),(10,S.get 10),(11,S.get 11),(12,S.get 12),(13,S.get 13),(14,S.get 14),(16,S.get 16),(18,S.get 18),(127,r9)],S.hp,S.nx,S.gh⟩)))))))) fun K hK=>?_
   repeat' (first|(refine hK _ ?_;clear hK K)|((first|refine zak (fun hg=>?_) (fun hg=>?_)|refine fun(hg:(_:Prop))=>?_)<;>((try simp only[BQ,List.length_map] at hg);try (cases hg;done);try (exfalso;omega)))|refine And.intro ?_ ?_|exact cl|exact zaw _|exact za3 _|exact za4 _|refine zah ?_ _|refine zai ?_ _|(refine st ?_;try simp only[encX,zaa,zac,zad,encF,zab,zae,zaf,↓SE])|refine sx ?_ (by simp only[encX,zaa,zac,zad,encF,zab,zae,zaf,↓SE];exact rfl)|fail)
   all_goals
   refine Tri.cond rfl (fun h127=>?_) (fun h127=>?_)
   ·try (cases h127;done)
    all_goals (try simp only[CQ] at h127)
    all_goals
    refine sZ [6] (fun P S K=>K ⟨[(6,(.atom (.bool false)))],S.hp,S.nx,S.gh⟩) fun K hK=>?_
    repeat' (first|(refine hK _ ?_;clear hK K)|refine And.intro ?_ ?_|exact cl|exact zaw _|exact za3 _|exact za4 _|(refine st ?_;try simp only[encX,zaa,zac,zad,encF,zab,zae,zaf])|refine sx ?_ (by simp only[encX,zaa,zac,zad,encF,zab,zae,zaf];exact rfl)|fail)
    all_goals
    refine Tri.ret ?_
    show ResOk _ _ _ _
    done
   try (cases h127;done)
   all_goals (try simp only[CQ] at h127)
   all_goals
   refine Tri.skip ?_
   refine sZ [7,8,9,10,11,12,13,14,16,18,20] (fun P S K=>K ⟨[(7,S.get 7),(8,S.get 8),(9,S.get 9),(10,S.get 10),(11,S.get 11),(12,S.get 12),(13,S.get 13),(14,S.get 14),(16,S.get 16),(18,S.get 18),(20,(.atom (.bool false)))],S.hp,S.nx,S.gh⟩) fun K hK=>?_
   repeat' (first|(refine hK _ ?_;clear hK K)|refine And.intro ?_ ?_|exact cl|exact zaw _|exact za3 _|exact za4 _|(refine st ?_;try simp only[encX,zaa,zac,zad,encF,zab,zae,zaf])|refine sx ?_ (by simp only[encX,zaa,zac,zad,encF,zab,zae,zaf];exact rfl)|fail)
   all_goals
   refine Tri.seq ?_
   refine sZ [7,8,9,10,11,12,13,14,16,18,20,21] (fun P S K=>K ⟨[(7,S.get 7),(8,S.get 8),(9,S.get 9),(10,S.get 10),(11,S.get 11),(12,S.get 12),(13,S.get 13),(14,S.get 14),(16,S.get 16),(18,S.get 18),(20,S.get 20),(21,(.atom (.int .i64 0)))],S.hp,S.nx,S.gh⟩) fun K hK=>?_
   repeat' (first|(refine hK _ ?_;clear hK K)|refine And.intro ?_ ?_|exact cl|exact zaw _|exact za3 _|exact za4 _|(refine st ?_;try simp only[encX,zaa,zac,zad,encF,zab,zae,zaf])|refine sx ?_ (by simp only[encX,zaa,zac,zad,encF,zab,zae,zaf];exact rfl)|fail)
   all_goals
   refine Tri.block ?_
   refine Tri.loop (α:=(b:Bool) ×' (k:Nat) ×' (k≤x.forms.length∧b=(x.forms.take k).any fun f=>decide (f.word=ls W i))) (fun z=>(fun(b:Bool) (k:Nat)=>(⟨[(7,.ptr 0 3 0 0),(8,strs W),(9,.ptr 1 3 0 0),(10,.ptr 2 3 0 0),(11,.ptr 3 3 0 0),(12,.ptr 4 3 0 0),(13,encI i),(14,zaa a),(16,zaa a2),(18,zaa a3),(20,.atom (.bool b)),(21,encI k)],[(0,some ⟨3,[encX x]⟩),(1,some ⟨3,[encX xr]⟩),(2,some ⟨3,[encX xf]⟩),(3,some ⟨3,[encF f]⟩),(4,some ⟨3,[encX xp]⟩)],5,[]⟩:St)) z.1 z.2.1) (fun z=>(fun(b:Bool) (k:Nat)=>x.forms.length - k) z.1 z.2.1) ⟨false,0,⟨Nat.zero_le _,rfl⟩⟩ [0,1,2,3,4] ?_ ?_
   ·exact zgK
   rintro⟨b,k,⟨hk,hb⟩⟩
   refine Tri.seq ?_
   refine sZ [7,8,9,10,11,12,13,14,16,18,20,21,132] (fun P S K=>XvFieldAddr P 33 0 (S.get 7) (fun r1 _=>XvLoad P 29 (M S.hp S.nx) r1 (fun r2 _=>XvLen P 29 (M S.hp S.nx) r2 (fun r3 _=>XvBinOV P .lss 3 (.tmp 131) (S.get 21) r3 (fun r4 _=>K ⟨[(7,S.get 7),(8,S.get 8),(9,S.get 9),(10,S.get 10),(11,S.get 11),(12,S.get 12),(13,S.get 13),(14,S.get 14),(16,S.get 16),(18,S.get 18),(20,S.get 20),(21,S.get 21),(132,r4)],S.hp,S.nx,S.gh⟩))))) fun K hK=>?_
   repeat' (first|(refine hK _ ?_;clear hK K)|refine And.intro ?_ ?_|exact cl|exact zaw _|exact za3 _|exact za4 _|refine zah ?_ _|refine zai ?_ _|(refine st ?_;try simp only[encX,zaa,zac,zad,encF,zab,zae,zaf])|refine sx ?_ (by simp only[encX,zaa,zac,zad,encF,zab,zae,zaf];exact rfl)|fail)
   all_goals
   refine Tri.cond rfl (fun h132=>?_) (fun h132=>?_)
   ·try (cases h132;done)
    all_goals (try simp only[CQ] at h132)
    all_goals
    refine Tri.skip ?_
    refine Tri.seq ?_
    refine Tri.block ?_
    have hkl:k<x.forms.length:=by omega
    rcases b with _|_
    all_goals
    refine rD 15 [7,8,9,10,11,12,13,14,16,18,20,21] (fun P GD S K=>Xge (S.get 20) false (fun k=>XvFieldAddr P 33 0 (S.get 7) k) (fun g2 r2 ef2=>Xge g2 false (fun k=>XvLoad P 29 (M S.hp S.nx) r2 k) (fun g3 r3 ef3=>Xge g3 false (fun k=>k (S.get 21) e0) (fun g4 r4 ef4=>Xge g4 false (fun k=>XvIndexAddr P 29 r3 r4 k) (fun g5 r5 ef5=>Xge g5 false (fun k=>XvFieldAddr P 50 0 r5 k) (fun g6 r6 ef6=>Xge g6 false (fun k=>XvLoad P 9 (M S.hp S.nx) r6 k) (fun g7 r7 ef7=>Xge g7 false (fun k=>k (S.get 8) e0) (fun g8 r8 ef8=>Xge g8 false (fun k=>k (S.get 13) e0) (fun g9 r9 ef9=>Xge g9 false (fun k=>XvIndexAddr P 35 r8 r9 k) (fun g10 r10 ef10=>Xge g10 false (fun k=>XvLoad P 9 (M S.hp S.nx) r10 k) (fun g11 r11 ef11=>Xge g11 false (fun k=>XvBinOV P .eql 9 (.tmp 146) r7 r11 k) (fun g12 r12 ef12=>XvPick g12 (.atom (.bool true)) r12 (fun r13 ef13=>(trOk S.nx GD [⟨S.nx,0,[],[],[]⟩,⟨S.nx,0,[],[],[]⟩,⟨S.nx,0,ef2.rd,[],[]⟩,⟨S.nx,0,ef3.rd,[],[]⟩,⟨S.nx,0,ef4.rd,[],[]⟩,⟨S.nx,0,ef5.rd,[],[]⟩,⟨S.nx,0,ef6.rd,[],[]⟩,⟨S.nx,0,ef7.rd,[],[]⟩,⟨S.nx,0,ef8.rd,[],[]⟩,⟨S.nx,0,ef9.rd,[],[]⟩,⟨S.nx,0,ef10.rd,[],[]⟩,⟨S.nx,0,ef11.rd,[],[]⟩,⟨S.nx,0,ef12.rd,[],[]⟩,⟨S.nx,0,ef13.rd,[],[]⟩,⟨S.nx,0,[],[],[]⟩]=true∧K ⟨[(7,S.get 7),(8,S.get 8),(9,S.get 9),(10,S.get 10),(11,S.get 11),(12,S.get 12),(13,S.get 13),(14,S.get 14),(16,S.get 16),(18,S.get 18),(20,r13),(21,S.get 21)],S.hp,S.nx,S.gh⟩)))))))))))))) fun K hK=>?_
    repeat' (first|(refine hK _ ?_;clear hK K)|(refine(?_:trOk _ _ _=true);(try simp only[↓SE,zaq hkl,zaL hiW]);kernel_rfl)|((first|refine zak (fun hg=>?_) (fun hg=>?_)|refine fun(hg:(_:Prop))=>?_)<;>((try simp only[BQ,List.length_map] at hg);try (cases hg;done);try (exfalso;omega)))|refine And.intro ?_ ?_|exact cl|exact zaw _|exact za3 _|exact za4 _|refine zah ?_ _|refine zai ?_ _|(refine st ?_;try simp only[encX,zaa,zac,zad,encF,zab,zae,zaf,↓SE,zaq hkl,zaL hiW])|refine sx ?_ (by simp only[encX,zaa,zac,zad,encF,zab,zae,zaf,↓SE,zaq hkl,zaL hiW];exact rfl)|fail)
    all_goals
    refine rZ [7,8,9,10,11,12,13,14,16,18,20,21] (fun P S K=>XvBinOV P .add 3 (.const (.int .i64 1)) (S.get 21) (.atom (.int .i64 1)) (fun r1 _=>K ⟨[(7,S.get 7),(8,S.get 8),(9,S.get 9),(10,S.get 10),(11,S.get 11),(12,S.get 12),(13,S.get 13),(14,S.get 14),(16,S.get 16),(18,S.get 18),(20,S.get 20),(21,r1)],S.hp,S.nx,S.gh⟩)) fun K hK=>?_
    repeat' (first|(refine hK _ ?_;clear hK K)|refine And.intro ?_ ?_|exact cl|exact zaw _|exact za3 _|exact za4 _|(refine st ?_;try simp only[encX,zaa,zac,zad,encF,zab,zae,zaf])|refine sx ?_ (by simp only[encX,zaa,zac,zad,encF,zab,zae,zaf];exact rfl)|fail)
    all_goals try simp (disch:=omega) only[zag,zaj]
    all_goals
    first
    | (refine⟨⟨true,k+1,by omega,by rw[zjS hkl,←hb];rfl⟩,[0,1,2,3,4],by dsimp only;omega,?_⟩
       exact zgK)
    | (refine⟨⟨decide ((fF x.forms k).word=ls W i),k+1,by omega,by rw[zjS hkl,←hb];rfl⟩,[0,1,2,3,4],by dsimp only;omega,?_⟩
       exact zgK)
   try (cases h132;done)
   all_goals (try simp only[CQ] at h132)
   all_goals
   refine Tri.exit ?_
   refine Tri.cut (α:=Unit) (fun⟨⟩=>⟨[(7,.ptr 0 3 0 0),(8,strs W),(9,.ptr 1 3 0 0),(10,.ptr 2 3 0 0),(11,.ptr 3 3 0 0),(12,.ptr 4 3 0 0),(13,encI i)],[(0,some ⟨3,[encX x]⟩),(1,some ⟨3,[encX xr]⟩),(2,some ⟨3,[encX xf]⟩),(3,some ⟨3,[encF f]⟩),(4,some ⟨3,[encX xp]⟩)],5,[]⟩) ?_ ?_
   ·skip
    have hcs:=zm7 (b:=b) (q:=ls W i=f.word) (a:=a) (a2:=a2) (a3:=a3) (fun h=>hs2 (by rw[hb,List.take_of_length_le (by omega)] at h;exact h)) hs3
    clear hb
    rcases hcs with ⟨rfl,⟨hdw,hdn⟩,hA2,hC2⟩|⟨rfl,⟨hdw,hdn⟩,hA2,hC2⟩|⟨rfl,⟨hdw,hdn⟩,hA2,hC2⟩|⟨rfl,⟨hdw,hdn⟩,hA2,hC2⟩
    all_goals
    refine sD 26 [7,8,9,10,11,12,13,174] (fun P GD S K=>Xge (S.get 20) true (fun k=>k (S.get 14) e0) (fun g2 r2 ef2=>Xge g2 true (fun k=>XvFnDV P (M S.hp S.nx) (.fn 15 []) [r2] k) (fun g3 r3 ef3=>Xge g3 true (fun k=>k (S.get 16) e0) (fun g4 r4 ef4=>Xge g4 true (fun k=>XvFnDV P (M (Eff.hp ef3 S.nx S.hp) (S.nx+ef3.add.length)) (.fn 15 []) [r4] k) (fun g5 r5 ef5=>Xge g5 true (fun k=>XvFnDV P (M (Eff.hp ef5 (S.nx+ef3.add.length) (Eff.hp ef3 S.nx S.hp)) ((S.nx+ef3.add.length)+ef5.add.length)) (.fn 14 []) [r3,r5] k) (fun g6 r6 ef6=>Xge g6 true (fun k=>XvUn .not r6 k) (fun g7 r7 ef7=>XvPick g7 r7 (.atom (.bool false)) (fun r8 ef8=>Xge r8 false (fun k=>k (S.get 8) e0) (fun g10 r10 ef10=>Xge g10 false (fun k=>k (S.get 13) e0) (fun g11 r11 ef11=>Xge g11 false (fun k=>XvIndexAddr P 35 r10 r11 k) (fun g12 r12 ef12=>Xge g12 false (fun k=>XvLoad P 9 (M (Eff.hp ef6 ((S.nx+ef3.add.length)+ef5.add.length) (Eff.hp ef5 (S.nx+ef3.add.length) (Eff.hp ef3 S.nx S.hp))) (((S.nx+ef3.add.length)+ef5.add.length)+ef6.add.length)) r12 k) (fun g13 r13 ef13=>Xge g13 false (fun k=>XvFieldAddr P 50 0 (S.get 11) k) (fun g14 r14 ef14=>Xge g14 false (fun k=>XvLoad P 9 (M (Eff.hp ef6 ((S.nx+ef3.add.length)+ef5.add.length) (Eff.hp ef5 (S.nx+ef3.add.length) (Eff.hp ef3 S.nx S.hp))) (((S.nx+ef3.add.length)+ef5.add.length)+ef6.add.length)) r14 k) (fun g15 r15 ef15=>Xge g15 false (fun k=>XvBinOV P .neq 9 (.tmp 164) r13 r15 k) (fun g16 r16 ef16=>Xge g16 false (fun k=>k r16 e0) (fun g17 r17 ef17=>Xge r17 true (fun k=>k (S.get 14) e0) (fun g18 r18 ef18=>Xge g18 true (fun k=>XvFnDV P (M (Eff.hp ef6 ((S.nx+ef3.add.length)+ef5.add.length) (Eff.hp ef5 (S.nx+ef3.add.length) (Eff.hp ef3 S.nx S.hp))) (((S.nx+ef3.add.length)+ef5.add.length)+ef6.add.length)) (.fn 15 []) [r18] k) (fun g19 r19 ef19=>Xge g19 true (fun k=>k (S.get 18) e0) (fun g20 r20 ef20=>Xge g20 true (fun k=>XvFnDV P (M (Eff.hp ef19 (((S.nx+ef3.add.length)+ef5.add.length)+ef6.add.length) (Eff.hp ef6 ((S.nx+ef3.add.length)+ef5.add.length) (Eff.hp ef5 (S.nx+ef3.add.length) (Eff.hp ef3 S.nx S.hp)))) ((((S.nx+ef3.add.length)+ef5.add.length)+ef6.add.length)+ef19.add.length)) (.fn 15 []) [r20] k) (fun g21 r21 ef21=>Xge g21 true (fun k=>XvFnDV P (M (Eff.hp ef21 ((((S.nx+ef3.add.length)+ef5.add.length)+ef6.add.length)+ef19.add.length) (Eff.hp ef19 (((S.nx+ef3.add.length)+ef5.add.length)+ef6.add.length) (Eff.hp ef6 ((S.nx+ef3.add.length)+ef5.add.length) (Eff.hp ef5 (S.nx+ef3.add.length) (Eff.hp ef3 S.nx S.hp))))) (((((S.nx+ef3.add.length)+ef5.add.length)+ef6.add.length)+ef19.add.length)+ef21.add.length)) (.fn 14 []) [r19,r21] k) (fun g22 r22 ef22=>Xge g22 true (fun k=>XvUn .not r22 k) (fun g23 r23 ef23=>Xge g17 false (fun k=>XvPick g23 r23 (.atom (.bool false)) k) (fun g24 r24 ef24=>XvPick g24 (.atom (.bool true)) r24 (fun r25 ef25=>(trOk S.nx GD [⟨S.nx,0,[],[],[]⟩,⟨S.nx,0,[],[],[]⟩,⟨S.nx,0,ef2.rd,[],[]⟩,(Eff.tr ef3 S.nx),⟨(S.nx+ef3.add.length),0,ef4.rd,[],[]⟩,(Eff.tr ef5 (S.nx+ef3.add.length)),(Eff.tr ef6 ((S.nx+ef3.add.length)+ef5.add.length)),⟨(((S.nx+ef3.add.length)+ef5.add.length)+ef6.add.length),0,ef7.rd,[],[]⟩,⟨(((S.nx+ef3.add.length)+ef5.add.length)+ef6.add.length),0,ef8.rd,[],[]⟩,⟨(((S.nx+ef3.add.length)+ef5.add.length)+ef6.add.length),0,[],[],[]⟩,⟨(((S.nx+ef3.add.length)+ef5.add.length)+ef6.add.length),0,ef10.rd,[],[]⟩,⟨(((S.nx+ef3.add.length)+ef5.add.length)+ef6.add.length),0,ef11.rd,[],[]⟩,⟨(((S.nx+ef3.add.length)+ef5.add.length)+ef6.add.length),0,ef12.rd,[],[]⟩,⟨(((S.nx+ef3.add.length)+ef5.add.length)+ef6.add.length),0,ef13.rd,[],[]⟩,⟨(((S.nx+ef3.add.length)+ef5.add.length)+ef6.add.length),0,ef14.rd,[],[]⟩,⟨(((S.nx+ef3.add.length)+ef5.add.length)+ef6.add.length),0,ef15.rd,[],[]⟩,⟨(((S.nx+ef3.add.length)+ef5.add.length)+ef6.add.length),0,ef16.rd,[],[]⟩,⟨(((S.nx+ef3.add.length)+ef5.add.length)+ef6.add.length),0,ef17.rd,[],[]⟩,⟨(((S.nx+ef3.add.length)+ef5.add.length)+ef6.add.length),0,ef18.rd,[],[]⟩,(Eff.tr ef19 (((S.nx+ef3.add.length)+ef5.add.length)+ef6.add.length)),⟨((((S.nx+ef3.add.length)+ef5.add.length)+ef6.add.length)+ef19.add.length),0,ef20.rd,[],[]⟩,(Eff.tr ef21 ((((S.nx+ef3.add.length)+ef5.add.length)+ef6.add.length)+ef19.add.length)),(Eff.tr ef22 (((((S.nx+ef3.add.length)+ef5.add.length)+ef6.add.length)+ef19.add.length)+ef21.add.length)),⟨((((((S.nx+ef3.add.length)+ef5.add.length)+ef6.add.length)+ef19.add.length)+ef21.add.length)+ef22.add.length),0,ef23.rd,[],[]⟩,⟨((((((S.nx+ef3.add.length)+ef5.add.length)+ef6.add.length)+ef19.add.length)+ef21.add.length)+ef22.add.length),0,ef24.rd,[],[]⟩,⟨((((((S.nx+ef3.add.length)+ef5.add.length)+ef6.add.length)+ef19.add.length)+ef21.add.length)+ef22.add.length),0,ef25.rd,[],[]⟩]=true∧K ⟨[(7,S.get 7),(8,S.get 8),(9,S.get 9),(10,S.get 10),(11,S.get 11),(12,S.get 12),(13,S.get 13),(174,r25)],(Eff.hp ef22 (((((S.nx+ef3.add.length)+ef5.add.length)+ef6.add.length)+ef19.add.length)+ef21.add.length) (Eff.hp ef21 ((((S.nx+ef3.add.length)+ef5.add.length)+ef6.add.length)+ef19.add.length) (Eff.hp ef19 (((S.nx+ef3.add.length)+ef5.add.length)+ef6.add.length) (Eff.hp ef6 ((S.nx+ef3.add.length)+ef5.add.length) (Eff.hp ef5 (S.nx+ef3.add.length) (Eff.hp ef3 S.nx S.hp)))))),((((((S.nx+ef3.add.length)+ef5.add.length)+ef6.add.length)+ef19.add.length)+ef21.add.length)+ef22.add.length),S.gh⟩))))))))))))))))))))))))) fun K hK=>?_
    repeat' (first|(refine hK _ ?_;clear hK K)|(refine(?_:trOk _ _ _=true);(try simp only[↓SE,hdw,hdn,hA2,hC2,zaL hiW]);kernel_rfl)|((first|refine zak (fun hg=>?_) (fun hg=>?_)|refine fun(hg:(_:Prop))=>?_)<;>((try simp only[BQ,List.length_map] at hg);try (cases hg;done);try (exfalso;omega)))|refine And.intro ?_ ?_|exact cl|exact zaw _|exact za3 _|exact za4 _|refine zah ?_ _|refine zai ?_ _|refine .inl ⟨_,_,hmade,?_⟩|refine .inl ⟨_,_,hwm,?_⟩|refine .inl ⟨_,_,zdc a ha,?_⟩|refine⟨_,_,zdc a ha,?_⟩|refine .inl ⟨_,_,zdc a2 ha2,?_⟩|refine⟨_,_,zdc a2 ha2,?_⟩|refine .inl ⟨_,_,zdc a3 ha3,?_⟩|refine⟨_,_,zdc a3 ha3,?_⟩|refine .inl ⟨_,_,zeC a a2 (by omega) (by omega),?_⟩|refine⟨_,_,zeC a a2 (by omega) (by omega),?_⟩|refine .inl ⟨_,_,zeC a a3 (by omega) (by omega),?_⟩|refine⟨_,_,zeC a a3 (by omega) (by omega),?_⟩|refine .inl ⟨_,_,zan x W (i:Int) hx (by omega) (za8 hW) (by unfold I64;omega),?_⟩|refine⟨_,_,zan x W (i:Int) hx (by omega) (za8 hW) (by unfold I64;omega),?_⟩|refine .inl ⟨_,_,zan xp W (i:Int) hpx (by omega) (za8 hW) (by unfold I64;omega),?_⟩|refine⟨_,_,zan xp W (i:Int) hpx (by omega) (za8 hW) (by unfold I64;omega),?_⟩|refine .inl ⟨_,_,hlv,?_⟩|refine⟨_,_,hlv,?_⟩|(refine st ?_;try simp only[encX,zaa,zac,zad,encF,zab,zae,zaf,↓SE,hdw,hdn,hA2,hC2,zaL hiW])|refine sx ?_ (by simp only[encX,zaa,zac,zad,encF,zab,zae,zaf,↓SE,hdw,hdn,hA2,hC2,zaL hiW];exact rfl)|fail)
    all_goals try simp (disch:=omega) only[zag,zaj]
    all_goals
    refine Tri.cond rfl (fun h174=>?_) (fun h174=>?_)
    ·try (cases h174;done)
     all_goals (try simp only[CQ] at h174)
     all_goals
     refine sZ [6] (fun P S K=>K ⟨[(6,(.atom (.bool false)))],S.hp,S.nx,S.gh⟩) fun K hK=>?_
     repeat' (first|(refine hK _ ?_;clear hK K)|refine And.intro ?_ ?_|exact cl|exact zaw _|exact za3 _|exact za4 _|(refine st ?_;try simp only[encX,zaa,zac,zad,encF,zab,zae,zaf])|refine sx ?_ (by simp only[encX,zaa,zac,zad,encF,zab,zae,zaf];exact rfl)|fail)
     all_goals
     refine Tri.ret ?_
     show ResOk _ _ _ _
     exact absurd (of_eq_true hdn) (by assumption)
    try (cases h174;done)
    all_goals (try simp only[CQ] at h174)
    all_goals
    refine Tri.skip ?_
    refine⟨(),[0,1,2,3,4],?_⟩
    exact zgK
   rintro⟨⟩
   have herr:errX x W=0:=zdU hv hW
   have herp:errX xp W=0:=zdU hpv hW
   have hq:(zbF x W (i:Int)).2=0→zbF xp W (i:Int)=zbF x W (i:Int):=by
     rw[zhI herr hiW,zhI herp hiW,←hxp]
     exact ch_more
   obtain⟨c,e,hce⟩:∃c e,zbF x W (i:Int)=(c,e):=⟨_,_,rfl⟩
   obtain⟨c2,e2,hce2⟩:∃c2 e2,zbF xp W (i:Int)=(c2,e2):=⟨_,_,rfl⟩
   rw[hce,hce2] at hq
   refine sZ [7,8,9,10,11,12,13,22,23] (fun P S K=>XvLoad P 33 (M S.hp S.nx) (S.get 7) (fun r0 _=>XvFnIV P (M S.hp S.nx) (.fn 6 []) [r0] (fun r1 ef1=>XvFnIV P (M (Eff.hp ef1 S.nx S.hp) (S.nx+ef1.add.length)) (.fn 11 []) [r1,(S.get 8),(S.get 13)] (fun r4 ef4=>XvExtract r4 0 (fun r6 _=>XvExtract r4 1 (fun r7 _=>XvAlloc P 40 ((S.nx+ef1.add.length)+ef4.add.length) (fun r8 ef8=>XvStore P 40 (M (Eff.hp ef8 ((S.nx+ef1.add.length)+ef4.add.length) (Eff.hp ef4 (S.nx+ef1.add.length) (Eff.hp ef1 S.nx S.hp))) (((S.nx+ef1.add.length)+ef4.add.length)+ef8.add.length)) r8 r6 (fun r9 ef9=>K ⟨[(7,S.get 7),(8,S.get 8),(9,S.get 9),(10,S.get 10),(11,S.get 11),(12,S.get 12),(13,S.get 13),(22,r8),(23,r7)],(Eff.hp ef9 (((S.nx+ef1.add.length)+ef4.add.length)+ef8.add.length) (Eff.hp ef8 ((S.nx+ef1.add.length)+ef4.add.length) (Eff.hp ef4 (S.nx+ef1.add.length) (Eff.hp ef1 S.nx S.hp)))),((((S.nx+ef1.add.length)+ef4.add.length)+ef8.add.length)+ef9.add.length),S.gh⟩)))))))) fun K hK=>?_
   repeat' (first|(refine hK _ ?_;clear hK K)|refine And.intro ?_ ?_|exact cl|exact zaw _|exact za3 _|exact za4 _|refine zah ?_ _|refine zai ?_ _|refine .inl ⟨_,_,hmade,?_⟩|refine .inl ⟨_,_,hwm,?_⟩|refine .inl ⟨_,_,zaZ x hx,?_⟩|refine .inl ⟨_,_,zaZ xr hrx,?_⟩|refine .inl ⟨_,_,zaZ xf hfx,?_⟩|refine .inl ⟨_,_,zaZ xp hpx,?_⟩|refine .inl ⟨_,_,zan x W (i:Int) hx (by omega) (za8 hW) (by unfold I64;omega),?_⟩|refine .inl ⟨_,_,zan xp W (i:Int) hpx (by omega) (za8 hW) (by unfold I64;omega),?_⟩|refine .inl ⟨_,_,hlv,?_⟩|(refine st ?_;try simp only[encX,zaa,zac,zad,encF,zab,zae,zaf,hce])|refine sx ?_ (by simp only[encX,zaa,zac,zad,encF,zab,zae,zaf,hce];exact rfl)|fail)
   all_goals
   refine sZ [7,8,9,10,11,12,13,22,23,24,25] (fun P S K=>XvLoad P 33 (M S.hp S.nx) (S.get 12) (fun r0 _=>XvFnIV P (M S.hp S.nx) (.fn 6 []) [r0] (fun r1 ef1=>XvFnIV P (M (Eff.hp ef1 S.nx S.hp) (S.nx+ef1.add.length)) (.fn 11 []) [r1,(S.get 8),(S.get 13)] (fun r4 ef4=>XvExtract r4 0 (fun r6 _=>XvExtract r4 1 (fun r7 _=>XvAlloc P 40 ((S.nx+ef1.add.length)+ef4.add.length) (fun r8 ef8=>XvStore P 40 (M (Eff.hp ef8 ((S.nx+ef1.add.length)+ef4.add.length) (Eff.hp ef4 (S.nx+ef1.add.length) (Eff.hp ef1 S.nx S.hp))) (((S.nx+ef1.add.length)+ef4.add.length)+ef8.add.length)) r8 r6 (fun r9 ef9=>K ⟨[(7,S.get 7),(8,S.get 8),(9,S.get 9),(10,S.get 10),(11,S.get 11),(12,S.get 12),(13,S.get 13),(22,S.get 22),(23,S.get 23),(24,r8),(25,r7)],(Eff.hp ef9 (((S.nx+ef1.add.length)+ef4.add.length)+ef8.add.length) (Eff.hp ef8 ((S.nx+ef1.add.length)+ef4.add.length) (Eff.hp ef4 (S.nx+ef1.add.length) (Eff.hp ef1 S.nx S.hp)))),((((S.nx+ef1.add.length)+ef4.add.length)+ef8.add.length)+ef9.add.length),S.gh⟩)))))))) fun K hK=>?_
   repeat' (first|(refine hK _ ?_;clear hK K)|refine And.intro ?_ ?_|exact cl|exact zaw _|exact za3 _|exact za4 _|refine zah ?_ _|refine zai ?_ _|refine .inl ⟨_,_,hmade,?_⟩|refine .inl ⟨_,_,hwm,?_⟩|refine .inl ⟨_,_,zaZ x hx,?_⟩|refine .inl ⟨_,_,zaZ xr hrx,?_⟩|refine .inl ⟨_,_,zaZ xf hfx,?_⟩|refine .inl ⟨_,_,zaZ xp hpx,?_⟩|refine .inl ⟨_,_,zan x W (i:Int) hx (by omega) (za8 hW) (by unfold I64;omega),?_⟩|refine .inl ⟨_,_,zan xp W (i:Int) hpx (by omega) (za8 hW) (by unfold I64;omega),?_⟩|refine .inl ⟨_,_,hlv,?_⟩|(refine st ?_;try simp only[encX,zaa,zac,zad,encF,zab,zae,zaf,hce2])|refine sx ?_ (by simp only[encX,zaa,zac,zad,encF,zab,zae,zaf,hce2];exact rfl)|fail)
   all_goals
   have hq2:=hq
   have hcq:decide (e=0)=false∨(decide (e=0)=true∧c2=c∧e2=0):=by
     by_cases h0:e=0
     · have h1:=hq2 h0
       rw[Prod.mk.injEq] at h1
       exact .inr ⟨decide_eq_true h0,h1.1,h1.2.trans h0⟩
     · exact .inl (decide_eq_false h0)
   rcases hcq with hd|⟨hd,rfl,rfl⟩
   all_goals
   refine sZ [7,8,9,10,11,12,13,201] (fun P S K=>XvBinOV P .eql 41 (.const (.int .i64 0)) (S.get 23) (.atom (.int .i64 0)) (fun r1 _=>Xgq r1 true (fun k=>k (S.get 25)) (fun g3 r3=>Xgq g3 true (fun k=>XvBinOV P .neq 41 (.const (.int .i64 0)) r3 (.atom (.int .i64 0)) (fun r4 _=>k r4)) (fun g4 r4=>Xgq g4 true (fun k=>k r4) (fun g5 r5=>Xgq r5 false (fun k=>XvLoad P 40 (M S.hp S.nx) (S.get 22) (fun r6 _=>k r6)) (fun g6 r6=>Xgq g6 false (fun k=>XvLoad P 40 (M S.hp S.nx) (S.get 24) (fun r7 _=>k r7)) (fun g7 r7=>Xgq g7 false (fun k=>XvBinOV P .neq 40 (.tmp 198) r6 r7 (fun r8 _=>k r8)) (fun g8 r8=>Xgq g5 true (fun k=>XvPick g8 (.atom (.bool true)) r8 (fun r9 _=>k r9)) (fun g9 r9=>XvPick g9 r9 (.atom (.bool false)) (fun r10 _=>K ⟨[(7,S.get 7),(8,S.get 8),(9,S.get 9),(10,S.get 10),(11,S.get 11),(12,S.get 12),(13,S.get 13),(201,r10)],S.hp,S.nx,S.gh⟩)))))))))) fun K hK=>?_
   repeat' (first|(refine hK _ ?_;clear hK K)|((first|refine zak (fun hg=>?_) (fun hg=>?_)|refine fun(hg:(_:Prop))=>?_)<;>((try simp only[BQ,List.length_map] at hg);try (cases hg;done);try (exfalso;omega)))|refine And.intro ?_ ?_|exact cl|exact zaw _|exact za3 _|exact za4 _|refine zah ?_ _|refine zai ?_ _|(refine st ?_;try simp only[encX,zaa,zac,zad,encF,zab,zae,zaf,↓SE,hd])|refine sx ?_ (by simp only[encX,zaa,zac,zad,encF,zab,zae,zaf,↓SE,hd];exact rfl)|fail)
   all_goals
   refine Tri.cond rfl (fun h201=>?_) (fun h201=>?_)
   ·try (cases h201;done)
    all_goals (try simp only[CQ] at h201)
    all_goals
    refine sZ [6] (fun P S K=>K ⟨[(6,(.atom (.bool false)))],S.hp,S.nx,S.gh⟩) fun K hK=>?_
    repeat' (first|(refine hK _ ?_;clear hK K)|refine And.intro ?_ ?_|exact cl|exact zaw _|exact za3 _|exact za4 _|(refine st ?_;try simp only[encX,zaa,zac,zad,encF,zab,zae,zaf])|refine sx ?_ (by simp only[encX,zaa,zac,zad,encF,zab,zae,zaf];exact rfl)|fail)
    all_goals
    refine Tri.ret ?_
    show ResOk _ _ _ _
    done
   try (cases h201;done)
   all_goals (try simp only[CQ] at h201)
   all_goals
   refine Tri.skip ?_
   refine rZ [7,8,9,10,11,12,13] (fun P S K=>XvBinOV P .add 3 (.const (.int .i64 1)) (S.get 13) (.atom (.int .i64 1)) (fun r1 _=>K ⟨[(7,S.get 7),(8,S.get 8),(9,S.get 9),(10,S.get 10),(11,S.get 11),(12,S.get 12),(13,r1)],S.hp,S.nx,S.gh⟩)) fun K hK=>?_
   repeat' (first|(refine hK _ ?_;clear hK K)|refine And.intro ?_ ?_|exact cl|exact zaw _|exact za3 _|exact za4 _|(refine st ?_;try simp only[encX,zaa,zac,zad,encF,zab,zae,zaf])|refine sx ?_ (by simp only[encX,zaa,zac,zad,encF,zab,zae,zaf];exact rfl)|fail)
   all_goals try simp (disch:=omega) only[zag,zaj]
   all_goals
   refine⟨⟨i+1,by omega⟩,[0,1,2,3,4],by dsimp only;omega,?_⟩
   exact zgK
  try (cases h85;done)
  all_goals (try simp only[CQ] at h85)
  all_goals
  refine Tri.exit ?_
  refine sZ [6] (fun P S K=>XvFnIV P (M S.hp S.nx) (.fn 9 []) [] (fun r0 ef0=>K ⟨[(6,r0)],(Eff.hp ef0 S.nx S.hp),(S.nx+ef0.add.length),S.gh⟩)) fun K hK=>?_
  repeat' (first|(refine hK _ ?_;clear hK K)|refine And.intro ?_ ?_|exact cl|exact zaw _|exact za3 _|exact za4 _|refine .inl ⟨_,_,hmade,?_⟩|refine .inl ⟨_,_,hwm,?_⟩|refine .inl ⟨_,_,zan x W (i:Int) hx (by omega) (za8 hW) (by unfold I64;omega),?_⟩|refine .inl ⟨_,_,zan xp W (i:Int) hpx (by omega) (za8 hW) (by unfold I64;omega),?_⟩|refine .inl ⟨_,_,hlv,?_⟩|(refine st ?_;try simp only[encX,zaa,zac,zad,encF,zab,zae,zaf])|refine sx ?_ (by simp only[encX,zaa,zac,zad,encF,zab,zae,zaf];exact rfl)|fail)
  all_goals
  refine Tri.ret ?_
  show ResOk _ _ _ _
  exact ResOk.val lsrM35 zbP
end Go.Proofs.Ytehoglapajkabaa
