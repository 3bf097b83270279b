/-
  The rules of the reckoning,in one set.
-/
import Derived.Test.YtehoglapajkabaaIW0
import Derived.Test.YtehoglapajkabaaIV14
set_option linter.all false
namespace Go.Proofs.Ytehoglapajkabaa
open Go Go.RowKit
def BQ:=And.intro (And.intro Bool.not_true Bool.not_false) (And.intro not_true_eq_false (And.intro (And.intro @decide_eq_true_eq @decide_eq_false_iff_not) (And.intro @Bool.not_eq_true' @Bool.not_eq_false')))
def CQ:=And.intro (And.intro @decide_eq_true_eq @decide_eq_false_iff_not) (And.intro (And.intro @Bool.not_eq_true' @Bool.not_eq_false') (And.intro @Bool.and_eq_true @Bool.or_eq_true))
def SD:=(And.intro (And.intro (And.intro (And.intro (And.intro @zrF @zn7) (And.intro @zhe @zoa)) (And.intro (And.intro @zhd @zn9) (And.intro @zoe @XvUn_eq))) (And.intro (And.intro (And.intro @zj4 @zrE) (And.intro @zlv @zrC)) (And.intro (And.intro @XvBox_eq @zof) (And.intro @zod @zlz)))) (And.intro (And.intro (And.intro (And.intro @XvNil_eq @zj3) (And.intro @zlx @XvLen_eq)) (And.intro (And.intro @zlA @zlw) (And.intro @XvFnV_eq (And.intro @zrH @zrG)))) (And.intro (And.intro (And.intro @zj5 @zj6) (And.intro @zie @zg8)) (And.intro (And.intro @zjD @zif) (And.intro @znQ (And.intro @zld (And.intro @znP (And.intro (And.intro @zn8 (And.intro @zob @zrD)) (And.intro @zly (And.intro @zlu (And.intro @zj2 @zoc)))))))))))
attribute [push_cast] zfr gq ge vPick vBox vAlloc vBuild vBuildS vNil vExtract vMakeFV vSliceV bndV vBinOV vFnV vFnDV vFnIV M pvU xG_tt xG_ff xG_tf xG_ft St.ev St.fin St.obj St.known lk zbO e0 mk1 rdE Eff.hp Eff.tr addH zjx zh7 vBin zdK Option.map_some binV vLoad vStore vFieldAddr vField vIndexAddr vIndex vAppend vBase vSrc vConvert vMake vMinMax vLen vUn vLookup vUpdate vMakeMap vClear vRange vEntry vNext zje zjo bnd St.born sealed PV.ren renL zf6 PV.noOb znV znW flatB_ob zrg flatB_mp zrh zre flatB_fn zrf zrd znU Bool.true_or Bool.false_or za1 za0 zaZ zaY zaC zaB zaA zaz AO.ren PV.cells PV.part PV.putPart PV.one Value.oneCell' zgM zcC zce zeZ spl thenQ List.map_nil List.map_cons List.nil_append List.cons_append List.append_nil List.length_nil List.length_cons List.length_map List.length_append List.length_take List.length_drop List.length_replicate List.all_cons List.all_nil List.flatMap_nil List.flatMap_cons List.foldl_cons List.foldl_nil List.getElem?_toArray List.getElem?_cons_succ List.getElem?_cons_zero List.getD_cons_zero List.getD_cons_succ List.set_cons_zero List.set_cons_succ List.take_succ_cons List.take_zero List.drop_succ_cons List.drop_zero List.replicate_succ List.replicate_zero List.mem_cons List.not_mem_nil List.forall_mem_cons List.take_nil List.drop_nil Option.isSome_some Option.isSome_none Option.getD_some Option.getD_none Option.join_some Option.bind_some Option.map_some Option.map_none Option.some.injEq Nat.add_zero Nat.zero_add Nat.zero_mul Nat.succ_eq_add_one Int.toNat_natCast Int.toNat_zero Int.toNat_one Int.cast_ofNat_Int if_true if_false ite_true ite_false true_and and_true false_and and_false cond_true cond_false Bool.and_true Bool.true_and Bool.and_self Bool.not_true Bool.not_false forall_const true_implies false_implies ne_eq not_false_eq_true not_true_eq_false and_self or_false or_true false_or true_or implies_true forall_eq Bool.false_eq_true Bool.true_eq_false Bool.not_eq_true forall_eq_or_imp Nat.le_refl decide_true decide_false Nat.lt_add_one Nat.zero_lt_succ Nat.lt_irrefl Nat.le_zero_eq Int.ofNat_le Int.ofNat_lt
attribute [push_cast] tAgg_1 tSize_1 tBytes_1 tElem_1 tStr_1 tInt_1 tzo_1 tAgg_2 tSize_2 tBytes_2 tElem_2 tStr_2 tInt_2 tUnd_2 tzo_2 tAgg_3 tSize_3 tBytes_3 tElem_3 tStr_3 tInt_3 tUnd_3 tzo_3 tAgg_4 tSize_4 tBytes_4 tElem_4 tStr_4 tInt_4 tUnd_4 tBool_4 tzo_4 tAgg_5 tSize_5 tBytes_5 tElem_5 tStr_5 tInt_5 tUnd_5 tzo_5 tAgg_9 tSize_9 tBytes_9 tElem_9 tStr_9 tInt_9 tUnd_9 tzo_9 tAgg_21 tSize_21 zqh tElem_21 tStr_21 tInt_21 tUnd_21 tzo_21 tAgg_22 tSize_22 zqg tElem_22 tStr_22 tInt_22 tzo_22 tAgg_23 tSize_23 zqf tElem_23 tStr_23 tInt_23 tzo_23 tAgg_24 tSize_24 zqe tElem_24 tStr_24 tInt_24 tzo_24 tAgg_25 tSize_25 zqd tElem_25 tStr_25 tInt_25 tzo_25 tAgg_27 tSize_27 zqc tElem_27 tStr_27 tInt_27 zpx zkQ zpw zkP zpv zkO zo2 tzo_27 tAgg_29 tSize_29 zqb tElem_29 tStr_29 tInt_29 tzo_29 tAgg_30 tSize_30 zqa tElem_30 tStr_30 tInt_30 tzo_30 tAgg_31 tSize_31 zp9 tElem_31 tStr_31 tInt_31 tzo_31 tAgg_33 tSize_33 zp8 tElem_33 tStr_33 tInt_33 zpu zkN zpt zkM zps zkL zo1 tzo_33 tAgg_35 tSize_35 zp7 tElem_35 tStr_35 tInt_35 tzo_35 tAgg_40 tSize_40 zp6 tElem_40 tStr_40 tInt_40 zpr zkK zpq zkJ zpp zkI zo0 tArr_40 tFlat_40 tzo_40 tAgg_41 tSize_41 zp5 tElem_41 tStr_41 tInt_41 tUnd_41 tzo_41 tAgg_48 tSize_48 zp4 tElem_48 tStr_48 tInt_48 zpo zkH zpn zkG zpm zkF zpl zkE zoZ tArr_48 tFlat_48 tzo_48 tAgg_50 tSize_50 zp3 tElem_50 tStr_50 tInt_50 zpk zkD zpj zkC zpi zkB zoY tArr_50 tFlat_50 tzo_50 tAgg_52 tSize_52 zp2 tElem_52 tStr_52 tInt_52 zph zkA zpg zkz zpf zky zoX tArr_52 tFlat_52 tzo_52 tAgg_56 tSize_56 zp1 tElem_56 tStr_56 tInt_56 tzo_56 tAgg_58 tSize_58 zp0 tElem_58 tStr_58 tInt_58 zpe zkx zpd zkw zpc zkv zpb zku zoW tzo_58 tAgg_66 tSize_66 zpZ tElem_66 tStr_66 tInt_66 zpa zkt zo9 zks zo8 zkr zo7 zkq zoV tArr_66 tFlat_66 tzo_66 tAgg_67 tSize_67 zpY tElem_67 tStr_67 tInt_67 zo6 zkp zo5 zko zo4 zkn zoU tArr_67 tFlat_67 tzo_67 tAgg_73 tSize_73 zpX tElem_73 tStr_73 tInt_73 tzo_73 tAgg_81 tSize_81 zpW tElem_81 tStr_81 tInt_81 tzo_81 tAgg_83 tSize_83 zpV tElem_83 tStr_83 tInt_83 zo3 zkm zoT tzo_83 tAgg_91 tSize_91 zpU tElem_91 tStr_91 tInt_91 tzo_91 tAgg_93 tSize_93 zpT tElem_93 tStr_93 tInt_93 tMap_93 tzo_93 tAgg_94 tSize_94 zpS tElem_94 tStr_94 tInt_94 tzo_94 tAgg_95 tSize_95 zpR tElem_95 tStr_95 tInt_95 tzo_95 tAgg_96 tSize_96 zpQ tElem_96 tStr_96 tInt_96 tArr_96 zoR zoS tEqG_96 tzo_96 tAgg_98 tSize_98 zpP tElem_98 tStr_98 tInt_98 tMap_98 tzo_98 tAgg_100 zoQ znm zpO tStr_100 tInt_100 zm6 ziM zm5 ziL zmY tzo_100 tAgg_105 zoP znl zpN tStr_105 tInt_105 zm4 ziK zm3 ziJ zm2 ziI zm1 ziH zmX tArr_105 zpy tzo_105 tAgg_108 zoO znk zpM tStr_108 tInt_108 tMap_108 tzo_108 tAgg_109 zoN znj zpL tStr_109 tInt_109 tArr_109 zmU zmW tEqG_109 tzo_109 tAgg_110 zoM zni zpK tStr_110 tInt_110 tzo_110 tAgg_111 zoL znh zpJ tStr_111 tInt_111 tMap_111 tzo_111 tAgg_113 zoK zng zpI tStr_113 tInt_113 zm0 ziG zmZ ziF zmV tzo_113 tAgg_116 zoJ znf zpH tStr_116 tInt_116 tzo_116 tAgg_121 zoI zne zpG tStr_121 tInt_121 tzo_121 tAgg_124 zoH znd zpF tStr_124 tInt_124 tUnd_124 tzo_124 tAgg_130 zoG znc zpE tStr_130 tInt_130 tzo_130 tAgg_137 zoF znb zpD tStr_137 tInt_137 tUnd_137 tzo_137 tAgg_144 zoE zna zpC tStr_144 tInt_144 tUnd_144 tzo_144 tAgg_146 zoD zm9 zpB tStr_146 tInt_146 tUnd_146 tzo_146 tAgg_153 zoC zm8 zpA tStr_153 tInt_153 tUnd_153 tzo_153 tAgg_157 zoB zm7 zpz tStr_157 tInt_157 tzo_157
theorem cl{p:Prop}(h:p:=by first|omega|rfl|exact True.intro|exact one_encI _|exact one_encS _|exact one_ints _|exact one_strs _):p:=h
inductive Differ (A B:Prop):Prop where
  | any:Differ A B
theorem Differ.same (A:Prop):Differ A A:=.any
theorem st{A B:Prop}(g:B) (h:A=B:=by simp (maxSteps:=2000000) only[↓SD,push_cast,Nat.reduceAdd,Nat.reduceSub,Nat.reduceMul,Nat.reduceLT,Nat.reduceLeDiff,Nat.reduceEqDiff,Int.reduceToNat,reduceIte,reduceCtorEq,Int.reduceLE,Int.reduceLT,Int.reduceNeg,ints,strs,encI,encS];exact rfl) (hn:Differ A B:=by(fail_if_success with_reducible exact Differ.same _);exact Differ.any):A:=h.symm▸g
theorem sx{A B:Prop}(g:B) (h:A=B) (hn:Differ A B:=by(fail_if_success with_reducible exact Differ.same _);exact Differ.any):A:=h.symm▸g
section
variable {P:Program} {n:Nat} {S:St} {Q:Exit→St→Prop}
theorem rZ{id:Nat}{l:List Oper}(live:List Nat) (T:Program→St→(St→Prop)→Prop) (h:∀K:St→Prop,(∀S',Q .normal S'→K S')→T P S K) (hd:zf7 n l=true:=by kernel_rfl) (hT:∀K,yOps P l.toArray l S (fun S1=>K (S1.pick live))=T P S K:=by intro K;kernel_rfl):
    Tri P n (.region id l.toArray false) S Q:=Tri.regY live (T P) hd hT h
theorem sZ{id:Nat}{l:List Oper}{y:Code}(live:List Nat) (T:Program→St→(St→Prop)→Prop) (h:∀K:St→Prop,(∀S',Tri P n y S' Q→K S')→T P S K) (hd:zf7 n l=true:=by kernel_rfl) (hT:∀K,yOps P l.toArray l S (fun S1=>K (S1.pick live))=T P S K:=by intro K;kernel_rfl):
    Tri P n (.seq (.region id l.toArray false) y) S Q:=Tri.seqY live (T P) hd hT h
theorem rD{id:Nat}{l:List Oper}(n0:Nat) (live:List Nat) (T:Program→List (List Nat)→St→(St→Prop)→Prop) (h:∀K:St→Prop,(∀S',Q .normal S'→K S')→T P (zbz l) S K) (hm:P.follows .mixedOrders=true:=by kernel_rfl) (hB:zjC l.toArray (zbz l) n0=true:=by kernel_rfl) (hd:zf7 n l=true:=by kernel_rfl)
    (hT:∀K,zg3 P l.toArray (l.take n0) S [] (fun S1 tr=>trOk S.nx (zbz l) tr=true∧yOps P l.toArray (l.drop n0) S1 (fun S1=>K (S1.pick live)))=T P (zbz l) S K:=by intro K;kernel_rfl):
    Tri P n (.region id l.toArray true) S Q:=Tri.regYD n0 live (T P) hm hB hd hT h
theorem sD{id:Nat}{l:List Oper}{y:Code}(n0:Nat) (live:List Nat) (T:Program→List (List Nat)→St→(St→Prop)→Prop) (h:∀K:St→Prop,(∀S',Tri P n y S' Q→K S')→T P (zbz l) S K) (hm:P.follows .mixedOrders=true:=by kernel_rfl) (hB:zjC l.toArray (zbz l) n0=true:=by kernel_rfl) (hd:zf7 n l=true:=by kernel_rfl)
    (hT:∀K,zg3 P l.toArray (l.take n0) S [] (fun S1 tr=>trOk S.nx (zbz l) tr=true∧yOps P l.toArray (l.drop n0) S1 (fun S1=>K (S1.pick live)))=T P (zbz l) S K:=by intro K;kernel_rfl):
    Tri P n (.seq (.region id l.toArray true) y) S Q:=Tri.seqYD n0 live (T P) hm hB hd hT h
theorem rY{id:Nat}{l:List Oper}{S':St}(live:List Nat) (T:Program→St→(St→Prop)→Prop) (g:Q .normal S') (h:∀K:St→Prop,K S'→T P S K:=by intro K hK;repeat' (first|refine And.intro ?_ ?_|exact cl|refine zlZ ?_ _|refine zl0 ?_ _|refine st ?_|exact hK)) (hd:zf7 n l=true:=by kernel_rfl) (hT:∀K,yOps P l.toArray l S (fun S1=>K (S1.pick live))=T P S K:=by intro K;kernel_rfl):
    Tri P n (.region id l.toArray false) S Q:=Tri.regY live (T P) hd hT fun K hK=>h K (hK _ g)
theorem sY{id:Nat}{l:List Oper}{y:Code}{S':St}(live:List Nat) (T:Program→St→(St→Prop)→Prop) (g:Tri P n y S' Q) (h:∀K:St→Prop,K S'→T P S K:=by intro K hK;repeat' (first|refine And.intro ?_ ?_|exact cl|refine zlZ ?_ _|refine zl0 ?_ _|refine st ?_|exact hK)) (hd:zf7 n l=true:=by kernel_rfl) (hT:∀K,yOps P l.toArray l S (fun S1=>K (S1.pick live))=T P S K:=by intro K;kernel_rfl):
    Tri P n (.seq (.region id l.toArray false) y) S Q:=Tri.seqY live (T P) hd hT fun K hK=>h K (hK _ g)
end
theorem ResIs.freeze{F:Nat→Prop}{w w':World}{r r':PV}{os:List AO}{v:Value}(h:ResIs F w w' r os v) (k:Nat) (e:sealed (fun i=>os[i]?) (fun _=>false) k r=r') (hp:r'.pure=true):ResIs F w w' r' [] v:=by
  obtain⟨ν,F',hr,ho,hf,hi,hF⟩:=h
  have hlt:∀i o,os[i]? = some o→i<os.length:=fun i o g=>(List.getElem?_eq_some_iff.1 g).1
  have hH:HeapSim ⟨w',fun _=>True⟩ (fun _=>True) (· < os.length) ν F' (fun i=>os[i]?) w':=
    ⟨fun i o g=>⟨hlt i o g,ho i o g⟩,fun i j o o' b g1 g2 g3 g4=>hi i j b (hlt i o g1) (hlt j o' g2) g3 g4,fun i o b g1 g2=>⟨.inr trivial,(hf i b (hlt i o g1) g2).2⟩,Ext.refl _ _,fun b _=>.inl trivial,fun b g=>(hF b g).2⟩
  have hs:=Rep.sealed hH (fun _=>false) (fun b=>F' b∨∃i o,os[i]? = some o∧ν i=some b) (fun b g=>.inl g) (fun i o b _ g1 g2=>.inr ⟨i,o,g1,g2⟩) k r v hr
  rw[e] at hs
  refine⟨fun _=>none,_,hs.pureAny hp,fun i o g=>by simp at g,fun i b g=>by simp at g,fun i j b g=>by simp at g,fun b hb=>?_⟩
  rcases hb with hb|⟨i,o,g1,g2⟩
  · exact hF b hb
  · refine⟨.inr (hf i b (hlt i o g1) g2).1,?_⟩
    have hst:=ho i o g1
    rw[g2] at hst
    exact ObjOk.lt hst
theorem Pure.freeze{P:Program}{f:FuncId}{args:List PV}{r r':PV}{os:List AO}(h:Pure P f args r os) (k:Nat) (e:sealed (fun i=>os[i]?) (fun _=>false) k r=r') (hp:r'.pure=true):Pure P f args r' []:=
  ⟨h.1,fun D μ F w vs h1 h2 h3=>(h.2 D μ F w vs h1 h2 h3).mono fun _ _ ⟨v,g1,g2,g3⟩=>⟨v,g1,g2,g3.freeze k e hp⟩⟩
def zdC (n most:Int):Int:=(if n<0 then -(n+1) else n).tmod most
theorem zeI{n most:Int}(hm:0<most):0≤zdC n most:=by
  unfold zdC;exact Int.tmod_nonneg _ (by split<;>omega)
theorem zeJ{n most:Int}(hm:0<most):zdC n most<most:=by
  unfold zdC;exact Int.tmod_lt_of_pos _ hm
def atI (l:List Int) (i most:Int):Int:=if i<0∨(l.length:Int)≤i then 0 else zdC (li l i.toNat) most
def I64 (x:Int):Prop := -9223372036854775808≤x∧x≤9223372036854775807
def Fits (l:List Int):Prop:=(∀x,x∈l→I64 x)∧l.length≤9223372036854775807
def AsSl (sz:Nat) (l:List PV) (x:PV):Prop:=x=.sl sz l∨(l=[]∧x=.atom (.slice none 0 0))
theorem Pure.sub{P:Program}{f:FuncId}{args args':List PV}{r:PV}{os:List AO}(hp:Pure P f args r os) (hl:args'.length=args.length)
    (h:∀i (h1:i<args.length) (h2:i<args'.length) (D:Nat→Prop) (μ:Nat→Option Nat) (F:Nat→Prop) (w:World) (v:Value),Rep D μ F w args'[i] v→Rep D μ F w args[i] v):Pure P f args' r os:=
  ⟨hp.1,fun D μ F w vs h1 h2 h3=>hp.2 D μ F w vs (h1.trans hl) (fun i hi=>h i hi (by omega) D μ F w _ (h2 i (by omega))) h3⟩
theorem AsSl.pure{sz:Nat}{l:List PV}{x:PV}(h:AsSl sz l x) (hl:zaw l=true):x.pure=true:=by
  rcases h with rfl|⟨rfl,rfl⟩
  · exact hl
  · rfl
theorem zlj{p:Prop} [Decidable p] (h:p):decide p=true:=decide_eq_true h
theorem dec_no{p:Prop} [Decidable p] (h:¬p):decide p=false:=decide_eq_false h
def down (p:Nat→Bool):Nat→Nat
  | 0=>0
  | k+1=>if p k then down p k else k+1
structure DownI (p:Nat→Bool) (n k:Nat):Prop where
  le:k≤n
  core:down p n=down p k
theorem DownI.step{p:Nat→Bool}{n k:Nat}(h:DownI p n k) (hk:0<k) (hc:p (k - 1)=true):DownI p n (k - 1):=by
  obtain⟨k,rfl⟩:∃j,k=j+1:=⟨k - 1,by omega⟩
  simp only[Nat.add_sub_cancel] at hc ⊢
  refine⟨by have:=h.le;omega,?_⟩
  rw[h.core,down,if_pos hc]
theorem DownI.stop{p:Nat→Bool}{n k:Nat}(h:DownI p n k) (hc:k=0∨p (k - 1)=false):down p n=k:=by
  rw[h.core]
  cases k with
  | zero=>rfl
  | succ k=>
    simp only[Nat.add_sub_cancel] at hc
    have:=hc.resolve_left (by omega)
    rw[down,if_neg (by rw[this];decide)]
theorem AsSl.reach{sz:Nat}{l:List PV}{x:PV}(h:AsSl sz l x) (H:Nat→Option AO) (n:Nat):reach H n x=[]:=by
  cases n with
  | zero=>rfl
  | succ n=>rcases h with rfl|⟨_,rfl⟩<;>rfl
theorem vProc.row{P:Program}{S:St}{f:FuncId}{vals args:List PV}{els els':List PV}{r:PV}{K:PV→Eff→Prop}(i sz:Nat) (hpr:Proc P f args [⟨sz,els⟩] r [some ⟨sz,els'⟩] []) (ho:S.obj i=some ⟨sz,els⟩)
    (hp:zaw els=true) (hp':zaw els'=true) (hr:r.pure=true) (hv:vals.map (sealed S.obj (fun j=>[i].contains j) 4)=args.map (PV.ren (rmap [i] S.nx))) (hf:r.flatB=true) (hf':els'.all PV.flatB=true) (hk:K r ⟨[],[],[(i,⟨sz,els'⟩)],[]⟩):vProc P S f vals K:=by
  refine⟨[i],4,args,[⟨sz,els⟩],r,[some ⟨sz,els'⟩],[],hpr,⟨by simp,rfl,hv,fun j o hj=>?_⟩,.inr ⟨hf,rfl,by simp[flatO,hf']⟩,?_⟩
  · cases j with
    | zero => obtain rfl:AO.mk sz els=o:=by simpa using hj
              exact⟨_,by simpa[rmap] using ho,rfl,by show els.map _=els.map _;rw[zak _ _ _ hp,zaO _ hp]⟩
    | succ j=>simp at hj
  · simpa[zbl,zaW,AO.ren,za8 _ r hr,zaO _ hp'] using hk
theorem ResP.row{S:St}{sz:Nat}{els els':List PV}{o:AO}(h0:S.obj 0=some ⟨sz,els⟩) (he:els=els') (hp:zaw els'=true) (hs:o.sz=sz) (hg:S.gh=[.mark 0]):ResP S [] (.tup []) [o] [some ⟨sz,els'⟩] []:=by
  subst he
  subst hs
  refine⟨[0],4,by simp[retV,sealed,PV.ren,renL],fun p hp=>by simp at hp,fun p hpm o' ho'=>?_,rfl,by simp,by rw[hg];rfl,fun i h _=>?_⟩
  · obtain rfl:p=(0,some ⟨o.sz,els⟩):=by simpa[za9] using hpm
    obtain rfl:AO.mk o.sz els=o':=by simpa using ho'
    exact⟨Nat.zero_lt_one,_,by simpa[rmap] using h0,rfl,by show els.map _=els.map _;rw[zak _ _ _ hp,zaO _ hp]⟩
  · match i,h with
    | 0,_=>simp[hg,zbw,sealed,PV.ren,rmap]
theorem HeapSim.swap{w0:Home}{F0 D:Nat→Prop}{μ:Nat→Option Nat}{F:Nat→Prop}{H:Nat→Option AO}{w:World}(h:HeapSim w0 F0 D μ F H w) (i:Nat) (o o':AO) (hi:H i=some o) (hs:Stands D μ F w o (μ i)→Stands D μ F w o' (μ i)):
    HeapSim w0 F0 D μ F (upd H i (some o')) w:=by
  refine h.step (Stay.refl _ _) (fun j hj=>⟨hj,rfl⟩) (fun _ hb=>hb) h.ext h.f0 h.fsz fun j oj hj=>?_
  by_cases hji:j=i
  · subst hji
    rw[zbg] at hj
    obtain rfl:=Option.some.inj hj
    have ho:=h.objs _ _ hi
    refine .inr ⟨ho.1,hs ho.2,fun b hb=>⟨(h.own _ _ b hi hb).1,(h.own _ _ b hi hb).2,fun k o2 hk hk2 hkb=>?_⟩⟩
    rw[zby _ _ hk] at hk2
    exact hk (h.inj k _ _ _ b hk2 hi hkb hb)
  · rw[zby _ _ hji] at hj
    exact .inl ⟨hj,fun b hb=>⟨rfl,(h.own _ _ b hj hb).2⟩⟩
theorem Tri.bornF{P:Program}{n:Nat}{c:Code}{S:St}{Q:Exit→St→Prop}(i k sz osz:Nat) (cs:List PV) (h:S.obj i=some ⟨osz,[.agg cs]⟩) (hk:cs[k]? = some (.atom (.slice none 0 0)))
    (ht:Tri P n c ⟨S.env,(i,some ⟨osz,[.agg (cs.set k (.ob S.nx sz 0 0))]⟩) :: (S.nx,some ⟨sz,[]⟩) :: S.hp,S.nx+1,S.gh⟩ Q):Tri P n c S Q:=fun w0 F0 D μ F G a w hS=>by
  have hn:¬D S.nx:=fun hd=>Nat.lt_irrefl _ (hS.ids _ hd)
  have hold:=zeM (D:=D) (μ:=μ) (none:Option Nat) hn
  have hDi:=(hS.heap.objs _ _ h).1
  have hin:i≠S.nx:=fun e=>hn (e▸hDi)
  refine ht w0 F0 (also D S.nx) (upd μ S.nx none) F G a w ⟨hS.defers,hS.size,fun s=>(hS.env s).stay (Stay.refl _ _) hold (fun _ h=>h),?_,fun j hj=>?_,hS.ghl,fun j hj=>(hS.gh j hj).stay (Stay.refl _ _) hold (fun _ h=>h)⟩
  · have h1 := HeapSim.add hS.heap S.nx hn ⟨sz,[]⟩ none (Stay.refl _ _) hS.heap.ext (Nat.le_refl _) rfl (fun b hb=>by cases hb) (fun _ _ _ _ _=>rfl)
    have h2 := h1.swap i ⟨osz,[.agg cs]⟩ ⟨osz,[.agg (cs.set k (.ob S.nx sz 0 0))]⟩ (by rw[zby _ _ hin];exact h) (fun hst=>by
      cases hm:upd μ S.nx none i with
      | none=>rw[hm] at hst;have:([.agg cs]:List PV)=[]:=hst;cases this
      | some b=>
        rw[hm] at hst
        obtain⟨A,e,g1,g2,g3,g4⟩:=ObjOk.cellsOf (k:=0) (hst:ObjOk _ _ _ _ b _) rfl rfl
        show ObjOk (also D S.nx) (upd μ S.nx none) F w b ⟨osz,[.agg (cs.set k (.ob S.nx sz 0 0))]⟩
        refine .inl ⟨A,e,g1,g2,fun m hm2=>?_,fun m hm2 c hc=>?_⟩
        · have:m=0:=by simp at hm2;omega
          subst this
          have:=g3 0 (by simp)
          simpa[PV.cells] using this
        · have:m=0:=by simp at hm2;omega
          subst this
          have hc':c<cs.length:=by simpa[PV.cells] using hc
          have hr:=g4 0 (by simp) c (by simpa[PV.cells] using hc')
          simp only[List.getElem_cons_zero,PV.cells] at hr ⊢
          rw[List.getElem_set]
          split
          · rename_i hkc
            subst hkc
            have e1:cs[k]=.atom (.slice none 0 0):=by
              have:=List.getElem?_eq_getElem hc'
              rw[hk] at this;exact(Option.some.inj this).symm
            rw[e1] at hr
            rw[zgE hr]
            exact .obn S.nx sz (.inr rfl) (zbg ..)
          · exact hr)
    have e:(St.mk S.env ((i,some ⟨osz,[.agg (cs.set k (.ob S.nx sz 0 0))]⟩) :: (S.nx,some ⟨sz,[]⟩) :: S.hp) (S.nx+1) S.gh).obj=upd (upd S.obj S.nx (some ⟨sz,[]⟩)) i (some ⟨osz,[.agg (cs.set k (.ob S.nx sz 0 0))]⟩):=by
      funext j
      show(lk ((i,_) :: (S.nx,some ⟨sz,[]⟩) :: S.hp) j).join=_
      unfold lk upd
      by_cases hj:i=j
      · rw[if_pos hj,if_pos hj.symm];rfl
      · rw[if_neg hj,if_neg (Ne.symm hj)]
        unfold lk
        by_cases hj2:S.nx=j
        · rw[if_pos hj2,if_pos hj2.symm];rfl
        · rw[if_neg hj2,if_neg (Ne.symm hj2)];rfl
    rw[e];exact h2
  · rcases hj with hj|rfl
    · exact Nat.lt_succ_of_lt (hS.ids j hj)
    · exact Nat.lt_succ_self _
set_option maxRecDepth 20000
theorem zia{p:Prop}(h:p:=by(refine⟨4,?_,?_,rfl,by simp,rfl,fun _ h _=>absurd h (Nat.not_lt_zero _)⟩<;>(simp only[List.forall_mem_cons];repeat' (first|refine And.intro ?_ ?_|(intro p hp;exact absurd hp List.not_mem_nil)|rfl|exact(zas _ _ _ (zah _)).trans (zbQ _ _).symm|exact(zas _ _ _ (zag _)).trans (zbP _ _).symm|exact sp (by assumption)|(intro o ho;cases ho;refine⟨by decide,?_⟩;first|(refine LeqS.row rfl ?_ ?_;(next=>(first|rfl|(simp only[List.map_append,List.map_cons,List.map_nil,List.append_nil,List.nil_append,List.append_assoc,List.cons_append,encI,encS,ints,strs];done)|(simp[encI,encS,ints,strs];done)));(next=>(first|rfl|exact zal _|exact zaq _|exact zau _|exact zat _|(simp[zar,zal,zaq,zau,zat,zaw,PV.pure,zah,zag];done)));done)|refine⟨_,rfl,rfl,?_⟩)|(simp[St.born,St.known,retV,St.get,St.obj,lk,sealed,PV.ren,renL,rmap,AO.ren,ints,strs,encI,encS,zap,zao,zan,zam,zaC,zaB,zaA,zaz,za1,za0,zaZ,zaY]<;>omega))));first|done|fail):p:=h
theorem zqO{p:Prop}(h:p:=by(first|rfl|(simp[St.born,St.known,retV,St.get,St.obj,lk,sealed,PV.ren,renL,rmap,AO.ren,ints,strs,encI,encS,zap,zao,zan,zam,zaC,zaB,zaA,zaz,za1,za0,zaZ,zaY];done));first|done|fail):p:=h
theorem zqP{p:Prop}(h:p:=by(first|rfl|(simp[zah,zag,PV.pure,zaw,zal,zaq,zau,zat];done));first|done|fail):p:=h
theorem zfb (n most:Int) (h:I64 n) (hm:0<most):Pure Try.prog 10 [encI n,encI most] (encI (zdC n most)) []:=by
  obtain⟨h1,h2⟩:=h
  refine Pure.intro (ts:=[4]) Try.func10 (by kernel_rfl) rfl rfl rfl (Nat.le_of_ble_eq_true rfl) ?_ ?_
  · simp[zah,zag,encI,encS,PV.pure,zaw]
  refine sY [0,1] (fun P S K=>K ⟨[(0,S.get 0),(1,S.get 1)],S.hp,S.nx,S.gh⟩) ?_
  all_goals
  refine Tri.cut (α:=Unit) (fun⟨⟩=>⟨[(0,encI (if n<0 then -(n+1) else n)),(1,encI most)],[],0,[]⟩) ?_ ?_
  ·skip
   refine sY [0,1,6] (fun P S K=>XvBinOV P .lss 3 (.const (.int .i64 0)) (S.get 0) (.atom (.int .i64 0)) (fun r1 _=>K ⟨[(0,S.get 0),(1,S.get 1),(6,r1)],S.hp,S.nx,S.gh⟩)) ?_
   all_goals
   refine Tri.cond rfl (fun h6=>?_) (fun h6=>?_)
   ·try (cases h6;done)
    all_goals (try simp only[CQ] at h6)
    all_goals
    refine rY [0,1] (fun P S K=>XvBinOV P .add 3 (.const (.int .i64 1)) (S.get 0) (.atom (.int .i64 1)) (fun r1 _=>XvUn .neg r1 (fun r2 _=>K ⟨[(0,r2),(1,S.get 1)],S.hp,S.nx,S.gh⟩))) ?_
    all_goals try simp (disch:=omega) only[zae,zaf]
    all_goals
    first|rw[if_pos h6]|rw[if_neg h6]
    refine⟨(),[],?_⟩
    exact zia
   try (cases h6;done)
   all_goals (try simp only[CQ] at h6)
   all_goals
   refine Tri.skip ?_
   first|rw[if_pos h6]|rw[if_neg h6]
   refine⟨(),[],?_⟩
   exact zia
  rintro⟨⟩
  refine sY [4] (fun P S K=>XvBinOV P .rem 3 (.tmp 11) (S.get 0) (S.get 1) (fun r2 _=>K ⟨[(4,r2)],S.hp,S.nx,S.gh⟩)) ?_
  all_goals
  refine Tri.ret ?_
  show ResOk _ _ _ _
  exact ResOk.val zqO zqP
theorem zc1 (l:List Int) (i most:Int) (hl:Fits l) (h1:I64 i) (hm:0<most):
    Pure Try.prog 19 [ints l,encI i,encI most] (encI (atI l i most)) []:=by
  have hll:=hl.2
  refine Pure.intro (ts:=[6]) Try.func19 (by kernel_rfl) rfl rfl rfl (Nat.le_of_ble_eq_true rfl) ?_ ?_
  · simp[zah,zag,encI,encS,PV.pure,zaw]
  refine sY [0,1,2] (fun P S K=>K ⟨[(0,S.get 0),(1,S.get 1),(2,S.get 2)],S.hp,S.nx,S.gh⟩) ?_
  all_goals
  refine Tri.seq ?_
  refine sZ [0,1,2,14] (fun P S K=>XvBinOV P .lss 3 (.const (.int .i64 0)) (S.get 1) (.atom (.int .i64 0)) (fun r1 _=>Xgq r1 false (fun k=>k (S.get 1)) (fun g3 r3=>Xgq g3 false (fun k=>k (S.get 0)) (fun g4 r4=>Xgq g4 false (fun k=>XvLen P 22 (M S.hp S.nx) r4 (fun r5 _=>k r5)) (fun g5 r5=>Xgq g5 false (fun k=>XvBinOV P .geq 3 (.tmp 12) r3 r5 (fun r6 _=>k r6)) (fun g6 r6=>XvPick g6 (.atom (.bool true)) r6 (fun r7 _=>K ⟨[(0,S.get 0),(1,S.get 1),(2,S.get 2),(14,r7)],S.hp,S.nx,S.gh⟩))))))) fun K hK=>?_
  repeat' (first|(refine hK _ ?_;clear hK K)|((first|refine zav (fun hg=>?_) (fun hg=>?_)|refine fun(hg:(_:Prop))=>?_)<;>((try simp only[BQ] at hg);try (exfalso;omega)))|refine And.intro ?_ ?_|exact cl|refine st ?_|fail)
  all_goals
  refine Tri.cond rfl (fun h14=>?_) (fun h14=>?_)
  ·try (cases h14;done)
   all_goals (try simp only[CQ] at h14)
   all_goals
   refine sY [6] (fun P S K=>K ⟨[(6,(.atom (.int .i64 0)))],S.hp,S.nx,S.gh⟩) ?_
   all_goals
   refine Tri.ret ?_
   show ResOk _ _ _ _
   exact ResOk.val (aI (by unfold atI;rw[if_pos (by omega)])) rfl
  try (cases h14;done)
  all_goals (try simp only[CQ] at h14)
  all_goals
  refine Tri.skip ?_
  have hx:i.toNat<l.length:=by omega
  refine sZ [6] (fun P S K=>XvIndexAddr P 22 (S.get 0) (S.get 1) (fun r2 _=>XvLoad P 3 (M S.hp S.nx) r2 (fun r3 _=>XvFnIV P (M S.hp S.nx) (.fn 10 []) [r3,(S.get 2)] (fun r5 ef5=>K ⟨[(6,r5)],(Eff.hp ef5 S.nx S.hp),(S.nx+ef5.add.length),S.gh⟩)))) fun K hK=>?_
  repeat' (first|(refine hK _ ?_;clear hK K)|refine And.intro ?_ ?_|exact cl|refine .inl ⟨_,_,zfb _ _ (hl.1 _ (zgK (by omega))) hm,?_⟩|(refine st ?_;try simp only[zbi hx])|fail)
  all_goals
  refine Tri.ret ?_
  show ResOk _ _ _ _
  exact ResOk.val (aI (by unfold atI;rw[if_neg (by omega)])) rfl
theorem zir (a b:List Int) (ha:a.length≤9223372036854775807) (hb:b.length≤9223372036854775807):Pure Try.prog 24 [ints a,ints b] (.atom (.bool (decide (a=b)))) []:=by
  refine Pure.intro (ts:=[4]) Try.func24 (by kernel_rfl) rfl rfl rfl (Nat.le_of_ble_eq_true rfl) ?_ ?_
  · simp[zah,zag,encI,encS,PV.pure,zaw]
  refine sY [0,1] (fun P S K=>K ⟨[(0,S.get 0),(1,S.get 1)],S.hp,S.nx,S.gh⟩) ?_
  all_goals
  refine Tri.seq ?_
  refine sY [0,1,10] (fun P S K=>XvLen P 22 (M S.hp S.nx) (S.get 0) (fun r1 _=>XvLen P 22 (M S.hp S.nx) (S.get 1) (fun r3 _=>XvBinOV P .neq 3 (.tmp 9) r1 r3 (fun r4 _=>K ⟨[(0,S.get 0),(1,S.get 1),(10,r4)],S.hp,S.nx,S.gh⟩)))) ?_
  all_goals
  refine Tri.cond rfl (fun h10=>?_) (fun h10=>?_)
  ·try (cases h10;done)
   all_goals (try simp only[CQ] at h10)
   all_goals
   refine sY [4] (fun P S K=>K ⟨[(4,(.atom (.bool false)))],S.hp,S.nx,S.gh⟩) ?_
   all_goals
   refine Tri.ret ?_
   show ResOk _ _ _ _
   exact ResOk.val (aB (by have:a≠b:=fun e=>h10 (by rw[e]);simp[this])) rfl
  try (cases h10;done)
  all_goals (try simp only[CQ] at h10)
  all_goals
  refine Tri.skip ?_
  refine Tri.seq ?_
  refine sY [0,1,5] (fun P S K=>K ⟨[(0,S.get 0),(1,S.get 1),(5,(.atom (.int .i64 0)))],S.hp,S.nx,S.gh⟩) ?_
  all_goals
  refine Tri.block ?_
  refine Tri.loop (α:=(k:Nat) ×' (k≤a.length∧∀j,j<k→li a j=li b j)) (fun z=>(fun(k:Nat)=>(⟨[(0,ints a),(1,ints b),(5,encI k)],[],0,[]⟩:St)) z.1) (fun z=>(fun(k:Nat)=>a.length - k) z.1) ⟨0,⟨by omega,by omega⟩⟩ [] ?_ ?_
  ·exact zia
  rintro⟨k,⟨hk,hkj⟩⟩
  refine Tri.seq ?_
  refine sY [0,1,5,14] (fun P S K=>XvLen P 22 (M S.hp S.nx) (S.get 0) (fun r2 _=>XvBinOV P .lss 3 (.tmp 13) (S.get 5) r2 (fun r3 _=>K ⟨[(0,S.get 0),(1,S.get 1),(5,S.get 5),(14,r3)],S.hp,S.nx,S.gh⟩))) ?_
  all_goals
  refine Tri.cond rfl (fun h14=>?_) (fun h14=>?_)
  ·try (cases h14;done)
   all_goals (try simp only[CQ] at h14)
   all_goals
   refine Tri.skip ?_
   refine Tri.seq ?_
   refine Tri.block ?_
   have hka:k<a.length:=by omega
   have hkb:k<b.length:=by omega
   refine sD 9 [0,1,5,25] (fun P GD S K=>XvIndexAddr P 22 (S.get 0) (S.get 5) (fun r2 ef2=>XvLoad P 3 (M S.hp S.nx) r2 (fun r3 ef3=>XvIndexAddr P 22 (S.get 1) (S.get 5) (fun r6 ef6=>XvLoad P 3 (M S.hp S.nx) r6 (fun r7 ef7=>XvBinOV P .neq 3 (.tmp 24) r3 r7 (fun r8 ef8=>(trOk S.nx GD [⟨S.nx,0,[],[],[]⟩,⟨S.nx,0,[],[],[]⟩,⟨S.nx,0,ef2.rd,[],[]⟩,⟨S.nx,0,ef3.rd,[],[]⟩,⟨S.nx,0,[],[],[]⟩,⟨S.nx,0,[],[],[]⟩,⟨S.nx,0,ef6.rd,[],[]⟩,⟨S.nx,0,ef7.rd,[],[]⟩,⟨S.nx,0,ef8.rd,[],[]⟩]=true∧K ⟨[(0,S.get 0),(1,S.get 1),(5,S.get 5),(25,r8)],S.hp,S.nx,S.gh⟩))))))) fun K hK=>?_
   repeat' (first|(refine hK _ ?_;clear hK K)|(refine(?_:trOk _ _ _=true);(try simp only[zbi hka,zbi hkb]);kernel_rfl)|refine And.intro ?_ ?_|exact cl|(refine st ?_;try simp only[zbi hka,zbi hkb])|fail)
   all_goals
   refine Tri.cond rfl (fun h25=>?_) (fun h25=>?_)
   ·try (cases h25;done)
    all_goals (try simp only[CQ] at h25)
    all_goals
    refine sY [4] (fun P S K=>K ⟨[(4,(.atom (.bool false)))],S.hp,S.nx,S.gh⟩) ?_
    all_goals
    refine Tri.ret ?_
    show ResOk _ _ _ _
    exact ResOk.val (aB (by have:a≠b:=fun e=>h25 (by rw[e]);simp[this])) rfl
   try (cases h25;done)
   all_goals (try simp only[CQ] at h25)
   all_goals
   refine Tri.skip ?_
   refine rY [0,1,5] (fun P S K=>XvBinOV P .add 3 (.const (.int .i64 1)) (S.get 5) (.atom (.int .i64 1)) (fun r1 _=>K ⟨[(0,S.get 0),(1,S.get 1),(5,r1)],S.hp,S.nx,S.gh⟩)) ?_
   all_goals try simp (disch:=omega) only[zae,zaf]
   all_goals
   refine⟨⟨k+1,by omega,fun j hj=>?_⟩,[],by dsimp only;omega,?_⟩
   · rcases Nat.lt_succ_iff_lt_or_eq.1 hj with hj|rfl
     · exact hkj j hj
     · simpa using h25
   · exact zia
  try (cases h14;done)
  all_goals (try simp only[CQ] at h14)
  all_goals
  refine Tri.exit ?_
  refine sY [4] (fun P S K=>K ⟨[(4,(.atom (.bool true)))],S.hp,S.nx,S.gh⟩) ?_
  all_goals
  refine Tri.ret ?_
  show ResOk _ _ _ _
  exact ResOk.val (aB (by have:a=b:=li_ext (by omega) (fun i hi=>hkj i (by omega));simp[this])) rfl
theorem xge_tt{run:(PV→Eff→Prop)→Prop}{k:PV→PV→Eff→Prop}:Xge (.atom (.bool true)) true run k=run (k (.atom (.bool true))):=by rw[zj6];exact xG_tt
theorem xge_ff{run:(PV→Eff→Prop)→Prop}{k:PV→PV→Eff→Prop}:Xge (.atom (.bool false)) false run k=run (k (.atom (.bool false))):=by rw[zj6];exact xG_ff
theorem xge_tf{run:(PV→Eff→Prop)→Prop}{k:PV→PV→Eff→Prop}:Xge (.atom (.bool true)) false run k=k (.atom (.bool true)) pvU e0:=by rw[zj6];exact xG_tf
theorem xge_ft{run:(PV→Eff→Prop)→Prop}{k:PV→PV→Eff→Prop}:Xge (.atom (.bool false)) true run k=k (.atom (.bool false)) pvU e0:=by rw[zj6];exact xG_ft
theorem xgq_tt{run:(PV→Prop)→Prop}{k:PV→PV→Prop}:Xgq (.atom (.bool true)) true run k=run (k (.atom (.bool true))):=by rw[zj5];exact xG_tt
theorem xgq_ff{run:(PV→Prop)→Prop}{k:PV→PV→Prop}:Xgq (.atom (.bool false)) false run k=run (k (.atom (.bool false))):=by rw[zj5];exact xG_ff
theorem xgq_tf{run:(PV→Prop)→Prop}{k:PV→PV→Prop}:Xgq (.atom (.bool true)) false run k=k (.atom (.bool true)) pvU:=by rw[zj5];exact xG_tf
theorem xgq_ft{run:(PV→Prop)→Prop}{k:PV→PV→Prop}:Xgq (.atom (.bool false)) true run k=k (.atom (.bool false)) pvU:=by rw[zj5];exact xG_ft
def SE:=And.intro (And.intro (And.intro (And.intro @xge_tt @xge_ff) (And.intro @xge_tf @xge_ft)) (And.intro (And.intro @xgq_tt @xgq_ff) (And.intro @xgq_tf @xgq_ft))) (And.intro (And.intro @xG_tt @xG_ff) (And.intro @xG_tf @xG_ft))
section
variable {P:Program} {n:Nat} {S:St} {Q:Exit→St→Prop}
end
structure FormD where
  word:ByteArray
  lem:ByteArray
  cls:ByteArray
deriving DecidableEq
structure RuleD where
  suf:ByteArray
  put:ByteArray
  cls:ByteArray
  least:Int
deriving DecidableEq
structure PrefD where
  after:ByteArray
  before:ByteArray
  cls:ByteArray
deriving DecidableEq
structure LexD where
  forms:List FormD
  rules:List RuleD
  prefs:List PrefD
def encF (f:FormD):PV:=.agg [encS f.word,encS f.lem,encS f.cls]
def encR (r:RuleD):PV:=.agg [encS r.suf,encS r.put,encS r.cls,encI r.least]
def encA (p:PrefD):PV:=.agg [encS p.after,encS p.before,encS p.cls]
def zaa (l:List FormD):PV:=.sl 3 (l.map encF)
def zab (l:List RuleD):PV:=.sl 4 (l.map encR)
def zac (l:List PrefD):PV:=.sl 3 (l.map encA)
def encX (x:LexD):PV:=.agg [zaa x.forms,zab x.rules,zac x.prefs]
theorem zaH (l:List FormD):zaw (l.map encF)=true:=zbh encF (fun _=>rfl) l
theorem zaT (l:List RuleD):zaw (l.map encR)=true:=zbh encR (fun _=>rfl) l
theorem zaU (l:List PrefD):zaw (l.map encA)=true:=zbh encA (fun _=>rfl) l
theorem zaK (l:List FormD):(zaa l).pure=true:=zaH l
theorem zaR (x:LexD):(encX x).pure=true:=by simp[encX,zaa,zab,zac,PV.pure,zaw,zaH,zaT,zaU]
theorem zcx (ρ:Nat→Nat) (x:LexD):(encX x).ren ρ=encX x:=za8 ρ _ (zaR x)
theorem zad (ρ:Nat→Nat) (l:List FormD):renL ρ (l.map encF)=l.map encF:=zbo ρ _ (zaH l)
theorem zai (ρ:Nat→Nat) (l:List RuleD):renL ρ (l.map encR)=l.map encR:=zbo ρ _ (zaT l)
theorem zaj (ρ:Nat→Nat) (l:List PrefD):renL ρ (l.map encA)=l.map encA:=zbo ρ _ (zaU l)
theorem zaD (H:Nat→Option AO) (keep:Nat→Bool) (n:Nat) (l:List FormD):(l.map encF).map (sealed H keep n)=l.map encF:=zak H keep n (zaH l)
theorem za2 (ρ:Nat→Nat) (l:List FormD):(l.map encF).map (PV.ren ρ)=l.map encF:=zaO ρ (zaH l)
theorem zrc (l:List FormD):(l.map encF).all PV.flatB=true:=by rw[List.all_map];exact List.all_eq_true.2 fun _ _=>rfl
theorem zaE (H:Nat→Option AO) (keep:Nat→Bool) (n:Nat) (l:List RuleD):(l.map encR).map (sealed H keep n)=l.map encR:=zak H keep n (zaT l)
theorem zbd (ρ:Nat→Nat) (l:List RuleD):(l.map encR).map (PV.ren ρ)=l.map encR:=zaO ρ (zaT l)
theorem zaG (H:Nat→Option AO) (keep:Nat→Bool) (n:Nat) (l:List PrefD):(l.map encA).map (sealed H keep n)=l.map encA:=zak H keep n (zaU l)
theorem zbe (ρ:Nat→Nat) (l:List PrefD):(l.map encA).map (PV.ren ρ)=l.map encA:=zaO ρ (zaU l)
def noF:FormD:=⟨.empty,.empty,.empty⟩
def noR:RuleD:=⟨.empty,.empty,.empty,0⟩
def noA:PrefD:=⟨.empty,.empty,.empty⟩
def fF (l:List FormD) (k:Nat):FormD:=l.getD k noF
def fR (l:List RuleD) (k:Nat):RuleD:=l.getD k noR
def fA (l:List PrefD) (k:Nat):PrefD:=l.getD k noA
theorem zba{l:List FormD}{k:Nat}(h:k<l.length):(l.map encF).getD k .junk=encF (fF l k):=by simp[fF,List.getD_eq_getElem?_getD,h]
theorem zdo{l:List RuleD}{k:Nat}(h:k<l.length):(l.map encR).getD k .junk=encR (fR l k):=by simp[fR,List.getD_eq_getElem?_getD,h]
theorem zft{l:List PrefD}{k:Nat}(h:k<l.length):(l.map encA).getD k .junk=encA (fA l k):=by simp[fA,List.getD_eq_getElem?_getD,h]
theorem zek{l:List FormD}{k:Nat}(h:k<l.length):fF l k=l[k]:=by simp[fF,List.getD_eq_getElem?_getD,h]
theorem zmt{l:List RuleD}{k:Nat}(h:k<l.length):fR l k=l[k]:=by simp[fR,List.getD_eq_getElem?_getD,h]
theorem zmu{l:List PrefD}{k:Nat}(h:k<l.length):fA l k=l[k]:=by simp[fA,List.getD_eq_getElem?_getD,h]
theorem zdp{l:List FormD}{k:Nat}(h:k<l.length):fF l k∈l:=by rw[zek h];exact List.getElem_mem h
theorem zfx{l:List RuleD}{k:Nat}(h:k<l.length):fR l k∈l:=by rw[zmt h];exact List.getElem_mem h
theorem zhJ{l:List PrefD}{k:Nat}(h:k<l.length):fA l k∈l:=by rw[zmu h];exact List.getElem_mem h
theorem zhW{l:List FormD}{k:Nat}(h:k<l.length):l.take (k+1)=l.take k++[fF l k]:=by rw[List.take_succ_eq_append_getElem h,zek h]
theorem zoA{l:List RuleD}{k:Nat}(h:k<l.length):l.take (k+1)=l.take k++[fR l k]:=by rw[List.take_succ_eq_append_getElem h,zmt h]
theorem take_fA{l:List PrefD}{k:Nat}(h:k<l.length):l.take (k+1)=l.take k++[fA l k]:=by rw[List.take_succ_eq_append_getElem h,zmu h]
structure HeldF (f:FormD):Prop where
  word:f.word.size≤140737488355328
  lem:f.lem.size≤140737488355328
  cls:f.cls.size≤140737488355328
structure HeldR (r:RuleD):Prop where
  suf:r.suf.size≤140737488355328
  put:r.put.size≤140737488355328
  cls:r.cls.size≤140737488355328
  least:I64 r.least
structure HeldA (p:PrefD):Prop where
  after:p.after.size≤140737488355328
  before:p.before.size≤140737488355328
  cls:p.cls.size≤140737488355328
structure HeldX (x:LexD):Prop where
  nforms:x.forms.length≤1000000
  nrules:x.rules.length≤1000000
  nprefs:x.prefs.length≤1000000
  forms:∀f,f∈x.forms→HeldF f
  rules:∀r,r∈x.rules→HeldR r
  prefs:∀p,p∈x.prefs→HeldA p
def lowB (c:UInt8):Bool:=decide (97≤c.toNat) && decide (c.toNat≤122)
def lowS (s:ByteArray):Bool:=s.data.toList.all lowB
def letS (s:ByteArray) (least most:Int):Bool:=lowS s && decide (least≤s.size) && decide ((s.size:Int)≤most)
theorem lowS_iff (s:ByteArray):lowS s=true↔∀i,i<s.size→97≤(zbA s i).toNat∧(zbA s i).toNat≤122:=by
  unfold lowS
  rw[List.all_eq_true]
  constructor
  · intro h i hi
    have:=h (zbA s i) (by
      unfold zbA
      rw[List.getD_eq_getElem?_getD,List.getElem?_eq_getElem (by simpa using hi)]
      exact List.getElem_mem _)
    unfold lowB at this
    simpa using this
  · intro h c hc
    obtain⟨i,hi,rfl⟩:=List.getElem_of_mem hc
    have hi':i<s.size:=by simpa using hi
    have:=h i hi'
    unfold zbA at this
    rw[List.getD_eq_getElem?_getD,List.getElem?_eq_getElem hi] at this
    unfold lowB
    simpa using this
theorem letS_iff{s:ByteArray}{least most:Int}:letS s least most=true↔(∀i,i<s.size→97≤(zbA s i).toNat∧(zbA s i).toNat≤122)∧least≤s.size∧(s.size:Int)≤most:=by
  unfold letS
  rw[Bool.and_eq_true,Bool.and_eq_true,lowS_iff,decide_eq_true_eq,decide_eq_true_eq,and_assoc]
def zbv (s:ByteArray):Bool:=letS s 1 4096
def zeD (f:FormD):Bool:=letS f.word 1 24 && letS f.lem 1 24 && letS f.cls 1 8
def zd3 (r:RuleD):Bool:=letS r.suf 0 8 && letS r.put 0 8 && letS r.cls 1 8 && decide (0≤r.least) && decide (r.least≤8)
def zgS (p:PrefD):Bool:=letS p.after 0 8 && letS p.before 0 8 && letS p.cls 1 8 && decide (0<p.after.size+p.before.size)
def zhb (x:LexD):Bool:=x.forms.all zeD && x.rules.all zd3 && x.prefs.all zgS
def zbc (x:LexD):Int:=if 64<x.forms.length∨32<x.rules.length∨32<x.prefs.length then 4 else if zhb x then 0 else 1
def zgw (r:RuleD) (w:ByteArray):Option ByteArray:=
  let n:Int:=(w.size:Int) - r.suf.size
  if n<r.least∨n<0∨w.extract n.toNat w.size≠r.suf∨(n=0∧r.put=.empty) then none else some (w.extract 0 n.toNat++r.put)
def sLt (a b:ByteArray):Bool:=Op.bytesLess a.toList b.toList
def fLt (f g:FormD):Bool:=sLt f.lem g.lem || (decide (f.lem=g.lem) && sLt f.cls g.cls)
def insF (f:FormD):List FormD→List FormD
  | []=>[f]
  | g :: l=>if fLt f g then f :: g :: l else g :: insF f l
def putF (l:List FormD) (f:FormD):List FormD:=if f∈l then l else insF f l
def zbs (x:LexD) (w:ByteArray):List FormD:=x.forms.filter fun f=>decide (f.word=w)
def zbC (x:LexD) (w:ByteArray):List FormD:=x.rules.filterMap fun r=>(zgw r w).map fun s=>⟨w,s,r.cls⟩
def zcc (x:LexD) (w:ByteArray):List FormD:=(zbs x w).foldl putF []
def zb7 (x:LexD) (w:ByteArray):List FormD:=(zbC x w).foldl putF []
def allX (x:LexD) (w:ByteArray):List FormD:=if zcc x w≠[] then zcc x w else if zb7 x w≠[] then zb7 x w else [⟨w,w,.empty⟩]
def zcJ (x:LexD) (ws:List ByteArray) (k:Int) (c:ByteArray):Bool:=decide (c=.empty) || (decide (0≤k) && decide (k<ws.length) && (allX x (ls ws k.toNat)).all fun f=>decide (f.cls=c))
def zmB (x:LexD) (ws:List ByteArray) (k:Nat) (l:List FormD):List PrefD→Option FormD
  | []=>none
  | p :: ps=>if zcJ x ws ((k:Int) - 1) p.after && zcJ x ws ((k:Int)+1) p.before && decide ((l.filter fun f=>decide (f.cls=p.cls)).length=1) then (l.filter fun f=>decide (f.cls=p.cls)).head? else zmB x ws k l ps
def zln (x:LexD) (ws:List ByteArray) (k:Nat):Option FormD:=if (allX x (ls ws k)).length=1 then (allX x (ls ws k)).head? else zmB x ws k (allX x (ls ws k)) x.prefs
def errX (x:LexD) (ws:List ByteArray):Int:=if zbc x≠0 then zbc x else if ws.all zbv then 0 else 1
theorem zmm (f:FormD):∀l,(insF f l).length=l.length+1
  | []=>rfl
  | g :: l=>by unfold insF;split<;>simp[zmm f l]
theorem putF_len (l:List FormD) (f:FormD):(putF l f).length≤l.length+1:=by unfold putF;split<;>simp[zmm]
theorem zbu:∀(m l:List FormD),(m.foldl putF l).length≤l.length+m.length
  | [],l=>by simp
  | f :: m,l=>by have:=zbu m (putF l f);have:=putF_len l f;simp only[List.foldl_cons,List.length_cons];omega
theorem mem_insF{f g:FormD}:∀ {l:List FormD},g∈insF f l↔g=f∨g∈l
  | []=>by simp[insF]
  | h :: l=>by
    unfold insF
    split
    · simp only[List.mem_cons]
    · rw[List.mem_cons,mem_insF (l:=l),List.mem_cons];exact or_left_comm
theorem mem_putF{f g:FormD}{l:List FormD}:g∈putF l f↔g=f∨g∈l:=by
  unfold putF
  split
  · rename_i h
    exact⟨fun k=>.inr k,fun k=>k.elim (fun e=>e▸h) id⟩
  · exact mem_insF
theorem mem_foldl_putF{g:FormD}:∀ {m l:List FormD},g∈m.foldl putF l↔g∈m∨g∈l
  | [],l=>by simp
  | f :: m,l=>by rw[List.foldl_cons,mem_foldl_putF (m:=m),mem_putF,List.mem_cons,or_assoc];exact or_left_comm
theorem zcK{s:ByteArray}{a b:Int}(h:letS s a b=true):(s.size:Int)≤b:=(letS_iff.1 h).2.2
theorem zjc{s:ByteArray}(h:zbv s=true):s.size≤140737488355328:=by have:=zcK h;omega
theorem znA{ws:List ByteArray}(h:ws.all zbv=true):∀w,w∈ws→w.size≤140737488355328:=fun w hw=>zjc (List.all_eq_true.1 h w hw)
theorem zjL{x:LexD}{ws:List ByteArray}(h:errX x ws=0):∀w,w∈ws→w.size≤140737488355328:=by
  unfold errX at h
  by_cases hv:zbc x≠0
  · rw[if_pos hv] at h;exact absurd h hv
  · rw[if_neg hv] at h
    cases ha:ws.all zbv with
    | true=>exact znA ha
    | false=>rw[ha] at h;exact absurd h (by decide)
end Go.Proofs.Ytehoglapajkabaa
