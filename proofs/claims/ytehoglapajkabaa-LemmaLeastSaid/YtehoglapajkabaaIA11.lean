/-
  Walks: Spoilt of the reference model;what the machine can hold.
-/
import Derived.Test.YtehoglapajkabaaIM29
import Derived.Test.YtehoglapajkabaaIM9
import Derived.Test.YtehoglapajkabaaIM0
import Derived.DeepKeys4
import Derived.Maps.Keyed
import Derived.Sort.Grow
import Derived.Sort.EncStr
set_option linter.all false
namespace Go.Proofs.Ytehoglapajkabaa
open Go Go.RowKit
set_option maxRecDepth 20000
set_option maxHeartbeats 1000000
theorem zeO (n:Int):letS (zgj n) 1 24=true:=by
  have h:∀k:Fin 14,letS (ls zkd k.val) 1 24=true:=by decide
  have h0:=zeI (n:=n) (most:=14) (by decide)
  have h1:=zeJ (n:=n) (most:=14) (by decide)
  exact h ⟨(zdC n 14).toNat,by omega⟩
theorem zdq (n:Int):letS (zaJ n) 1 8=true:=by
  have h:∀k:Fin 3,letS (ls zil k.val) 1 8=true:=by decide
  have h0:=zeI (n:=n) (most:=3) (by decide)
  have h1:=zeJ (n:=n) (most:=3) (by decide)
  exact h ⟨(zdC n 3).toNat,by omega⟩
theorem zmj{s:ByteArray}{a b c d:Int}(h:letS s a b=true) (h1:c≤a) (h2:b≤d):letS s c d=true:=letS_iff.2 ⟨(letS_iff.1 h).1,by have:=(letS_iff.1 h).2.1;omega,by have:=(letS_iff.1 h).2.2;omega⟩
theorem zol (n:Int):zbv (zgj n)=true:=zmj (zeO n) (by decide) (by decide)
theorem zqL (n:Int):zeD (madF n)=true:=by
  unfold zeD madF;rw[zeO,zeO,zdq];rfl
theorem zqK{n:Int}(h0:0≤n) (h1:n<4096):zd3 (madR n)=true:=by
  have hqa:=zdH (k:=8) h0 h1 (by decide)
  have hqc:=zdH (k:=96) h0 h1 (by decide)
  have hra:=ze4 (k:=8) h0 (by decide)
  have hrb:=ze4 (k:=4) hqa.1 (by decide)
  have hrc:=ze4 (k:=5) hqc.1 (by decide)
  have e1:∀k:Fin 8,letS (ls ziO k.val) 0 8=true:=by decide
  have e2:∀k:Fin 4,letS (ls zi6 k.val) 0 8=true:=by decide
  unfold zd3 madR
  rw[e1 ⟨(n.tmod 8).toNat,by omega⟩,e2 ⟨((n.tdiv 8).tmod 4).toNat,by omega⟩,zdq,decide_eq_true (show 0≤(n.tdiv 96).tmod 5 from hrc.1),decide_eq_true (show(n.tdiv 96).tmod 5≤8 by omega)];rfl
theorem zqM (n:Int):zgS (madA n)=true:=by
  have hc:∀m:Int,letS (zaJ m) 0 8=true:=fun m=>zmj (zdq m) (by decide) (by decide)
  have hp:∀m:Int,0<(zaJ m).size:=fun m=>by have:=(letS_iff.1 (zdq m)).2.1;omega
  unfold zgS madA
  have he:letS ⟨#[]⟩ 0 8=true:=by decide
  simp only[zdq]
  have h1:=hp n
  have h2:=hp (n.tdiv 27)
  by_cases ha:1<(n.tdiv 9).tmod 3
  · rw[if_pos ha,if_pos (by omega),he,hc,decide_eq_true (by omega)];rfl
  · by_cases hb:0<(n.tdiv 9).tmod 3
    · rw[if_neg ha,if_pos hb,hc,hc,decide_eq_true (by omega)];rfl
    · rw[if_neg ha,if_neg hb,hc,he,decide_eq_true (by omega)];rfl
theorem zl5 (l:List Int):∀i,(mkF l i).all zeD=true
  | 0=>rfl
  | i+1=>by rw[mkF,List.all_append,zl5 l i];simp[zqL]
theorem zl4 (l:List Int):∀i,(mkR l i).all zd3=true
  | 0=>rfl
  | i+1=>by rw[mkR,List.all_append,zl4 l i];simp[zqK (zgZ (l:=l) (i:=9+(i:Int)) (m:=4096) (by decide)) (ze2 (by decide))]
theorem zl6 (l:List Int):∀i,(mkA l i).all zgS=true
  | 0=>rfl
  | i+1=>by rw[mkA,List.all_append,zl6 l i];simp[zqM]
theorem zgG (l:List Int):(zcI l).forms.length≤5∧(zcI l).rules.length≤4∧(zcI l).prefs.length≤3:=by
  have h6:=ze2 (l:=l) (i:=0) (m:=6) (by decide)
  have h5:=ze2 (l:=l) (i:=1) (m:=5) (by decide)
  have h4:=ze2 (l:=l) (i:=2) (m:=4) (by decide)
  unfold zcI
  simp only[zqG,zqF,zqH]
  omega
theorem zhy (l:List Int):zbc (zcI l)=0:=by
  have h:=zgG l
  unfold zbc
  rw[if_neg (by omega),if_pos]
  unfold zhb
  show((mkF l _).all zeD && (mkR l _).all zd3 && (mkA l _).all zgS)=true
  rw[zl5,zl4,zl6];rfl
theorem zq5{x:LexD}(h:zhb x=true) (h1:x.forms.length≤1000000) (h2:x.rules.length≤1000000) (h3:x.prefs.length≤1000000):HeldX x:=by
  unfold zhb at h
  rw[Bool.and_eq_true,Bool.and_eq_true] at h
  refine⟨h1,h2,h3,fun f hf=>?_,fun r hr=>?_,fun p hp=>?_⟩
  · have:=List.all_eq_true.1 h.1.1 f hf
    unfold zeD at this
    simp only[Bool.and_eq_true] at this
    exact⟨by have:=zcK this.1.1;omega,by have:=zcK this.1.2;omega,by have:=zcK this.2;omega⟩
  · have:=List.all_eq_true.1 h.1.2 r hr
    unfold zd3 at this
    simp only[Bool.and_eq_true,decide_eq_true_eq] at this
    exact⟨by have:=zcK this.1.1.1.1;omega,by have:=zcK this.1.1.1.2;omega,by have:=zcK this.1.1.2;omega,by unfold I64;omega⟩
  · have:=List.all_eq_true.1 h.2 p hp
    unfold zgS at this
    simp only[Bool.and_eq_true] at this
    exact⟨by have:=zcK this.1.1.1;omega,by have:=zcK this.1.1.2;omega,by have:=zcK this.1.2;omega⟩
theorem zqJ (l:List Int):HeldX (zcI l):=by
  have h:=zgG l
  have hv:=zhy l
  refine zq5 ?_ (by omega) (by omega) (by omega)
  unfold zbc at hv
  rw[if_neg (by omega)] at hv
  cases hf:zhb (zcI l) with
  | true=>rfl
  | false=>rw[hf] at hv;exact absurd hv (by decide)
theorem zrz{x:LexD}{w:ByteArray}{f:FormD}(h:f∈allX x w):f.word=w:=by
  unfold allX at h
  split at h
  · rcases mem_foldl_putF.1 h with h|h
    · exact of_decide_eq_true (List.mem_filter.1 h).2
    · cases h
  · split at h
    · rcases mem_foldl_putF.1 h with h|h
      · obtain⟨r,_,hr⟩:=List.mem_filterMap.1 h
        obtain⟨s,_,rfl⟩:=Option.map_eq_some_iff.1 hr
        rfl
      · cases h
    · rw[List.mem_singleton.1 h]
theorem Tri.view{P:Program}{n:Nat}{c:Code}{S:St}{Q:Exit→St→Prop}{ι:Type}(S':ι→St) (h:∀(w0:Home) (F0 D:Nat→Prop) (μ:Nat→Option Nat) (F:Nat→Prop) (G:List Value) (a:Act) (w:World),Sim w0 F0 D μ F G S n a w→∃i,Sim w0 F0 D μ F G (S' i) n a w)
    (ht:∀i,Tri P n c (S' i) Q):Tri P n c S Q:=fun w0 F0 D μ F G a w hS=>by
  obtain⟨i,hi⟩:=h w0 F0 D μ F G a w hS
  exact ht i w0 F0 D μ F G a w hi
def Soft (p q:PV):Prop:=∀(D:Nat→Prop) (μ:Nat→Option Nat) (F:Nat→Prop) (w:World) (v:Value),Rep D μ F w p v→Rep D μ F w q v
theorem Soft.refl (p:PV):Soft p p:=fun _ _ _ _ _ h=>h
theorem Soft.trans{p q r:PV}(h:Soft p q) (k:Soft q r):Soft p r:=fun D μ F w v x=>k D μ F w v (h D μ F w v x)
theorem Soft.amp (ks:List ByteArray):Soft (.fmp (ks.map setE)) .amp:=fun _ _ _ _ v h=>.amp ks v h
theorem Soft.ampN:Soft (.atom (.map none)) .amp:=fun _ _ _ _ v h=>by rw[zcV h];exact .ampN
theorem Soft.fmp{l l':List PV}(hp:l.Perm l'):Soft (.fmp l) (.fmp l'):=fun D μ F w v h=>by
  cases h with
  | fmp _ b es ck h1 h2 h3 h4 h5=>
    obtain⟨es',ck',g1,g2,g3,g4⟩:=MapOk.shuffle (b:=b) (sz:=0) (sz':=0) (⟨es,ck,h2,h3,h4,h5⟩:MapOk D μ F w b ⟨0,l⟩) hp
    exact .fmp l' b es' ck' h1 g1 g2 g3 g4
theorem Soft.tup{l l':List PV}(hl:l'.length=l.length) (h:∀i (h:i<l.length) (h':i<l'.length),Soft l[i] l'[i]):Soft (.tup l) (.tup l'):=fun D μ F w v hr=>by
  cases hr with
  | tup _ vs h1 h2=>exact .tup l' vs (h1.trans hl.symm) fun i hi=>h i (by omega) hi _ _ _ _ _ (h2 i (by omega))
theorem Soft.tup2{a b b':PV}(h:Soft b b'):Soft (.tup [a,b]) (.tup [a,b']):=Soft.tup rfl fun i h1 h2=>by
  match i,h1 with
  | 0,_=>exact Soft.refl _
  | 1,_=>exact h
theorem Soft.fptr1{sz:Nat}{a a' b:PV}(h:Soft a a'):Soft (.fptr sz [.agg [a,b]] 0 0) (.fptr sz [.agg [a',b]] 0 0):=fun D μ F w v hr=>by
  cases hr with
  | fptr _ _ _ _ bl off g h1 h2 h3 h4=>
    refine .fptr sz [.agg [a',b]] 0 0 bl off g h1 h2 (fun k hk=>?_) (fun k hk c hc=>?_)
    · have:k=0:=by simp at hk;omega
      subst this
      exact h3 0 (by simp)
    · have:k=0:=by simp at hk;omega
      subst this
      match c,hc with
      | 0,_=>exact h _ _ _ _ _ (h4 0 (by simp) 0 (by simp[PV.cells]))
      | 1,_=>exact h4 0 (by simp) 1 (by simp[PV.cells])
theorem St.get_put (S:St) (d:Nat) (p:PV) (hp:List (Nat×Option AO)) (nx:Nat) (gh:List PV) (s:Nat):(St.mk ((d,p) :: S.env) hp nx gh).get s=if d=s then p else S.get s:=by
  show(lk ((d,p) :: S.env) s).getD .junk=_
  unfold lk
  by_cases h:d=s
  · rw[if_pos h,if_pos h];rfl
  · rw[if_neg h,if_neg h];rfl
theorem St.obj_put (S:St) (i:Nat) (o:AO) (env:List (Nat×PV)) (nx:Nat) (gh:List PV):(St.mk env ((i,some o) :: S.hp) nx gh).obj=upd S.obj i (some o):=by
  funext j
  show(lk ((i,_) :: S.hp) j).join=_
  unfold upd
  by_cases hj:i=j
  · rw[lk,if_pos hj,if_pos hj.symm];rfl
  · rw[lk,if_neg hj,if_neg (Ne.symm hj)];rfl
theorem Tri.softE{P:Program}{n:Nat}{c:Code}{S:St}{Q:Exit→St→Prop}(d:Nat) (q:PV) (h:Soft (S.get d) q) (ht:Tri P n c ⟨(d,q) :: S.env,S.hp,S.nx,S.gh⟩ Q):Tri P n c S Q:=fun w0 F0 D μ F G a w hS=>by
  refine ht w0 F0 D μ F G a w ⟨hS.defers,hS.size,fun s=>?_,hS.heap,hS.ids,hS.ghl,hS.gh⟩
  rw[St.get_put]
  split
  · rename_i e;subst e;exact h _ _ _ _ _ (hS.env d)
  · exact hS.env s
theorem Tri.openP{P:Program}{n:Nat}{c:Code}{S:St}{Q:Exit→St→Prop}(d:Nat) (x:PV) (h:S.get d=.fptr 2 [.agg [.amp,x]] 0 0) (h0:Tri P n c ⟨(d,.fptr 2 [.agg [.atom (.map none),x]] 0 0) :: S.env,S.hp,S.nx,S.gh⟩ Q)
    (ht:∀ks:List ByteArray,Tri P n c ⟨(d,.fptr 2 [.agg [.fmp (ks.map setE),x]] 0 0) :: S.env,S.hp,S.nx,S.gh⟩ Q):Tri P n c S Q:=fun w0 F0 D μ F G a w hS=>by
  have hd:=hS.env d
  rw[h] at hd
  have key:∀q,Rep D μ F w q (a.tmps.getD d undef)→Sim w0 F0 D μ F G ⟨(d,q) :: S.env,S.hp,S.nx,S.gh⟩ n a w:=fun q hq=>⟨hS.defers,hS.size,fun s=>by
    rw[St.get_put]
    split
    · rename_i e;subst e;exact hq
    · exact hS.env s,hS.heap,hS.ids,hS.ghl,hS.gh⟩
  generalize hv:a.tmps.getD d undef=v at hd
  cases hd with
  | fptr _ _ _ _ b off g h1 h2 h3 h4=>
    have mk:∀q,Rep D μ F w q (g 0)→Rep D μ F w (.fptr 2 [.agg [q,x]] 0 0) (.pointer (some ⟨b,off+(0 * 2+0),none⟩)):=fun q hq=>by
      refine .fptr 2 [.agg [q,x]] 0 0 b off g h1 h2 (fun k hk=>?_) (fun k hk c hc=>?_)
      · have:k=0:=by simp at hk;omega
        subst this
        exact h3 0 (by simp)
      · have:k=0:=by simp at hk;omega
        subst this
        match c,hc with
        | 0,_=>exact hq
        | 1,_=>exact h4 0 (by simp) 1 (by simp[PV.cells])
    have ha:=h4 0 (by simp) 0 (by simp[PV.cells])
    simp only[List.getElem_cons_zero,PV.cells,Nat.zero_mul,Nat.zero_add] at ha
    generalize hg0:g 0=u at ha mk
    cases ha with
    | amp ks _ hr=>exact ht ks w0 F0 D μ F G a w (key _ (by rw[hv];exact mk _ hr))
    | ampN=>exact h0 w0 F0 D μ F G a w (key _ (by rw[hv];exact mk _ (.atom _)))
theorem zl3{D:Nat→Prop}{μ:Nat→Option Nat}{F:Nat→Prop}{w:World}{i:Nat}{v:Value}(h:Rep D μ F w (.mp i) v):∃b,μ i=some b∧isMap w b:=by
  cases h with
  | mp _ b h1 h2 h3=>exact⟨b,h2,h3⟩
theorem zgY{w0:Home}{F0 D:Nat→Prop}{μ:Nat→Option Nat}{F:Nat→Prop}{H:Nat→Option AO}{w:World}(hH:HeapSim w0 F0 D μ F H w) {j i:Nat}(h:H j=some ⟨1,[.mp i]⟩):∃b,μ i=some b∧isMap w b:=by
  have hst:=(hH.objs j _ h).2
  cases hm:μ j with
  | none=>rw[hm] at hst;have:([.mp i]:List PV)=[]:=hst;cases this
  | some b=>
    rw[hm] at hst
    rcases hst with hst|hst|hst
    · obtain⟨A,e,_,_,_,h4⟩:=hst
      exact zl3 (h4 0 (by simp) 0 (by simp[PV.cells]))
    · obtain⟨es,ck,_,_,_,h4⟩:=hst
      exact zl3 (h4 0 (by simp))
    · obtain⟨rem,cur,h1,_⟩:=hst
      simp at h1
theorem MapOk.repl{D:Nat→Prop}{μ:Nat→Option Nat}{F:Nat→Prop}{w:World}{b sz k:Nat}{els:List PV}{q:PV}(h:MapOk D μ F w b ⟨sz,els⟩) (hq:∀(hk:k<els.length) v,Rep D μ F w els[k] v→Rep D μ F w q v):MapOk D μ F w b ⟨sz,els.set k q⟩:=by
  obtain⟨es,ck,h1,h2,h3,h4⟩:=h
  refine⟨es,ck,h1,h2,by simpa using h3,fun j hj=>?_⟩
  have hj':j<els.length:=by simpa using hj
  have:=h4 j hj'
  simp only[List.getElem_set]
  split
  · rename_i e;subst e;exact hq hj' _ this
  · exact this
theorem Tri.raw{P:Program}{n:Nat}{c:Code}{S:St}{Q:Exit→St→Prop}(d jb j k i sz:Nat) (els:List PV) (key:PV) (hb:S.obj jb=some ⟨1,[.mp j]⟩) (hm:S.obj j=some ⟨0,els⟩) (hk:els[k]? = some (.tup [key,.ptr i sz 0 0])) (hdd:S.get d=.junk)
    (ht:∀b,Tri P n c ⟨(d,.is b i) :: S.env,(j,some ⟨0,els.set k (.tup [key,.atom (.pointer (some ⟨b,0,none⟩))])⟩) :: S.hp,S.nx,S.gh⟩ Q):Tri P n c S Q:=by
  refine Tri.view (fun b=>⟨(d,.is b i) :: S.env,(j,some ⟨0,els.set k (.tup [key,.atom (.pointer (some ⟨b,0,none⟩))])⟩) :: S.hp,S.nx,S.gh⟩) (fun w0 F0 D μ F G a w hS=>?_) ht
  obtain⟨bm,hbm,hkm⟩:=zgY hS.heap hb
  have hmo:=hS.heap.mapOk hm hbm hkm
  obtain⟨hkl,hke⟩:=List.getElem?_eq_some_iff.1 hk
  obtain⟨es,ck,h1,h2,h3,h4⟩:=hmo
  have hr:=h4 k hkl
  simp only[hke] at hr
  obtain⟨b,hDi,hib⟩:∃b,D i∧μ i=some b:=by
    generalize entV es k=v at hr
    cases hr with
    | tup _ vs _ g=>
      have:=g 1 (by simp)
      simp only[List.getElem_cons_succ,List.getElem_cons_zero] at this
      generalize vs.getD 1 undef=u at this
      cases this with
      | ptr _ _ _ _ b hD hb hkd=>exact⟨b,hD,hb⟩
  have hsw:=hS.heap.swap j ⟨0,els⟩ ⟨0,els.set k (.tup [key,.atom (.pointer (some ⟨b,0,none⟩))])⟩ hm (fun hst=>by
    rw[hbm]
    refine .inr (.inl (MapOk.repl ⟨es,ck,h1,h2,h3,h4⟩ (fun hk' v hv=>?_)))
    simp only[hke] at hv
    cases hv with
    | tup _ vs g1 g2=>
      refine .tup _ _ g1 fun m hm2=>?_
      match m,hm2 with
      | 0,_=>exact g2 0 (by simp)
      | 1,_=>
        have:=g2 1 (by simp)
        simp only[List.getElem_cons_succ,List.getElem_cons_zero] at this ⊢
        generalize vs.getD 1 undef=u at this
        cases this with
        | ptr _ _ _ _ b' hD' hb' hkd'=>
          rw[hib] at hb';cases hb'
          simp only[Nat.zero_mul,Nat.zero_add,Nat.add_zero]
          exact .atom _)
  refine⟨b,hS.defers,hS.size,fun s=>?_,?_,hS.ids,hS.ghl,hS.gh⟩
  · rw[St.get_put]
    split
    · exact .is b i _ hDi hib
    · exact hS.env s
  · rw[St.obj_put];exact hsw
theorem Tri.unraw{P:Program}{n:Nat}{c:Code}{S:St}{Q:Exit→St→Prop}(d s jb j k i sz b:Nat) (els:List PV) (key:PV) (hb:S.obj jb=some ⟨1,[.mp j]⟩) (hm:S.obj j=some ⟨0,els⟩) (hk:els[k]? = some (.tup [key,.atom (.pointer (some ⟨b,0,none⟩))])) (hd:S.get d=.is b i) (hs:S.get s=.ptr i sz 0 0)
    (ht:Tri P n c ⟨S.env,(j,some ⟨0,els.set k (.tup [key,.ptr i sz 0 0])⟩) :: S.hp,S.nx,S.gh⟩ Q):Tri P n c S Q:=by
  refine Tri.view (fun _:Unit=>⟨S.env,(j,some ⟨0,els.set k (.tup [key,.ptr i sz 0 0])⟩) :: S.hp,S.nx,S.gh⟩) (fun w0 F0 D μ F G a w hS=>?_) (fun _=>ht)
  obtain⟨bm,hbm,hkm⟩:=zgY hS.heap hb
  have hmo:=hS.heap.mapOk hm hbm hkm
  obtain⟨hkl,hke⟩:=List.getElem?_eq_some_iff.1 hk
  have hds:=hS.env d
  rw[hd] at hds
  have hss:=hS.env s
  rw[hs] at hss
  obtain⟨hDi,hib⟩:D i∧μ i=some b:=by
    generalize a.tmps.getD d undef=u at hds
    cases hds with
    | is _ _ _ h1 h2=>exact⟨h1,h2⟩
  have hkc:isCells w b:=by
    generalize a.tmps.getD s undef=u at hss
    cases hss with
    | ptr _ _ _ _ b' hD hb' hkd=>rw[hib] at hb';cases hb';exact hkd
  have hsw:=hS.heap.swap j ⟨0,els⟩ ⟨0,els.set k (.tup [key,.ptr i sz 0 0])⟩ hm (fun hst=>by
    rw[hbm]
    refine .inr (.inl (MapOk.repl hmo (fun hk' v hv=>?_)))
    simp only[hke] at hv
    cases hv with
    | tup _ vs g1 g2=>
      refine .tup _ _ g1 fun m hm2=>?_
      match m,hm2 with
      | 0,_=>exact g2 0 (by simp)
      | 1,_=>
        have:=g2 1 (by simp)
        simp only[List.getElem_cons_succ,List.getElem_cons_zero] at this ⊢
        have e:=zcV this
        rw[e]
        have:=Rep.ptr (D:=D) (μ:=μ) (F:=F) (w:=w) i sz 0 0 b hDi hib hkc
        simpa using this)
  refine⟨(),hS.defers,hS.size,hS.env,?_,hS.ids,hS.ghl,hS.gh⟩
  rw[St.obj_put];exact hsw
theorem Tri.softM{P:Program}{n:Nat}{c:Code}{S:St}{Q:Exit→St→Prop}(jb j k:Nat) (els:List PV) (p q:PV) (hb:S.obj jb=some ⟨1,[.mp j]⟩) (hm:S.obj j=some ⟨0,els⟩) (hk:els[k]? = some p) (h:Soft p q)
    (ht:Tri P n c ⟨S.env,(j,some ⟨0,els.set k q⟩) :: S.hp,S.nx,S.gh⟩ Q):Tri P n c S Q:=by
  refine Tri.view (fun _:Unit=>⟨S.env,(j,some ⟨0,els.set k q⟩) :: S.hp,S.nx,S.gh⟩) (fun w0 F0 D μ F G a w hS=>?_) (fun _=>ht)
  obtain⟨bm,hbm,hkm⟩:=zgY hS.heap hb
  have hmo:=hS.heap.mapOk hm hbm hkm
  obtain⟨hkl,hke⟩:=List.getElem?_eq_some_iff.1 hk
  have hsw:=hS.heap.swap j ⟨0,els⟩ ⟨0,els.set k q⟩ hm (fun hst=>by
    rw[hbm]
    exact .inr (.inl (MapOk.repl hmo (fun hk' v hv=>h _ _ _ _ _ (by rw[←hke];exact hv)))))
  refine⟨(),hS.defers,hS.size,hS.env,?_,hS.ids,hS.ghl,hS.gh⟩
  rw[St.obj_put];exact hsw
def rfP (sz j0:Nat) (r:List (List PV)):List PV:=(List.range r.length).map fun i=>.ob (j0+i) sz 0 (r.getD i []).length
def rfO (sz:Nat) (r:List (List PV)):List (Option AO):=r.map fun x=>some ⟨sz,x⟩
theorem zer (sz j0:Nat) (r:List (List PV)):(rfP sz j0 r).length=r.length:=by simp[rfP]
theorem zmo{sz j0 j:Nat}{r:List (List PV)}(h:j<r.length):(rfP sz j0 r).getD j .junk=.ob (j0+j) sz 0 (r.getD j []).length:=by simp[rfP,List.getD_eq_getElem?_getD,h]
theorem zmi{sz j0 j:Nat}{r:List (List PV)}(h:j<r.length):lk (za9 j0 (rfO sz r)) (j0+j)=some (some ⟨sz,r.getD j []⟩):=by
  rw[zcA,if_pos (by omega)]
  simp[rfO,List.getD_eq_getElem?_getD,h]
theorem ze5:∀ {l:List (Option AO)}{k:Nat}{p:Nat×Option AO},p∈za9 k l→∃i,l[i]? = some p.2∧p.1=k+i
  | [],_,_,h=>by cases h
  | o :: l,k,p,h=>by
    rw[za9,List.mem_cons] at h
    rcases h with rfl|h
    · exact⟨0,rfl,rfl⟩
    · obtain⟨i,h1,h2⟩:=ze5 h
      exact⟨i+1,by simpa using h1,by omega⟩
def rfL (j n:Nat) (ν:Nat→Nat):List Nat:=j :: (List.range n).map ν
theorem zlQ{j n nx:Nat}{ν:Nat→Nat}:rmap (rfL j n ν) nx 0=j:=rfl
theorem zlR{j n nx i:Nat}{ν:Nat→Nat}(h:i<n):rmap (rfL j n ν) nx (i+1)=ν i:=by simp[rmap,rfL,h]
theorem rfL_has{j n i:Nat}{ν:Nat→Nat}(h:i<n):(rfL j n ν).contains (ν i)=true:=by
  rw[List.contains_iff_mem];exact List.mem_cons_of_mem _ (List.mem_map.2 ⟨i,List.mem_range.2 h,rfl⟩)
theorem leq_rf{S:St}{env:List (Nat×PV)}{j n sz:Nat}{ν:Nat→Nat}{r:List (List PV)}(hn:r.length=n) (h0:S.obj j=some ⟨1,(List.range n).map fun i=>.ob (ν i) sz 0 (r.getD i []).length⟩)
    (hr:∀i,i<n→S.obj (ν i)=some ⟨sz,r.getD i []⟩) (hinj:∀i k,i<n→k<n→ν i=ν k→i=k) (hj:∀i,i<n→ν i≠j) (hp:∀i,i<n→zaw (r.getD i [])=true)
    (he:∀p,p∈env→(p.2.pure=true∧S.get p.1=p.2)∨(∃m,p.2=.ob 0 1 0 m∧S.get p.1=.ob j 1 0 m)) (hg:S.gh=[]):Leq (rfL j n ν) S ⟨env,(0,some ⟨1,rfP sz 1 r⟩) :: za9 1 (rfO sz r),n+1,[]⟩:=by
  subst hn
  refine⟨4,fun p hp=>?_,fun p hpm o ho=>?_,by simp[rfL],?_,by rw[hg],fun i h=>absurd h (Nat.not_lt_zero _)⟩
  · rcases he p hp with ⟨h1,h2⟩|⟨m,h1,h2⟩
    · rw[h2];exact sp h1
    · rw[h2,h1]
      have:(rfL j r.length ν).contains j=true:=by rw[List.contains_iff_mem];exact List.mem_cons_self ..
      simp only[sealed,this,if_true,PV.ren,zlQ]
  · rcases List.mem_cons.1 hpm with rfl|hpm
    · cases ho
      refine⟨by simp[rfL],⟨1,(List.range r.length).map fun i=>.ob (ν i) sz 0 (r.getD i []).length⟩,by rw[zlQ];exact h0,rfl,?_⟩
      unfold rfP
      rw[List.map_map,List.map_map]
      refine List.map_congr_left fun i hi=>?_
      have hi':=List.mem_range.1 hi
      simp only[Function.comp,sealed,rfL_has hi',if_true,PV.ren]
      rw[Nat.add_comm 1 i,zlR hi']
    · obtain⟨i,h1,h2⟩:=ze5 hpm
      have hi:i<r.length:=by
        have:=(List.getElem?_eq_some_iff.1 h1).1
        simpa[rfO] using this
      rw[ho] at h1
      simp only[rfO,List.getElem?_map,List.getElem?_eq_getElem hi,Option.map_some,Option.some.injEq] at h1
      subst h1
      have e:p.1=i+1:=by omega
      rw[e]
      have e2:r.getD i []=r[i]:=by simp[List.getD_eq_getElem?_getD,hi]
      have hri:=hr i hi
      have hpi:=hp i hi
      rw[e2] at hri hpi
      refine⟨by simp[rfL,hi],_,by rw[zlR hi];exact hri,rfl,?_⟩
      rw[zak _ _ _ hpi,zaO _ hpi]
  · unfold rfL
    rw[List.nodup_cons]
    refine⟨fun h=>?_,?_⟩
    · obtain⟨i,hi,he⟩:=List.mem_map.1 h
      exact hj i (List.mem_range.1 hi) he
    · rw[List.nodup_iff_pairwise_ne,List.pairwise_map]
      refine List.Pairwise.imp_of_mem (fun {a b} ha hb hab e=>hab (hinj a b (List.mem_range.1 ha) (List.mem_range.1 hb) e)) List.nodup_range
theorem zqr{H:Nat→Option AO}{sz k n:Nat}{r:List (List PV)}(hn:r.length=n) (h0:H 0=some ⟨1,rfP sz 1 r⟩) (hr:∀i,i<n→H (1+i)=some ⟨sz,r.getD i []⟩) (hp:∀i,i<n→zaw (r.getD i [])=true):
    sealed H (fun _=>false) (k+2) (.ob 0 1 0 n)=.sl 1 (r.map fun x=>.sl sz x):=by
  subst hn
  simp only[sealed,h0,zer]
  simp only[Bool.false_eq_true,if_false,Nat.zero_add,Nat.le_refl,and_self,if_true,List.drop_zero]
  congr 1
  rw[List.take_of_length_le (by rw[zer];exact Nat.le_refl _)]
  refine List.ext_getElem (by simp[zer]) fun i h1 h2=>?_
  have hi:i<r.length:=by simpa[zer] using h1
  have e2:r.getD i []=r[i]:=by simp[List.getD_eq_getElem?_getD,hi]
  have ho:=hr i hi
  have hpi:=hp i hi
  rw[e2] at ho hpi
  have e3:(rfP sz 1 r)[i]'(by rw[zer];exact hi)=.ob (1+i) sz 0 r[i].length:=by rw[←e2];simp[rfP]
  rw[List.getElem_map,List.getElem_map,e3]
  exact seal_row ho rfl rfl hpi
theorem Tri.bornAll{P:Program}{n:Nat}{c:Code}{S:St}{Q:Exit→St→Prop}(i m sz:Nat) (h:S.obj i=some ⟨1,List.replicate m (.atom (.slice none 0 0))⟩)
    (ht:Tri P n c ⟨S.env,(i,some ⟨1,(List.range m).map fun k=>.ob (S.nx+k) sz 0 0⟩) :: (za9 S.nx (List.replicate m (some ⟨sz,[]⟩))++S.hp),S.nx+m,S.gh⟩ Q):Tri P n c S Q:=fun w0 F0 D μ F G a w hS=>by
  have hold:∀j,D j→zeu S.nx m D j∧zb4 S.nx m μ (fun _=>none) j=μ j:=fun j hj=>⟨.inl hj,by
    unfold zb4;rw[if_neg];have:=hS.ids j hj;omega⟩
  have hDi:=(hS.heap.objs _ _ h).1
  have hin:=hS.ids i hDi
  have hlkn:∀j,¬ (S.nx≤j∧j<S.nx+m)→lk (za9 S.nx (List.replicate m (some (⟨sz,[]⟩:AO)))++S.hp) j=lk S.hp j:=fun j hj=>by
    rw[zex,zcA]
    by_cases h1:S.nx≤j
    · rw[if_pos h1,List.getElem?_eq_none (by simp;omega)];rfl
    · rw[if_neg h1];rfl
  have hlky:∀j,S.nx≤j∧j<S.nx+m→lk (za9 S.nx (List.replicate m (some (⟨sz,[]⟩:AO)))++S.hp) j=some (some ⟨sz,[]⟩):=fun j hj=>by
    rw[zex,zcA,if_pos hj.1,List.getElem?_replicate,if_pos (by omega)];rfl
  refine ht w0 F0 (zeu S.nx m D) (zb4 S.nx m μ (fun _=>none)) F G a w ⟨hS.defers,hS.size,fun s=>(hS.env s).stay (Stay.refl _ _) hold (fun _ h=>h),?_,fun j hj=>?_,hS.ghl,fun j hj=>(hS.gh j hj).stay (Stay.refl _ _) hold (fun _ h=>h)⟩
  · refine hS.heap.step (Stay.refl _ _) hold (fun _ h=>h) hS.heap.ext hS.heap.f0 hS.heap.fsz fun j o hj=>?_
    have hj':(if i=j then some (some (⟨1,(List.range m).map fun k=>.ob (S.nx+k) sz 0 0⟩:AO)) else lk (za9 S.nx (List.replicate m (some ⟨sz,[]⟩))++S.hp) j).join=some o:=hj
    by_cases hij:i=j
    · subst hij
      rw[if_pos rfl] at hj'
      cases hj'
      refine .inr ⟨(hold i hDi).1,?_,fun b hb=>?_⟩
      · rw[(hold i hDi).2]
        have hst:=(hS.heap.objs _ _ h).2
        cases hm:μ i with
        | none=>
          rw[hm] at hst
          have:List.replicate m (PV.atom (.slice none 0 0))=[]:=hst
          have hm0:m=0:=by simpa using this
          subst hm0;rfl
        | some b=>
          rw[hm] at hst
          by_cases hm0:m=0
          · subst hm0;exact ObjOk.stay hst (Stay.refl _ _) hold (fun _ h=>h) rfl
          obtain⟨A,e,g1,g2,g3,g4⟩:=ObjOk.cellsOf (k:=0) (hst:ObjOk _ _ _ _ b _) (by rw[List.getElem?_replicate,if_pos (by omega)]) rfl
          refine .inl ⟨A,e,g1,by simpa using g2,fun k hk=>?_,fun k hk c hc=>?_⟩
          · rw[gl (congrArg _ (rfl:_=_)) hk];simp[PV.cells]
          · have hk':k<m:=by simpa using hk
            have e1:((List.range m).map fun k=>PV.ob (S.nx+k) sz 0 0)[k]'(by simpa using hk')=.ob (S.nx+k) sz 0 0:=by simp
            have hc0:c=0:=by
              simp only[e1] at hc
              have:c<1:=hc
              omega
            subst hc0
            have hr:=g4 k (by simpa using hk') 0 (by simp[PV.cells])
            have e2:((List.replicate m (PV.atom (.slice none 0 0)))[k]'(by simpa using hk')).cells[0]'(by simp[PV.cells])=.atom (.slice none 0 0):=by simp[PV.cells]
            simp only at hr
            rw[e2] at hr
            have e3:(((List.range m).map fun k=>PV.ob (S.nx+k) sz 0 0)[k]'(by simpa using hk')).cells[0]'(by simp[PV.cells])=.ob (S.nx+k) sz 0 0:=by simp[PV.cells]
            simp only
            rw[e3,zgE hr]
            refine .obn _ _ (.inr ⟨by omega,by omega⟩) ?_
            unfold zb4;rw[if_pos ⟨by omega,by omega⟩]
      · rw[(hold i hDi).2] at hb
        refine⟨(hS.heap.own _ _ b h hb).1,(hS.heap.own _ _ b h hb).2,fun k o2 hk hk2 hkb=>?_⟩
        have hk2':(if i=k then some (some (⟨1,(List.range m).map fun k=>.ob (S.nx+k) sz 0 0⟩:AO)) else lk (za9 S.nx (List.replicate m (some ⟨sz,[]⟩))++S.hp) k).join=some o2:=hk2
        rw[if_neg (Ne.symm hk)] at hk2'
        by_cases hn:S.nx≤k∧k<S.nx+m
        · unfold zb4 at hkb;rw[if_pos hn] at hkb;cases hkb
        · rw[hlkn k hn] at hk2'
          have hko:S.obj k=some o2:=hk2'
          rw[(hold k (hS.heap.objs _ _ hko).1).2] at hkb
          exact hk (hS.heap.inj _ _ _ _ b hko h hkb hb)
    · rw[if_neg hij] at hj'
      by_cases hn:S.nx≤j∧j<S.nx+m
      · rw[hlky j hn] at hj'
        cases hj'
        have hmj:zb4 S.nx m μ (fun _=>none) j=none:=by unfold zb4;rw[if_pos hn]
        exact .inr ⟨.inr hn,by rw[hmj];rfl,fun b hb=>by rw[hmj] at hb;cases hb⟩
      · rw[hlkn j hn] at hj'
        exact .inl ⟨hj',fun b hb=>⟨rfl,(hS.heap.own _ _ b hj' hb).2⟩⟩
  · rcases hj with hj|hj
    · have:=hS.ids j hj
      show j<S.nx+m
      omega
    · exact hj.2
theorem zny{l:List PV}{x:PV}(h:zaw l=true) (hx:x.pure=true):zaw (l++[x])=true:=by
  rw[zbr] at *
  rw[List.all_append,h]
  simp[hx]
theorem zk4{S:St}{env:List (Nat×PV)}{n sz k N:Nat}{x:PV}{r r':List (List PV)}(hn:r.length=n) (hn':r'.length=n) (hk:k<n) (hN:n<N) (hr':∀j,j<n→r'.getD j []=if j=k then r.getD k []++[x] else r.getD j [])
    (h0:S.obj 0=some ⟨1,(rfP sz 1 r).set k (.ob N sz 0 ((r.getD k []).length+1))⟩) (h1:S.obj N=some ⟨sz,r.getD k []++[x]⟩) (h2:∀j,j<n→j≠k→S.obj (1+j)=some ⟨sz,r.getD j []⟩) (hp:∀j,j<n→zaw (r.getD j [])=true) (hx:x.pure=true)
    (he:∀p,p∈env→(p.2.pure=true∧S.get p.1=p.2)∨(∃m,p.2=.ob 0 1 0 m∧S.get p.1=.ob 0 1 0 m)) (hg:S.gh=[]):Leq (rfL 0 n (fun j=>if j=k then N else 1+j)) S ⟨env,(0,some ⟨1,rfP sz 1 r'⟩) :: za9 1 (rfO sz r'),n+1,[]⟩:=by
  refine leq_rf hn' ?_ (fun i hi=>?_) (fun i j hi hj e=>?_) (fun i hi=>?_) (fun i hi=>?_) he hg
  · rw[h0]
    congr 2
    refine List.ext_getElem (by simp[zer,hn]) fun i g1 g2=>?_
    have hi:i<n:=by simpa using g2
    rw[List.getElem_set,List.getElem_map,List.getElem_range,hr' i hi]
    by_cases e:k=i
    · subst e;simp
    · rw[if_neg e,if_neg (Ne.symm e),if_neg (Ne.symm e)];simp[rfP]
  · rw[hr' i hi]
    by_cases e:i=k
    · rw[if_pos e,if_pos e];exact h1
    · rw[if_neg e,if_neg e];exact h2 i hi e
  · by_cases e1:i=k
    · by_cases e2:j=k
      · omega
      · rw[if_pos e1,if_neg e2] at e;omega
    · by_cases e2:j=k
      · rw[if_neg e1,if_pos e2] at e;omega
      · rw[if_neg e1,if_neg e2] at e;omega
  · split<;>omega
  · rw[hr' i hi]
    split
    · exact zny (hp k hk) hx
    · exact hp i hi
def Tr.rn (ρ:Nat→Nat) (x:Tr):Tr:=⟨ρ x.nx,x.cnt,x.rd.map ρ,x.del.map ρ,x.st.map ρ⟩
theorem zfK{L:List Nat}{nx i:Nat}(h:∀j,j∈L→j<nx):pmap L nx i<nx↔i<L.length:=by
  by_cases hi:i<L.length
  · rw[zec hi];exact⟨fun _=>hi,fun _=>h _ (List.getElem_mem hi)⟩
  · rw[zc7 (by omega)];omega
theorem pmap_inj{L:List Nat}{nx i j:Nat}(h:∀j,j∈L→j<nx) (hn:L.Nodup):pmap L nx i=pmap L nx j↔i=j:=by
  constructor
  · intro e
    by_cases hi:i<L.length
    · by_cases hj:j<L.length
      · rw[zec hi,zec hj] at e;exact zet hn hi hj e
      · have:=(zfK (i:=i) h).2 hi;have:=mt (zfK (i:=j) h).1 hj;omega
    · by_cases hj:j<L.length
      · have:=(zfK (i:=j) h).2 hj;have:=mt (zfK (i:=i) h).1 hi;omega
      · rw[zc7 (by omega),zc7 (by omega)] at e;omega
  · rintro rfl;rfl
theorem zlW{L:List Nat}{nx i:Nat}(h:∀j,j∈L→j<nx) (hn:L.Nodup) (l:List Nat):(l.map (pmap L nx)).contains (pmap L nx i)=l.contains i:=by
  rw[Bool.eq_iff_iff,List.contains_iff_mem,List.contains_iff_mem,List.mem_map]
  constructor
  · rintro⟨j,hj,e⟩;rw[← (pmap_inj h hn).1 e];exact hj
  · intro hi;exact⟨i,hi,rfl⟩
theorem all_congr'{α:Type}{f g:α→Bool}(l:List α) (h:∀x,f x=g x):l.all f=l.all g:=by rw[show f=g from funext h]
theorem any_congr'{α:Type}{f g:α→Bool}(l:List α) (h:∀x,f x=g x):l.any f=l.any g:=by rw[show f=g from funext h]
theorem trOk_rn{L:List Nat}{nx0:Nat}{Dl:List (List Nat)}(tr:List Tr) (h:∀j,j∈L→j<nx0) (hn:L.Nodup) (hx:∀y,y∈tr→L.length≤y.nx) (ht:trOk L.length Dl tr=true):trOk nx0 Dl (tr.map (Tr.rn (pmap L nx0)))=true:=by
  rw[←ht]
  unfold trOk
  simp only[List.length_map,List.getElem?_map]
  refine all_congr' _ fun k=>?_
  cases tr[k]? with
  | none=>rfl
  | some x=>
    simp only[Option.map_some,Tr.rn]
    congr 1
    · rw [← List.map_append,←List.map_append,List.all_map]
      refine all_congr' _ fun i=>?_
      simp only[Function.comp]
      congr 1
      · exact decide_eq_decide.2 (zfK h)
      · refine any_congr' _ fun j=>?_
        cases hj:tr[j]? with
        | none=>rfl
        | some y=>
          have hy:=hx y (List.mem_of_getElem? hj)
          simp only[Option.map_some,Tr.rn]
          rw[zc7 hy]
          by_cases hi:i<L.length
          · have:=(zfK (i:=i) h).2 hi
            rw[decide_eq_false (show ¬nx0+(y.nx - L.length)≤pmap L nx0 i by omega),decide_eq_false (show ¬y.nx≤i by omega)];rfl
          · rw[zc7 (by omega)]
            congr 1
            · exact decide_eq_decide.2 (by omega)
            · exact decide_eq_decide.2 (by omega)
    · refine all_congr' _ fun m=>?_
      cases tr[m]? with
      | none=>rfl
      | some y=>
        simp only[Option.map_some,Tr.rn]
        congr 1
        · rw[List.all_map]
          refine all_congr' _ fun i=>?_
          simp only[Function.comp,zlW h hn]
        · congr 1
          rw[List.all_map]
          refine all_congr' _ fun i=>?_
          simp only[Function.comp,zlW h hn]
section
variable {P:Program}
theorem zdZ{k:TypeId}(hk:P.underlying k=some .string) {s:ByteArray}(hs:s.size≤9223372036854775807):zeg P k (encS s):=by
  refine⟨.string s,.string s.data.toList,rfl,?_⟩
  unfold keyOf
  rw[hk]
  simp only[mapKey,hk]
  rw[if_pos (by unfold maxLen;exact hs)]
structure PairKey (P:Program) (k:TypeId):Prop where
  law:Maps.Keyed P k
  ok:∀a b:Int,I64 a→I64 b→zeg P k (.agg [encI a,encI b])
def pairB (P:Program) (k:TypeId):Bool:=match P.underlying k with
  | some (.array 2 e)=>(match P.underlying e with|some (.int .i64)=>true|_=>false) && decide (P.cellsOf e=1) && decide (P.cellsOf k=2) && P.keyType k && P.keyTypeAt 9 k && decide (k<P.types.size)
  | _=>false
theorem PairKey.of{k:TypeId}(hl:laidOutB P=true) (hb:pairB P k=true):PairKey P k:=by
  unfold pairB at hb
  split at hb
  · rename_i e hu
    simp only[Bool.and_eq_true,decide_eq_true_eq] at hb
    obtain⟨⟨⟨⟨⟨he,hce⟩,hc⟩,hkt⟩,hkt2⟩,hrow⟩:=hb
    have he:P.underlying e=some (.int .i64):=by
      split at he
      · assumption
      · cases he
    obtain⟨n,hn⟩:∃n,P.types.size=n+1:=⟨P.types.size - 1,(Nat.succ_pred_eq_of_pos (Nat.lt_of_le_of_lt (Nat.zero_le _) hrow)).symm⟩
    refine⟨Maps.Keyed.of_law (deep_law_laid hl (m:=9) (by omega) hrow hkt2 (by rw[hu])),fun a b ha hb=>?_⟩
    have wf:∀x:Int,I64 x→(Lit.int .i64 x).wf=true:=fun x hx=>by
      have:=hx.1;have:=hx.2
      rw[Lit.wf,Bool.and_eq_true,decide_eq_true_eq,decide_eq_true_eq]
      have e1:IntKind.i64.min = -9223372036854775808:=by decide
      have e2:IntKind.i64.max=9223372036854775807:=by decide
      rw[e1,e2]
      omega
    refine⟨.agg #[.int .i64 a,.int .i64 b],.string (keyBytes [.int .i64 a,.int .i64 b]),rfl,?_⟩
    unfold keyOf
    rw[hu]
    simp only[hkt,Value.formed,hu,hc,Bool.true_and]
    rw[if_pos (by rfl)]
    simp only[hn,Value.cells,Program.keyLits,hu,he,hc,hce]
    simp[wf a ha,wf b hb,List.range_succ]
  · cases hb
theorem MapGet.hit{k:TypeId}{els:List PV}{key v:PV}(K:Maps.Keyed P k) (ha:∀e,e∈els→∃q v,e=.tup [q,v]∧zeg P k q) (hk:zeg P k key) (hm:PV.tup [key,v]∈els):MapGet P k els key (some v):=⟨K,ha,hk,hm⟩
theorem MapGet.miss{k:TypeId}{els:List PV}{key:PV}(K:Maps.Keyed P k) (ha:∀e,e∈els→∃q v,e=.tup [q,v]∧zeg P k q) (hk:zeg P k key) (hm:∀v,PV.tup [key,v]∉els):MapGet P k els key none:=⟨K,ha,hk,hm⟩
def hasS (ks:List ByteArray) (s:ByteArray):Bool:=ks.any fun x=>decide (x=s)
theorem hasS_iff{ks:List ByteArray}{s:ByteArray}:hasS ks s=true↔s∈ks:=by
  unfold hasS
  rw[List.any_eq_true]
  constructor
  · rintro⟨x,hx,h⟩;rw[←of_decide_eq_true h];exact hx
  · intro h;exact⟨s,h,decide_eq_true rfl⟩
def putS (ks:List ByteArray) (s:ByteArray):List ByteArray:=if hasS ks s=true then ks else ks++[s]
theorem set_all{k:TypeId}(hk:P.underlying k=some .string) {ks:List ByteArray}(hs:∀s,s∈ks→s.size≤9223372036854775807):∀e,e∈ks.map setE→∃q v,e=.tup [q,v]∧zeg P k q:=fun e he=>by
  obtain⟨s,hm,rfl⟩:=List.mem_map.1 he
  exact⟨_,_,rfl,zdZ hk (hs s hm)⟩
theorem MapPut.set{k:TypeId}(hk:P.underlying k=some .string) {ks:List ByteArray}{s:ByteArray}(hs:∀s,s∈ks→s.size≤9223372036854775807) (h:s.size≤9223372036854775807):MapPut P k (ks.map setE) (encS s) (.atom (.bool true)) ((putS ks s).map setE):=by
  refine⟨Maps.string_keyed hk,set_all hk hs,zdZ hk h,?_⟩
  unfold putS
  by_cases hm:s∈ks
  · rw[if_pos (hasS_iff.2 hm)]
    obtain⟨j,hj,e⟩:=List.getElem_of_mem hm
    refine .inl ⟨j,.atom (.bool true),by simp[hj,e,setE,encS],?_⟩
    refine List.ext_getElem (by simp) fun i h1 h2=>?_
    rw[List.getElem_set]
    split
    · rename_i hji;subst hji;simp[setE,encS,e]
    · rfl
  · rw[if_neg (mt hasS_iff.1 hm),List.map_append]
    refine .inr ⟨fun u hu=>?_,rfl⟩
    obtain⟨x,hx,e⟩:=List.mem_map.1 hu
    simp only[setE,PV.tup.injEq,List.cons.injEq,PV.atom.injEq,encS,Value.string.injEq] at e
    exact hm (e.1▸hx)
theorem zfI{ks:List ByteArray}{s:ByteArray}(h:ks.Nodup):(putS ks s).Nodup:=by
  unfold putS
  split
  · exact h
  · rename_i hs
    rw[List.nodup_append]
    exact⟨h,by simp,fun a ha b hb=>by rw[List.mem_singleton] at hb;subst hb;exact fun e=>hs (hasS_iff.2 (e▸ha))⟩
theorem mem_putS{ks:List ByteArray}{s x:ByteArray}:x∈putS ks s↔x∈ks∨x=s:=by
  unfold putS
  split
  · rename_i hs;exact⟨.inl,fun h=>h.elim id (fun e=>e▸hasS_iff.1 hs)⟩
  · rw[List.mem_append,List.mem_singleton]
theorem zh4 (ks:List ByteArray) (s:ByteArray):putS ks s≠[]:=by
  unfold putS
  split
  · rename_i hs;exact List.ne_nil_of_mem (hasS_iff.1 hs)
  · simp
theorem vProc.of{S:St}{f:FuncId}{vals args:List PV}{hp:List AO}{r:PV}{hp':List (Option AO)}{os:List AO}{K:PV→Eff→Prop}(L:List Nat) (hpr:Proc P f args hp r hp' os) (hn:L.Nodup) (hlen:L.length=hp.length)
    (hv:vals=args.map (PV.ren (rmap L S.nx))) (ho:∀i o,hp[i]? = some o→S.obj (rmap L S.nx i)=some (o.ren (rmap L S.nx))) (hk:K (r.ren (pmap L S.nx)) ⟨os.map (AO.ren (pmap L S.nx)),zbl L hp',zaW (pmap L S.nx) L hp',[]⟩):vProc P S f vals K:=by
  have h0:∀l:List PV,l.map (sealed S.obj (fun i=>L.contains i) 0)=l:=fun l=>by
    rw[show sealed S.obj (fun i=>L.contains i) 0=id from funext fun p=>rfl];simp
  refine⟨L,0,args,hp,r,hp',os,hpr,⟨hn,hlen,by rw[h0];exact hv,fun i o hi=>⟨_,ho i o hi,rfl,?_⟩⟩,.inl rfl,hk⟩
  rw[h0];rfl
end
theorem ResP.of{S:St}{r:PV}{hp:List AO}{hp':List (Option AO)}{os:List AO}{ts:List Nat}(L:List Nat) (hr:sealed S.obj (fun i=>L.contains i) 4 (retV S ts)=r.ren (rmap L S.nx)) (hl:L.length=hp'.length+os.length) (hn:L.Nodup) (hg:S.gh=zbw 0 hp) (hlen:hp'.length=hp.length) (hid:∀i,i<hp.length→L[i]? = some i)
    (h:∀i o,(hp'++os.map some)[i]? = some (some o)→∃o',S.obj (rmap L S.nx i)=some o'∧o'.sz=o.sz∧o'.els.map (sealed S.obj (fun i=>L.contains i) 4)=o.els.map (PV.ren (rmap L S.nx))):ResP S ts r hp hp' os:=by
  refine⟨L,4,hr,fun p hp=>by simp at hp,fun p hpm o ho=>?_,hl.symm,hn,by rw[hg],fun i h1 h2=>?_⟩
  · obtain⟨i,h1,h2⟩:=ze5 hpm
    have e:p.1=i:=by omega
    rw[e]
    have hi:=(List.getElem?_eq_some_iff.1 h1).1
    rw[ho] at h1
    exact⟨by rw[hl];simpa using hi,h i o h1⟩
  · have hi:i<hp.length:=by rw[show(St.mk [] (za9 0 (hp'++os.map some)) (hp'.length+os.length) (zbw 0 hp)).gh=zbw 0 hp from rfl,zbJ] at h1;exact h1
    have e0:∀(l:List PV) (hil:i<l.length),l=zbw 0 hp→l[i]=.mark i:=fun l hil e=>by
      subst e
      have:=zdV hp 0 i
      rw[List.getElem?_eq_getElem hil,List.getElem?_eq_getElem hi] at this
      simpa using this
    rw[e0 _ h2 hg,e0 _ h1 rfl]
    have hL:=hid i hi
    have hc:L.contains i=true:=List.contains_iff_mem.2 (List.mem_of_getElem? hL)
    simp only[sealed,hc,if_true,PV.ren,rmap,hL,Option.getD_some]
open Go.Sort in
theorem znO{w:World}{n b:Nat}{A:Array Value}{e:TypeId}{z:Nat×Nat}{os:Array Obj}{d:Array (List UInt8)}{off:Nat}(h:w.heap[b]? = some (.cells A e z)):
    (∀c,c<w.heap.size→c≠b→(grow (putRow encStr (Go.Sort.ahead w n) b off d) os).heap[c]? = w.heap[c]?)∧(grow (putRow encStr (Go.Sort.ahead w n) b off d) os).heap[b]? = some (.cells (putCells encStr off d A) e z):=by
  have hb:=zdJ h
  constructor
  · intro c hc hcb
    simp only[grow,putRow,mapBlock,Go.Sort.ahead,Array.getElem?_append,Array.size_modify,hc,if_true,Array.getElem?_modify,Ne.symm hcb,if_false]
  · simp only[grow,putRow,mapBlock,Go.Sort.ahead,Array.getElem?_append,Array.size_modify,hb,if_true,Array.getElem?_modify,h,Option.map_some,onCells]
def zb2 (l:List ByteArray):List ByteArray:=((l.map fun s=>s.data.toList).mergeSort fun x y=>decide (x≤y)).map fun l=>⟨l.toArray⟩
theorem zcu (l:List ByteArray):(zb2 l).length=l.length:=by simp[zb2]
open Go.Sort in
theorem zqv{P:Program}{f:FuncId}(hen:zg2 P f)
    (hc:∀(blk off cap:Nat) (ss:List (List UInt8)) (w:World),Holds encStr w blk off ss.toArray→blk<w.heap.size→ss.length<4611686018427387904→Calls P f #[.slice (some ⟨blk,off,none⟩) ss.length cap] w fun e w'=>e=.returned (.tuple #[])∧∃n os,w'=grow (putRow encStr (Go.Sort.ahead w n) blk off (ss.mergeSort fun x y=>decide (x≤y)).toArray) os)
    (hc0:∀(p:Option Addr) (cap:Nat) (w:World),Calls P f #[.slice p 0 cap] w fun e w'=>e=.returned (.tuple #[])∧w'=w) (ks:List ByteArray) (hl:ks.length<4611686018427387904):
    Proc P f [.ob 0 1 0 ks.length] [⟨1,ks.map encS⟩] (.tup []) [some ⟨1,(zb2 ks).map encS⟩] []:=by
  refine⟨hen,rfl,fun μ F w vs hH hvs hargs=>?_⟩
  obtain⟨v,rfl⟩:∃v,vs = #[v]:=by
    have:vs.size=1:=hvs
    exact⟨vs[0],Array.ext (by simp[this]) fun i h1 h2=>by
      have:i=0:=by omega
      subst this;rfl⟩
  have ha:=hargs 0 (by simp)
  simp only[List.getElem_cons_zero] at ha
  have hv0:(#[v]:Array Value).getD 0 undef=v:=rfl
  rw[hv0] at ha
  have hobj:∀i o,([(⟨1,ks.map encS⟩:AO)]:List AO)[i]? = some o→i=0∧o=⟨1,ks.map encS⟩:=fun i o h=>by
    match i,h with
    | 0,h=>cases h;exact⟨rfl,rfl⟩
    | i+1,h=>simp at h
  generalize hlen:ks.length=len at ha
  cases ha with
  | obn _ _ hD hb=>
    have hks:ks=[]:=List.eq_nil_of_length_eq_zero hlen
    subst hks
    refine(hc0 none 0 w).mono fun e w' ⟨he,hw⟩=>?_
    subst he;subst hw
    refine⟨_,rfl,μ,F,.tup _ _ rfl (fun i hi=>by simp at hi),?_,fun i _=>rfl⟩
    have e:(fun(i:Nat)=>(([some (⟨1,(zb2 []).map encS⟩:AO)]++([]:List AO).map some)[i]?).join)=fun(i:Nat)=>([(⟨1,([]:List ByteArray).map encS⟩:AO)]:List AO)[i]? := by
      rw[show zb2 []=[] from List.eq_nil_of_length_eq_zero (by rw[zcu];rfl)]
      funext i
      match i with
      | 0=>rfl
      | i+1=>simp
    rw[e];exact hH
  | ob _ _ _ _ cap b hD hb hkc h1 h2 h3=>
    obtain⟨A,et,g1,g2,g3,g4⟩:=hH.cellsOk (i:=0) (o:=⟨1,ks.map encS⟩) rfl hb hkc
    have hA:ks.length≤A.size:=by simpa using g2
    have hcell:∀j (h:j<ks.length),A.getD j undef=.string ks[j]:=fun j h=>by
      have:=g4 j (by simpa using h) 0 (by simp[encS,PV.cells])
      simp only[Nat.mul_one,Nat.add_zero] at this
      have e:((ks.map encS)[j]'(by simpa using h)).cells[0]'(by simp[encS,PV.cells])=.atom (.string ks[j]):=by simp[encS,PV.cells]
      rw[e] at this
      exact zcV this
    have hH0:Holds encStr w b (0 * 1) (ks.map fun s=>s.data.toList).toArray:=fun j hj=>by
      have hj':j<ks.length:=by simpa using hj
      have hjA:j<A.size:=by omega
      constructor
      · simp only[World.cell?,g1,Nat.zero_mul,Nat.zero_add]
        rw[zgQ hjA,hcell j hj']
        simp[encStr,hj']
      · simp[World.frozen?,g1]
    have hcall:=hc b (0 * 1) cap (ks.map fun s=>s.data.toList) w hH0 (zdJ g1) (by simpa using hl)
    rw[List.length_map,hlen] at hcall
    refine hcall.mono fun e w' ⟨he,n,os,hw⟩=>?_
    subst he
    obtain⟨k1,k2⟩:=znO (n:=n) (os:=os) (d:=((ks.map fun s=>s.data.toList).mergeSort fun x y=>decide (x≤y)).toArray) (off:=0 * 1) g1
    rw[←hw] at k1 k2
    have hpc:(putCells encStr (0 * 1) ((ks.map fun s=>s.data.toList).mergeSort fun x y=>decide (x≤y)).toArray A).size=A.size:=by simp[putCells]
    have hown:=hH.own 0 _ b rfl hb
    have hsz:w.heap.size≤w'.heap.size:=by rw[hw];simp[grow,putRow,mapBlock,Go.Sort.ahead]
    have hst:Stay F w w':=Stay.of_block b hown.2 (by simp only[zbS,g1,k2,hpc];exact Nat.le_refl _) (Kind.cells' (.mk' g1) (.mk' k2)) k1
    have hext:Ext ⟨w,fun b=>∃i,i<([(⟨1,ks.map encS⟩:AO)]:List AO).length∧μ i=some b⟩ w':=by
      refine⟨by rw[hw];rfl,by rw[hw];rfl,by rw[hw];rfl,hsz,fun k hk hM=>k1 k hk (fun e=>hM ⟨0,by simp,by rw[e];exact hb⟩),fun c=>?_,hst.size,by rw[hw];exact Nat.le_trans (Nat.le_add_right _ _) (Nat.le_refl _)⟩
      by_cases hcb:c=b
      · subst hcb;exact Kind.cells' (.mk' g1) (.mk' k2)
      · exact hst.kind c
    refine⟨_,rfl,μ,F,.tup _ _ rfl (fun i hi=>by simp at hi),?_,fun i _=>rfl⟩
    have hset:=HeapSim.set hH 0 ⟨1,ks.map encS⟩ b rfl hb ⟨1,(zb2 ks).map encS⟩ hst hext hsz (.inl ⟨_,et,k2,by rw[hpc];simpa[zcu] using hA,fun k hk=>by simp[encS,PV.cells],fun k hk c hc=>by
      have hk':k<ks.length:=by simpa[zcu] using hk
      have hc0:c=0:=by
        have:c<((zb2 ks).map encS)[k].cells.length:=hc
        simp[encS,PV.cells] at this;exact this
      subst hc0
      have e1:(((zb2 ks).map encS)[k]'hk).cells[0]'hc=encS ((zb2 ks)[k]'(by rw[zcu];exact hk')):=by simp[encS,PV.cells]
      rw[show(AO.mk 1 ((zb2 ks).map encS)).els[k].cells[0]=_ from e1]
      have hkA:k<A.size:=by omega
      have e2:(putCells encStr (0 * 1) ((ks.map fun s=>s.data.toList).mergeSort fun x y=>decide (x≤y)).toArray A).getD (k * 1+0) undef=.string ((zb2 ks)[k]'(by rw[zcu];exact hk')):=by
        have hks:k<((ks.map fun s=>s.data.toList).mergeSort fun x y=>decide (x≤y)).length:=by simpa using hk'
        simp only[Nat.mul_one,Nat.add_zero]
        unfold Array.getD
        rw[dif_pos (by rw[hpc];exact hkA)]
        simp only[putCells,Array.getInternal_eq_getElem,Array.getElem_mapIdx,Nat.zero_mul,Nat.zero_le,true_and,Nat.zero_add]
        rw[if_pos (by simpa using hk')]
        simp only[zb2,List.getElem_map,Nat.sub_zero]
        rw[getElem!_pos _ k (by simpa using hk')]
        simp[encStr]
      rw[e2]
      exact .atom _⟩) k1
    have e:(fun(i:Nat)=>(([some (⟨1,(zb2 ks).map encS⟩:AO)]++([]:List AO).map some)[i]?).join)=upd (fun(i:Nat)=>([(⟨1,ks.map encS⟩:AO)]:List AO)[i]?) 0 (some ⟨1,(zb2 ks).map encS⟩):=by
      funext i
      unfold upd
      match i with
      | 0=>rfl
      | i+1=>simp
    rw[e];exact hset
end Go.Proofs.Ytehoglapajkabaa
