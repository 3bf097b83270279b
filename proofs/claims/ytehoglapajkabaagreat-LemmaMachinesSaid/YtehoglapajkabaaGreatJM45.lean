/-
  Plain: what Apply answers at the machine of a lexicon.
-/
import Derived.Test.YtehoglapajkabaaGreatJM43
import Derived.Test.YtehoglapajkabaaGreatJM0
import Derived.Test.YtehoglapajkabaaGreatJA16
import Derived.Test.YtehoglapajkabaaGreatJM8
import Derived.Test.YtehoglapajkabaaGreatJM38
set_option linter.all false
namespace Go.Proofs.YtehoglapajkabaaGreat
open Go Go.RowKit
theorem zeR{s:ByteArray}{a b:Int}(h:letS s a b=true):lowW (bl s):=by
  unfold letS at h
  rw[Bool.and_eq_true,Bool.and_eq_true] at h
  exact(lowS_L s).1 h.1.1
theorem zlY{w:ByteArray}(hw:w.size≤4096):zbK w=true↔lowW (bl w)∧1≤w.size:=by
  unfold zbK letS
  rw[Bool.and_eq_true,Bool.and_eq_true,lowS_L,decide_eq_true_eq,decide_eq_true_eq]
  constructor
  · rintro⟨⟨h1,h2⟩,_⟩;exact⟨h1,by omega⟩
  · rintro⟨h1,h2⟩;exact⟨⟨h1,by omega⟩,by omega⟩
theorem zjQ{r:RuleD}(h:zde r=true):lowW (bl r.suf)∧lowW (bl r.put)∧lowW (bl r.cls):=by
  unfold zde at h
  simp only[Bool.and_eq_true] at h
  exact⟨zeR h.1.1.1.1,zeR h.1.1.1.2,zeR h.1.1.2⟩
theorem zjR{f:FormD}(h:zdu f=true):lowW (bl f.word)∧lowW (bl f.lem)∧lowW (bl f.cls)∧1≤f.word.size:=by
  unfold zdu at h
  simp only[Bool.and_eq_true] at h
  have:=(letS_iff.1 h.1.1).2.1
  exact⟨zeR h.1.1,zeR h.1.2,zeR h.2,by omega⟩
theorem size_0{s:ByteArray}(h:s.size=0):s=⟨#[]⟩:=zdE (List.length_eq_zero_iff.1 h)
theorem zgA {r:RuleD}{w s:ByteArray}(hr:zde r=true) (hw:1≤w.size):zdi r w=some s↔∃p:List UInt8,bl w=p++bl r.suf∧(zcP r).toNat≤p.length∧s=ofl p++r.put:=by
  have hl:=(zd9 hr ⟨2,[]⟩).2.2.2.2.2.2.1
  unfold zdi
  simp only[]
  constructor
  · intro h
    split at h
    · cases h
    · rename_i hn
      cases h
      simp only[not_or,not_and] at hn
      obtain⟨h1,h2,h3,h4⟩:=hn
      have h3:=Classical.not_not.1 h3
      obtain⟨n,hn⟩:∃n,w.size - r.suf.size=n:=⟨_,rfl⟩
      have hnn:((w.size:Int) - r.suf.size).toNat=n:=by omega
      rw[hnn] at h3 ⊢
      have e:(bl w).drop n=bl r.suf:=by rw[←zg2,h3]
      refine⟨(bl w).take n,by rw[←e,List.take_append_drop],?_,?_⟩
      · rw[List.length_take,zeE]
        unfold zcP
        split
        · rename_i hc
          have:n≠0:=fun h0=>by
            rcases hc with hc|hc
            · exact h4 (by omega) hc
            · rw[hc] at hn
              have:(⟨#[]⟩:ByteArray).size=0:=rfl
              omega
          omega
        · omega
      · congr 1
        refine zdE ?_
        rw[ze0,List.drop_zero,Nat.sub_zero,zrx]
  · rintro⟨p,h1,h2,rfl⟩
    have hsz:w.size=p.length+r.suf.size:=by rw[←zeE,h1,List.length_append,zeE]
    have hnn:((w.size:Int) - r.suf.size).toNat=p.length:=by omega
    have hlen:r.least≤p.length:=by
      unfold zcP at h2
      split at h2<;>omega
    rw[if_neg,hnn]
    · congr 2
      refine zdE ?_
      rw[ze0,List.drop_zero,Nat.sub_zero,h1,List.take_left',zrx];rfl
    · rw[hnn]
      simp only[not_or,not_and]
      refine⟨by omega,by omega,fun hne=>hne (zdE ?_),fun h0 hp=>?_⟩
      · rw[zg2,h1,List.drop_left'];rfl
      · have:(1:Int)≤zcP r:=by
          unfold zcP
          rw[if_pos (.inl hp)];omega
        omega
theorem zi8 (f:FormD):resF 49 f=mkB 49++zct f:=by unfold resF zct;simp only[zfE]
theorem zi7 (w:ByteArray) (r:RuleD) (p:List UInt8):resF 50 ⟨w,ofl p++r.put,r.cls⟩=mkB 50++(ofl p++rulT r):=by unfold resF rulT;simp only[zfE]
theorem zmh{a b:List UInt8}(h:lowW (a++b)):lowW a:=fun c hc=>h c (List.mem_append.2 (.inl hc))
theorem zmi{a b:List UInt8}(h:lowW a) (k:lowW b):lowW (a++b):=fun c hc=>(List.mem_append.1 hc).elim (h c) (k c)
theorem zqy{x:LexD}{w y:ByteArray}(hv:za7 x=0) (h:ResL x w y):lowW (bl w)∧1≤w.size:=by
  obtain⟨hf,hr,_,_⟩:=zcC hv
  rcases h with ⟨f,hfm,rfl,_⟩|⟨r,hrm,p,h1,h2,h3,_⟩|⟨h1,h2,_⟩
  · have:=zjR (hf f hfm);exact⟨this.1,this.2.2.2⟩
  · refine⟨by rw[h1];exact zmi h2 (zjQ (hr r hrm)).1,?_⟩
    have hsz:w.size=p.length+r.suf.size:=by rw[←zeE,h1,List.length_append,zeE]
    have hl:=(zd9 (hr r hrm) ⟨2,[]⟩).2.2.2.2.1
    unfold zcP at h3 hl
    by_cases hs:r.suf.size=0
    · rw[if_pos (.inr (size_0 hs))] at h3;omega
    · omega
  · exact⟨h1,h2⟩
theorem mem_resl{x:LexD}{w y:ByteArray}(hv:za7 x=0) (hw:lowW (bl w)) (hw1:1≤w.size):y∈resl x w↔ResL x w y:=by
  obtain⟨hf,hr,_,_⟩:=zcC hv
  unfold resl ResL
  rw[List.mem_append,List.mem_append,or_assoc,List.mem_singleton,List.mem_map,List.mem_map]
  refine or_congr ⟨?_,?_⟩ (or_congr ⟨?_,?_⟩ ⟨?_,?_⟩)
  · rintro⟨f,h,rfl⟩
    obtain⟨h1,h2⟩:=mem_found.1 h
    exact⟨f,h1,h2,zi8 f⟩
  · rintro⟨f,h1,h2,rfl⟩
    exact⟨f,mem_found.2 ⟨h1,h2⟩,zi8 f⟩
  · rintro⟨f,h,rfl⟩
    obtain⟨r,h1,s,h2,rfl⟩:=mem_ruled.1 h
    obtain⟨p,g1,g2,rfl⟩:=(zgA (hr r h1) hw1).1 h2
    exact⟨r,h1,p,g1,zmh (g1▸hw),g2,zi7 w r p⟩
  · rintro⟨r,h1,p,g1,_,g2,rfl⟩
    exact⟨_,mem_ruled.2 ⟨r,h1,_,(zgA (hr r h1) hw1).2 ⟨p,g1,g2,rfl⟩,rfl⟩,zi7 w r p⟩
  · rintro rfl;exact⟨hw,hw1,zfE _ _ _⟩
  · rintro⟨_,_,rfl⟩;exact(zfE _ _ _).symm
theorem zhK{f:FormD}:∀ {l:List FormD},l.Nodup→f∉l→(insF f l).Nodup
  | [],_,_=>by simp[insF]
  | g :: l,h,hf=>by
    rw[List.nodup_cons] at h
    rw[List.mem_cons,not_or] at hf
    unfold insF
    split
    · exact List.nodup_cons.2 ⟨fun hm=>(List.mem_cons.1 hm).elim hf.1 hf.2,List.nodup_cons.2 h⟩
    · exact List.nodup_cons.2 ⟨fun hm=>(mem_insF.1 hm).elim (fun e=>hf.1 e.symm) h.1,zhK h.2 hf.2⟩
theorem znF{l:List FormD}{f:FormD}(h:l.Nodup):(putF l f).Nodup:=by
  unfold putF;split
  · exact h
  · exact zhK h (by assumption)
theorem zc3:∀(m l:List FormD),l.Nodup→(m.foldl putF l).Nodup
  | [],l,h=>h
  | f :: m,l,h=>zc3 m _ (znF h)
theorem ziW:∀ {a b c d:List UInt8},lowW a→lowW b→a++47 :: c=b++47 :: d→a=b∧c=d
  | [],[],c,d,_,_,h=>by simpa using h
  | [],e :: b,c,d,_,hb,h=>by
    rw[List.nil_append,List.cons_append,List.cons.injEq] at h
    have:=hb e (List.mem_cons_self ..)
    rw[←h.1] at this;exact absurd this (by decide)
  | e :: a,[],c,d,ha,_,h=>by
    rw[List.nil_append,List.cons_append,List.cons.injEq] at h
    have:=ha e (List.mem_cons_self ..)
    rw[h.1] at this;exact absurd this (by decide)
  | e :: a,g :: b,c,d,ha,hb,h=>by
    rw[List.cons_append,List.cons_append,List.cons.injEq] at h
    obtain⟨h1,h2⟩:=ziW (fun c hc=>ha c (List.mem_cons_of_mem _ hc)) (fun c hc=>hb c (List.mem_cons_of_mem _ hc)) h.2
    exact⟨by rw[h.1,h1],h2⟩
theorem zls (c:UInt8) (f:FormD):bl (resF c f)=c :: (bl f.lem++47 :: bl f.cls):=by
  unfold resF;simp only[zf5,List.append_assoc];rfl
theorem zlV{c:UInt8}{f g:FormD}(hf:lowW (bl f.lem)) (hg:lowW (bl g.lem)) (hw:f.word=g.word) (h:resF c f=resF c g):f=g:=by
  have h:=congrArg bl h
  rw[zls,zls,List.cons.injEq] at h
  obtain⟨h1,h2⟩:=ziW hf hg h.2
  cases f;cases g
  simp only at h1 h2 hw
  rw[hw,zdE h1,zdE h2]
theorem zgI{α β:Type}{g:α→β}:∀ {l:List α},l.Nodup→(∀a,a∈l→∀b,b∈l→g a=g b→a=b)→(l.map g).Nodup
  | [],_,_=>List.nodup_nil
  | a :: l,h,hi=>by
    rw[List.nodup_cons] at h
    rw[List.map_cons,List.nodup_cons]
    refine⟨fun hm=>?_,zgI h.2 fun x hx y hy=>hi x (List.mem_cons_of_mem _ hx) y (List.mem_cons_of_mem _ hy)⟩
    obtain⟨b,hb,e⟩:=List.mem_map.1 hm
    exact h.1 (hi a (List.mem_cons_self ..) b (List.mem_cons_of_mem _ hb) e.symm▸hb)
theorem zjO{x:LexD}{w:ByteArray}{f:FormD}(hv:za7 x=0) (h:f∈zcJ x w):lowW (bl f.lem)∧f.word=w:=by
  obtain⟨h1,h2⟩:=mem_found.1 h
  exact⟨(zjR ((zcC hv).1 f h1)).2.1,h2⟩
theorem zi5{x:LexD}{w:ByteArray}{f:FormD}(hv:za7 x=0) (hw:lowW (bl w)) (hw1:1≤w.size) (h:f∈zcI x w):lowW (bl f.lem)∧f.word=w:=by
  obtain⟨r,h1,s,h2,rfl⟩:=mem_ruled.1 h
  have hr:=(zcC hv).2.1 r h1
  obtain⟨p,g1,g2,rfl⟩:=(zgA hr hw1).1 h2
  refine⟨?_,rfl⟩
  show lowW (bl (ofl p++r.put))
  rw[zf5]
  exact zmi (zmh (g1▸hw)) (zjQ hr).2.1
theorem znB{x:LexD}{w:ByteArray}(hv:za7 x=0) (hw:lowW (bl w)) (hw1:1≤w.size):(resl x w).Nodup:=by
  have h1:((zcJ x w).map (resF 49)).Nodup:=zgI (zc3 _ _ List.nodup_nil) fun a ha b hb e=>by
    obtain⟨a1,a2⟩:=zjO hv ha
    obtain⟨b1,b2⟩:=zjO hv hb
    exact zlV a1 b1 (a2.trans b2.symm) e
  have h2:((zcI x w).map (resF 50)).Nodup:=zgI (zc3 _ _ List.nodup_nil) fun a ha b hb e=>by
    obtain⟨a1,a2⟩:=zi5 hv hw hw1 ha
    obtain⟨b1,b2⟩:=zi5 hv hw hw1 hb
    exact zlV a1 b1 (a2.trans b2.symm) e
  have hd:∀(c:UInt8) (l:List FormD) y,y∈l.map (resF c)→(bl y).head? = some c:=fun c l y hy=>by
    obtain⟨f,_,rfl⟩:=List.mem_map.1 hy
    rw[zls];rfl
  have h3:(bl (mkB 51++w++slB)).head? = some 51:=by simp only[zf5,List.append_assoc];rfl
  unfold resl
  rw[List.nodup_append,List.nodup_append]
  refine⟨⟨h1,h2,fun a ha b hb e=>?_⟩,by simp,fun a ha b hb e=>?_⟩
  · have:=hd _ _ _ ha
    rw[e,hd _ _ _ hb] at this;exact absurd this (by decide)
  · rw[List.mem_singleton.1 hb] at e
    rw[←e] at h3
    rcases List.mem_append.1 ha with ha|ha
    · rw[hd _ _ _ ha] at h3;exact absurd h3 (by decide)
    · rw[hd _ _ _ ha] at h3;exact absurd h3 (by decide)
theorem znK{α:Type}{a b:List α}(ha:a.Nodup) (hb:b.Nodup) (h:∀x,x∈a↔x∈b):a.Perm b:=(List.perm_ext_iff_of_nodup ha hb).2 h
theorem zhF{x:LexD}{w:ByteArray}(hv:za7 x=0) (hw:w.size≤256):zeH (zcs x) w=if 64<(resR x w).length then ([],4) else (resR x w,0):=by
  have hval:=zfQ hv
  have h0:¬zb8 (zcs x)≠0:=fun h=>h (validM_0.2 hval)
  obtain⟨hn,hm⟩:=zdU hval.acyc (InM.of hval.arcs) w 0 0
  have hm2:∀y,y∈outL (zcs x) w 0 0↔ResL x w y:=fun y=>by rw[hm,out_iff hv]
  have hst:(zcs x).start=0:=rfl
  have hperm:∃l,(outL (zcs x) w 0 0).Perm l∧resR x w=zcu l:=by
    by_cases hp:zbK w=true
    · obtain⟨g1,g2⟩:=(zlY (by omega)).1 hp
      exact⟨resl x w,znK hn (znB hv g1 g2) fun y=>by rw[hm2,mem_resl hv g1 g2],if_pos hp⟩
    · refine⟨[],?_,(if_neg hp).trans (by simp[zcu])⟩
      have:outL (zcs x) w 0 0=[]:=List.eq_nil_iff_forall_not_mem.2 fun y hy=>hp ((zlY (by omega)).2 (zqy hv ((hm2 y).1 hy)))
      rw[this]
  obtain⟨l,hl,hr⟩:=hperm
  have hlen:(resR x w).length=(outL (zcs x) w 0 0).length:=by rw[hr,zcO,hl.length_eq]
  have hso:zcu (outL (zcs x) w 0 0)=resR x w:=by rw[hr,zhp hl]
  by_cases h64:64<(resR x w).length
  · rw[if_pos h64]
    exact zg4 h0 (by omega) (by rw[hst];exact decide_eq_true (by omega))
  · rw[if_neg h64,zj8 h0 (by omega) (by rw[hst];exact decide_eq_false (by omega)),hst,hso]
def bsL (l:List UInt8):ByteArray:=⟨l.toArray⟩
def xL:LexD:=⟨[⟨bsL [111,100,101,115],bsL [111,100,101],bsL [110,111,117,110]⟩],[⟨bsL [115],bsL [],bsL [110,111,117,110],3⟩,⟨bsL [115],bsL [],bsL [118,101,114,98],3⟩],[⟨bsL [110,111,117,110],bsL [],bsL [118,101,114,98]⟩]⟩
def w1L:ByteArray:=bsL [111,100,101,115]
def outsL:List ByteArray:=[bsL [49,111,100,101,47,110,111,117,110],bsL [50,111,100,101,47,110,111,117,110],bsL [50,111,100,101,47,118,101,114,98],bsL [51,111,100,101,115,47]]
set_option maxRecDepth 100000
def wK:ByteArray:=bsL [107,105,110,103,115]
def wH:ByteArray:=bsL [104,105,115]
def fO:FormD:=⟨bsL [111,100,101,115],bsL [111,100,101],bsL [110,111,117,110]⟩
def fK:FormD:=⟨wK,bsL [107,105,110,103],bsL [110,111,117,110]⟩
def fV:FormD:=⟨wK,bsL [107,105,110,103],bsL [118,101,114,98]⟩
def fH:FormD:=⟨wH,wH,.empty⟩
theorem zgm:HeldX xL:=by
  refine⟨by decide,by decide,by decide,fun f hf=>?_,fun r hr=>?_,fun p hp=>?_⟩
  · obtain rfl:f=fO:=by simpa[xL,fO] using hf
    exact⟨by decide,by decide,by decide⟩
  · have:r=⟨bsL [115],bsL [],bsL [110,111,117,110],3⟩∨r=⟨bsL [115],bsL [],bsL [118,101,114,98],3⟩:=by simpa[xL] using hr
    rcases this with rfl|rfl<;>exact⟨by decide,by decide,by decide,⟨by decide,by decide⟩⟩
  · obtain rfl:p=⟨bsL [110,111,117,110],bsL [],bsL [118,101,114,98]⟩:=by simpa[xL] using hp
    exact⟨by decide,by decide,by decide⟩
theorem all_O:allE xL w1L=[fO]:=by kernel_rfl
theorem all_K:allE xL wK=[fK,fV]:=by kernel_rfl
theorem all_H:allE xL wH=[fH]:=by kernel_rfl
theorem err_O:errX xL [w1L]=0:=by kernel_rfl
theorem err_K:errX xL [wK]=0:=by kernel_rfl
theorem err_H:errX xL [wH]=0:=by kernel_rfl
theorem cho_L:zcF xL [w1L,wK] 1=(fV,0):=by kernel_rfl
theorem opn_L:zqG xL [wK,w1L]=[0]:=by kernel_rfl
theorem ope_L:errX xL [wK,w1L]=0:=by kernel_rfl
theorem txt_L:zf8 xL [wK,w1L]=([],14):=by kernel_rfl
set_option maxRecDepth 20000
set_option maxHeartbeats 1000000
theorem leqM25{p:Prop}(h:p:=by(refine⟨4,?_,?_,rfl,by simp,rfl,fun _ h _=>absurd h (Nat.not_lt_zero _)⟩<;>(simp only[List.forall_mem_cons];repeat' (first|refine And.intro ?_ ?_|(intro p hp;exact absurd hp List.not_mem_nil)|rfl|exact sp (zaF _)|exact sp (zaH _)|exact sp (zaY _)|exact(zau _ _ _ (zah _)).trans (zbE _ _).symm|exact(zau _ _ _ (zag _)).trans (zbD _ _).symm|exact sp (by assumption)|(intro o ho;cases ho;refine⟨by decide,?_⟩;first|(refine LeqS.row rfl ?_ ?_;(next=>(first|rfl|(simp only[List.map_append,List.map_cons,List.map_nil,List.append_nil,List.nil_append,List.append_assoc,List.cons_append,encI,encS,ints,strs];done)|(simp[encI,encS,ints,strs,encF,encR,encA];done)));(next=>(first|rfl|exact zao _|exact zaq _|exact zas _|exact zar _|exact zaz _|exact zaK _|exact zaL _|exact zap _|(simp[zap,zao,zaq,zas,zar,zaE,PV.pure,zah,zag,zaF,zaz,zaK,zaL,zaH,zap,encF,encS,zaY];done)));done)|refine⟨_,rfl,rfl,?_⟩)|(simp[St.born,St.known,retV,St.get,St.obj,lk,sealed,PV.ren,renL,rmap,AO.ren,ints,strs,encI,encS,zan,zam,zal,zak,zaD,zaC,zaB,zaA,zaW,zaV,zaU,zaT,zbB,zaa,zab,zac,zad,zai,zaj,zat,zaJ,zav,zaQ,zaw,zaR,zaG,encF,encR,encA,zbu]<;>omega))));first|done|fail):p:=h
theorem ze2 (a b:List ByteArray) (ha:a.length≤9223372036854775807) (hb:b.length≤9223372036854775807):Pure Tryz.prog 25 [strs a,strs b] (.atom (.bool (decide (a=b)))) []:=by
  refine Pure.intro (ts:=[4]) Tryz.func25 (by kernel_rfl) rfl rfl rfl (Nat.le_of_ble_eq_true rfl) ?_ ?_
  · simp[zah,zag,encI,encS,PV.pure,zaE]
  refine sY [0,1] (fun P S K=>K ⟨[(0,S.get 0),(1,S.get 1)],S.hp,S.nx,S.gh⟩) ?_
  all_goals
  refine Tri.seq ?_
  refine sY [0,1,10] (fun P S K=>XvLen P 37 (M S.hp S.nx) (S.get 0) (fun r1 _=>XvLen P 37 (M S.hp S.nx) (S.get 1) (fun r3 _=>XvBinOV P .neq 3 (.tmp 9) r1 r3 (fun r4 _=>K ⟨[(0,S.get 0),(1,S.get 1),(10,r4)],S.hp,S.nx,S.gh⟩)))) ?_
  all_goals
  refine Tri.cond rfl (fun h10=>?_) (fun h10=>?_)
  ·try (cases h10;done)
   all_goals (try simp only[CQ] at h10)
   all_goals
   refine sY [4] (fun P S K=>K ⟨[(4,(.atom (.bool false)))],S.hp,S.nx,S.gh⟩) ?_
   all_goals
   refine Tri.ret ?_
   show ResOk _ _ _ _
   exact ResOk.val (aB (by have:a≠b:=fun e=>h10 (by rw[e]);simp[this])) rfl
  try (cases h10;done)
  all_goals (try simp only[CQ] at h10)
  all_goals
  refine Tri.skip ?_
  refine Tri.seq ?_
  refine sY [0,1,5] (fun P S K=>K ⟨[(0,S.get 0),(1,S.get 1),(5,(.atom (.int .i64 0)))],S.hp,S.nx,S.gh⟩) ?_
  all_goals
  refine Tri.block ?_
  refine Tri.loop (α:=(k:Nat) ×' (k≤a.length∧∀j,j<k→ls a j=ls b j)) (fun z=>(fun(k:Nat)=>(⟨[(0,strs a),(1,strs b),(5,encI k)],[],0,[]⟩:St)) z.1) (fun z=>(fun(k:Nat)=>a.length - k) z.1) ⟨0,⟨by omega,by omega⟩⟩ [] ?_ ?_
  ·exact leqM25
  rintro⟨k,⟨hk,hkj⟩⟩
  refine Tri.seq ?_
  refine sY [0,1,5,14] (fun P S K=>XvLen P 37 (M S.hp S.nx) (S.get 0) (fun r2 _=>XvBinOV P .lss 3 (.tmp 13) (S.get 5) r2 (fun r3 _=>K ⟨[(0,S.get 0),(1,S.get 1),(5,S.get 5),(14,r3)],S.hp,S.nx,S.gh⟩))) ?_
  all_goals
  refine Tri.cond rfl (fun h14=>?_) (fun h14=>?_)
  ·try (cases h14;done)
   all_goals (try simp only[CQ] at h14)
   all_goals
   refine Tri.skip ?_
   refine Tri.seq ?_
   refine Tri.block ?_
   have hka:k<a.length:=by omega
   have hkb:k<b.length:=by omega
   refine sD 9 [0,1,5,25] (fun P GD S K=>XvIndexAddr P 37 (S.get 0) (S.get 5) (fun r2 ef2=>XvLoad P 9 (M S.hp S.nx) r2 (fun r3 ef3=>XvIndexAddr P 37 (S.get 1) (S.get 5) (fun r6 ef6=>XvLoad P 9 (M S.hp S.nx) r6 (fun r7 ef7=>XvBinOV P .neq 9 (.tmp 24) r3 r7 (fun r8 ef8=>(trOk S.nx GD [⟨S.nx,0,[],[],[]⟩,⟨S.nx,0,[],[],[]⟩,⟨S.nx,0,ef2.rd,[],[]⟩,⟨S.nx,0,ef3.rd,[],[]⟩,⟨S.nx,0,[],[],[]⟩,⟨S.nx,0,[],[],[]⟩,⟨S.nx,0,ef6.rd,[],[]⟩,⟨S.nx,0,ef7.rd,[],[]⟩,⟨S.nx,0,ef8.rd,[],[]⟩]=true∧K ⟨[(0,S.get 0),(1,S.get 1),(5,S.get 5),(25,r8)],S.hp,S.nx,S.gh⟩))))))) fun K hK=>?_
   repeat' (first|(refine hK _ ?_;clear hK K)|(refine(?_:trOk _ _ _=true);(try simp only[zbf hka,zbf hkb]);kernel_rfl)|refine And.intro ?_ ?_|exact cl|(refine st ?_;try simp only[zbf hka,zbf hkb])|fail)
   all_goals
   refine Tri.cond rfl (fun h25=>?_) (fun h25=>?_)
   ·try (cases h25;done)
    all_goals (try simp only[CQ] at h25)
    all_goals
    refine sY [4] (fun P S K=>K ⟨[(4,(.atom (.bool false)))],S.hp,S.nx,S.gh⟩) ?_
    all_goals
    refine Tri.ret ?_
    show ResOk _ _ _ _
    exact ResOk.val (aB (by have:a≠b:=fun e=>h25 (by rw[e]);simp[this])) rfl
   try (cases h25;done)
   all_goals (try simp only[CQ] at h25)
   all_goals
   refine Tri.skip ?_
   refine rY [0,1,5] (fun P S K=>XvBinOV P .add 3 (.const (.int .i64 1)) (S.get 5) (.atom (.int .i64 1)) (fun r1 _=>K ⟨[(0,S.get 0),(1,S.get 1),(5,r1)],S.hp,S.nx,S.gh⟩)) ?_
   all_goals try simp (disch:=omega) only[zaf,zae]
   all_goals
   refine⟨⟨k+1,by omega,fun j hj=>?_⟩,[],by dsimp only;omega,?_⟩
   · rcases Nat.lt_succ_iff_lt_or_eq.1 hj with hj|rfl
     · exact hkj j hj
     · simpa using h25
   · exact leqM25
  try (cases h14;done)
  all_goals (try simp only[CQ] at h14)
  all_goals
  refine Tri.exit ?_
  refine sY [4] (fun P S K=>K ⟨[(4,(.atom (.bool true)))],S.hp,S.nx,S.gh⟩) ?_
  all_goals
  refine Tri.ret ?_
  show ResOk _ _ _ _
  exact ResOk.val (aB (by have:a=b:=ls_ext (by omega) (fun i hi=>hkj i (by omega));simp[this])) rfl
theorem zcG (w:ByteArray) (l:List FormD) (hl:allE xL w=l) (he:errX xL [w]=0) (hw:w.size≤140737488355328):Pure Tryz.prog 15 [encX xL,encS w] (.tup [zaa l,encI 0]) []:=by
  have:=znY xL w zgm (up47 hw)
  rw[hl,he] at this
  exact this
theorem zrv:Pure Tryz.prog 32 [encX xL,strs [w1L,wK],encI 1] (.tup [encF fV,encI 0]) []:=by
  have:=zjA xL [w1L,wK] 1 zgm (by decide) (fun w hw=>by rcases List.mem_cons.1 hw with rfl|hw;decide;rcases List.mem_cons.1 hw with rfl|hw;decide;cases hw) ⟨by decide,by decide⟩
  rw[cho_L] at this
  exact this
theorem zoF:Pure Tryz.prog 26 [encX xL,strs [wK,w1L]] (.tup [zaa [],encI 14]) []:=by
  have:=znW xL [wK,w1L] zgm (by decide) (fun w hw=>by rcases List.mem_cons.1 hw with rfl|hw;decide;rcases List.mem_cons.1 hw with rfl|hw;decide;cases hw)
  rw[txt_L] at this
  exact this
theorem Tri.nilG{P:Program}{n:Nat}{c:Code}{S:St}{Q:Exit→St→Prop}(i m k sz osz:Nat) (els cs:List PV) (h:S.obj i=some ⟨osz,els⟩) (hm:els[m]? = some (.agg cs)) (hk:cs[k]? = some (.atom (.slice none 0 0)))
    (ht:Tri P n c ⟨S.env,(i,some ⟨osz,els.set m (.agg (cs.set k (.sl sz [])))⟩) :: S.hp,S.nx,S.gh⟩ Q):Tri P n c S Q:=fun w0 F0 D μ F G a w hS=>by
  refine ht w0 F0 D μ F G a w ⟨hS.defers,hS.size,hS.env,?_,hS.ids,hS.ghl,hS.gh⟩
  have h2 := hS.heap.swap i ⟨osz,els⟩ ⟨osz,els.set m (.agg (cs.set k (.sl sz [])))⟩ h (fun hst=>by
      cases hmu:μ i with
      | none=>rw[hmu] at hst;have:els=[]:=hst;subst this;simp at hm
      | some b=>
        rw[hmu] at hst
        obtain⟨A,e,g1,g2,g3,g4⟩:=ObjOk.cellsOf (hst:ObjOk _ _ _ _ b _) hm rfl
        have hme:∀(hm2:m<els.length),els[m]=.agg cs:=fun hm2=>by
          rw[List.getElem?_eq_getElem hm2] at hm;exact Option.some.inj hm
        show ObjOk D μ F w b ⟨osz,els.set m (.agg (cs.set k (.sl sz [])))⟩
        refine .inl ⟨A,e,g1,by simpa using g2,fun j hj2=>?_,fun j hj2 c hc=>?_⟩
        · have hj3:j<els.length:=by simpa using hj2
          simp only
          rw[List.getElem_set]
          split
          · rename_i hkm
            subst hkm
            have:=g3 m hj3
            rw[hme hj3] at this
            simpa[PV.cells] using this
          · exact g3 j hj3
        · have hj3:j<els.length:=by simpa using hj2
          simp only at hc ⊢
          by_cases hkm:m=j
          · subst hkm
            have e2:(els.set m (PV.agg (cs.set k (.sl sz []))))[m]'(by simpa using hj3)=.agg (cs.set k (.sl sz [])):=by simp
            have hc1:c<(cs.set k (.sl sz [])).length:=by
              rw[e2] at hc;exact hc
            have hc2:c<cs.length:=by simpa using hc1
            have hr:=g4 m hj3 c (by rw[hme hj3];exact hc2)
            have e3:(els[m].cells)[c]'(by rw[hme hj3];exact hc2)=cs[c]:=by
              rw[gl (congrArg PV.cells (hme hj3)) _];rfl
            simp only at hr
            rw[e3] at hr
            have e4:((els.set m (PV.agg (cs.set k (.sl sz []))))[m]'(by simpa using hj3)).cells[c]'hc=(cs.set k (.sl sz []))[c]'hc1:=by
              rw[gl (congrArg PV.cells e2) _];rfl
            rw[e4,List.getElem_set]
            split
            · rename_i hkc
              subst hkc
              have e1:cs[k]=.atom (.slice none 0 0):=by
                have:=List.getElem?_eq_getElem hc2
                rw[hk] at this;exact(Option.some.inj this).symm
              rw[e1] at hr
              rw[zfP hr]
              exact .sl0 sz none 0 (by unfold maxLen;omega) (fun _=>rfl) (fun x hx=>by cases hx)
            · exact hr
          · have e2:(els.set m (PV.agg (cs.set k (.sl sz []))))[j]'(by simpa using hj3)=els[j]:=by rw[List.getElem_set,if_neg hkm]
            rw[gl (congrArg PV.cells e2) hc]
            exact g4 j hj3 c _)
  have e:(St.mk S.env ((i,some ⟨osz,els.set m (.agg (cs.set k (.sl sz [])))⟩) :: S.hp) S.nx S.gh).obj=upd S.obj i (some ⟨osz,els.set m (.agg (cs.set k (.sl sz [])))⟩):=by
    funext j
    show(lk ((i,_) :: S.hp) j).join=_
    unfold upd
    by_cases hj:i=j
    · rw[lk,if_pos hj,if_pos hj.symm];rfl
    · rw[lk,if_neg hj,if_neg (Ne.symm hj)];rfl
  rw[e];exact h2
theorem zhG{p:Prop}(h:p:=by(refine⟨4,?_,?_,rfl,by simp,rfl,fun _ h _=>absurd h (Nat.not_lt_zero _)⟩<;>(simp only[List.forall_mem_cons];repeat' (first|refine And.intro ?_ ?_|(intro p hp;exact absurd hp List.not_mem_nil)|rfl|exact sp (zaF _)|exact sp (zaH _)|exact sp (zaY _)|exact(zau _ _ _ (zah _)).trans (zbE _ _).symm|exact(zau _ _ _ (zag _)).trans (zbD _ _).symm|exact sp (by assumption)|(intro o ho;cases ho;refine⟨by decide,?_⟩;first|(refine LeqS.row rfl ?_ ?_;(next=>(first|rfl|(simp only[List.map_append,List.map_cons,List.map_nil,List.append_nil,List.nil_append,List.append_assoc,List.cons_append,encI,encS,ints,strs];done)|(simp[encI,encS,ints,strs,encF,encR,encA,encX];done)));(next=>(first|rfl|exact zao _|exact zaq _|exact zas _|exact zar _|exact zaz _|exact zaK _|exact zaL _|exact zap _|exact zcq _|(simp[zap,zao,zaq,zas,zar,zaE,PV.pure,zah,zag,zaF,zaz,zaK,zaL,zaH,zap,encF,encS,zcq,zaY];done)));done)|refine⟨_,rfl,rfl,?_⟩)|(simp[St.born,St.known,retV,St.get,St.obj,lk,sealed,PV.ren,renL,rmap,AO.ren,ints,strs,encI,encS,zan,zam,zal,zak,zaD,zaC,zaB,zaA,zaW,zaV,zaU,zaT,zbB,zaa,zab,zac,zad,zai,zaj,zat,zaJ,zav,zaQ,zaw,zaR,zaG,encF,encR,encA,zbu,zfn,encX,zbQ,zbT,noX,encM,zaN,zbd,zaP,zaI]<;>omega))));first|done|fail):p:=h
theorem lsrM45{p:Prop}(h:p:=by(first|rfl|(simp[St.born,St.known,retV,St.get,St.obj,lk,sealed,PV.ren,renL,rmap,AO.ren,ints,strs,encI,encS,zan,zam,zal,zak,zaD,zaC,zaB,zaA,zaW,zaV,zaU,zaT,zbB,zaa,zab,zac,zad,zai,zaj,zat,zaJ,zav,zaQ,zaw,zaR,zaG,encF,encR,encA,zbu,zfn,encX,zbQ,zbT,noX,encM,zaN,zbd,zaP,zaI];done));first|done|fail):p:=h
theorem lpvM45{p:Prop}(h:p:=by(first|rfl|(simp[zah,zag,PV.pure,zaE,zao,zaq,zas,zar,zaF,zaz,zaK,zaL,zaH,zap,encF,encS,zcq,zaY];done));first|done|fail):p:=h
theorem znP{a:List ByteArray×Int}{r:List ByteArray}(h:a=if 64<r.length then ([],4) else (r,0)):(a=([],4)∧decide ((r.length:Int)≤64)=false∧decide ((64:Int)<(r.length:Int))=true)∨(a=(r,0)∧decide ((r.length:Int)≤64)=true∧decide ((64:Int)<(r.length:Int))=false):=by
  by_cases h64:64<r.length
  · rw[if_pos h64] at h
    exact .inl ⟨h,decide_eq_false (by omega),decide_eq_true (by omega)⟩
  · rw[if_neg h64] at h
    exact .inr ⟨h,decide_eq_true (by omega),decide_eq_false (by omega)⟩
theorem zqt (a:List ByteArray) (ha:a.length≤9223372036854775807):Pure Tryz.prog 25 [strs a,strs a] (.atom (.bool true)) []:=by
  have:=ze2 a a ha ha
  rwa [decide_eq_true rfl] at this
def maW (m:List Int) (raw:ByteArray):List ByteArray:=zfd m++[raw.extract 0 (min raw.size 9),⟨#[]⟩,⟨#[65]⟩,⟨#[111,100,101,115,57]⟩]
theorem maW_size{m:List Int}{raw:ByteArray}:∀w,w∈maW m raw→w.size≤24:=fun w hw=>by
  rcases List.mem_append.1 hw with hw|hw
  · obtain⟨n,_,rfl⟩:=List.mem_map.1 hw
    have:=(letS_iff.1 (zfF n)).2.2
    omega
  · rcases List.mem_cons.1 hw with rfl|hw
    · rw[ByteArray.size_extract];omega
    · rcases List.mem_cons.1 hw with rfl|hw
      · decide
      · rcases List.mem_cons.1 hw with rfl|hw
        · decide
        · rw[List.mem_singleton.1 hw];decide
theorem zmf (m:List Int) (raw:ByteArray):(maW m raw).length=(zfd m).length+4:=by simp[maW]
theorem maW_enc (m:List Int) (raw:ByteArray):(maW m raw).map encS=(zfd m).map encS++[.atom (.string (raw.extract 0 (min raw.size 9))),.atom (.string ⟨#[]⟩),.atom (.string ⟨#[65]⟩),.atom (.string ⟨#[111,100,101,115,57]⟩)]:=by simp[maW,encS]
theorem noX_held:HeldX noX:=⟨by decide,by decide,by decide,(fun f h=>by cases h),(fun f h=>by cases h),(fun f h=>by cases h)⟩
def nil3:List PV:=[.atom (.slice none 0 0),.atom (.slice none 0 0),.atom (.slice none 0 0)]
theorem zih (l m:List Int) (how by_:Int) (raw:ByteArray) (hl:Fits l) (hm:Fits m) (hh:I64 how) (hb:I64 by_) (hlv:Pure Tryz.prog 20 [] (.atom (.bool true)) []):
    Pure Tryz.prog 4 [ints l,ints m,encI how,encI by_,encS raw] (.atom (.bool true)) []:=by
  have hml:=zgJ l
  have hsl:=znr (zdX l) how by_
  have hmh:=zqO l
  have hsh:=zns (how:=how) (b:=by_) hmh (by omega) (by omega) (by omega)
  have hwn:=zmI m
  refine Pure.intro (ts:=[10]) Tryz.func4 (by kernel_rfl) rfl rfl rfl (Nat.le_of_ble_eq_true rfl) ?_ ?_
  · simp[zah,zaF,encI,encS,PV.pure,zaE]
  refine sY [0,1,2,3,4] (fun P S K=>K ⟨[(0,S.get 0),(1,S.get 1),(2,S.get 2),(3,S.get 3),(4,S.get 4)],S.hp,S.nx,S.gh⟩) ?_
  all_goals
  refine sZ [1,2,3,4,11] (fun P S K=>XvFnIV P (M S.hp S.nx) (.fn 7 []) [(S.get 0)] (fun r1 ef1=>XvAlloc P 32 (S.nx+ef1.add.length) (fun r2 ef2=>XvStore P 32 (M (Eff.hp ef2 (S.nx+ef1.add.length) (Eff.hp ef1 S.nx S.hp)) ((S.nx+ef1.add.length)+ef2.add.length)) r2 r1 (fun r3 ef3=>K ⟨[(1,S.get 1),(2,S.get 2),(3,S.get 3),(4,S.get 4),(11,r2)],(Eff.hp ef3 ((S.nx+ef1.add.length)+ef2.add.length) (Eff.hp ef2 (S.nx+ef1.add.length) (Eff.hp ef1 S.nx S.hp))),(((S.nx+ef1.add.length)+ef2.add.length)+ef3.add.length),S.gh⟩)))) fun K hK=>?_
  repeat' (first|(refine hK _ ?_;clear hK K)|refine And.intro ?_ ?_|exact cl|refine .inl ⟨_,_,zrH l hl,?_⟩|(refine st ?_;try simp only[encX,zaa,zab,zac,encF,zad,zai,zaj,zbx,encM,zaN,zbd])|refine sx ?_ (by simp only[encX,zaa,zab,zac,encF,zad,zai,zaj,zbx,encM,zaN,zbd];exact rfl)|fail)
  all_goals
  refine sD 8 [1,4,12] (fun P GD S K=>XvLoad P 32 (M S.hp S.nx) (S.get 11) (fun r0 ef0=>XvLoad P 32 (M S.hp S.nx) (S.get 11) (fun r1 ef1=>XvFnDV P (M S.hp S.nx) (.fn 8 []) [r1,(S.get 2),(S.get 3)] (fun r4 ef4=>XvBuild P 32 [] (fun r5 ef5=>XvBuildS P 35 3 (S.nx+ef4.add.length) [(0,r0),(1,r4),(2,r5)] (fun r6 ef6=>(trOk S.nx GD [⟨S.nx,0,ef0.rd,[],[]⟩,⟨S.nx,0,ef1.rd,[],[]⟩,⟨S.nx,0,[],[],[]⟩,⟨S.nx,0,[],[],[]⟩,(Eff.tr ef4 S.nx),⟨(S.nx+ef4.add.length),0,ef5.rd,[],[]⟩,(Eff.tr ef6 (S.nx+ef4.add.length)),⟨((S.nx+ef4.add.length)+ef6.add.length),0,[],[],[]⟩]=true∧K ⟨[(1,S.get 1),(4,S.get 4),(12,r6)],(Eff.hp ef6 (S.nx+ef4.add.length) (Eff.hp ef4 S.nx S.hp)),((S.nx+ef4.add.length)+ef6.add.length),S.gh⟩))))))) fun K hK=>?_
  repeat' (first|(refine hK _ ?_;clear hK K)|(refine(?_:trOk _ _ _=true);kernel_rfl)|refine And.intro ?_ ?_|exact cl|refine .inl ⟨_,_,zlE (zdX l) how by_ hmh (by omega) (by omega) (by omega) hh hb,?_⟩|(refine st ?_;try simp only[encX,zaa,zab,zac,encF,zad,zai,zaj,zbx,encM,zaN,zbd])|fail)
  refine Tri.nilG 1 2 0 3 3 [encX (zdX l),encX (zbM (zdX l) how by_),.agg nil3] nil3 rfl rfl rfl ?_
  refine Tri.nilG 1 2 1 4 3 [encX (zdX l),encX (zbM (zdX l) how by_),.agg [zaa [],.atom (.slice none 0 0),.atom (.slice none 0 0)]] [zaa [],.atom (.slice none 0 0),.atom (.slice none 0 0)] rfl rfl rfl ?_
  refine Tri.nilG 1 2 2 3 3 [encX (zdX l),encX (zbM (zdX l) how by_),.agg [zaa [],zab [],.atom (.slice none 0 0)]] [zaa [],zab [],.atom (.slice none 0 0)] rfl rfl rfl ?_
  all_goals
  refine Tri.cut (α:=(xs:List LexD) ×' (ws:List ByteArray) ×' (xs.length≤3∧(∀x,x∈xs→HeldX x)∧ws.length≤11∧∀w,w∈ws→w.size≤24)) (fun⟨xs,ws,hx3,hxh,hwl,hws⟩=>⟨[(12,.sl 3 (xs.map encX)),(13,strs ws)],[],0,[]⟩) ?_ ?_
  ·skip
   refine rZ [12,13] (fun P S K=>XvFnIV P (M S.hp S.nx) (.fn 10 []) [(S.get 1)] (fun r1 ef1=>XvFnIV P (M (Eff.hp ef1 S.nx S.hp) (S.nx+ef1.add.length)) (.fn 11 []) [(S.get 4),(.atom (.int .i64 9))] (fun r3 ef3=>XvBuildS P 37 4 ((S.nx+ef1.add.length)+ef3.add.length) [(0,r3),(1,(.atom (.string { data := #[] }))),(2,(.atom (.string { data := #[65] }))),(3,(.atom (.string { data := #[111,100,101,115,57] })))] (fun r4 ef4=>(37=37∧XvAppend P 37 (M (Eff.hp ef4 ((S.nx+ef1.add.length)+ef3.add.length) (Eff.hp ef3 (S.nx+ef1.add.length) (Eff.hp ef1 S.nx S.hp))) (((S.nx+ef1.add.length)+ef3.add.length)+ef4.add.length)) r1 r4 (fun r5 ef5=>K ⟨[(12,S.get 12),(13,r5)],(Eff.hp ef5 (((S.nx+ef1.add.length)+ef3.add.length)+ef4.add.length) (Eff.hp ef4 ((S.nx+ef1.add.length)+ef3.add.length) (Eff.hp ef3 (S.nx+ef1.add.length) (Eff.hp ef1 S.nx S.hp)))),((((S.nx+ef1.add.length)+ef3.add.length)+ef4.add.length)+ef5.add.length),S.gh⟩)))))) fun K hK=>?_
   repeat' (first|(refine hK _ ?_;clear hK K)|refine And.intro ?_ ?_|exact cl|refine .inl ⟨_,_,znE m hm,?_⟩|refine .inl ⟨_,_,zot raw 9 (by decide),?_⟩|(refine st ?_;try simp only[encX,zaa,zab,zac,encF,zad,zai,zaj,zbx,encM,zaN,zbd])|fail)
   all_goals
   rw[←maW_enc,←zmf m raw]
   refine⟨⟨[zdX l,zbM (zdX l) how by_,noX],maW m raw,by simp,all3 hmh hsh noX_held,by rw[zmf];omega,maW_size⟩,[],?_⟩
   exact zhG
  rintro⟨xs,ws,hx3,hxh,hwl,hws⟩
  refine Tri.seq ?_
  refine sY [12,13,14] (fun P S K=>K ⟨[(12,S.get 12),(13,S.get 13),(14,(.atom (.int .i64 0)))],S.hp,S.nx,S.gh⟩) ?_
  all_goals
  refine Tri.block ?_
  refine Tri.loop (α:=(i:Nat) ×' (i≤xs.length)) (fun z=>(fun(i:Nat)=>(⟨[(12,.sl 3 (xs.map encX)),(13,strs ws),(14,encI i)],[],0,[]⟩:St)) z.1) (fun z=>(fun(i:Nat)=>xs.length - i) z.1) ⟨0,Nat.zero_le _⟩ [] ?_ ?_
  ·exact zhG
  rintro⟨i,hi⟩
  refine Tri.seq ?_
  refine sZ [12,13,14,39] (fun P S K=>XvLen P 35 (M S.hp S.nx) (S.get 12) (fun r2 _=>XvBinOV P .lss 3 (.tmp 38) (S.get 14) r2 (fun r3 _=>K ⟨[(12,S.get 12),(13,S.get 13),(14,S.get 14),(39,r3)],S.hp,S.nx,S.gh⟩))) fun K hK=>?_
  repeat' (first|(refine hK _ ?_;clear hK K)|(refine st ?_;try simp only[encX,zaa,zab,zac,encF,zad,zai,zaj,zbx,encM,zaN,zbd])|fail)
  all_goals
  refine Tri.cond rfl (fun h39=>?_) (fun h39=>?_)
  ·try (cases h39;done)
   all_goals (try simp only[CQ] at h39)
   all_goals
   refine Tri.skip ?_
   refine Tri.seq ?_
   refine Tri.block ?_
   have hix:i<xs.length:=by omega
   have hxi:=hxh _ (fX_mem hix)
   by_cases hv:za7 (fX xs i)=0
   all_goals
   refine sZ [12,13,14,15,16] (fun P S K=>XvIndexAddr P 35 (S.get 12) (S.get 14) (fun r2 _=>XvLoad P 32 (M S.hp S.nx) r2 (fun r3 _=>XvFnIV P (M S.hp S.nx) (.fn 14 []) [r3] (fun r4 ef4=>XvFnIV P (M (Eff.hp ef4 S.nx S.hp) (S.nx+ef4.add.length)) (.fn 21 []) [r4] (fun r5 ef5=>XvExtract r5 0 (fun r7 _=>XvExtract r5 1 (fun r8 _=>XvAlloc P 54 ((S.nx+ef4.add.length)+ef5.add.length) (fun r9 ef9=>XvStore P 54 (M (Eff.hp ef9 ((S.nx+ef4.add.length)+ef5.add.length) (Eff.hp ef5 (S.nx+ef4.add.length) (Eff.hp ef4 S.nx S.hp))) (((S.nx+ef4.add.length)+ef5.add.length)+ef9.add.length)) r9 r7 (fun r10 ef10=>K ⟨[(12,S.get 12),(13,S.get 13),(14,S.get 14),(15,r9),(16,r8)],(Eff.hp ef10 (((S.nx+ef4.add.length)+ef5.add.length)+ef9.add.length) (Eff.hp ef9 ((S.nx+ef4.add.length)+ef5.add.length) (Eff.hp ef5 (S.nx+ef4.add.length) (Eff.hp ef4 S.nx S.hp)))),((((S.nx+ef4.add.length)+ef5.add.length)+ef9.add.length)+ef10.add.length),S.gh⟩))))))))) fun K hK=>?_
   repeat' (first|(refine hK _ ?_;clear hK K)|refine And.intro ?_ ?_|exact cl|refine .inl ⟨_,_,own_pure (fX xs i) hxi,?_⟩|refine .inl ⟨_,_,zmk (fX xs i) hxi hv,?_⟩|refine .inl ⟨_,_,zq3 (fX xs i) hxi hv,?_⟩|(refine st ?_;try simp only[encX,zaa,zab,zac,encF,zad,zai,zaj,zbx,encM,zaN,zbd,zfw hix])|fail)
   all_goals
   refine Tri.seq ?_
   refine sZ [12,13,14,15,16,70] (fun P S K=>XvIndexAddr P 35 (S.get 12) (S.get 14) (fun r3 _=>XvLoad P 32 (M S.hp S.nx) r3 (fun r4 _=>XvFnIV P (M S.hp S.nx) (.fn 12 []) [r4] (fun r5 ef5=>XvBinOV P .neq 40 (.tmp 56) (S.get 16) r5 (fun r6 _=>Xgq r6 false (fun k=>k (S.get 16)) (fun g8 r8=>Xgq g8 false (fun k=>XvBinOV P .neq 40 (.const (.int .i64 0)) r8 (.atom (.int .i64 0)) (fun r9 _=>k r9)) (fun g9 r9=>Xgq g9 false (fun k=>k r9) (fun g10 r10=>Xgq r10 true (fun k=>XvFieldAddr P 54 0 (S.get 15) (fun r11 _=>k r11)) (fun g11 r11=>Xgq g11 true (fun k=>XvLoad P 3 (M (Eff.hp ef5 S.nx S.hp) (S.nx+ef5.add.length)) r11 (fun r12 _=>k r12)) (fun g12 r12=>Xgq g12 true (fun k=>XvFieldAddr P 54 3 (S.get 15) (fun r13 _=>k r13)) (fun g13 r13=>Xgq g13 true (fun k=>XvLoad P 52 (M (Eff.hp ef5 S.nx S.hp) (S.nx+ef5.add.length)) r13 (fun r14 _=>k r14)) (fun g14 r14=>Xgq g14 true (fun k=>XvLen P 52 (M (Eff.hp ef5 S.nx S.hp) (S.nx+ef5.add.length)) r14 (fun r15 _=>k r15)) (fun g15 r15=>Xgq g15 true (fun k=>XvBinOV P .add 3 (.tmp 66) r12 r15 (fun r16 _=>k r16)) (fun g16 r16=>Xgq g16 true (fun k=>XvBinOV P .gtr 3 (.const (.int .i64 0)) r16 (.atom (.int .i64 0)) (fun r17 _=>k r17)) (fun g17 r17=>Xgq g10 false (fun k=>XvPick g17 r17 (.atom (.bool false)) (fun r18 _=>k r18)) (fun g18 r18=>XvPick g18 (.atom (.bool true)) r18 (fun r19 _=>K ⟨[(12,S.get 12),(13,S.get 13),(14,S.get 14),(15,S.get 15),(16,S.get 16),(70,r19)],(Eff.hp ef5 S.nx S.hp),(S.nx+ef5.add.length),S.gh⟩))))))))))))))))) fun K hK=>?_
   repeat' (first|(refine hK _ ?_;clear hK K)|((first|refine zax (fun hg=>?_) (fun hg=>?_)|refine fun(hg:(_:Prop))=>?_)<;>((try simp only[BQ,List.length_map] at hg);try (cases hg;done);try (exfalso;omega)))|refine And.intro ?_ ?_|exact cl|refine .inl ⟨_,_,zjc (fX xs i) hxi,?_⟩|(refine st ?_;try simp only[encX,zaa,zab,zac,encF,zad,zai,zaj,zbx,encM,zaN,zbd,↓SE,zfw hix,hv])|fail)
   all_goals try simp (disch:=omega) only[zaf,zae]
   all_goals
   refine Tri.cond rfl (fun h70=>?_) (fun h70=>?_)
   ·try (cases h70;done)
    all_goals (try simp only[CQ] at h70)
    all_goals
    refine sY [10] (fun P S K=>K ⟨[(10,(.atom (.bool false)))],S.hp,S.nx,S.gh⟩) ?_
    all_goals
    refine Tri.ret ?_
    show ResOk _ _ _ _
    done
   try (cases h70;done)
   all_goals (try simp only[CQ] at h70)
   all_goals
   refine Tri.skip ?_
   refine Tri.seq ?_
   refine sZ [12,13,14,15,72] (fun P S K=>XvBinOV P .neq 40 (.const (.int .i64 0)) (S.get 16) (.atom (.int .i64 0)) (fun r1 _=>K ⟨[(12,S.get 12),(13,S.get 13),(14,S.get 14),(15,S.get 15),(72,r1)],S.hp,S.nx,S.gh⟩)) fun K hK=>?_
   repeat' (first|(refine hK _ ?_;clear hK K)|(refine st ?_;try simp only[encX,zaa,zab,zac,encF,zad,zai,zaj,zbx,encM,zaN,zbd,hv])|fail)
   all_goals
   refine Tri.cond rfl (fun h72=>?_) (fun h72=>?_)
   ·try (cases h72;done)
    all_goals (try simp only[CQ] at h72)
    all_goals
    refine Tri.exit ?_
    refine rY [12,13,14] (fun P S K=>XvBinOV P .add 3 (.const (.int .i64 1)) (S.get 14) (.atom (.int .i64 1)) (fun r1 _=>K ⟨[(12,S.get 12),(13,S.get 13),(14,r1)],S.hp,S.nx,S.gh⟩)) ?_
    all_goals try simp (disch:=omega) only[zaf,zae]
    all_goals
    refine⟨⟨i+1,by omega⟩,[],by dsimp only;omega,?_⟩
    exact zhG
   try (cases h72;done)
   all_goals (try simp only[CQ] at h72)
   all_goals
   refine Tri.skip ?_
   refine Tri.seq ?_
   have hv0:zb8 (zcs (fX xs i))=0:=validM_0.2 (zfQ hv)
   refine sZ [12,13,14,15,75] (fun P S K=>XvLoad P 54 (M S.hp S.nx) (S.get 15) (fun r0 _=>XvFnIV P (M S.hp S.nx) (.fn 22 []) [r0] (fun r1 ef1=>XvBinOV P .neq 40 (.const (.int .i64 0)) r1 (.atom (.int .i64 0)) (fun r2 _=>K ⟨[(12,S.get 12),(13,S.get 13),(14,S.get 14),(15,S.get 15),(75,r2)],(Eff.hp ef1 S.nx S.hp),(S.nx+ef1.add.length),S.gh⟩)))) fun K hK=>?_
   repeat' (first|(refine hK _ ?_;clear hK K)|refine .inl ⟨_,_,zgt (zcs (fX xs i)) (zgK hv),?_⟩|(refine st ?_;try simp only[encX,zaa,zab,zac,encF,zad,zai,zaj,zbx,encM,zaN,zbd,hv0])|fail)
   all_goals
   refine Tri.cond rfl (fun h75=>?_) (fun h75=>?_)
   ·try (cases h75;done)
    all_goals (try simp only[CQ] at h75)
    all_goals
    refine sY [10] (fun P S K=>K ⟨[(10,(.atom (.bool false)))],S.hp,S.nx,S.gh⟩) ?_
    all_goals
    refine Tri.ret ?_
    show ResOk _ _ _ _
    done
   try (cases h75;done)
   all_goals (try simp only[CQ] at h75)
   all_goals
   refine Tri.skip ?_
   refine sY [12,13,14,15,17] (fun P S K=>K ⟨[(12,S.get 12),(13,S.get 13),(14,S.get 14),(15,S.get 15),(17,(.atom (.int .i64 0)))],S.hp,S.nx,S.gh⟩) ?_
   all_goals
   refine Tri.block ?_
   refine Tri.loop (α:=(k:Nat) ×' (k≤ws.length)) (fun z=>(fun(k:Nat)=>(⟨[(12,.sl 3 (xs.map encX)),(13,strs ws),(14,encI i),(15,.ptr 0 4 0 0),(17,encI k)],[(0,some ⟨4,[encM (zcs (fX xs i))]⟩)],1,[]⟩:St)) z.1) (fun z=>(fun(k:Nat)=>ws.length - k) z.1) ⟨0,Nat.zero_le _⟩ [0] ?_ ?_
   ·exact zhG
   rintro⟨k,hk⟩
   refine Tri.seq ?_
   refine sZ [12,13,14,15,17,79] (fun P S K=>XvLen P 37 (M S.hp S.nx) (S.get 13) (fun r2 _=>XvBinOV P .lss 3 (.tmp 78) (S.get 17) r2 (fun r3 _=>K ⟨[(12,S.get 12),(13,S.get 13),(14,S.get 14),(15,S.get 15),(17,S.get 17),(79,r3)],S.hp,S.nx,S.gh⟩))) fun K hK=>?_
   repeat' (first|(refine hK _ ?_;clear hK K)|(refine st ?_;try simp only[encX,zaa,zab,zac,encF,zad,zai,zaj,zbx,encM,zaN,zbd])|fail)
   all_goals
   refine Tri.cond rfl (fun h79=>?_) (fun h79=>?_)
   ·try (cases h79;done)
    all_goals (try simp only[CQ] at h79)
    all_goals
    refine Tri.skip ?_
    refine Tri.seq ?_
    refine Tri.block ?_
    have hkw:k<ws.length:=by omega
    have hwk:=hws _ (zgL hkw)
    have hap:=zhF (w:=ls ws k) hv (by omega)
    have hrl:(resR (fX xs i) (ls ws k)).length≤97:=by
      unfold resR;split
      · rw[zcO];exact resl_len hv
      · exact Nat.zero_le _
    have hcs:=znP hap
    rcases hcs with ⟨hap,hd1,hd2⟩|⟨hap,hd1,hd2⟩
    all_goals
    refine sD 11 [12,13,14,15,17,18,19] (fun P GD S K=>XvLoad P 54 (M S.hp S.nx) (S.get 15) (fun r0 ef0=>XvIndexAddr P 37 (S.get 13) (S.get 17) (fun r3 ef3=>XvLoad P 9 (M S.hp S.nx) r3 (fun r4 ef4=>XvFnDV P (M S.hp S.nx) (.fn 23 []) [r0,r4] (fun r5 ef5=>XvExtract r5 0 (fun r7 ef7=>XvExtract r5 1 (fun r8 ef8=>(trOk S.nx GD [⟨S.nx,0,ef0.rd,[],[]⟩,⟨S.nx,0,[],[],[]⟩,⟨S.nx,0,[],[],[]⟩,⟨S.nx,0,ef3.rd,[],[]⟩,⟨S.nx,0,ef4.rd,[],[]⟩,(Eff.tr ef5 S.nx),⟨(S.nx+ef5.add.length),0,[],[],[]⟩,⟨(S.nx+ef5.add.length),0,ef7.rd,[],[]⟩,⟨(S.nx+ef5.add.length),0,ef8.rd,[],[]⟩,⟨(S.nx+ef5.add.length),0,[],[],[]⟩,⟨(S.nx+ef5.add.length),0,[],[],[]⟩]=true∧K ⟨[(12,S.get 12),(13,S.get 13),(14,S.get 14),(15,S.get 15),(17,S.get 17),(18,r7),(19,r8)],(Eff.hp ef5 S.nx S.hp),(S.nx+ef5.add.length),S.gh⟩)))))))) fun K hK=>?_
    repeat' (first|(refine hK _ ?_;clear hK K)|(refine(?_:trOk _ _ _=true);(try simp only[zbf hkw,hap]);kernel_rfl)|refine And.intro ?_ ?_|exact cl|refine .inl ⟨_,_,zgu (zcs (fX xs i)) (ls ws k) (zgK hv) (by omega),?_⟩|(refine st ?_;try simp only[encX,zaa,zab,zac,encF,zad,zai,zaj,zbx,encM,zaN,zbd,zbf hkw,hap])|fail)
    all_goals
    refine sD 10 [12,13,14,15,17,18,19,20] (fun P GD S K=>XvIndexAddr P 35 (S.get 12) (S.get 14) (fun r2 ef2=>XvLoad P 32 (M S.hp S.nx) r2 (fun r3 ef3=>XvIndexAddr P 37 (S.get 13) (S.get 17) (fun r6 ef6=>XvLoad P 9 (M S.hp S.nx) r6 (fun r7 ef7=>XvFnDV P (M S.hp S.nx) (.fn 24 []) [r3,r7] (fun r8 ef8=>(trOk S.nx GD [⟨S.nx,0,[],[],[]⟩,⟨S.nx,0,[],[],[]⟩,⟨S.nx,0,ef2.rd,[],[]⟩,⟨S.nx,0,ef3.rd,[],[]⟩,⟨S.nx,0,[],[],[]⟩,⟨S.nx,0,[],[],[]⟩,⟨S.nx,0,ef6.rd,[],[]⟩,⟨S.nx,0,ef7.rd,[],[]⟩,(Eff.tr ef8 S.nx),⟨(S.nx+ef8.add.length),0,[],[],[]⟩]=true∧K ⟨[(12,S.get 12),(13,S.get 13),(14,S.get 14),(15,S.get 15),(17,S.get 17),(18,S.get 18),(19,S.get 19),(20,r8)],(Eff.hp ef8 S.nx S.hp),(S.nx+ef8.add.length),S.gh⟩))))))) fun K hK=>?_
    repeat' (first|(refine hK _ ?_;clear hK K)|(refine(?_:trOk _ _ _=true);(try simp only[zfw hix,zbf hkw]);kernel_rfl)|refine And.intro ?_ ?_|exact cl|refine .inl ⟨_,_,zic (fX xs i) (ls ws k) hxi hv (by omega),?_⟩|(refine st ?_;try simp only[encX,zaa,zab,zac,encF,zad,zai,zaj,zbx,encM,zaN,zbd,zfw hix,zbf hkw])|fail)
    all_goals
    refine sZ [12,13,14,15,17,121] (fun P S K=>XvLen P 37 (M S.hp S.nx) (S.get 20) (fun r1 _=>XvBinOV P .leq 3 (.const (.int .i64 64)) r1 (.atom (.int .i64 64)) (fun r2 _=>Xgq r2 true (fun k=>k (S.get 19)) (fun g4 r4=>Xgq g4 true (fun k=>XvBinOV P .neq 40 (.const (.int .i64 0)) r4 (.atom (.int .i64 0)) (fun r5 _=>k r5)) (fun g5 r5=>Xgq g5 true (fun k=>k r5) (fun g6 r6=>Xgq r6 false (fun k=>k (S.get 18)) (fun g7 r7=>Xgq g7 false (fun k=>k (S.get 20)) (fun g8 r8=>Xge g8 false (fun k=>XvFnIV P (M S.hp S.nx) (.fn 25 []) [r7,r8] k) (fun g9 r9 ef9=>Xgq g9 false (fun k=>XvUn .not r9 (fun r10 _=>k r10)) (fun g10 r10=>Xgq g6 true (fun k=>XvPick g10 (.atom (.bool true)) r10 (fun r11 _=>k r11)) (fun g11 r11=>XvPick g11 r11 (.atom (.bool false)) (fun r12 _=>Xgq r12 false (fun k=>k (S.get 20)) (fun g14 r14=>Xgq g14 false (fun k=>XvLen P 37 (M (Eff.hp ef9 S.nx S.hp) (S.nx+ef9.add.length)) r14 (fun r15 _=>k r15)) (fun g15 r15=>Xgq g15 false (fun k=>XvBinOV P .gtr 3 (.const (.int .i64 64)) r15 (.atom (.int .i64 64)) (fun r16 _=>k r16)) (fun g16 r16=>Xgq g16 false (fun k=>k r16) (fun g17 r17=>Xgq r17 true (fun k=>k (S.get 19)) (fun g18 r18=>Xgq g18 true (fun k=>XvBinOV P .neq 40 (.const (.int .i64 4)) r18 (.atom (.int .i64 4)) (fun r19 _=>k r19)) (fun g19 r19=>Xgq g17 false (fun k=>XvPick g19 r19 (.atom (.bool false)) (fun r20 _=>k r20)) (fun g20 r20=>XvPick g20 (.atom (.bool true)) r20 (fun r21 _=>K ⟨[(12,S.get 12),(13,S.get 13),(14,S.get 14),(15,S.get 15),(17,S.get 17),(121,r21)],(Eff.hp ef9 S.nx S.hp),(S.nx+ef9.add.length),S.gh⟩)))))))))))))))))))) fun K hK=>?_
    repeat' (first|(refine hK _ ?_;clear hK K)|((first|refine zax (fun hg=>?_) (fun hg=>?_)|refine fun(hg:(_:Prop))=>?_)<;>((try simp only[BQ,List.length_map] at hg);try (cases hg;done);try (exfalso;omega)))|refine .inl ⟨_,_,zqt (resR (fX xs i) (ls ws k)) (by omega),?_⟩|(refine st ?_;try simp only[encX,zaa,zab,zac,encF,zad,zai,zaj,zbx,encM,zaN,zbd,↓SE,hap,hd1,hd2])|fail)
    all_goals try simp (disch:=omega) only[zaf,zae]
    all_goals
    refine Tri.cond rfl (fun h121=>?_) (fun h121=>?_)
    ·try (cases h121;done)
     all_goals (try simp only[CQ] at h121)
     all_goals
     refine sY [10] (fun P S K=>K ⟨[(10,(.atom (.bool false)))],S.hp,S.nx,S.gh⟩) ?_
     all_goals
     refine Tri.ret ?_
     show ResOk _ _ _ _
     done
    try (cases h121;done)
    all_goals (try simp only[CQ] at h121)
    all_goals
    refine Tri.skip ?_
    refine rY [12,13,14,15,17] (fun P S K=>XvBinOV P .add 3 (.const (.int .i64 1)) (S.get 17) (.atom (.int .i64 1)) (fun r1 _=>K ⟨[(12,S.get 12),(13,S.get 13),(14,S.get 14),(15,S.get 15),(17,r1)],S.hp,S.nx,S.gh⟩)) ?_
    all_goals try simp (disch:=omega) only[zaf,zae]
    all_goals
    refine⟨⟨k+1,by omega⟩,[0],by dsimp only;omega,?_⟩
    exact zhG
   try (cases h79;done)
   all_goals (try simp only[CQ] at h79)
   all_goals
   refine Tri.exit ?_
   refine rY [12,13,14] (fun P S K=>XvBinOV P .add 3 (.const (.int .i64 1)) (S.get 14) (.atom (.int .i64 1)) (fun r1 _=>K ⟨[(12,S.get 12),(13,S.get 13),(14,r1)],S.hp,S.nx,S.gh⟩)) ?_
   all_goals try simp (disch:=omega) only[zaf,zae]
   all_goals
   refine⟨⟨i+1,by omega⟩,[],by dsimp only;omega,?_⟩
   exact zhG
  try (cases h39;done)
  all_goals (try simp only[CQ] at h39)
  all_goals
  refine Tri.exit ?_
  refine sZ [10] (fun P S K=>XvFnIV P (M S.hp S.nx) (.fn 20 []) [] (fun r0 ef0=>K ⟨[(10,r0)],(Eff.hp ef0 S.nx S.hp),(S.nx+ef0.add.length),S.gh⟩)) fun K hK=>?_
  repeat' (first|(refine hK _ ?_;clear hK K)|refine And.intro ?_ ?_|exact cl|refine .inl ⟨_,_,hlv,?_⟩|(refine st ?_;try simp only[encX,zaa,zab,zac,encF,zad,zai,zaj,zbx,encM,zaN,zbd])|fail)
  all_goals
  refine Tri.ret ?_
  show ResOk _ _ _ _
  exact ResOk.val lsrM45 lpvM45
end Go.Proofs.YtehoglapajkabaaGreat
