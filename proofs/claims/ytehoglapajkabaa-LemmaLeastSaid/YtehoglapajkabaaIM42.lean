/-
  Plain: the results of a transducer,and the sets in which they are gathered.
-/
import Derived.Test.YtehoglapajkabaaIN5
import Derived.Test.YtehoglapajkabaaIM40
set_option linter.all false
namespace Go.Proofs.Ytehoglapajkabaa
open Go Go.RowKit
inductive OutR (m:MachD) (s:ByteArray):Int→Nat→ByteArray→Prop where
  | fin (q:Int):q∈m.fin→OutR m s q s.size ⟨#[]⟩
  | arc (a:ArcD) (at_:Nat) (x:ByteArray):a∈m.arcs→at_≤s.size→zbI (s.extract at_ s.size) a.inp=true→OutR m s a.to (at_+a.inp.size) x→OutR m s a.fr at_ (a.out++x)
theorem zd1{s p:ByteArray}{at_:Nat}(h:zbI (s.extract at_ s.size) p=true) (h2:at_≤s.size):at_+p.size≤s.size:=by
  unfold zbI at h
  rw[Bool.and_eq_true,decide_eq_true_eq,ByteArray.size_extract] at h
  omega
theorem zjU{m:MachD}(h:Acyc m) (hin:InM m):∃rank:Int→Nat,(∀v,rank v≤m.states.toNat)∧∀a,a∈m.arcs→silB a=true→rank a.fr<rank a.to:=by
  obtain⟨r,hr⟩:=h
  refine⟨fun v=>((List.range m.states.toNat).filter fun(u:Nat)=>decide (r u<r v)).length,fun v=>Nat.le_trans (List.length_filter_le _ _) (by simp),fun a ha hs=>?_⟩
  have h1:=hr a ha hs
  have h2:=hin a ha
  have hm:a.fr.toNat∈(List.range m.states.toNat).filter (fun(u:Nat)=>decide (r u<r a.to)):=List.mem_filter.2 ⟨List.mem_range.2 (by omega),by rw[decide_eq_true_eq,Int.toNat_of_nonneg h2.1];exact h1⟩
  have hno:a.fr.toNat∉(List.range m.states.toNat).filter (fun(u:Nat)=>decide (r u<r a.fr)):=fun h=>by
    have:=(List.mem_filter.1 h).2
    rw[decide_eq_true_eq,Int.toNat_of_nonneg h2.1] at this;omega
  have:=zdl (l:=a.fr.toNat :: (List.range m.states.toNat).filter fun(u:Nat)=>decide (r u<r a.fr)) (r:=(List.range m.states.toNat).filter fun(u:Nat)=>decide (r u<r a.to)) (List.nodup_cons.2 ⟨hno,List.nodup_range.filter _⟩) (fun x hx=>by
    rcases List.mem_cons.1 hx with rfl|hx
    · exact hm
    · obtain⟨g1,g2⟩:=List.mem_filter.1 hx
      refine List.mem_filter.2 ⟨g1,?_⟩
      rw[decide_eq_true_eq] at g2 ⊢;omega)
  rw[List.length_cons] at this
  exact this
structure FarM (m:MachD) (s:ByteArray) (mu:Int→Nat→Nat):Prop where
  le:∀q at_,mu q at_≤(s.size+1) * (m.states.toNat+1)
  dec:∀a,a∈m.arcs→∀at_,at_≤s.size→zbI (s.extract at_ s.size) a.inp=true→mu a.to (at_+a.inp.size)<mu a.fr at_
theorem FarM.ex{m:MachD}(h:Acyc m) (hin:InM m) (s:ByteArray):∃mu,FarM m s mu:=by
  obtain⟨rank,h1,h2⟩:=zjU h hin
  refine⟨fun q at_=>(s.size - at_) * (m.states.toNat+1)+(m.states.toNat - rank q),fun q at_=>?_,fun a ha at_ hat hp=>?_⟩
  · have:(s.size - at_) * (m.states.toNat+1)≤s.size * (m.states.toNat+1):=Nat.mul_le_mul_right _ (by omega)
    rw[Nat.add_mul];omega
  · have hle:=zd1 hp hat
    have b1:=h1 a.fr
    have b2:=h1 a.to
    by_cases hs:silB a=true
    · have h3:=h2 a ha hs
      have e:a.inp.size=0:=by
        unfold silB at hs;rw[of_decide_eq_true hs];rfl
      simp only[e,Nat.add_zero];omega
    · have e:a.inp.size≠0:=fun e=>hs (by
        unfold silB
        refine decide_eq_true ?_
        cases hi:a.inp with|mk d=>rw[hi] at e;simp[ByteArray.size] at e;simp[e])
      have:(s.size - (at_+a.inp.size)) * (m.states.toNat+1)+(m.states.toNat+1)≤(s.size - at_) * (m.states.toNat+1):=by
        rw[←Nat.succ_mul];exact Nat.mul_le_mul_right _ (by omega)
      omega
theorem zqI{l:List ByteArray}:∀ {k:List ByteArray}{x:ByteArray},x∈l.foldl putS k↔x∈k∨x∈l:=by
  induction l with
  | nil=>intro k x;simp
  | cons a l ih=>
    intro k x
    rw[List.foldl_cons,ih,mem_putS,List.mem_cons,or_assoc]
theorem zk2{l:List ByteArray}:∀ {k:List ByteArray},k.Nodup→(l.foldl putS k).Nodup:=by
  induction l with
  | nil=>intro k h;exact h
  | cons a l ih=>intro k h;rw[List.foldl_cons];exact ih (zfI h)
theorem out_ex{m:MachD}{s:ByteArray}{mu:Int→Nat→Nat}(hmu:FarM m s mu):∀n q at_,mu q at_<n→∃L:List ByteArray,L.Nodup∧∀x,x∈L↔OutR m s q at_ x:=by
  intro n
  induction n with
  | zero=>intro q at_ h;exact absurd h (Nat.not_lt_zero _)
  | succ n ih=>
    intro q at_ hn
    have hall:∀l:List ArcD,(∀a,a∈l→a∈m.arcs)→∃L:List ByteArray,∀x,x∈L↔∃a,a∈l∧a.fr=q∧at_≤s.size∧zbI (s.extract at_ s.size) a.inp=true∧∃y,OutR m s a.to (at_+a.inp.size) y∧x=a.out++y:=by
      intro l
      induction l with
      | nil=>intro _;exact⟨[],by simp⟩
      | cons a l ihl=>
        intro hl
        obtain⟨L,hL⟩:=ihl fun b hb=>hl b (List.mem_cons_of_mem _ hb)
        by_cases hc:a.fr=q∧at_≤s.size∧zbI (s.extract at_ s.size) a.inp=true
        · obtain⟨c1,c2,c3⟩:=hc
          have hd:=hmu.dec a (hl a (List.mem_cons_self ..)) at_ c2 c3
          obtain⟨La,_,hLa⟩:=ih a.to (at_+a.inp.size) (by rw[c1] at hd;omega)
          refine⟨La.map (a.out++·)++L,fun x=>?_⟩
          rw[List.mem_append,hL,List.mem_map]
          constructor
          · rintro(⟨y,hy,rfl⟩|⟨b,hb,h⟩)
            · exact⟨a,List.mem_cons_self ..,c1,c2,c3,y,(hLa y).1 hy,rfl⟩
            · exact⟨b,List.mem_cons_of_mem _ hb,h⟩
          · rintro⟨b,hb,h1,h2,h3,y,hy,rfl⟩
            rcases List.mem_cons.1 hb with rfl|hb
            · exact .inl ⟨y,(hLa y).2 hy,rfl⟩
            · exact .inr ⟨b,hb,h1,h2,h3,y,hy,rfl⟩
        · refine⟨L,fun x=>?_⟩
          rw[hL]
          constructor
          · rintro⟨b,hb,h⟩;exact⟨b,List.mem_cons_of_mem _ hb,h⟩
          · rintro⟨b,hb,h1,h2,h3,h⟩
            rcases List.mem_cons.1 hb with rfl|hb
            · exact absurd ⟨h1,h2,h3⟩ hc
            · exact⟨b,hb,h1,h2,h3,h⟩
    obtain⟨L,hL⟩:=hall m.arcs fun _ h=>h
    have fin:∃L0:List ByteArray,∀x,x∈L0↔(q∈m.fin∧at_=s.size∧x=⟨#[]⟩):=by
      by_cases h:q∈m.fin∧at_=s.size
      · exact⟨[⟨#[]⟩],fun x=>by rw[List.mem_singleton];exact⟨fun e=>⟨h.1,h.2,e⟩,fun e=>e.2.2⟩⟩
      · exact⟨[],fun x=>by simp only[List.not_mem_nil,false_iff];rintro⟨h1,h2,_⟩;exact h ⟨h1,h2⟩⟩
    obtain⟨L0,hL0⟩:=fin
    refine⟨(L0++L).foldl putS [],zk2 List.nodup_nil,fun x=>?_⟩
    rw[zqI,List.mem_append,hL0,hL]
    simp only[List.not_mem_nil,false_or]
    constructor
    · rintro(⟨h1,rfl,rfl⟩|⟨a,ha,rfl,h2,h3,y,hy,rfl⟩)
      · exact .fin q h1
      · exact .arc a at_ y ha h2 h3 hy
    · intro h
      cases h with
      | fin _ h1=>exact .inl ⟨h1,rfl,rfl⟩
      | arc a _ y ha h2 h3 hy=>exact .inr ⟨a,ha,rfl,h2,h3,y,hy,rfl⟩
theorem out_ex'{m:MachD}(h:Acyc m) (hin:InM m) (s:ByteArray) (q:Int) (at_:Nat):∃L:List ByteArray,L.Nodup∧∀x,x∈L↔OutR m s q at_ x:=by
  obtain⟨mu,hmu⟩:=FarM.ex h hin s
  exact out_ex hmu _ q at_ (Nat.lt_succ_self _)
open Classical in
noncomputable def outL (m:MachD) (s:ByteArray) (q:Int) (at_:Nat):List ByteArray:=if h:∃L:List ByteArray,L.Nodup∧∀x,x∈L↔OutR m s q at_ x then h.choose else []
theorem zdU{m:MachD}(h:Acyc m) (hin:InM m) (s:ByteArray) (q:Int) (at_:Nat):(outL m s q at_).Nodup∧∀x,x∈outL m s q at_↔OutR m s q at_ x:=by
  unfold outL
  rw[dif_pos (out_ex' h hin s q at_)]
  exact(out_ex' h hin s q at_).choose_spec
theorem out_size{m:MachD}{s:ByteArray}{mu:Int→Nat→Nat}(hmu:FarM m s mu) (ho:∀a,a∈m.arcs→a.out.size≤24) {q:Int}{at_:Nat}{x:ByteArray}(h:OutR m s q at_ x):x.size≤24 * mu q at_:=by
  induction h with
  | fin q h=>exact Nat.zero_le _
  | arc a at_ x ha h2 h3 _ ih=>
    have:=hmu.dec a ha at_ h2 h3
    have:=ho a ha
    rw[ByteArray.size_append];omega
structure TSt (X:ByteArray→Prop) (ks:List ByteArray) (many:Bool):Prop where
  nd:ks.Nodup
  le:ks.length≤65
  no:many=false→ks.length≤64∧∀x,x∈ks↔X x
  yes:many=true→∃l:List ByteArray,l.Nodup∧64<l.length∧∀x,x∈l→X x
theorem TSt.mono{X X':ByteArray→Prop}{ks:List ByteArray}(h:TSt X ks true) (hX:∀x,X x→X' x):TSt X' ks true:=by
  refine⟨h.nd,h.le,(fun e=>by cases e),fun _=>?_⟩
  obtain⟨l,h1,h2,h3⟩:=h.yes rfl
  exact⟨l,h1,h2,fun x hx=>hX x (h3 x hx)⟩
theorem TSt.congr{X X':ByteArray→Prop}{ks:List ByteArray}{many:Bool}(h:TSt X ks many) (hX:∀x,X x↔X' x):TSt X' ks many:=by
  rwa [show X'=X from funext fun x=>propext (hX x).symm]
theorem putS_len (ks:List ByteArray) (s:ByteArray):(putS ks s).length≤ks.length+1:=by unfold putS;split<;>simp
theorem TSt.put{X X':ByteArray→Prop}{ks:List ByteArray}{y:ByteArray}(h:TSt X ks false) (hX:∀x,X' x↔X x∨x=y):TSt X' (putS ks y) (false || decide (64<(putS ks y).length)):=by
  obtain⟨h1,h2⟩:=h.no rfl
  have hl:=putS_len ks y
  have hm:∀x,x∈putS ks y↔X' x:=fun x=>by rw[mem_putS,h2,hX]
  refine⟨zfI h.nd,by omega,fun e=>?_,fun e=>?_⟩
  · rw[Bool.false_or,decide_eq_false_iff_not] at e
    exact⟨by omega,hm⟩
  · rw[Bool.false_or,decide_eq_true_eq] at e
    exact⟨_,zfI h.nd,e,fun x hx=>(hm x).1 hx⟩
theorem TSt.nil:TSt (fun _=>False) [] false:=⟨List.nodup_nil,by simp,fun _=>⟨by simp,fun x=>by simp⟩,(fun e=>by cases e)⟩
theorem TSt.over{X X':ByteArray→Prop}{ks L:List ByteArray}{many:Bool}{o:ByteArray}(h:TSt X ks many) (hL:L.Nodup) (hl:64<L.length) (hX:∀y,y∈L→X' (o++y)):TSt X' ks true:=by
  refine⟨h.nd,h.le,(fun e=>by cases e),fun _=>⟨L.map (o++·),?_,by simpa using hl,fun x hx=>?_⟩⟩
  · rw[List.nodup_iff_pairwise_ne,List.pairwise_map]
    refine List.Pairwise.imp (fun {a b} hab e=>hab ?_) hL
    have e2:(o++a).data.toList=(o++b).data.toList:=by rw[e]
    simp only[ByteArray.data_append,Array.toList_append,List.append_cancel_left_eq] at e2
    cases a;cases b
    congr 1
    exact Array.ext' e2
  · obtain⟨y,hy,rfl⟩:=List.mem_map.1 hx
    exact hX y hy
def hasV (L:List ByteArray):PV:=if 64<L.length then .amp else if L.length=0 then .atom (.map none) else .fmp (L.map setE)
def zch (L:List ByteArray):Bool:=decide (64<L.length)
def tV (L:List ByteArray):PV:=.agg [hasV L,.atom (.bool (zch L))]
def finV (L:List ByteArray):PV:=.fptr 2 [tV L] 0 0
theorem zb3 (l:List ByteArray):zaw (l.map setE)=true:=zbh setE (fun _=>rfl) l
theorem zdQ (L:List ByteArray):(hasV L).pure=true:=by
  unfold hasV;split
  · rfl
  · split
    · rfl
    · exact zb3 L
theorem zb9 (L:List ByteArray):(finV L).pure=true:=by simp[finV,tV,PV.pure,zaw,zdQ]
theorem perm_of{l r:List ByteArray}(hl:l.Nodup) (hr:r.Nodup) (h:∀x,x∈l↔x∈r):l.Perm r:=by
  induction l generalizing r with
  | nil=>
    cases r with
    | nil=>exact .nil
    | cons a r=>exact absurd ((h a).2 (List.mem_cons_self ..)) (by simp)
  | cons a l ih=>
    rw[List.nodup_cons] at hl
    have ha:=(h a).1 (List.mem_cons_self ..)
    obtain⟨r1,r2,rfl⟩:=List.append_of_mem ha
    have hr':(r1++r2).Nodup∧a∉r1++r2:=by
      rw[List.nodup_append,List.nodup_cons] at hr
      obtain⟨n1,⟨n2,n3⟩,n4⟩:=hr
      refine⟨List.nodup_append.2 ⟨n1,n3,fun x hx y hy=>n4 x hx y (List.mem_cons_of_mem _ hy)⟩,fun hm=>?_⟩
      rcases List.mem_append.1 hm with hm|hm
      · exact n4 a hm a (List.mem_cons_self ..) rfl
      · exact n2 hm
    refine List.Perm.trans (List.Perm.cons a (ih hl.2 hr'.1 fun x=>?_)) List.perm_middle.symm
    have hx:=h x
    rw[List.mem_cons,List.mem_append,List.mem_cons] at hx
    rw[List.mem_append]
    constructor
    · intro hxl
      rcases hx.1 (.inr hxl) with h1|rfl|h1
      · exact .inl h1
      · exact absurd hxl hl.1
      · exact .inr h1
    · intro hxr
      have hxa:x≠a:=fun e=>hr'.2 (e▸List.mem_append.2 hxr)
      exact(hx.2 (hxr.imp id .inr)).resolve_left hxa
theorem TSt.end_{X:ByteArray→Prop}{ks L:List ByteArray}{many:Bool}(h:TSt X ks many) (hL:L.Nodup) (hx:∀x,x∈L↔X x):many=zch L∧(many=false→ks.Perm L):=by
  have hp:many=false→ks.Perm L:=fun e=>perm_of h.nd hL fun x=>by rw[(h.no e).2,hx]
  refine⟨?_,hp⟩
  cases many with
  | false=>
    have:=(hp rfl).length_eq
    have:=(h.no rfl).1
    exact(decide_eq_false (by omega)).symm
  | true=>
    obtain⟨l,h1,h2,h3⟩:=h.yes rfl
    have:=zdl h1 (r:=L) fun x hxl=>(hx x).2 (h3 x hxl)
    exact(decide_eq_true (by omega)).symm
theorem TSt.soft{X:ByteArray→Prop}{ks L:List ByteArray}{many:Bool}(h:TSt X ks many) (hL:L.Nodup) (hx:∀x,x∈L↔X x):(ks=[]→Soft (.atom (.map none)) (hasV L))∧(ks≠[]→Soft (.fmp (ks.map setE)) (hasV L)):=by
  obtain⟨h1,h2⟩:=h.end_ hL hx
  unfold hasV
  by_cases hl:64<L.length
  · rw[if_pos hl]
    exact⟨fun _=>Soft.ampN,fun _=>Soft.amp ks⟩
  · rw[if_neg hl]
    have hm:many=false:=by rw[h1];exact decide_eq_false hl
    have hp:=h2 hm
    have hle:=hp.length_eq
    constructor
    · intro e
      subst e
      rw[if_pos (by simpa using hle.symm)]
      exact Soft.refl _
    · intro e
      have:0<ks.length:=List.length_pos_iff.2 e
      rw[if_neg (by omega)]
      exact Soft.fmp (hp.map _)
def bl (s:ByteArray):List UInt8:=s.data.toList
def ofl (l:List UInt8):ByteArray:=⟨l.toArray⟩
theorem zrv (l:List UInt8):bl (ofl l)=l:=rfl
theorem zcE{a b:ByteArray}(h:bl a=bl b):a=b:=ByteArray.ext (Array.ext' h)
theorem zhw (s:ByteArray):ofl (bl s)=s:=zcE rfl
theorem ze1 (a b:ByteArray):bl (a++b)=bl a++bl b:=by simp[bl,ByteArray.data_append]
theorem zc4 (s:ByteArray):(bl s).length=s.size:=rfl
theorem zeG (s:ByteArray) (i j:Nat):bl (s.extract i j)=((bl s).drop i).take (j - i):=by
  simp[bl,ByteArray.data_extract,Array.toList_extract,List.extract_eq_take_drop]
theorem zdr (s:ByteArray) (i:Nat):bl (s.extract i s.size)=(bl s).drop i:=by
  rw[zeG,List.take_of_length_le (by rw[List.length_drop,zc4];exact Nat.le_refl _)]
theorem zh5{w p:ByteArray}{k:Nat}(hk:k≤w.size):zbI (w.extract k w.size) p=true↔(bl w).drop k=bl p++(bl w).drop (k+p.size):=by
  unfold zbI
  rw[Bool.and_eq_true,decide_eq_true_eq,decide_eq_true_eq,ByteArray.size_extract,Nat.min_self]
  have e:(w.extract k w.size).extract 0 p.size=p↔((bl w).drop k).take p.size=bl p:=by
    constructor
    · intro h;rw[←zdr,←h];simp[zeG]
    · intro h;refine zcE ?_;rw[zeG,zdr,List.drop_zero,Nat.sub_zero];exact h
  rw[e]
  constructor
  · rintro⟨_,h⟩
    rw[←h,←List.drop_drop,List.take_append_drop]
  · intro h
    have hl:=congrArg List.length h
    rw[List.length_append,List.length_drop,List.length_drop,zc4,zc4] at hl
    refine⟨by omega,?_⟩
    rw[h,←zc4 p,List.take_left']
    rfl
theorem zdf{m j:Nat}:zbp (m+1) (m:Int) j=((m+j:Nat):Int):=by unfold zbp;split<;>omega
theorem OutR.step{m:MachD}{w:ByteArray}{a:ArcD}{k:Nat}{y:ByteArray}(ha:a∈m.arcs) (hk:k≤w.size) (hp:(bl w).drop k=bl a.inp++(bl w).drop (k+a.inp.size)) (h:OutR m w a.to (k+a.inp.size) y):OutR m w a.fr k (a.out++y):=
  .arc a k y ha hk ((zh5 hk).2 hp) h
theorem OutR.silent{m:MachD}{w:ByteArray}{fr to:Int}{o:ByteArray}{k:Nat}{y:ByteArray}(ha:(⟨fr,to,eB,o⟩:ArcD)∈m.arcs) (hk:k≤w.size) (h:OutR m w to k y):OutR m w fr k (o++y):=
  OutR.step ha hk (by show _=([]:List UInt8)++_;rfl) h
theorem zdt (s:ByteArray):s++(⟨#[]⟩:ByteArray)=s:=zcE (by rw[ze1];exact List.append_nil _)
theorem zcS (s:ByteArray):(⟨#[]⟩:ByteArray)++s=s:=zcE (by rw[ze1];rfl)
theorem zfA (a b c:ByteArray):a++b++c=a++(b++c):=zcE (by simp[ze1])
def Closed (w:ByteArray) (A:List ArcD) (G:Int→Nat→ByteArray→Prop):Prop:=∀a,a∈A→∀k,k≤w.size→(bl w).drop k=bl a.inp++(bl w).drop (k+a.inp.size)→∀y,G a.to (k+a.inp.size) y→G a.fr k (a.out++y)
theorem znC{m:MachD}{w:ByteArray}{G:Int→Nat→ByteArray→Prop}(hf:∀q,q∈m.fin→G q w.size ⟨#[]⟩) (hc:Closed w m.arcs G) {q:Int}{k:Nat}{x:ByteArray}(h:OutR m w q k x):G q k x:=by
  induction h with
  | fin q hq=>exact hf q hq
  | arc a k y ha hk hp _ ih=>exact hc a ha k hk ((zh5 hk).1 hp) y ih
theorem sz_e{n:Nat}:eB.size≤n:=Nat.zero_le n
theorem sz_c{c n:Nat}:(chB c).size≤n+1:=Nat.le_add_left 1 n
theorem sz_m{c:UInt8}{n:Nat}:(mkB c).size≤n+1:=Nat.le_add_left 1 n
def ArcG (n:Nat) (a:ArcD):Prop:=0≤a.fr∧a.fr<n∧0≤a.to∧a.to<n∧a.inp.size≤1∧a.out.size≤24∧(silB a=true→a.fr≠1∧(a.to=1∨a.fr<a.to))
theorem ArcG.mono{n n':Nat}{a:ArcD}(h:ArcG n a) (hn:n≤n'):ArcG n' a:=by
  obtain⟨h1,h2,h3,h4,h5⟩:=h
  exact⟨h1,by omega,h3,by omega,h5⟩
def AllG (n:Nat) (A:List ArcD):Prop:=∀a,a∈A→ArcG n a
theorem AllG.mono{n n':Nat}{A:List ArcD}(h:AllG n A) (hn:n≤n'):AllG n' A:=fun a ha=>(h a ha).mono hn
theorem AllG.app{n:Nat}{A B:List ArcD}(h:AllG n A) (k:AllG n B):AllG n (A++B):=fun a ha=>(List.mem_append.1 ha).elim (h a) (k a)
theorem zhY{a:ArcD}(h:a.inp.size=1):silB a=true→False:=fun hs=>by
  unfold silB at hs
  rw[of_decide_eq_true hs] at h;exact absurd h (by decide)
theorem zfz{fr to:Int}{a:ArcD}(h:a∈zcd fr to 26):∃c,c<26∧a=⟨fr,to,chB c,chB c⟩:=by
  obtain⟨c,hc,rfl⟩:=List.mem_map.1 h
  exact⟨c,List.mem_range.1 hc,rfl⟩
theorem zmw{fr to:Int}{c:Nat}(h:c<26):(⟨fr,to,chB c,chB c⟩:ArcD)∈zcd fr to 26:=List.mem_map.2 ⟨c,List.mem_range.2 h,rfl⟩
theorem zgc{n:Nat}{a:ArcD}:∀ {L:Nat},a∈copA (n+1) n L→∃k,k<L∧∃c,c<26∧a=⟨((n+k:Nat):Int),((n+k+1:Nat):Int),chB c,chB c⟩
  | 0,h=>by cases h
  | L + 1,h=>by
    rw[copA,zdf] at h
    rcases List.mem_append.1 h with h|h
    · obtain⟨k,hk,r⟩:=zgc h
      exact⟨k,by omega,r⟩
    · obtain⟨c,hc,rfl⟩:=zfz h
      exact⟨L,by omega,c,hc,by congr 1;omega⟩
theorem zrr{n k c:Nat}(hc:c<26):∀ {L:Nat},k<L→(⟨((n+k:Nat):Int),((n+k+1:Nat):Int),chB c,chB c⟩:ArcD)∈copA (n+1) n L
  | 0,h=>by omega
  | L + 1,h=>by
    rw[copA,zdf]
    by_cases hk:k=L
    · subst hk
      refine List.mem_append.2 (.inr ?_)
      have:((n+1:Nat):Int)+(k:Int)=((n+k+1:Nat):Int):=by omega
      rw[this]
      exact zmw hc
    · exact List.mem_append.2 (.inl (zrr hc (by omega)))
theorem zdg{n:Nat}{t:ByteArray}{a:ArcD}:∀ {K:Nat},a∈zcW (n+1) n t K→∃k,k<K∧a=⟨((n+k:Nat):Int),((n+k+1:Nat):Int),t.extract k (k+1),eB⟩
  | 0,h=>by cases h
  | K + 1,h=>by
    rw[zcW,zdf] at h
    rcases List.mem_append.1 h with h|h
    · obtain⟨k,hk,r⟩:=zdg h
      exact⟨k,by omega,r⟩
    · exact⟨K,by omega,by rw[List.mem_singleton.1 h];congr 1;omega⟩
theorem zh3{n k:Nat}{t:ByteArray}:∀ {K:Nat},k<K→(⟨((n+k:Nat):Int),((n+k+1:Nat):Int),t.extract k (k+1),eB⟩:ArcD)∈zcW (n+1) n t K
  | 0,h=>by omega
  | K + 1,h=>by
    rw[zcW,zdf]
    by_cases hk:k=K
    · subst hk
      refine List.mem_append.2 (.inr ?_)
      have:((n+1:Nat):Int)+(k:Int)=((n+k+1:Nat):Int):=by omega
      rw[this]
      exact List.mem_singleton.2 rfl
    · exact List.mem_append.2 (.inl (zh3 (by omega)))
theorem zgh{n:Nat}{fr to:Int}{t:ByteArray}:zd5 1 n fr to t=if 24<t.size then [⟨fr,n,eB,t.extract 0 24⟩,⟨n,to,eB,t.extract 24 t.size⟩] else [⟨fr,to,eB,t⟩]:=by
  rw[zd5];rfl
theorem zkb{t:ByteArray}:zdD 1 t=if 24<t.size then 1 else 0:=by rw[zdD];rfl
def zdT (b:BSt) (mk:ByteArray) (L:Nat) (suf T:ByteArray):BSt:=
  ⟨b.n+1+L+suf.size,b.A++([⟨0,b.n,eB,mk⟩]++copA (b.n+1) b.n L++zcd ((b.n+L:Nat):Int) ((b.n+L:Nat):Int) 26++zcW (b.n+L+1) ((b.n+L:Nat):Int) suf suf.size++[⟨((b.n+L+suf.size:Nat):Int),1,eB,T⟩])⟩
theorem zeQ{r:RuleD}(h:zd3 r=true) (b:BSt):zc6 b r=zdT b (mkB 50) (zcL r).toNat r.suf (rulT r):=by
  have hT:=(zd8 h b).2.2.2.1
  unfold zc6 zdT
  rw[zkb,zgh,if_neg (by omega),if_neg (by omega)]
  have e1:b.n+1+(zcL r).toNat=b.n+(zcL r).toNat+1:=by omega
  simp only[zdf,e1,Nat.add_zero,List.append_assoc]
theorem zeW (b:BSt):zee b=zdT b (mkB 51) 1 eB slB:=by
  unfold zee zdT
  have h1:copA (b.n+1) b.n 1=zcd (b.n:Int) ((b.n:Int)+1) 26:=by
    show []++zcd (zbp (b.n+1) b.n 0) (((b.n+1:Nat):Int)+(0:Nat)) 26=_
    rw[zdf,List.nil_append]
    rfl
  rw[h1]
  simp only[List.append_assoc]
  rfl
theorem zeX (b:BSt) (f:FormD):zc9 b f=⟨b.n+1+f.word.size+zdD 1 (zcs f),b.A++([⟨0,b.n,eB,mkB 49⟩]++zcW (b.n+1) b.n f.word f.word.size++zd5 1 (b.n+1+f.word.size) ((b.n+f.word.size:Nat):Int) 1 (zcs f))⟩:=by
  unfold zc9
  simp only[zdf,List.append_assoc]
theorem zcR{t:ByteArray}{k:Nat}(h:k<t.size):(t.extract k (k+1)).size=1:=by rw[ByteArray.size_extract];omega
theorem zqw{b:BSt}{mk suf T:ByteArray}{L:Nat}(h2:2≤b.n) (h:AllG b.n b.A) (hm:mk.size≤24) (hT:T.size≤24):AllG (zdT b mk L suf T).n (zdT b mk L suf T).A:=by
  refine(h.mono (by simp only[zdT];omega)).app fun a ha=>?_
  simp only[List.mem_append,List.mem_singleton] at ha
  rcases ha with (((rfl|ha)|ha)|ha)|rfl
  · exact⟨by simp,by simp only[zdT];omega,by simp only[];omega,by simp only[zdT];omega,sz_e,hm,fun _=>⟨by simp,.inr (by simp only[];omega)⟩⟩
  · obtain⟨k,hk,c,hc,rfl⟩:=zgc ha
    exact⟨by simp only[];omega,by simp only[zdT];omega,by simp only[];omega,by simp only[zdT];omega,Nat.le_refl _,sz_c,fun hs=>(zhY rfl hs).elim⟩
  · obtain⟨c,hc,rfl⟩:=zfz ha
    exact⟨by simp only[];omega,by simp only[zdT];omega,by simp only[];omega,by simp only[zdT];omega,Nat.le_refl _,sz_c,fun hs=>(zhY rfl hs).elim⟩
  · obtain⟨k,hk,rfl⟩:=zdg ha
    exact⟨by simp only[];omega,by simp only[zdT];omega,by simp only[];omega,by simp only[zdT];omega,Nat.le_of_eq (zcR hk),sz_e,fun hs=>(zhY (zcR hk) hs).elim⟩
  · exact⟨by simp only[];omega,by simp only[zdT];omega,by simp,by simp only[zdT];omega,sz_e,hT,fun _=>⟨by simp only[];omega,.inl rfl⟩⟩
theorem form_G{b:BSt}{f:FormD}(h2:2≤b.n) (h:AllG b.n b.A) (hT:(zcs f).size≤48):AllG (zc9 b f).n (zc9 b f).A:=by
  rw[zeX]
  refine(h.mono (by simp only[];omega)).app fun a ha=>?_
  simp only[List.mem_append,List.mem_singleton] at ha
  rcases ha with (rfl|ha)|ha
  · exact⟨by simp,by simp only[];omega,by simp only[];omega,by simp only[];omega,sz_e,sz_m,fun _=>⟨by simp,.inr (by simp only[];omega)⟩⟩
  · obtain⟨k,hk,rfl⟩:=zdg ha
    exact⟨by simp only[];omega,by simp only[];omega,by simp only[];omega,by simp only[];omega,Nat.le_of_eq (zcR hk),sz_e,fun hs=>(zhY (zcR hk) hs).elim⟩
  · rw[zgh] at ha
    rw[zkb]
    split at ha
    · rename_i ht
      rw[if_pos ht]
      simp only[List.mem_cons,List.not_mem_nil,or_false] at ha
      rcases ha with rfl|rfl
      · exact⟨by simp only[];omega,by simp only[];omega,by simp only[];omega,by simp only[];omega,sz_e,by simp only[ByteArray.size_extract];omega,fun _=>⟨by simp only[];omega,.inr (by simp only[];omega)⟩⟩
      · exact⟨by simp only[];omega,by simp only[];omega,by simp,by simp only[];omega,sz_e,by simp only[ByteArray.size_extract];omega,fun _=>⟨by simp only[];omega,.inl rfl⟩⟩
    · rename_i ht
      rw[if_neg ht]
      rw[List.mem_singleton.1 ha]
      exact⟨by simp only[];omega,by simp only[];omega,by simp,by simp only[];omega,sz_e,by simp only[];omega,fun _=>⟨by simp only[];omega,.inl rfl⟩⟩
theorem mach_G{x:LexD}(h:zbc x=0):2≤(zcn (zbD x.forms) x.rules).n∧AllG (zcn (zbD x.forms) x.rules).n (zcn (zbD x.forms) x.rules).A∧(zcn (zbD x.forms) x.rules).n≤2242∧(zcn (zbD x.forms) x.rules).A.length≤9568:=by
  obtain⟨hf,hr,hfl,hrl⟩:=zcB h
  have hforms:∀l:List FormD,(∀f,f∈l→zeD f=true)→∀b:BSt,2≤b.n→AllG b.n b.A→2≤(l.foldl zc9 b).n∧AllG (l.foldl zc9 b).n (l.foldl zc9 b).A∧(l.foldl zc9 b).n≤b.n+26 * l.length∧(l.foldl zc9 b).A.length≤b.A.length+27 * l.length:=by
    intro l
    induction l with
    | nil=>intro _ b h1 h2;exact⟨h1,h2,by simp,by simp⟩
    | cons f l ih=>
      intro hl b h1 h2
      obtain⟨g1,g2,g3,g4,_⟩:=zgb (hl f (List.mem_cons_self ..)) b
      have hg:=form_G (f:=f) h1 h2 (by omega)
      have hn:2≤(zc9 b f).n:=by simp only[zc9];omega
      obtain⟨i1,i2,i3,i4⟩:=ih (fun x hx=>hl x (List.mem_cons_of_mem _ hx)) _ hn hg
      refine⟨i1,i2,?_,?_⟩
      · rw[List.foldl_cons,List.length_cons];omega
      · rw[List.foldl_cons,List.length_cons];omega
  have hrules:∀l:List RuleD,(∀f,f∈l→zd3 f=true)→∀b:BSt,2≤b.n→AllG b.n b.A→2≤(l.foldl zc6 b).n∧AllG (l.foldl zc6 b).n (l.foldl zc6 b).A∧(l.foldl zc6 b).n≤b.n+18 * l.length∧(l.foldl zc6 b).A.length≤b.A.length+245 * l.length:=by
    intro l
    induction l with
    | nil=>intro _ b h1 h2;exact⟨h1,h2,by simp,by simp⟩
    | cons f l ih=>
      intro hl b h1 h2
      have hfr:=hl f (List.mem_cons_self ..)
      obtain⟨g1,g2,g3,g4,_⟩:=zd8 hfr b
      have hg:AllG (zc6 b f).n (zc6 b f).A:=by rw[zeQ hfr];exact zqw h1 h2 sz_m (by omega)
      have hn:2≤(zc6 b f).n:=by simp only[zc6];omega
      obtain⟨i1,i2,i3,i4⟩:=ih (fun x hx=>hl x (List.mem_cons_of_mem _ hx)) _ hn hg
      refine⟨i1,i2,?_,?_⟩
      · rw[List.foldl_cons,List.length_cons];omega
      · rw[List.foldl_cons,List.length_cons];omega
  obtain⟨a1,a2,a3,a4⟩:=hforms x.forms hf ⟨2,[]⟩ (by decide) (fun a ha=>by cases ha)
  obtain⟨b1,b2,b3,b4⟩:=hrules x.rules hr (zbD x.forms) a1 a2
  have e1:(zbD x.forms).n≤2+26 * x.forms.length:=a3
  have e2:(zbD x.forms).A.length≤0+27 * x.forms.length:=a4
  have e3:(zcn (zbD x.forms) x.rules).n≤(zbD x.forms).n+18 * x.rules.length:=b3
  have e4:(zcn (zbD x.forms) x.rules).A.length≤(zbD x.forms).A.length+245 * x.rules.length:=b4
  exact⟨b1,b2,by omega,by omega⟩
theorem zfL{x:LexD}(h:zbc x=0):ValidM (zbH x):=by
  obtain⟨h1,h2,h3,h4⟩:=mach_G h
  have hn:(zbH x).states=(((zcn (zbD x.forms) x.rules).n+2:Nat):Int):=rfl
  have hA:(zbH x).arcs.length≤16384:=by
    show(zee _).A.length≤_
    simp only[zee,List.length_append,zbN,List.length_cons,List.length_nil];omega
  have hG:AllG ((zcn (zbD x.forms) x.rules).n+2) (zbH x).arcs:=by
    show AllG _ (zee _).A
    rw[zeW]
    exact zqw h1 h2 sz_m sz_m
  refine⟨⟨by omega,by omega⟩,hA,⟨Int.le_refl 0,by rw[hn];show(0:Int)<_;omega⟩,?_,List.all_eq_true.2 fun a ha=>?_,?_⟩
  · intro i hi
    have h0:i=0:=by
      have:(zbH x).fin.length=1:=rfl
      omega
    subst h0
    exact⟨isM_iff.2 ⟨(by show(0:Int)≤1;decide),by rw[hn];show(1:Int)<_;omega⟩,fun h=>absurd h (by decide)⟩
  · obtain⟨g1,g2,g3,g4,g5,g6,_⟩:=hG a ha
    exact arcOk_iff.2 ⟨isM_iff.2 ⟨g1,by rw[hn];exact g2⟩,isM_iff.2 ⟨g3,by rw[hn];exact g4⟩,g5,g6⟩
  · refine⟨fun v=>if v=1 then (zcn (zbD x.forms) x.rules).n+2 else v.toNat,fun a ha hs=>?_⟩
    obtain⟨g1,g2,g3,g4,g5,g6,g7⟩:=hG a ha
    obtain⟨k1,k2⟩:=g7 hs
    simp only[]
    rw[if_neg k1]
    split
    · omega
    · rcases k2 with k2|k2
      · contradiction
      · omega
theorem zgH{x:LexD}(hv:zbc x=0):HeldM (zbH x):=by
  have h:=zfL hv
  obtain⟨s1,s2⟩:=h.states
  have hn:=h.narcs
  refine⟨⟨by omega,by omega⟩,by unfold I64 zbH;simp,⟨fun a ha=>by rw[List.mem_singleton.1 ha];unfold I64;omega,by show 1≤_;omega⟩,by omega,fun a ha=>?_⟩
  obtain⟨h1,h2,h3,h4⟩:=arcOk_iff.1 (List.all_eq_true.1 h.arcs a ha)
  obtain⟨a1,a2⟩:=isM_iff.1 h1
  obtain⟨b1,b2⟩:=isM_iff.1 h2
  exact⟨⟨by omega,by omega⟩,⟨by omega,by omega⟩,by omega,by omega⟩
theorem zrl (w:ByteArray):(bl w).drop w.size=[]:=List.drop_eq_nil_of_le (Nat.le_refl _)
theorem zmv (a b:List UInt8) (j:Nat):(a++b).drop (a.length+j)=b.drop j:=by rw[←List.drop_drop];simp
def lowW (l:List UInt8):Prop:=∀c,c∈l→lowB c=true
theorem lowS_L (s:ByteArray):lowS s=true↔lowW (bl s):=List.all_eq_true
theorem lowB_chB{c:UInt8}(h:lowB c=true):∃k:Nat,k<26∧([c]:List UInt8)=bl (chB k):=by
  unfold lowB at h
  rw[Bool.and_eq_true,decide_eq_true_eq,decide_eq_true_eq] at h
  refine⟨c.toNat - 97,by omega,?_⟩
  show [c]=[UInt8.ofNat (97+(c.toNat - 97))]
  rw[show 97+(c.toNat - 97)=c.toNat by omega,UInt8.ofNat_toNat]
theorem zqR:∀k,k<26→lowW (bl (chB k)):=fun k hk c hc=>by
  obtain rfl:c=UInt8.ofNat (97+k):=List.mem_singleton.1 hc
  unfold lowB
  rw[Bool.and_eq_true,decide_eq_true_eq,decide_eq_true_eq,UInt8.toNat_ofNat',Nat.mod_eq_of_lt (by omega)]
  omega
structure Sem (w:ByteArray) (Res:ByteArray→Prop) (b:BSt) (G:Int→Nat→ByteArray→Prop):Prop where
  n2:2≤b.n
  inn:AllG b.n b.A
  lt:∀q k x,G q k x→q<b.n
  one:∀k x,G 1 k x↔k=w.size∧x=⟨#[]⟩
  zero:∀k x,G 0 k x↔(k=0→Res x)
  closed:Closed w b.A G
theorem Sem.start (w:ByteArray) (Res:ByteArray→Prop):Sem w Res ⟨2,[]⟩ (fun q k x=>(q=1∧k=w.size∧x=⟨#[]⟩)∨(q=0∧(k=0→Res x))):=by
  refine⟨Nat.le_refl _,(fun a ha=>by cases ha),fun q k x h=>?_,fun k x=>?_,fun k x=>?_,(fun a ha=>by cases ha)⟩
  · show q<2
    rcases h with h|h
    · have:=h.1;omega
    · have:=h.1;omega
  · simp
  · simp
theorem Sem.step{w:ByteArray}{Res:ByteArray→Prop}{b b':BSt}{G:Int→Nat→ByteArray→Prop}(h:Sem w Res b G) {N:List ArcD}(hA:b'.A=b.A++N) (hG:AllG b'.n b'.A) (hn:b.n≤b'.n) (S:Int→Nat→ByteArray→Prop) (hS:∀q k x,S q k x→(b.n:Int)≤q∧q<b'.n)
    (h0:∀a,a∈N→a.fr=0→a.to=b.n∧a.inp=eB∧∀y,S b.n 0 y→Res (a.out++y))
    (h1:∀a,a∈N→a.fr≠0→(a.to=1∨(b.n:Int)≤a.to)∧∀k,k≤w.size→(bl w).drop k=bl a.inp++(bl w).drop (k+a.inp.size)→∀y,((a.to=1∧k+a.inp.size=w.size∧y=⟨#[]⟩)∨S a.to (k+a.inp.size) y)→S a.fr k (a.out++y)):
    Sem w Res b' (fun q k x=>G q k x∨S q k x):=by
  have hb:=h.n2
  refine⟨by omega,hG,fun q k x hx=>?_,fun k x=>?_,fun k x=>?_,?_⟩
  · rcases hx with hx|hx
    · have:=h.lt q k x hx;omega
    · exact(hS q k x hx).2
  · rw[←h.one]
    exact⟨fun hx=>hx.elim id fun hx=>by have:=(hS _ k x hx).1;omega,.inl⟩
  · rw[←h.zero]
    exact⟨fun hx=>hx.elim id fun hx=>by have:=(hS _ k x hx).1;omega,.inl⟩
  · intro a ha k hk hp y hy
    rw[hA] at ha
    rcases List.mem_append.1 ha with ha|ha
    · rcases hy with hy|hy
      · exact .inl (h.closed a ha k hk hp y hy)
      · have:=(hS _ _ _ hy).1
        have:=(h.inn a ha).2.2.2.1
        omega
    · by_cases hf:a.fr=0
      · obtain⟨e1,e2,e3⟩:=h0 a ha hf
        refine .inl ?_
        rw[hf]
        refine(h.zero _ _).2 fun hk0=>?_
        rw[e1,e2] at hy
        subst hk0
        rcases hy with hy|hy
        · have:=h.lt _ _ _ hy;omega
        · exact e3 y hy
      · obtain⟨e1,e2⟩:=h1 a ha hf
        refine .inr (e2 k hk hp y ?_)
        rcases hy with hy|hy
        · rcases e1 with e1|e1
          · rw[e1] at hy
            exact .inl ⟨e1,(h.one _ _).1 hy⟩
          · have:=h.lt _ _ _ hy;omega
        · exact .inr hy
def partS (w:ByteArray) (n L:Nat) (suf T:ByteArray) (q:Int) (k:Nat) (x:ByteArray):Prop:=
  ∃i:Nat,q=((n+i:Nat):Int)∧((i≤L∧∃p:List UInt8,(bl w).drop k=p++bl suf∧lowW p∧L≤p.length+i∧x=ofl p++T)∨(L<i∧i≤L+suf.size∧(bl w).drop k=(bl suf).drop (i - L)∧x=T))
theorem zk1 (a b:List UInt8) (T:ByteArray):ofl a++(ofl b++T)=ofl (a++b)++T:=zcE (by simp[ze1,zrv])
theorem Sem.part{w:ByteArray}{Res:ByteArray→Prop}{b:BSt}{G:Int→Nat→ByteArray→Prop}(h:Sem w Res b G) {mk suf T:ByteArray}{L:Nat}(hm:mk.size≤24) (hT:T.size≤24)
    (hR:∀p:List UInt8,bl w=p++bl suf→lowW p→L≤p.length→Res (mk++(ofl p++T))):∃G',Sem w Res (zdT b mk L suf T) G':=by
  refine⟨_,h.step (N:=[⟨0,b.n,eB,mk⟩]++copA (b.n+1) b.n L++zcd ((b.n+L:Nat):Int) ((b.n+L:Nat):Int) 26++zcW (b.n+L+1) ((b.n+L:Nat):Int) suf suf.size++[⟨((b.n+L+suf.size:Nat):Int),1,eB,T⟩]) rfl (zqw h.n2 h.inn hm hT) (by simp only[zdT];omega) (partS w b.n L suf T) ?_ ?_ ?_⟩
  · rintro q k x ⟨i,rfl,hx⟩
    refine⟨by omega,?_⟩
    simp only[zdT]
    rcases hx with ⟨hi,_⟩|⟨_,hi,_⟩<;>omega
  · intro a ha hf
    have hb:=h.n2
    simp only[List.mem_append,List.mem_singleton] at ha
    rcases ha with (((rfl|ha)|ha)|ha)|rfl
    · refine⟨rfl,rfl,?_⟩
      rintro y ⟨i,hi,hy⟩
      obtain rfl:i=0:=by omega
      rcases hy with ⟨_,p,h1,h2,h3,rfl⟩|⟨h1,_⟩
      · exact hR p (by simpa using h1) h2 (by omega)
      · omega
    · obtain⟨k,hk,c,hc,rfl⟩:=zgc ha
      simp only[] at hf;omega
    · obtain⟨c,hc,rfl⟩:=zfz ha
      simp only[] at hf;omega
    · obtain⟨k,hk,rfl⟩:=zdg ha
      simp only[] at hf;omega
    · simp only[] at hf;omega
  · intro a ha hf
    have hb:=h.n2
    simp only[List.mem_append,List.mem_singleton] at ha
    rcases ha with (((rfl|ha)|ha)|ha)|rfl
    · exact absurd rfl hf
    · obtain⟨i,hi,c,hc,rfl⟩:=zgc ha
      refine⟨.inr (by simp only[];omega),fun k hk hp y hy=>?_⟩
      rcases hy with ⟨e,_⟩|⟨j,hj,hy⟩
      · simp only[] at e;omega
      · obtain rfl:j=i+1:=by simp only[] at hj;omega
        rcases hy with ⟨_,p,h1,h2,h3,rfl⟩|⟨h1,_⟩
        · refine⟨i,rfl,.inl ⟨by omega,bl (chB c)++p,?_,fun d hd=>?_,?_,?_⟩⟩
          · rw[hp,List.append_assoc,←h1]
          · exact(List.mem_append.1 hd).elim (zqR c hc d) (h2 d)
          · rw[List.length_append];show L≤1+p.length+i;omega
          · rw[←zk1,zhw]
        · omega
    · obtain⟨c,hc,rfl⟩:=zfz ha
      refine⟨.inr (by simp only[];omega),fun k hk hp y hy=>?_⟩
      rcases hy with ⟨e,_⟩|⟨j,hj,hy⟩
      · simp only[] at e;omega
      · obtain rfl:j=L:=by simp only[] at hj;omega
        rcases hy with ⟨_,p,h1,h2,h3,rfl⟩|⟨h1,_⟩
        · refine⟨j,rfl,.inl ⟨by omega,bl (chB c)++p,?_,fun d hd=>?_,?_,?_⟩⟩
          · rw[hp,List.append_assoc,←h1]
          · exact(List.mem_append.1 hd).elim (zqR c hc d) (h2 d)
          · omega
          · rw[←zk1,zhw]
        · omega
    · obtain⟨j,hj,rfl⟩:=zdg ha
      refine⟨.inr (by simp only[];omega),fun k hk hp y hy=>?_⟩
      have hsz:=zcR hj
      have hd:(bl suf).drop j=bl (suf.extract j (j+1))++(bl suf).drop (j+1):=by
        rw[zeG,Nat.add_sub_cancel_left,←List.drop_drop,List.take_append_drop]
      rcases hy with ⟨e,_⟩|⟨i,hi,hy⟩
      · simp only[] at e;omega
      · obtain rfl:i=L+j+1:=by simp only[] at hi;omega
        rcases hy with ⟨h1,_⟩|⟨h1,h2,h3,rfl⟩
        · omega
        · have e:(bl w).drop k=(bl suf).drop j:=by
            rw[hp,h3,hd,show L+j+1 - L=j+1 by omega]
          by_cases hj0:j=0
          · subst hj0
            refine⟨L,by simp,.inl ⟨Nat.le_refl _,[],by simpa using e,(fun d hd=>by cases hd),by simp,?_⟩⟩
            exact(zcS _).trans (zcS _).symm
          · exact⟨L+j,by simp only[];congr 1;omega,.inr ⟨by omega,by omega,by rw[e,show L+j - L=j by omega],zcS _⟩⟩
    · refine⟨.inl rfl,fun k hk hp y hy=>?_⟩
      rcases hy with ⟨_,hkw,rfl⟩|⟨i,hi,hy⟩
      · have hk2:k=w.size:=hkw
        have e:(bl w).drop k=[]:=by rw[hk2];exact List.drop_eq_nil_of_le (Nat.le_refl _)
        have hx:T++(⟨#[]⟩:ByteArray)=T:=zdt T
        by_cases hs:suf.size=0
        · have e2:bl suf=[]:=List.length_eq_zero_iff.1 hs
          exact⟨L,by simp only[];congr 1;omega,.inl ⟨Nat.le_refl _,[],by rw[e,e2];rfl,(fun d hd=>by cases hd),by simp,hx.trans (zcS _).symm⟩⟩
        · exact⟨L+suf.size,by simp only[];congr 1;omega,.inr ⟨by omega,by omega,by rw[e,show L+suf.size - L=suf.size by omega];exact(List.drop_eq_nil_of_le (Nat.le_refl _)).symm,hx⟩⟩
      · simp only[] at hi;omega
def formS (w:ByteArray) (n:Nat) (f:FormD) (q:Int) (k:Nat) (x:ByteArray):Prop:=
  ∃i:Nat,q=((n+i:Nat):Int)∧((i≤f.word.size∧(bl w).drop k=(bl f.word).drop i∧x=zcs f)∨(i=f.word.size+1∧24<(zcs f).size∧k=w.size∧x=(zcs f).extract 24 (zcs f).size))
theorem zrm (t:ByteArray):t.extract 0 24++t.extract 24 t.size=t:=zcE (by rw[ze1,zdr,zeG,List.drop_zero,List.take_append_drop])
theorem Sem.form{w:ByteArray}{Res:ByteArray→Prop}{b:BSt}{G:Int→Nat→ByteArray→Prop}(h:Sem w Res b G) {f:FormD}(hT:(zcs f).size≤48) (hR:f.word=w→Res (mkB 49++zcs f)):∃G',Sem w Res (zc9 b f) G':=by
  have hG:=form_G h.n2 h.inn hT
  refine⟨_,h.step (N:=[⟨0,b.n,eB,mkB 49⟩]++zcW (b.n+1) b.n f.word f.word.size++zd5 1 (b.n+1+f.word.size) ((b.n+f.word.size:Nat):Int) 1 (zcs f)) (by rw[zeX]) hG (by rw[zeX];simp only[];omega) (formS w b.n f) ?_ ?_ ?_⟩
  · rintro q k x ⟨i,rfl,hx⟩
    refine⟨by omega,?_⟩
    rw[zeX,zkb]
    simp only[]
    rcases hx with ⟨hi,_⟩|⟨hi,ht,_⟩
    · split<;>omega
    · rw[if_pos ht];omega
  · intro a ha hf
    have hb:=h.n2
    simp only[List.mem_append,List.mem_singleton] at ha
    rcases ha with (rfl|ha)|ha
    · refine⟨rfl,rfl,?_⟩
      rintro y ⟨i,hi,hy⟩
      obtain rfl:i=0:=by omega
      rcases hy with ⟨_,h1,rfl⟩|⟨h1,_⟩
      · exact hR (zcE (by simpa using h1.symm))
      · omega
    · obtain⟨k,hk,rfl⟩:=zdg ha
      simp only[] at hf;omega
    · rw[zgh] at ha
      split at ha
      · simp only[List.mem_cons,List.not_mem_nil,or_false] at ha
        rcases ha with rfl|rfl<;>(simp only[] at hf;omega)
      · rw[List.mem_singleton.1 ha] at hf;simp only[] at hf;omega
  · intro a ha hf
    have hb:=h.n2
    simp only[List.mem_append,List.mem_singleton] at ha
    rcases ha with (rfl|ha)|ha
    · exact absurd rfl hf
    · obtain⟨j,hj,rfl⟩:=zdg ha
      refine⟨.inr (by simp only[];omega),fun k hk hp y hy=>?_⟩
      have hsz:=zcR hj
      have hd:(bl f.word).drop j=bl (f.word.extract j (j+1))++(bl f.word).drop (j+1):=by
        rw[zeG,Nat.add_sub_cancel_left,←List.drop_drop,List.take_append_drop]
      rcases hy with ⟨e,_⟩|⟨i,hi,hy⟩
      · simp only[] at e;omega
      · obtain rfl:i=j+1:=by simp only[] at hi;omega
        rcases hy with ⟨h1,h3,rfl⟩|⟨h1,_⟩
        · exact⟨j,rfl,.inl ⟨by omega,by rw[hp,h3,hd],zcS _⟩⟩
        · omega
    · rw[zgh] at ha
      have hend:∀k,k+eB.size=w.size→k=w.size:=fun k hk=>hk
      have hdr:∀k,k=w.size→(bl w).drop k=(bl f.word).drop f.word.size:=fun k hk=>by
        rw[hk,zrl,zrl]
      split at ha
      · rename_i ht
        simp only[List.mem_cons,List.not_mem_nil,or_false] at ha
        rcases ha with rfl|rfl
        · refine⟨.inr (by simp only[];omega),fun k hk hp y hy=>?_⟩
          rcases hy with ⟨e,_⟩|⟨i,hi,hy⟩
          · simp only[] at e;omega
          · obtain rfl:i=f.word.size+1:=by simp only[] at hi;omega
            rcases hy with ⟨h1,_⟩|⟨_,_,h3,rfl⟩
            · omega
            · exact⟨f.word.size,rfl,.inl ⟨Nat.le_refl _,hdr k (hend k h3),zrm _⟩⟩
        · refine⟨.inl rfl,fun k hk hp y hy=>?_⟩
          rcases hy with ⟨_,h3,rfl⟩|⟨i,hi,hy⟩
          · exact⟨f.word.size+1,by simp only[];congr 1;omega,.inr ⟨rfl,ht,hend k h3,zdt _⟩⟩
          · simp only[] at hi;omega
      · rename_i ht
        rw[List.mem_singleton.1 ha]
        refine⟨.inl rfl,fun k hk hp y hy=>?_⟩
        rcases hy with ⟨_,h3,rfl⟩|⟨i,hi,hy⟩
        · exact⟨f.word.size,rfl,.inl ⟨Nat.le_refl _,hdr k (hend k h3),zdt _⟩⟩
        · simp only[] at hi;omega
def ResL (x:LexD) (w:ByteArray) (y:ByteArray):Prop:=
  (∃f,f∈x.forms∧f.word=w∧y=mkB 49++zcs f)∨(∃r,r∈x.rules∧∃p:List UInt8,bl w=p++bl r.suf∧lowW p∧(zcL r).toNat≤p.length∧y=mkB 50++(ofl p++rulT r))∨(lowW (bl w)∧1≤w.size∧y=mkB 51++(w++slB))
theorem zqy{x:LexD}{w y:ByteArray}(hv:zbc x=0) (h:OutR (zbH x) w 0 0 y):ResL x w y:=by
  obtain⟨hf,hr,_,_⟩:=zcB hv
  have hforms:∀l:List FormD,(∀f,f∈l→f∈x.forms)→∀b:BSt,(∃G,Sem w (ResL x w) b G)→∃G,Sem w (ResL x w) (l.foldl zc9 b) G:=by
    intro l
    induction l with
    | nil=>intro _ b hb;exact hb
    | cons f l ih=>
      rintro hl b ⟨G,hG⟩
      have hm:=hl f (List.mem_cons_self ..)
      exact ih (fun x hx=>hl x (List.mem_cons_of_mem _ hx)) _ (hG.form (by have:=(zgb (hf f hm) b).2.2.2.1;omega) fun e=>.inl ⟨f,hm,e,rfl⟩)
  have hrules:∀l:List RuleD,(∀f,f∈l→f∈x.rules)→∀b:BSt,(∃G,Sem w (ResL x w) b G)→∃G,Sem w (ResL x w) (l.foldl zc6 b) G:=by
    intro l
    induction l with
    | nil=>intro _ b hb;exact hb
    | cons r l ih=>
      rintro hl b ⟨G,hG⟩
      have hm:=hl r (List.mem_cons_self ..)
      refine ih (fun x hx=>hl x (List.mem_cons_of_mem _ hx)) _ ?_
      rw[zeQ (hr r hm)]
      exact hG.part sz_m (by have:=(zd8 (hr r hm) b).2.2.2.1;omega) fun p h1 h2 h3=>.inr (.inl ⟨r,hm,p,h1,h2,h3,rfl⟩)
  obtain⟨G,hG⟩:=hrules x.rules (fun _ h=>h) _ (hforms x.forms (fun _ h=>h) ⟨2,[]⟩ ⟨_,Sem.start w (ResL x w)⟩)
  have hG2:∃G',Sem w (ResL x w) (zee (zcn (zbD x.forms) x.rules)) G':=by
    rw[zeW]
    refine Sem.part hG sz_m sz_m fun p h1 h2 h3=>.inr (.inr ?_)
    have e:bl w=p:=by rw[h1];exact List.append_nil p
    rw[←e] at h2 h3
    exact⟨h2,h3,by rw[←e,zhw]⟩
  obtain⟨G',hG'⟩:=hG2
  exact(hG'.zero 0 y).1 (znC (G:=G') (fun q hq=>by rw[List.mem_singleton.1 hq];exact(hG'.one _ _).2 ⟨rfl,rfl⟩) hG'.closed h) rfl
theorem zlX{m:MachD}{w p0 suf T mk:ByteArray}{n L:Nat}{p:List UInt8}(hf:(1:Int)∈m.fin) (ha:∀a,a∈[⟨0,n,eB,mk⟩]++copA (n+1) n L++zcd ((n+L:Nat):Int) ((n+L:Nat):Int) 26++zcW (n+L+1) ((n+L:Nat):Int) suf suf.size++[⟨((n+L+suf.size:Nat):Int),1,eB,T⟩]→a∈m.arcs)
    (hw:bl w=p++bl suf) (hp:lowW p) (hL:L≤p.length):OutR m w 0 0 (mk++(ofl p++T)):=by
  have hsz:w.size=p.length+suf.size:=by rw[←zc4,hw,List.length_append,zc4]
  simp only[List.mem_append,List.mem_singleton] at ha
  have hend:OutR m w 1 w.size ⟨#[]⟩:=.fin 1 hf
  have h1:OutR m w ((n+L+suf.size:Nat):Int) w.size T:=by
    have:=OutR.silent (ha _ (.inr rfl)) (Nat.le_refl _) hend
    rwa [zdt] at this
  have h2:∀d,d≤suf.size→OutR m w ((n+L+(suf.size - d):Nat):Int) (p.length+(suf.size - d)) T:=by
    intro d
    induction d with
    | zero=>intro _;rw[Nat.sub_zero,←hsz];exact h1
    | succ d ih=>
      intro hd
      have ih:=ih (by omega)
      obtain⟨j,hj⟩:∃j,suf.size - (d+1)=j:=⟨_,rfl⟩
      rw[show suf.size - d=j+1 by omega] at ih
      rw[hj]
      have hjs:j<suf.size:=by omega
      have hes:=zcR hjs
      have:OutR m w ((n+L+j:Nat):Int) (p.length+j) (eB++T):=OutR.step (w:=w) (a:=⟨((n+L+j:Nat):Int),((n+L+j+1:Nat):Int),suf.extract j (j+1),eB⟩) (k:=p.length+j) (y:=T) (ha _ (.inl (.inr (zh3 hjs)))) (by omega) (by
        simp only[hes]
        rw[hw,zmv,Nat.add_assoc p.length j 1,zmv,zeG,Nat.add_sub_cancel_left,←List.drop_drop,List.take_append_drop]) (by
        simp only[hes];exact ih)
      rwa [show eB++T=T from zcS T] at this
  have h3 : ∀d,d≤p.length→OutR m w ((n+min (p.length - d) L:Nat):Int) (p.length - d) (ofl (p.drop (p.length - d))++T):=by
    intro d
    induction d with
    | zero=>
      intro _
      have:=h2 suf.size (Nat.le_refl _)
      rw[Nat.sub_self] at this
      rw[Nat.sub_zero,List.drop_eq_nil_of_le (Nat.le_refl _),Nat.min_eq_right hL]
      rwa [show ofl []++T=T from zcS T]
    | succ d ih=>
      intro hd
      have ih:=ih (by omega)
      obtain⟨j,hj⟩:∃j,p.length - (d+1)=j:=⟨_,rfl⟩
      rw[show p.length - d=j+1 by omega] at ih
      rw[hj]
      have hjs:j<p.length:=by omega
      obtain⟨c,hc,hcb⟩:=lowB_chB (hp p[j] (List.getElem_mem hjs))
      have hdr:p.drop j=bl (chB c)++p.drop (j+1):=by rw[←hcb];exact List.drop_eq_getElem_cons hjs
      have hmem:(⟨((n+min j L:Nat):Int),((n+min (j+1) L:Nat):Int),chB c,chB c⟩:ArcD)∈m.arcs:=by
        by_cases hjL:j<L
        · rw[Nat.min_eq_left (by omega),Nat.min_eq_left (by omega)]
          exact ha _ (.inl (.inl (.inl (.inr (zrr hc hjL)))))
        · rw[Nat.min_eq_right (by omega),Nat.min_eq_right (by omega)]
          exact ha _ (.inl (.inl (.inr (zmw hc))))
      have hcs:(chB c).size=1:=rfl
      have:=OutR.step (k:=j) (y:=ofl (p.drop (j+1))++T) hmem (by omega) (by
        simp only[hcs]
        rw[hw,List.drop_append,List.drop_append,hdr,List.append_assoc,show j - p.length=0 by omega,show j+1 - p.length=0 by omega]) ih
      have e:ofl (p.drop j)++T=chB c++(ofl (p.drop (j+1))++T):=by
        have:=zk1 (bl (chB c)) (p.drop (j+1)) T
        rw[zhw,←hdr] at this
        exact this.symm
      rw[e];exact this
  have h4:=h3 p.length (Nat.le_refl _)
  rw[Nat.sub_self,Nat.min_eq_left (Nat.zero_le _),List.drop_zero] at h4
  exact OutR.silent (ha _ (.inl (.inl (.inl (.inl rfl))))) (Nat.zero_le _) h4
theorem form_out{m:MachD}{w:ByteArray}{n:Nat}{f:FormD}(hf:(1:Int)∈m.fin) (ha:∀a,a∈[⟨0,n,eB,mkB 49⟩]++zcW (n+1) n f.word f.word.size++zd5 1 (n+1+f.word.size) ((n+f.word.size:Nat):Int) 1 (zcs f)→a∈m.arcs) (hw:f.word=w):OutR m w 0 0 (mkB 49++zcs f):=by
  subst hw
  simp only[List.mem_append,List.mem_singleton] at ha
  have hend:OutR m f.word 1 f.word.size ⟨#[]⟩:=.fin 1 hf
  have h1:OutR m f.word ((n+f.word.size:Nat):Int) f.word.size (zcs f):=by
    rw[zgh] at ha
    by_cases ht:24<(zcs f).size
    · rw[if_pos ht] at ha
      have g:=OutR.silent (ha _ (.inr (List.mem_cons_of_mem _ (List.mem_cons_self ..)))) (Nat.le_refl _) hend
      rw[zdt] at g
      have g2:=OutR.silent (ha _ (.inr (List.mem_cons_self ..))) (Nat.le_refl _) g
      rwa [zrm] at g2
    · rw[if_neg ht] at ha
      have g:=OutR.silent (ha _ (.inr (List.mem_cons_self ..))) (Nat.le_refl _) hend
      rwa [zdt] at g
  have h2:∀d,d≤f.word.size→OutR m f.word ((n+(f.word.size - d):Nat):Int) (f.word.size - d) (zcs f):=by
    intro d
    induction d with
    | zero=>intro _;exact h1
    | succ d ih=>
      intro hd
      have ih:=ih (by omega)
      obtain⟨j,hj⟩:∃j,f.word.size - (d+1)=j:=⟨_,rfl⟩
      rw[show f.word.size - d=j+1 by omega] at ih
      rw[hj]
      have hjs:j<f.word.size:=by omega
      have hes:=zcR hjs
      have:OutR m f.word ((n+j:Nat):Int) j (eB++zcs f):=OutR.step (w:=f.word) (a:=⟨((n+j:Nat):Int),((n+j+1:Nat):Int),f.word.extract j (j+1),eB⟩) (k:=j) (y:=zcs f) (ha _ (.inl (.inr (zh3 hjs)))) (by omega) (by
        simp only[hes]
        rw[zeG,Nat.add_sub_cancel_left,←List.drop_drop,List.take_append_drop]) (by
        simp only[hes];exact ih)
      rwa [show eB++zcs f=zcs f from zcS _] at this
  have h4:=h2 f.word.size (Nat.le_refl _)
  rw[Nat.sub_self] at h4
  exact OutR.silent (ha _ (.inl (.inl rfl))) (Nat.zero_le _) h4
theorem zq8 (l:List FormD) (b:BSt):∀a,a∈b.A→a∈(l.foldl zc9 b).A:=by
  induction l generalizing b with
  | nil=>intro a h;exact h
  | cons f l ih=>intro a h;exact ih _ a (by rw[zeX];exact List.mem_append.2 (.inl h))
theorem ziY (l:List RuleD) (hl:∀r,r∈l→zd3 r=true) (b:BSt):∀a,a∈b.A→a∈(l.foldl zc6 b).A:=by
  induction l generalizing b with
  | nil=>intro a h;exact h
  | cons f l ih=>intro a h;exact ih (fun r hr=>hl r (List.mem_cons_of_mem _ hr)) _ a (by rw[zeQ (hl f (List.mem_cons_self ..))];exact List.mem_append.2 (.inl h))
theorem zjf{x:LexD}{w y:ByteArray}(hv:zbc x=0) (h:ResL x w y):OutR (zbH x) w 0 0 y:=by
  obtain⟨hf,hr,_,_⟩:=zcB hv
  have hfin:(1:Int)∈(zbH x).fin:=List.mem_singleton.2 rfl
  have last:∀a,a∈(zcn (zbD x.forms) x.rules).A→a∈(zbH x).arcs:=fun a ha=>by
    show a∈(zee _).A
    rw[zeW];exact List.mem_append.2 (.inl ha)
  rcases h with ⟨f,hfm,e,rfl⟩|⟨r,hrm,p,h1,h2,h3,rfl⟩|⟨h1,h2,rfl⟩
  · obtain⟨l1,l2,hl⟩:=List.append_of_mem hfm
    refine form_out (n:=(l1.foldl zc9 ⟨2,[]⟩).n) hfin (fun a ha=>last a (ziY _ hr _ a ?_)) e
    show a∈(x.forms.foldl zc9 ⟨2,[]⟩).A
    rw[hl,List.foldl_append,List.foldl_cons]
    refine zq8 _ _ a ?_
    rw[zeX];exact List.mem_append.2 (.inr ha)
  · obtain⟨l1,l2,hl⟩:=List.append_of_mem hrm
    refine zlX (p0:=eB) (n:=(l1.foldl zc6 (zbD x.forms)).n) hfin (fun a ha=>last a ?_) h1 h2 h3
    show a∈(x.rules.foldl zc6 (zbD x.forms)).A
    rw[hl,List.foldl_append,List.foldl_cons]
    refine ziY _ (fun r hr'=>hr r (by rw[hl];exact List.mem_append.2 (.inr (List.mem_cons_of_mem _ hr')))) _ a ?_
    rw[zeQ (hr r hrm)];exact List.mem_append.2 (.inr ha)
  · have:=zlX (m:=zbH x) (w:=w) (p0:=eB) (suf:=eB) (T:=slB) (mk:=mkB 51) (n:=(zcn (zbD x.forms) x.rules).n) (L:=1) (p:=bl w) hfin (fun a ha=>by
      show a∈(zee _).A
      rw[zeW];exact List.mem_append.2 (.inr ha)) (by show bl w=bl w++[];rw[List.append_nil]) h1 h2
    rwa [zhw] at this
theorem zqz{x:LexD}{w y:ByteArray}(hv:zbc x=0):OutR (zbH x) w 0 0 y↔ResL x w y:=⟨zqy hv,zjf hv⟩
end Go.Proofs.Ytehoglapajkabaa
