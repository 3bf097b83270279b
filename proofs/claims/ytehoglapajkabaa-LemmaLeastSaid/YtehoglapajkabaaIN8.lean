/-
  Plain: what is known of a transducer's results while they are looked for.
-/
import Derived.Test.YtehoglapajkabaaIM42
import Derived.Test.YtehoglapajkabaaIM0
set_option linter.all false
namespace Go.Proofs.Ytehoglapajkabaa
open Go Go.RowKit
inductive EV where
  | raw (b:Nat)
  | fin (L:List ByteArray)
def encEV:EV→PV
  | .raw b=>.atom (.pointer (some ⟨b,0,none⟩))
  | .fin L=>finV L
def keyP (k:Int×Nat):PV:=.agg [encI k.1,encI k.2]
def entE (e:(Int×Nat)×EV):PV:=.tup [keyP e.1,encEV e.2]
theorem zht (v:EV):(encEV v).pure=true:=by
  cases v with
  | raw b=>rfl
  | fin L=>exact zb9 L
theorem zcp (l:List ((Int×Nat)×EV)):zaw (l.map entE)=true:=zbh entE (fun e=>by simp[entE,keyP,encI,PV.pure,zaw,zht]) l
theorem keyP_inj{a b:Int×Nat}(h:keyP a=keyP b):a=b:=by
  simp only[keyP,encI,PV.agg.injEq,List.cons.injEq,PV.atom.injEq,Value.int.injEq,true_and,and_true] at h
  obtain⟨h1,h2⟩:=h
  exact Prod.ext h1 (by omega)
def zbf (m:MachD) (q:Int):List Int:=(zbq m).getD q.toNat []
def kidM (m:MachD) (s:ByteArray) (at_:Nat) (j:Int):Option (Int×Nat):=if zbI (s.extract at_ s.size) (fC m.arcs j.toNat).inp=true then some ((fC m.arcs j.toNat).to,at_+(fC m.arcs j.toNat).inp.size) else none
def visK (m:MachD) (s:ByteArray):Nat→List (Int×Nat)→Int×Nat→List (Int×Nat)
  | 0,_,_=>[]
  | n+1,ks,k=>if k∈ks then [] else k :: (zbf m k.1).foldl (fun acc j=>match kidM m s k.2 j with|some c=>acc++visK m s n (ks++k :: acc) c|none=>acc) []
def visA (m:MachD) (s:ByteArray) (n:Nat) (ks:List (Int×Nat)) (k:Int×Nat) (p:Nat):List (Int×Nat):=((zbf m k.1).take p).foldl (fun acc j=>match kidM m s k.2 j with|some c=>acc++visK m s n (ks++k :: acc) c|none=>acc) []
theorem zgl{m:MachD}{s:ByteArray}{n:Nat}{ks:List (Int×Nat)}{k:Int×Nat}{p:Nat}(hp:p<(zbf m k.1).length):visA m s n ks k (p+1)=match kidM m s k.2 (li (zbf m k.1) p) with|some c=>visA m s n ks k p++visK m s n (ks++k :: visA m s n ks k p) c|none=>visA m s n ks k p:=by
  unfold visA
  rw[List.take_succ_eq_append_getElem hp,List.foldl_append,←zdm hp];rfl
theorem visK_hit{m:MachD}{s:ByteArray}{n:Nat}{ks:List (Int×Nat)}{k:Int×Nat}(h:k∈ks):visK m s (n+1) ks k=[]:=by rw[visK,if_pos h]
theorem zon{m:MachD}{s:ByteArray}{n:Nat}{ks:List (Int×Nat)}{k:Int×Nat}(h:k∉ks):visK m s (n+1) ks k=k :: visA m s n ks k (zbf m k.1).length:=by
  rw[visK,if_neg h,visA,List.take_length]
def zcP (l:List ((Int×Nat)×EV)):List (Int×Nat):=l.map (·.1)
noncomputable def finE (m:MachD) (s:ByteArray) (k:Int×Nat):(Int×Nat)×EV:=(k,.fin (outL m s k.1 k.2))
theorem zq0 (m:MachD) (s:ByteArray) (l:List (Int×Nat)):zcP (l.map (finE m s))=l:=by
  unfold zcP;rw[List.map_map];exact List.map_id'' (fun _=>rfl) l
def GoodE (m:MachD) (s:ByteArray) (mu:Int→Nat→Nat) (r:Nat) (l:List ((Int×Nat)×EV)):Prop:=∀e,e∈l→(e.2=.fin (outL m s e.1.1 e.1.2)∨r<mu e.1.1 e.1.2)∧I64 e.1.1∧e.1.2≤4294967296
theorem GoodE.mono{m:MachD}{s:ByteArray}{mu:Int→Nat→Nat}{r r':Nat}{l:List ((Int×Nat)×EV)}(h:GoodE m s mu r l) (hr:r'≤r):GoodE m s mu r' l:=fun e he=>⟨(h e he).1.imp id (fun g=>by omega),(h e he).2⟩
section
variable {P:Program} {m:MachD} {s:ByteArray} {mu:Int→Nat→Nat} {l:List ((Int×Nat)×EV)} {k:Int×Nat} {kt:TypeId}
theorem zli (K:PairKey P kt) {r:Nat}(hg:GoodE m s mu r l):∀e,e∈l.map entE→∃q v,e=.tup [q,v]∧zeg P kt q:=fun e he=>by
  obtain⟨x,hx,rfl⟩:=List.mem_map.1 he
  obtain⟨_,h1,h2⟩:=hg x hx
  exact⟨_,_,rfl,K.ok _ _ h1 ⟨by omega,by omega⟩⟩
theorem zjt (K:PairKey P kt) (hg:GoodE m s mu (mu k.1 k.2) l) (hk1:I64 k.1) (hk2:k.2≤4294967296) (hkn:k∈zcP l):MapGet P kt (l.map entE) (.agg [encI k.1,encI k.2]) (some (finV (outL m s k.1 k.2))):=by
  refine MapGet.hit K.law (zli K hg) (K.ok _ _ hk1 ⟨by omega,by omega⟩) ?_
  obtain⟨e,he,rfl⟩:=List.mem_map.1 hkn
  refine List.mem_map.2 ⟨e,he,?_⟩
  rcases(hg e he).1 with h|h
  · unfold entE keyP;rw[h];rfl
  · exact absurd h (Nat.lt_irrefl _)
theorem zq1 (hkn:k∉zcP l) (v:PV):PV.tup [.agg [encI k.1,encI k.2],v]∉l.map entE:=fun h=>by
  obtain⟨e,he,h1⟩:=List.mem_map.1 h
  unfold entE at h1
  have h2:keyP e.1=keyP k:=by
    have:=PV.tup.inj h1
    exact(List.cons.inj this).1
  exact hkn (List.mem_map.2 ⟨e,he,keyP_inj h2⟩)
theorem zhC (K:PairKey P kt) {r:Nat}(hg:GoodE m s mu r l) (hk1:I64 k.1) (hk2:k.2≤4294967296) (hkn:k∉zcP l):MapGet P kt (l.map entE) (.agg [encI k.1,encI k.2]) none:=
  MapGet.miss K.law (zli K hg) (K.ok _ _ hk1 ⟨by omega,by omega⟩) (zq1 hkn)
theorem zjs (K:PairKey P kt) {r:Nat}(hg:GoodE m s mu r l) (hk1:I64 k.1) (hk2:k.2≤4294967296) (hkn:k∉zcP l) (v:PV):MapPut P kt (l.map entE) (.agg [encI k.1,encI k.2]) v (l.map entE++[.tup [.agg [encI k.1,encI k.2],v]]):=
  ⟨K.law,zli K hg,K.ok _ _ hk1 ⟨by omega,by omega⟩,.inr ⟨zq1 hkn,rfl⟩⟩
end
def InP (m:MachD) (s:ByteArray) (k:Int×Nat) (p:Nat) (x:ByteArray):Prop:=(k.1∈m.fin∧k.2=s.size∧x=⟨#[]⟩)∨∃p',p'<p∧∃c,kidM m s k.2 (li (zbf m k.1) p')=some c∧∃y,OutR m s c.1 c.2 y∧x=(fC m.arcs (li (zbf m k.1) p').toNat).out++y
theorem zmJ{m:MachD}{s:ByteArray}{k:Int×Nat}{p:Nat}(h:kidM m s k.2 (li (zbf m k.1) p)=none) (x:ByteArray):InP m s k p x↔InP m s k (p+1) x:=by
  constructor
  · rintro(h1|⟨p',h1,h2⟩)
    · exact .inl h1
    · exact .inr ⟨p',by omega,h2⟩
  · rintro(h1|⟨p',h1,h2⟩)
    · exact .inl h1
    · rcases Nat.lt_succ_iff_lt_or_eq.1 h1 with h1|rfl
      · exact .inr ⟨p',h1,h2⟩
      · obtain⟨c,h3,_⟩:=h2
        rw[h] at h3;cases h3
theorem InP_some{m:MachD}{s:ByteArray}{k c:Int×Nat}{p:Nat}(h:kidM m s k.2 (li (zbf m k.1) p)=some c) (x:ByteArray):InP m s k (p+1) x↔InP m s k p x∨∃y,OutR m s c.1 c.2 y∧x=(fC m.arcs (li (zbf m k.1) p).toNat).out++y:=by
  constructor
  · rintro(h1|⟨p',h1,h2⟩)
    · exact .inl (.inl h1)
    · rcases Nat.lt_succ_iff_lt_or_eq.1 h1 with h1|rfl
      · exact .inl (.inr ⟨p',h1,h2⟩)
      · obtain⟨c',h3,h4⟩:=h2
        rw[h] at h3;cases h3
        exact .inr h4
  · rintro((h1|⟨p',h1,h2⟩)|h1)
    · exact .inl h1
    · exact .inr ⟨p',by omega,h2⟩
    · exact .inr ⟨p,Nat.lt_succ_self _,c,h,h1⟩
theorem zfi{m:MachD}{q:Int}(h0:0≤q) (h1:q<m.states) {p:Nat}(hp:p<(zbf m q).length):∃j0:Nat,li (zbf m q) p=(j0:Int)∧j0<m.arcs.length∧(fC m.arcs j0).fr=q:=by
  have hv:q.toNat<m.states.toNat:=by omega
  have hm:=zgK hp
  unfold zbf zbq at hm
  rw[zbM hv] at hm
  obtain⟨j,hj,e⟩:=List.mem_map.1 hm
  obtain⟨h1,h2⟩:=List.mem_filter.1 hj
  exact⟨j,by unfold zbf zbq;rw[zbM hv];exact e.symm,List.mem_range.1 h1,by rw[of_decide_eq_true h2,Int.toNat_of_nonneg h0]⟩
theorem zrJ{m:MachD}{s:ByteArray}{k:Int×Nat}(h0:0≤k.1) (h1:k.1<m.states) (h2:k.2≤s.size) (x:ByteArray):InP m s k (zbf m k.1).length x↔OutR m s k.1 k.2 x:=by
  constructor
  · rintro(⟨g1,g2,rfl⟩|⟨p',g1,c,g2,y,hy,rfl⟩)
    · rw[g2];exact .fin _ g1
    · obtain⟨j0,e1,e2,e3⟩:=zfi h0 h1 g1
      rw[e1] at g2 ⊢
      unfold kidM at g2
      rw[Int.toNat_natCast] at g2 ⊢
      split at g2
      · rename_i hp
        cases g2
        have:=OutR.arc (m:=m) (s:=s) (fC m.arcs j0) k.2 y (zb5 e2) h2 hp hy
        rwa [e3] at this
      · cases g2
  · intro h
    generalize hq:k.1=q at h
    generalize ha:k.2=at_ at h
    cases h with
    | fin _ g=>exact .inl ⟨by rw[hq];exact g,ha,rfl⟩
    | arc a _ y g1 g2 g3 g4=>
      obtain⟨j0,hj0,rfl⟩:=List.getElem_of_mem g1
      have hv:k.1.toNat<m.states.toNat:=by omega
      have hmem:(j0:Int)∈zbf m k.1:=by
        unfold zbf zbq
        rw[zbM hv]
        exact List.mem_map.2 ⟨j0,List.mem_filter.2 ⟨List.mem_range.2 hj0,by rw[zf1 hj0,decide_eq_true_eq,Int.toNat_of_nonneg h0,hq]⟩,rfl⟩
      obtain⟨p',e1,e2⟩:=zhx hmem
      rw[←hq]
      refine .inr ⟨p',e1,((m.arcs[j0]).to,at_+(m.arcs[j0]).inp.size),?_,y,g4,?_⟩
      · rw[e2,kidM,Int.toNat_natCast,zf1 hj0,ha,if_pos g3]
      · rw[e2,Int.toNat_natCast,zf1 hj0]
def HasR (hv:PV) (ho:Option AO) (ks:List ByteArray):Prop:=(hv=.atom (.map none)∧ho=none∧ks=[])∨(hv=.mp 7∧ho=some ⟨0,ks.map setE⟩∧ks≠[])
def InD (X:ByteArray→Prop) (o:ByteArray) (L rem:List ByteArray) (x:ByteArray):Prop:=X x∨∃y,y∈L∧y∉rem∧x=o++y
def RunT (X X':ByteArray→Prop) (o:ByteArray) (L rem ks:List ByteArray) (many:Bool):Prop:=(rem.Nodup∧(∀y,y∈rem→y∈L)∧(many=true∨TSt (InD X o L rem) ks many)∧(many=true→TSt X' ks true))∨(many=true∧TSt X' ks true)
theorem RunT.end_{X X':ByteArray→Prop}{o:ByteArray}{L ks:List ByteArray}{many:Bool}(h:RunT X X' o L [] ks many) (hX:∀x,X' x↔X x∨∃y,y∈L∧x=o++y):TSt X' ks many:=by
  rcases h with ⟨_,_,h1,h2⟩|⟨h1,h2⟩
  · rcases h1 with h1|h1
    · subst h1;exact h2 rfl
    · refine h1.congr fun x=>?_
      rw[hX]
      unfold InD
      exact or_congr Iff.rfl ⟨fun⟨y,a,_,b⟩=>⟨y,a,b⟩,fun⟨y,a,b⟩=>⟨y,a,by simp,b⟩⟩
  · subst h1;exact h2
theorem RunT.many{X X':ByteArray→Prop}{o:ByteArray}{L rem rem' ks:List ByteArray}(h:RunT X X' o L rem ks true):RunT X X' o L rem' ks true:=by
  rcases h with ⟨_,_,_,h2⟩|⟨h1,h2⟩
  · exact .inr ⟨rfl,h2 rfl⟩
  · exact .inr ⟨rfl,h2⟩
theorem RunT.put{X X':ByteArray→Prop}{o:ByteArray}{L rem ks:List ByteArray}{j:Nat}(h:RunT X X' o L rem ks false) (hj:j<rem.length) (hX:∀x,X x∨(∃y,y∈L∧x=o++y)→X' x):RunT X X' o L (rem.eraseIdx j) (putS ks (o++rem[j])) (false || decide (64<(putS ks (o++rem[j])).length)):=by
  rcases h with ⟨h1,h2,h3,h4⟩|⟨h1,_⟩
  · have hne:∀y,y∈rem.eraseIdx j↔y∈rem∧y≠rem[j]:=fun y=>by
      rw[List.mem_eraseIdx_iff_getElem]
      constructor
      · rintro⟨i,hi,hij,rfl⟩
        exact⟨List.getElem_mem _,fun e=>hij (nodup_inj' h1 _ _ e)⟩
      · rintro⟨hy,hn⟩
        obtain⟨i,hi,rfl⟩:=List.getElem_of_mem hy
        exact⟨i,hi,fun e=>hn (by subst e;rfl),rfl⟩
    have hT:TSt (InD X o L rem) ks false:=h3.resolve_left (by decide)
    have hm:rem[j]∈L:=h2 _ (List.getElem_mem hj)
    have key:∀x,InD X o L (rem.eraseIdx j) x↔InD X o L rem x∨x=o++rem[j]:=fun x=>by
      unfold InD
      constructor
      · rintro(a|⟨y,a,b,c⟩)
        · exact .inl (.inl a)
        · by_cases hy:y=rem[j]
          · subst hy;exact .inr c
          · exact .inl (.inr ⟨y,a,fun g=>b ((hne y).2 ⟨g,hy⟩),c⟩)
      · rintro((a|⟨y,a,b,c⟩)|c)
        · exact .inl a
        · exact .inr ⟨y,a,fun g=>b ((hne y).1 g).1,c⟩
        · exact .inr ⟨rem[j],hm,fun g=>((hne _).1 g).2 rfl,c⟩
    have hput:=hT.put key
    refine .inl ⟨h1.sublist (List.eraseIdx_sublist _ _),fun y hy=>h2 y ((hne y).1 hy).1,.inr hput,fun e=>?_⟩
    rw[e] at hput
    refine hput.mono fun x hx=>hX x ?_
    rcases hx with a|⟨y,a,_,c⟩
    · exact .inl a
    · exact .inr ⟨y,a,c⟩
  · cases h1
theorem RunT.start{X X':ByteArray→Prop}{o:ByteArray}{L ks:List ByteArray}{many:Bool}(h:TSt X ks many) (hL:L.Nodup) (hX:∀x,X x∨(∃y,y∈L∧x=o++y)→X' x) (hm:zch L=false):RunT X X' o L L ks (many || zch L):=by
  rw[hm,Bool.or_false]
  refine .inl ⟨hL,fun y hy=>hy,.inr (h.congr fun x=>?_),fun e=>?_⟩
  · unfold InD
    exact⟨.inl,fun g=>g.elim id (fun⟨y,a,b,_⟩=>absurd a b)⟩
  · subst e;exact h.mono fun x hx=>hX x (.inl hx)
theorem RunT.over{X X':ByteArray→Prop}{o:ByteArray}{L rem ks:List ByteArray}{many:Bool}(h:TSt X ks many) (hL:L.Nodup) (hX:∀x,X x∨(∃y,y∈L∧x=o++y)→X' x) (hm:zch L=true):RunT X X' o L rem ks (many || zch L):=by
  rw[hm,Bool.or_true]
  exact .inr ⟨rfl,h.over hL (of_decide_eq_true hm) fun y hy=>hX _ (.inr ⟨y,hy,rfl⟩)⟩
set_option maxRecDepth 20000
set_option maxHeartbeats 1000000
theorem zbW{p:Prop}(h:p:=by(refine⟨4,?_,?_,rfl,by simp,rfl,fun i h _=>(match i,h with|0,_=>(by first|rfl|simp[sealed,PV.ren,rmap])|1,_=>(by first|rfl|simp[sealed,PV.ren,rmap])|2,_=>(by first|rfl|simp[sealed,PV.ren,rmap])|3,_=>(by first|rfl|simp[sealed,PV.ren,rmap])|4,_=>(by first|rfl|simp[sealed,PV.ren,rmap])|5,_=>(by first|rfl|simp[sealed,PV.ren,rmap])|i+6,h=>absurd h (by simp))⟩<;>(simp only[List.forall_mem_cons];repeat' (first|refine And.intro ?_ ?_|(intro p hp;exact absurd hp List.not_mem_nil)|rfl|exact sp (zaI _)|exact sp (zbL _)|exact sp (zbk _)|exact sp (zdi _)|exact sp (zdQ _)|exact sp (zb9 _)|exact(zas _ _ _ (zah _)).trans (zbQ _ _).symm|exact(zas _ _ _ (zag _)).trans (zbP _ _).symm|exact sp (by assumption)|(intro o ho;cases ho;refine⟨by decide,?_⟩;first|(refine LeqS.row rfl ?_ ?_;(next=>(first|rfl|(simp only[List.map_append,List.map_cons,List.map_nil,List.append_nil,List.nil_append,List.append_assoc,List.cons_append,encI,encS,ints,strs];done)|(simp[encI,encS,ints,strs,encC];done)));(next=>(first|rfl|exact zal _|exact zaq _|exact zau _|exact zat _|exact za5 _|exact zb3 _|exact zcp _|(simp[zar,zal,zaq,zau,zat,zaw,PV.pure,zah,zag,zaI,za5,zbL,zbk,zdi,zb3,zcp,zdQ,zb9];done)));done)|refine⟨_,rfl,rfl,?_⟩)|(simp[St.born,St.known,retV,St.get,St.obj,lk,sealed,PV.ren,renL,rmap,AO.ren,ints,strs,encI,encS,zap,zao,zan,zam,zaC,zaB,zaA,zaz,za1,za0,zaZ,zaY,zbE,zbB,zay,zaQ,zaF,zax,encC,zga,zd6,zbT,zcv,zbG,zbt,zcl,zbK,zfl,zdu,zfj,zdv,zfk,zde,zf9]<;>omega))));first|done|fail):p:=h
def curV:Option ByteArray→PV
  | none=>.junk
  | some s=>setE s
theorem zdi (c:Option ByteArray):(curV c).pure=true:=by cases c<;>rfl
theorem zga (ρ:Nat→Nat) (c:Option ByteArray):(curV c).ren ρ=curV c:=za8 ρ _ (zdi c)
theorem zd6 (H:Nat→Option AO) (keep:Nat→Bool) (n:Nat) (c:Option ByteArray):sealed H keep n (curV c)=curV c:=zas _ _ _ (zdi c)
theorem zbT (H:Nat→Option AO) (keep:Nat→Bool) (n:Nat) (l:List ByteArray):(l.map setE).map (sealed H keep n)=l.map setE:=zak H keep n (zb3 l)
theorem zfl (ρ:Nat→Nat) (l:List ByteArray):renL ρ (l.map setE)=l.map setE:=zbo ρ _ (zb3 l)
theorem zbG (H:Nat→Option AO) (keep:Nat→Bool) (n:Nat) (l:List ((Int×Nat)×EV)):(l.map entE).map (sealed H keep n)=l.map entE:=zak H keep n (zcp l)
theorem zbt (ρ:Nat→Nat) (l:List ((Int×Nat)×EV)):(l.map entE).map (PV.ren ρ)=l.map entE:=zaO ρ (zcp l)
theorem zcl (H:Nat→Option AO) (keep:Nat→Bool) (n:Nat) (l:List (List Int)):sealed H keep n (zbb l)=zbb l:=zas _ _ _ (zbk l)
theorem zbK (ρ:Nat→Nat) (l:List (List Int)):(zbb l).ren ρ=zbb l:=za8 ρ _ (zbk l)
theorem zbB (H:Nat→Option AO) (keep:Nat→Bool) (n:Nat) (m:MachD):sealed H keep n (encM m)=encM m:=zas _ _ _ (zaI m)
theorem zjb (e:(Int×Nat)×EV):(entE e).pure=true:=by simp[entE,keyP,encI,PV.pure,zaw,zht]
theorem zdu (H:Nat→Option AO) (keep:Nat→Bool) (n:Nat) (x:ByteArray):sealed H keep n (setE x)=setE x:=zas _ _ _ rfl
theorem zfj (ρ:Nat→Nat) (x:ByteArray):(setE x).ren ρ=setE x:=za8 ρ _ rfl
theorem zdv (H:Nat→Option AO) (keep:Nat→Bool) (n:Nat) (e:(Int×Nat)×EV):sealed H keep n (entE e)=entE e:=zas _ _ _ (zjb e)
theorem zfk (ρ:Nat→Nat) (e:(Int×Nat)×EV):(entE e).ren ρ=entE e:=za8 ρ _ (zjb e)
theorem zde (H:Nat→Option AO) (keep:Nat→Bool) (n:Nat) (k:Int×Nat):sealed H keep n (keyP k)=keyP k:=zas _ _ _ rfl
theorem zf9 (ρ:Nat→Nat) (k:Int×Nat):(keyP k).ren ρ=keyP k:=za8 ρ _ rfl
def ziq (k:Int×Nat):List PV:=[encI k.1,encI k.2,.ptr 0 1 0 0,.ptr 1 4 0 0,.ptr 2 1 0 0,.ptr 3 1 0 0,.ptr 4 1 0 0]
def hpA (f:FuncId) (m:MachD) (s:ByteArray) (l:List ((Int×Nat)×EV)):List AO:=[⟨1,[.mp 5]⟩,⟨4,[encM m]⟩,⟨1,[encS s]⟩,⟨1,[zbb (zbq m)]⟩,⟨1,[.fn f [.ptr 0 1 0 0,.ptr 1 4 0 0,.ptr 2 1 0 0,.ptr 3 1 0 0,.ptr 4 1 0 0]]⟩,⟨0,l.map entE⟩]
theorem vProc.after{P:Program}{S:St}{f:FuncId}{vals:List PV}{K:PV→Eff→Prop}{m:MachD}{s:ByteArray}{l l':List ((Int×Nat)×EV)}{k:Int×Nat}{L:List ByteArray}(hpr:Proc P f (ziq k) (hpA f m s l) (finV L) ((hpA f m s l').map some) []) (hv:vals=ziq k)
    (h0:S.obj 0=some ⟨1,[.mp 5]⟩) (h1:S.obj 1=some ⟨4,[encM m]⟩) (h2:S.obj 2=some ⟨1,[encS s]⟩) (h3:S.obj 3=some ⟨1,[zbb (zbq m)]⟩) (h4:S.obj 4=some ⟨1,[.fn f [.ptr 0 1 0 0,.ptr 1 4 0 0,.ptr 2 1 0 0,.ptr 3 1 0 0,.ptr 4 1 0 0]]⟩) (h5:S.obj 5=some ⟨0,l.map entE⟩)
    (hk:K (finV L) ⟨[],[],[(0,⟨1,[.mp 5]⟩),(1,⟨4,[encM m]⟩),(2,⟨1,[encS s]⟩),(3,⟨1,[zbb (zbq m)]⟩),(4,⟨1,[.fn f [.ptr 0 1 0 0,.ptr 1 4 0 0,.ptr 2 1 0 0,.ptr 3 1 0 0,.ptr 4 1 0 0]]⟩),(5,⟨0,l'.map entE⟩)],[]⟩):vProc P S f vals K:=by
  subst hv
  refine vProc.of [0,1,2,3,4,5] hpr (by decide) rfl ?_ (fun i o hi=>?_) ?_
  · simp[ziq,encI,PV.ren,rmap]
  · match i,hi with
    | 0,hi=>cases hi;exact h0
    | 1,hi=>cases hi;rw[show rmap [0,1,2,3,4,5] S.nx 1=1 from rfl,h1];simp[AO.ren,zbE]
    | 2,hi=>cases hi;exact h2
    | 3,hi=>cases hi;rw[show rmap [0,1,2,3,4,5] S.nx 3=3 from rfl,h3];simp[AO.ren,zbK]
    | 4,hi=>cases hi;exact h4
    | 5,hi=>cases hi;rw[show rmap [0,1,2,3,4,5] S.nx 5=5 from rfl,h5];simp only[AO.ren,zbt]
  · rw[za8 _ _ (zb9 L)]
    have e:zaW (pmap [0,1,2,3,4,5] S.nx) [0,1,2,3,4,5] ((hpA f m s l').map some)=[(0,⟨1,[.mp 5]⟩),(1,⟨4,[encM m]⟩),(2,⟨1,[encS s]⟩),(3,⟨1,[zbb (zbq m)]⟩),(4,⟨1,[.fn f [.ptr 0 1 0 0,.ptr 1 4 0 0,.ptr 2 1 0 0,.ptr 3 1 0 0,.ptr 4 1 0 0]]⟩),(5,⟨0,l'.map entE⟩)]:=by
      simp only[hpA,List.map_cons,List.map_nil,zaW,AO.ren,zbE,zbK,zbt]
      rfl
    rw[e]
    exact hk
theorem vProc.put{P:Program}{S:St}{f:FuncId}{vals:List PV}{K:PV→Eff→Prop}{ks:List ByteArray}{s:ByteArray}{b b':Bool}(i j:Nat) (hij:i≠j) (hpr:Proc P f [.ptr 0 2 0 0,encS s] [⟨2,[.agg [.mp 1,.atom (.bool b)]]⟩,⟨0,ks.map setE⟩] (.tup []) [some ⟨2,[.agg [.mp 1,.atom (.bool b')]]⟩,some ⟨0,(putS ks s).map setE⟩] []) (hv:vals=[.ptr i 2 0 0,encS s])
    (h0:S.obj i=some ⟨2,[.agg [.mp j,.atom (.bool b)]]⟩) (h1:S.obj j=some ⟨0,ks.map setE⟩) (hk:K (.tup []) ⟨[],[],[(i,⟨2,[.agg [.mp j,.atom (.bool b')]]⟩),(j,⟨0,(putS ks s).map setE⟩)],[]⟩):vProc P S f vals K:=by
  subst hv
  refine vProc.of [i,j] hpr (by simp[hij]) rfl rfl (fun a o ha=>?_) ?_
  · match a,ha with
    | 0,ha=>cases ha;exact h0
    | 1,ha=>cases ha;rw[show rmap [i,j] S.nx 1=j from rfl,h1];simp only[AO.ren,zcv]
  · have e:zaW (pmap [i,j] S.nx) [i,j] [some ⟨2,[.agg [.mp 1,.atom (.bool b')]]⟩,some ⟨0,(putS ks s).map setE⟩]=[(i,⟨2,[.agg [.mp j,.atom (.bool b')]]⟩),(j,⟨0,(putS ks s).map setE⟩)]:=by
      simp only[zaW,AO.ren,zcv]
      rfl
    rw[e]
    exact hk
theorem vProc.put0{P:Program}{S:St}{f:FuncId}{vals:List PV}{K:PV→Eff→Prop}{s:ByteArray}{b:Bool}(i:Nat) (hpr:Proc P f [.ptr 0 2 0 0,encS s] [⟨2,[.agg [.atom (.map none),.atom (.bool b)]]⟩] (.tup []) [some ⟨2,[.agg [.mp 1,.atom (.bool b)]]⟩] [⟨0,[setE s]⟩]) (hv:vals=[.ptr i 2 0 0,encS s])
    (h0:S.obj i=some ⟨2,[.agg [.atom (.map none),.atom (.bool b)]]⟩) (hk:K (.tup []) ⟨[⟨0,[setE s]⟩],[],[(i,⟨2,[.agg [.mp S.nx,.atom (.bool b)]]⟩)],[]⟩):vProc P S f vals K:=by
  subst hv
  refine vProc.of [i] hpr (by simp) rfl rfl (fun a o ha=>?_) ?_
  · match a,ha with
    | 0,ha=>cases ha;exact h0
  · exact hk
theorem zfy (l:List ByteArray) (j:Nat):(l.map setE).eraseIdx j=(l.eraseIdx j).map setE:=by
  induction l generalizing j with
  | nil=>rfl
  | cons a l ih=>
    cases j with
    | zero=>rfl
    | succ j=>simp only[List.map_cons,List.eraseIdx_cons_succ,ih]
structure RunM (m:MachD) (s:ByteArray) (mu:Int→Nat→Nat):Prop where
  held:HeldM m
  valid:ValidM m
  size:s.size≤256
  far:FarM m s mu
theorem RunM.inM{m:MachD}{s:ByteArray}{mu:Int→Nat→Nat}(h:RunM m s mu):InM m:=InM.of h.valid.arcs
theorem RunM.out{m:MachD}{s:ByteArray}{mu:Int→Nat→Nat}(h:RunM m s mu) {a:ArcD}(ha:a∈m.arcs):a.out.size≤24:=(arcOk_iff.1 (List.all_eq_true.1 h.valid.arcs a ha)).2.2.2
theorem RunM.osize{m:MachD}{s:ByteArray}{mu:Int→Nat→Nat}(h:RunM m s mu) {q:Int}{at_:Nat}{x:ByteArray}(hx:OutR m s q at_ x):x.size≤30000000:=by
  have h1:=out_size h.far (fun a ha=>h.out ha) hx
  have h2:=h.far.le q at_
  have h3:(s.size+1) * (m.states.toNat+1)≤257 * 4097:=Nat.mul_le_mul (by have:=h.size;omega) (by have:=h.valid.states;omega)
  omega
theorem RunM.inc{m:MachD}{s:ByteArray}{mu:Int→Nat→Nat}(h:RunM m s mu):incL m.fin:=fun i hi h0=>(h.valid.fin i hi).2 h0
theorem zeS:PairKey Try.prog 96:=PairKey.of (by kernel_rfl) (by kernel_rfl)
theorem zij (s:ByteArray) (a b:Nat):(s.extract a b).size≤s.size:=by rw[ByteArray.size_extract];omega
theorem HasR.start:HasR (.atom (.map none)) none []:=.inl ⟨rfl,rfl,rfl⟩
theorem zri{m:MachD}(h:zfZ m):m.fin.length≤m.states.toNat:=by
  have hinc:incL m.fin:=fun i hi h0=>(h i hi).2 h0
  refine(zes ?_ fun v hv=>?_).1
  · rw[List.nodup_iff_pairwise_ne,List.pairwise_iff_getElem]
    intro i j hi hj hij e
    have:=zlb hinc (d:=j - i - 1) (i:=i) (by omega)
    rw[show i+(j - i - 1)+1=j by omega,zdm hi,zdm hj,e] at this
    exact Int.lt_irrefl _ this
  · obtain⟨i,hi,rfl⟩:=zhx hv
    have:=isM_iff.1 (h i hi).1
    omega
theorem zoo (m:MachD) (s:ByteArray) (n:Nat) (ks:List (Int×Nat)) (k:Int×Nat):visA m s n ks k 0=[]:=rfl
theorem zit{m:MachD}{s:ByteArray}{n:Nat}{ks:List (Int×Nat)}{k:Int×Nat}{p:Nat}(hp:p<(zbf m k.1).length) (h:kidM m s k.2 (li (zbf m k.1) p)=none):visA m s n ks k (p+1)=visA m s n ks k p:=by rw[zgl hp,h]
theorem zqZ (m:MachD) (s:ByteArray) (l:List ((Int×Nat)×EV)) (k:Int×Nat) (v:EV) (a:List (Int×Nat)):zcP (l++(k,v) :: a.map (finE m s))=zcP l++k :: a:=by
  have:=zq0 m s a
  unfold zcP at *
  rw[List.map_append,List.map_cons,this]
theorem GoodE.mid{m:MachD}{s:ByteArray}{mu:Int→Nat→Nat}{r:Nat}{l:List ((Int×Nat)×EV)}{k:Int×Nat}{b:Nat}{a:List (Int×Nat)}(h:GoodE m s mu (mu k.1 k.2) l) (hr:r<mu k.1 k.2) (hk1:I64 k.1) (hk2:k.2≤4294967296) (ha:∀c,c∈a→I64 c.1∧c.2≤4294967296):GoodE m s mu r (l++(k,.raw b) :: a.map (finE m s)):=fun e he=>by
  rcases List.mem_append.1 he with he|he
  · exact h.mono (by omega) e he
  · rcases List.mem_cons.1 he with rfl|he
    · exact⟨.inr hr,hk1,hk2⟩
    · obtain⟨c,hc,rfl⟩:=List.mem_map.1 he
      exact⟨.inl rfl,ha c hc⟩
theorem visK_ok {m:MachD}{s:ByteArray}(hv:ValidM m) (hs:s.size≤256):∀(n:Nat) (ks:List (Int×Nat)) (k:Int×Nat),0≤k.1→k.1<m.states→k.2≤s.size→∀c,c∈visK m s n ks k→I64 c.1∧c.2≤4294967296:=by
  intro n
  induction n with
  | zero=>intro ks k _ _ _ c hc;cases hc
  | succ n ih =>
    intro ks k h0 h1 h2 c hc
    have hst:=hv.states
    unfold visK at hc
    split at hc
    · cases hc
    · rcases List.mem_cons.1 hc with rfl|hc
      · exact⟨⟨by omega,by omega⟩,by omega⟩
      · have key:∀(js:List Int) (acc:List (Int×Nat)),(∀c,c∈acc→I64 c.1∧c.2≤4294967296)→(∀j,j∈js→j∈zbf m k.1)→∀c,c∈js.foldl (fun acc j=>match kidM m s k.2 j with|some c=>acc++visK m s n (ks++k :: acc) c|none=>acc) acc→I64 c.1∧c.2≤4294967296:=by
          intro js
          induction js with
          | nil=>intro acc ha _ c hc;exact ha c hc
          | cons j js ihj=>
            intro acc ha hj c hc
            rw[List.foldl_cons] at hc
            refine ihj _ ?_ (fun j' hj'=>hj j' (List.mem_cons_of_mem _ hj')) c hc
            obtain⟨p,hp,e⟩:=zhx (hj j (List.mem_cons_self ..))
            obtain⟨j0,e1,e2,e3⟩:=zfi h0 h1 hp
            have hin:=InM.of hv.arcs _ (zb5 e2)
            cases hk:kidM m s k.2 j with
            | none=>exact ha
            | some d=>
              intro c hc
              rcases List.mem_append.1 hc with hc|hc
              · exact ha c hc
              · rw[←e,e1,kidM,Int.toNat_natCast] at hk
                split at hk
                · rename_i hpre
                  cases hk
                  exact ih _ _ hin.2.2.1 hin.2.2.2 (zd1 hpre h2) c hc
                · cases hk
        exact key _ [] (fun c hc=>by cases hc) (fun j hj=>hj) c hc
theorem visA_ok{m:MachD}{s:ByteArray}(hv:ValidM m) (hs:s.size≤256) {n:Nat}{ks:List (Int×Nat)}{k:Int×Nat}(h0:0≤k.1) (h1:k.1<m.states) (h2:k.2≤s.size):∀p,p≤(zbf m k.1).length→∀c,c∈visA m s n ks k p→I64 c.1∧c.2≤4294967296:=by
  intro p
  induction p with
  | zero=>intro _ c hc;cases hc
  | succ p ih=>
    intro hp c hc
    rw[zgl (by omega)] at hc
    obtain⟨j0,e1,e2,e3⟩:=zfi h0 h1 (show p<(zbf m k.1).length by omega)
    have hin:=InM.of hv.arcs _ (zb5 e2)
    cases hk:kidM m s k.2 (li (zbf m k.1) p) with
    | none=>rw[hk] at hc;exact ih (by omega) c hc
    | some d=>
      rw[hk] at hc
      rcases List.mem_append.1 hc with hc|hc
      · exact ih (by omega) c hc
      · rw[e1,kidM,Int.toNat_natCast] at hk
        split at hk
        · rename_i hpre
          cases hk
          exact visK_ok hv hs n _ _ hin.2.2.1 hin.2.2.2 (zd1 hpre h2) c hc
        · cases hk
theorem zhk (l:List ByteArray) (j:Nat):(l.map setE).getD j .junk=curV l[j]? := by
  rw[List.getD_eq_getElem?_getD,List.getElem?_map]
  cases l[j]? <;> rfl
theorem zfh{H:Nat→Option AO}{keep:Nat→Bool}{n:Nat}{ρ:Nat→Nat}{els:List PV}(h:zaw els=true):els.map (sealed H keep n)=els.map (PV.ren ρ):=by rw[zak _ _ _ h,zaO _ h]
theorem ResP.after{S:St}{ts:List Nat}{r:PV}{f:FuncId}{m:MachD}{s:ByteArray}{l l':List ((Int×Nat)×EV)}(hr:retV S ts=r) (hp:r.pure=true) (hg:S.gh=[.mark 0,.mark 1,.mark 2,.mark 3,.mark 4,.mark 5]) (h0:S.obj 0=some ⟨1,[.mp 5]⟩) (h1:S.obj 1=some ⟨4,[encM m]⟩) (h2:S.obj 2=some ⟨1,[encS s]⟩)
    (h3:S.obj 3=some ⟨1,[zbb (zbq m)]⟩) (h4:S.obj 4=some ⟨1,[.fn f [.ptr 0 1 0 0,.ptr 1 4 0 0,.ptr 2 1 0 0,.ptr 3 1 0 0,.ptr 4 1 0 0]]⟩) (h5:S.obj 5=some ⟨0,l'.map entE⟩):ResP S ts r (hpA f m s l) ((hpA f m s l').map some) []:=by
  refine ResP.of [0,1,2,3,4,5] (by rw[hr];exact sp hp) rfl (by decide) hg rfl (fun i hi=>?_) (fun i o ho=>?_)
  · match i,hi with
    | 0,_|1,_|2,_|3,_|4,_|5,_=>rfl
  · match i,ho with
    | 0,ho=>cases ho;exact⟨_,h0,rfl,rfl⟩
    | 1,ho=>cases ho;exact⟨_,h1,rfl,zfh (by simp only[zaw,zaI];rfl)⟩
    | 2,ho=>cases ho;exact⟨_,h2,rfl,rfl⟩
    | 3,ho=>cases ho;exact⟨_,h3,rfl,zfh (by simp only[zaw,zbk];rfl)⟩
    | 4,ho=>cases ho;exact⟨_,h4,rfl,rfl⟩
    | 5,ho=>cases ho;exact⟨_,h5,rfl,zfh (zcp _)⟩
theorem mid_set (l:List ((Int×Nat)×EV)) (e:(Int×Nat)×EV) (a:List ((Int×Nat)×EV)) (y:PV):((l++e :: a).map entE).set l.length y=l.map entE++y :: a.map entE:=by
  rw[List.map_append,List.map_cons,List.set_append_right _ _ (by simp)]
  simp
theorem raw_set (m:MachD) (s:ByteArray) (l:List ((Int×Nat)×EV)) (k:Int×Nat) (b n:Nat) (x:PV):(l.map entE++[x]).set l.length (.tup [.agg [encI k.1,encI k.2],.atom (.pointer (some ⟨b,0,none⟩))])=(l++(k,.raw b) :: (visA m s n (zcP l) k 0).map (finE m s)).map entE:=by
  rw[zoo,List.set_append_right _ _ (by simp)]
  simp[entE,keyP,encEV]
theorem zov{m:MachD}{s:ByteArray}{k:Int×Nat}(h1:k.1∈m.fin) (h2:k.2=s.size):TSt (InP m s k 0) [⟨#[]⟩] false:=by
  have:=TSt.put (X':=InP m s k 0) (y:=⟨#[]⟩) TSt.nil (fun x=>by
    unfold InP
    simp[h1,h2])
  exact this
theorem tst_no{m:MachD}{s:ByteArray}{k:Int×Nat}(h:k.1∈m.fin→¬k.2=s.size):TSt (InP m s k 0) [] false:=TSt.nil.congr fun x=>by
  unfold InP
  simp
  intro h1 h2
  exact absurd h2 (h h1)
theorem zhE (L:List ByteArray):(zch L=true∧hasV L=.amp)∨(zch L=false∧L=[]∧hasV L=.atom (.map none))∨(zch L=false∧L≠[]∧hasV L=.fmp (L.map setE)):=by
  unfold zch hasV
  by_cases h:64<L.length
  · exact .inl ⟨decide_eq_true h,if_pos h⟩
  · by_cases h2:L.length=0
    · exact .inr (.inl ⟨decide_eq_false h,List.eq_nil_of_length_eq_zero h2,by rw[if_neg h,if_pos h2]⟩)
    · exact .inr (.inr ⟨decide_eq_false h,fun e=>h2 (by rw[e];rfl),by rw[if_neg h,if_neg h2]⟩)
theorem fin_amp{L:List ByteArray}(h:hasV L=.amp):finV L=.fptr 2 [.agg [.amp,.atom (.bool (zch L))]] 0 0:=by rw[finV,tV,h]
theorem RunT.start0{X X':ByteArray→Prop}{o:ByteArray}{L ks:List ByteArray}{many:Bool}(h:TSt X ks many) (hl:L=[]) (hX:∀x,X x∨(∃y,y∈L∧x=o++y)→X' x):RunT X X' o L [] ks (many || zch L):=by
  subst hl
  exact RunT.start h List.nodup_nil hX rfl
theorem zox{P:Program}{n:Nat}{c:Code}{S:St}{Q:Exit→St→Prop}{f:FuncId}{m:MachD}{s:ByteArray}{l a:List ((Int×Nat)×EV)}{k:Int×Nat}{hv hvF:PV}{many:Bool}{L:List ByteArray}
    (h13:S.get 13=.ptr 6 2 0 0) (h0:S.obj 0=some ⟨1,[.mp 5]⟩) (h1:S.obj 1=some ⟨4,[encM m]⟩) (h2:S.obj 2=some ⟨1,[encS s]⟩) (h3:S.obj 3=some ⟨1,[zbb (zbq m)]⟩) (h4:S.obj 4=some ⟨1,[.fn f [.ptr 0 1 0 0,.ptr 1 4 0 0,.ptr 2 1 0 0,.ptr 3 1 0 0,.ptr 4 1 0 0]]⟩)
    (h5:S.obj 5=some ⟨0,l.map entE++.tup [keyP k,.ptr 6 2 0 0] :: a.map entE⟩) (h6:S.obj 6=some ⟨2,[.agg [hv,.atom (.bool many)]]⟩) (hg:S.gh=[.mark 0,.mark 1,.mark 2,.mark 3,.mark 4,.mark 5]) (hv1:∀(keep:Nat→Bool) (n:Nat),keep 7=false→sealed S.obj keep (n+1) hv=hvF) (hpv:hvF.pure=true)
    (hso:Soft hvF (hasV L)) (hm:many=zch L)
    (ht:Tri P n c ⟨[(13,finV L)],[(0,some ⟨1,[.mp 5]⟩),(1,some ⟨4,[encM m]⟩),(2,some ⟨1,[encS s]⟩),(3,some ⟨1,[zbb (zbq m)]⟩),(4,some ⟨1,[.fn f [.ptr 0 1 0 0,.ptr 1 4 0 0,.ptr 2 1 0 0,.ptr 3 1 0 0,.ptr 4 1 0 0]]⟩),(5,some ⟨0,(l++(k,.fin L) :: a).map entE⟩)],6,[.mark 0,.mark 1,.mark 2,.mark 3,.mark 4,.mark 5]⟩ Q):Tri P n c S Q:=by
  subst hm
  have hp:(PV.fptr 2 [.agg [hvF,.atom (.bool (zch L))]] 0 0).pure=true:=by simp[PV.pure,zaw,hpv]
  have hsp:∀n,sealed S.obj (fun i=>[0,1,2,3,4,5].contains i) (n+3) (.ptr 6 2 0 0)=.fptr 2 [.agg [hvF,.atom (.bool (zch L))]] 0 0:=fun n=>by
    have hk6:[0,1,2,3,4,5].contains 6=false:=rfl
    simp only[sealed,hk6,h6,List.map_cons,List.map_nil,hv1 (fun i=>[0,1,2,3,4,5].contains i) _ rfl]
    simp
  have hw : Leq [0,1,2,3,4,5] S ⟨[(13,.fptr 2 [.agg [hvF,.atom (.bool (zch L))]] 0 0)],[(0,some ⟨1,[.mp 5]⟩),(1,some ⟨4,[encM m]⟩),(2,some ⟨1,[encS s]⟩),(3,some ⟨1,[zbb (zbq m)]⟩),(4,some ⟨1,[.fn f [.ptr 0 1 0 0,.ptr 1 4 0 0,.ptr 2 1 0 0,.ptr 3 1 0 0,.ptr 4 1 0 0]]⟩),(5,some ⟨0,l.map entE++.tup [keyP k,.fptr 2 [.agg [hvF,.atom (.bool (zch L))]] 0 0] :: a.map entE⟩)],6,[.mark 0,.mark 1,.mark 2,.mark 3,.mark 4,.mark 5]⟩:=by
    refine⟨4,fun p hp2=>?_,fun p hp2 o ho=>?_,rfl,by decide,by rw[hg],fun i g1 g2=>?_⟩
    · simp only[List.mem_cons,List.not_mem_nil,or_false] at hp2
      subst hp2
      show sealed S.obj _ 4 (S.get 13)=_
      rw[h13,hsp,za8 _ _ hp]
    · simp only[List.mem_cons,List.not_mem_nil,or_false] at hp2
      rcases hp2 with rfl|rfl|rfl|rfl|rfl|rfl
      · cases ho;exact⟨Nat.le_of_ble_eq_true rfl,_,h0,rfl,rfl⟩
      · cases ho;exact⟨Nat.le_of_ble_eq_true rfl,_,h1,rfl,zfh (by simp only[zaw,zaI];rfl)⟩
      · cases ho;exact⟨Nat.le_of_ble_eq_true rfl,_,h2,rfl,rfl⟩
      · cases ho;exact⟨Nat.le_of_ble_eq_true rfl,_,h3,rfl,zfh (by simp only[zaw,zbk];rfl)⟩
      · cases ho;exact⟨Nat.le_of_ble_eq_true rfl,_,h4,rfl,rfl⟩
      · cases ho
        refine⟨Nat.le_of_ble_eq_true rfl,_,h5,rfl,?_⟩
        rw[List.map_append,List.map_append,List.map_cons,List.map_cons,zbG,zbG,zbt,zbt]
        have e1:sealed S.obj (fun i=>[0,1,2,3,4,5].contains i) 4 (.tup [keyP k,.ptr 6 2 0 0])=.tup [keyP k,.fptr 2 [.agg [hvF,.atom (.bool (zch L))]] 0 0]:=by
          show PV.tup [sealed S.obj _ 3 (keyP k),sealed S.obj _ 3 (.ptr 6 2 0 0)]=_
          rw[zde,hsp 0]
        have e2:∀ρ,(PV.tup [keyP k,.fptr 2 [.agg [hvF,.atom (.bool (zch L))]] 0 0]).ren ρ=.tup [keyP k,.fptr 2 [.agg [hvF,.atom (.bool (zch L))]] 0 0]:=fun ρ=>za8 ρ _ (by
          have:(keyP k).pure=true:=rfl
          simp only[PV.pure,zaw,this,hpv];rfl)
        rw[e1,e2]
    · have hi:i<6:=g1
      have e:∀(l:List PV) (hl:i<l.length),l=[.mark 0,.mark 1,.mark 2,.mark 3,.mark 4,.mark 5]→l[i]=.mark i:=fun l hl e=>by
        subst e
        match i,hi with
        | 0,_|1,_|2,_|3,_|4,_|5,_=>rfl
      rw[e _ g2 hg,e _ g1 rfl]
      match i,hi with
      | 0,_|1,_|2,_|3,_|4,_|5,_=>rfl
  refine Tri.weak hw ?_
  refine Tri.softE 13 (finV L) (Soft.fptr1 hso) ?_
  refine Tri.softM 0 5 l.length _ _ (entE (k,.fin L)) rfl rfl (by simp) (Soft.tup2 (Soft.fptr1 hso)) ?_
  have e:(l.map entE++.tup [keyP k,.fptr 2 [.agg [hvF,.atom (.bool (zch L))]] 0 0] :: a.map entE).set l.length (entE (k,.fin L))=(l++(k,.fin L) :: a).map entE:=by
    rw[List.set_append_right _ _ (by simp)]
    simp
  rw[e]
  refine Tri.weak (L:=[0,1,2,3,4,5]) ?_ ht
  exact zbW
theorem zgf{m:MachD}{s:ByteArray}{k c:Int×Nat}{p j0:Nat}{L:List ByteArray}(hkid:kidM m s k.2 (li (zbf m k.1) p)=some c) (hj0:li (zbf m k.1) p=(j0:Int)) (hL:∀x,x∈L↔OutR m s c.1 c.2 x) (x:ByteArray):InP m s k (p+1) x↔InP m s k p x∨∃y,y∈L∧x=(fC m.arcs j0).out++y:=by
  rw[InP_some hkid,hj0,Int.toNat_natCast]
  exact or_congr Iff.rfl ⟨fun⟨y,a,b⟩=>⟨y,(hL y).2 a,b⟩,fun⟨y,a,b⟩=>⟨y,(hL y).1 a,b⟩⟩
theorem InP_out{m:MachD}{s:ByteArray}{k:Int×Nat}(h0:0≤k.1) (h1:k.1<m.states) (h2:k.2≤s.size) {p:Nat}(hp:p≤(zbf m k.1).length) {x:ByteArray}(h:InP m s k p x):OutR m s k.1 k.2 x:=
  (zrJ h0 h1 h2 x).1 (h.imp id fun⟨p',a,b⟩=>⟨p',by omega,b⟩)
theorem RunT.facts{X X':ByteArray→Prop}{o:ByteArray}{L rem ks:List ByteArray}(h:RunT X X' o L rem ks false):(∀y,y∈rem→y∈L)∧ks.length≤65∧∀x,x∈ks→X x∨∃y,y∈L∧x=o++y:=by
  rcases h with ⟨h1,h2,h3,h4⟩|⟨h1,_⟩
  · have hT:TSt (InD X o L rem) ks false:=h3.resolve_left (by decide)
    exact⟨h2,hT.le,fun x hx=>((hT.no rfl).2 x).1 hx |>.imp id fun⟨y,a,_,c⟩=>⟨y,a,c⟩⟩
  · cases h1
theorem zn6 (m:MachD) (s:ByteArray) (mu:Int→Nat→Nat) (hR:RunM m s mu):∀(n:Nat) (k:Int×Nat) (l:List ((Int×Nat)×EV)),mu k.1 k.2<n→0≤k.1→k.1<m.states→k.2≤s.size→GoodE m s mu (mu k.1 k.2) l→
    Proc Try.prog 38 (ziq k) (hpA 38 m s l) (finV (outL m s k.1 k.2)) ((hpA 38 m s (l++(visK m s n (zcP l) k).map (finE m s))).map some) []:=by
  intro n
  induction n with
  | zero=>intro k l h;exact absurd h (Nat.not_lt_zero _)
  | succ n ih=>
  intro k l hmu h0 h1 h2 hg
  have hst:=hR.valid.states
  have hsz:=hR.size
  have hk1:I64 k.1:=⟨by omega,by omega⟩
  have hk2:k.2≤4294967296:=by omega
  have hfin:=zri hR.valid.fin
  have hna:=hR.held.narcs
  have hkn:k.1.toNat<(zbq m).length:=by unfold zbq;rw[zbn];omega
  have hrl:(zbf m k.1).length≤m.arcs.length:=zkV m (by omega)
  unfold ziq hpA
  simp only[List.map_cons,List.map_nil]
  refine Proc.intro (ts:=[9]) Try.func38 (by kernel_rfl) rfl rfl rfl (Nat.le_of_ble_eq_true rfl) rfl ?_
  simp only[za9,zbw,List.map_cons,List.map_nil,List.length_cons,List.length_nil,Nat.zero_add,Nat.reduceAdd]
  refine sY [0,1,2,3,4,5,6,8] (fun P S K=>K ⟨[(0,S.get 0),(1,S.get 1),(2,S.get 2),(3,S.get 3),(4,S.get 4),(5,S.get 5),(6,S.get 6),(8,S.get 8)],S.hp,S.nx,S.gh⟩) ?_
  all_goals
  refine sZ [0,1,2,3,4,5,6,8,10] (fun P S K=>XvBuild P 96 [(0,(S.get 0)),(1,(S.get 1))] (fun r2 _=>XvAlloc P 96 S.nx (fun r3 ef3=>XvStore P 96 (M (Eff.hp ef3 S.nx S.hp) (S.nx+ef3.add.length)) r3 r2 (fun r4 ef4=>K ⟨[(0,S.get 0),(1,S.get 1),(2,S.get 2),(3,S.get 3),(4,S.get 4),(5,S.get 5),(6,S.get 6),(8,S.get 8),(10,r3)],(Eff.hp ef4 (S.nx+ef3.add.length) (Eff.hp ef3 S.nx S.hp)),((S.nx+ef3.add.length)+ef4.add.length),S.gh⟩)))) fun K hK=>?_
  repeat' (first|(refine hK _ ?_;clear hK K)|(refine st ?_;try simp only[encM,zay,encC,zbb,finV,tV])|fail)
  all_goals
  refine Tri.seq ?_
  by_cases hkk:k∈zcP l
  all_goals
  refine sZ [0,1,2,3,4,5,6,8,10,11,12] (fun P S K=>XvLoad P 93 (M S.hp S.nx) (S.get 2) (fun r0 _=>XvLoad P 96 (M S.hp S.nx) (S.get 10) (fun r1 _=>XvLookup P 93 (M S.hp S.nx) r0 r1 true (fun r2 _=>XvExtract r2 0 (fun r4 _=>XvExtract r2 1 (fun r5 _=>K ⟨[(0,S.get 0),(1,S.get 1),(2,S.get 2),(3,S.get 3),(4,S.get 4),(5,S.get 5),(6,S.get 6),(8,S.get 8),(10,S.get 10),(11,r4),(12,r5)],S.hp,S.nx,S.gh⟩)))))) fun K hK=>?_
  repeat' (first|(refine hK _ ?_;clear hK K)|refine⟨_,zjt zeS hg hk1 hk2 hkk,?_⟩|refine⟨_,zhC zeS hg hk1 hk2 hkk,?_⟩|refine⟨_,zjs zeS hg hk1 hk2 hkk _,?_⟩|(refine st ?_;try simp only[encM,zay,encC,zbb,finV,tV])|fail)
  all_goals
  refine sY [0,1,2,3,4,5,6,8,10,11,30] (fun P S K=>K ⟨[(0,S.get 0),(1,S.get 1),(2,S.get 2),(3,S.get 3),(4,S.get 4),(5,S.get 5),(6,S.get 6),(8,S.get 8),(10,S.get 10),(11,S.get 11),(30,(S.get 12))],S.hp,S.nx,S.gh⟩) ?_
  all_goals
  refine Tri.cond rfl (fun h30=>?_) (fun h30=>?_)
  ·try (cases h30;done)
   all_goals (try simp only[CQ] at h30)
   all_goals
   refine sY [8,9] (fun P S K=>K ⟨[(8,S.get 8),(9,(S.get 11))],S.hp,S.nx,S.gh⟩) ?_
   all_goals
   refine Tri.ret ?_
   show ResP _ _ _ _ _ _
   rw[visK_hit hkk,List.map_nil,List.append_nil]
   exact ResP.after rfl (zb9 _) rfl rfl rfl rfl rfl rfl rfl
  try (cases h30;done)
  all_goals (try simp only[CQ] at h30)
  all_goals
  refine Tri.skip ?_
  refine sZ [0,1,2,3,4,5,6,8,10,13] (fun P S K=>XvBuild P 100 [] (fun r0 _=>XvBox S.nx r0 (fun r1 ef1=>K ⟨[(0,S.get 0),(1,S.get 1),(2,S.get 2),(3,S.get 3),(4,S.get 4),(5,S.get 5),(6,S.get 6),(8,S.get 8),(10,S.get 10),(13,r1)],(Eff.hp ef1 S.nx S.hp),(S.nx+ef1.add.length),S.gh⟩))) fun K hK=>?_
  repeat' (first|(refine hK _ ?_;clear hK K)|(refine st ?_;try simp only[encM,zay,encC,zbb,finV,tV])|fail)
  all_goals
  refine sZ [0,1,3,4,5,6,8,13] (fun P S K=>XvLoad P 93 (M S.hp S.nx) (S.get 2) (fun r0 _=>XvLoad P 96 (M S.hp S.nx) (S.get 10) (fun r1 _=>XvUpdate P 93 (M S.hp S.nx) r0 r1 (S.get 13) (fun r3 ef3=>K ⟨[(0,S.get 0),(1,S.get 1),(3,S.get 3),(4,S.get 4),(5,S.get 5),(6,S.get 6),(8,S.get 8),(13,S.get 13)],(Eff.hp ef3 S.nx S.hp),(S.nx+ef3.add.length),S.gh⟩)))) fun K hK=>?_
  repeat' (first|(refine hK _ ?_;clear hK K)|refine⟨_,zjt zeS hg hk1 hk2 hkk,?_⟩|refine⟨_,zhC zeS hg hk1 hk2 hkk,?_⟩|refine⟨_,zjs zeS hg hk1 hk2 hkk _,?_⟩|(refine st ?_;try simp only[encM,zay,encC,zbb,finV,tV])|fail)
  refine Tri.raw 8 0 5 l.length 7 2 (l.map entE++[.tup [.agg [encI k.1,encI k.2],.ptr 7 2 0 0]]) (.agg [encI k.1,encI k.2]) rfl rfl (by simp) rfl (fun b=>?_)
  rw[raw_set m s l k b n]
  all_goals
  refine Tri.cut (α:=(ks:List ByteArray) ×' (many:Bool) ×' (hv:PV) ×' (ho:Option AO) ×' (TSt (InP m s k 0) ks many∧HasR hv ho ks)) (fun z=>(fun(ks:List ByteArray) (many:Bool) (hv:PV) (ho:Option AO)=>(⟨[(0,encI k.1),(5,.ptr 3 1 0 0),(1,encI k.2),(3,.ptr 1 4 0 0),(4,.ptr 2 1 0 0),(6,.ptr 4 1 0 0),(8,.is b 6),(13,.ptr 6 2 0 0)],[(0,some ⟨1,[.mp 5]⟩),(1,some ⟨4,[encM m]⟩),(2,some ⟨1,[encS s]⟩),(3,some ⟨1,[zbb (zbq m)]⟩),(4,some ⟨1,[.fn 38 [.ptr 0 1 0 0,.ptr 1 4 0 0,.ptr 2 1 0 0,.ptr 3 1 0 0,.ptr 4 1 0 0]]⟩),(5,some ⟨0,(l++(k,.raw b) :: (visA m s n (zcP l) k 0).map (finE m s)).map entE⟩),(6,some ⟨2,[.agg [hv,.atom (.bool many)]]⟩),(7,ho)],8,[.mark 0,.mark 1,.mark 2,.mark 3,.mark 4,.mark 5]⟩:St)) z.1 z.2.1 z.2.2.1 z.2.2.2.1) ?_ ?_
  ·skip
   refine sZ [0,1,3,4,5,6,8,13,15] (fun P S K=>XvFieldAddr P 58 2 (S.get 3) (fun r0 _=>XvLoad P 22 (M S.hp S.nx) r0 (fun r1 _=>XvFnIV P (M S.hp S.nx) (.fn 39 []) [r1,(S.get 0)] (fun r3 ef3=>XvExtract r3 0 (fun r5 _=>XvExtract r3 1 (fun r6 _=>K ⟨[(0,S.get 0),(1,S.get 1),(3,S.get 3),(4,S.get 4),(5,S.get 5),(6,S.get 6),(8,S.get 8),(13,S.get 13),(15,r6)],(Eff.hp ef3 S.nx S.hp),(S.nx+ef3.add.length),S.gh⟩)))))) fun K hK=>?_
   repeat' (first|(refine hK _ ?_;clear hK K)|refine And.intro ?_ ?_|refine .inl ⟨_,_,zka m.fin k.1 (by omega) hR.inc,?_⟩|(refine st ?_;try simp only[encM,zay,encC,zbb,finV,tV])|fail)
   all_goals
   refine sZ [0,1,3,4,5,6,8,13,50] (fun P S K=>Xgq (S.get 15) true (fun k=>k (S.get 1)) (fun g2 r2=>Xgq g2 true (fun k=>XvLoad P 9 (M S.hp S.nx) (S.get 4) (fun r3 _=>k r3)) (fun g3 r3=>Xgq g3 true (fun k=>XvLen P 9 (M S.hp S.nx) r3 (fun r4 _=>k r4)) (fun g4 r4=>Xgq g4 true (fun k=>XvBinOV P .eql 3 (.tmp 48) r2 r4 (fun r5 _=>k r5)) (fun g5 r5=>XvPick g5 r5 (.atom (.bool false)) (fun r6 _=>K ⟨[(0,S.get 0),(1,S.get 1),(3,S.get 3),(4,S.get 4),(5,S.get 5),(6,S.get 6),(8,S.get 8),(13,S.get 13),(50,r6)],S.hp,S.nx,S.gh⟩)))))) fun K hK=>?_
   repeat' (first|(refine hK _ ?_;clear hK K)|((first|refine zav (fun hg=>?_) (fun hg=>?_)|refine fun(hg:(_:Prop))=>?_)<;>((try simp only[BQ] at hg);try (exfalso;omega)))|(refine st ?_;try simp only[encM,zay,encC,zbb,finV,tV])|fail)
   all_goals
   refine Tri.cond rfl (fun h50=>?_) (fun h50=>?_)
   ·try (cases h50;done)
    all_goals (try simp only[CQ] at h50)
    all_goals
    refine rZ [0,1,3,4,5,6,8,13] (fun P S K=>XvFnIV P (M S.hp S.nx) (.fn 40 []) [(S.get 13),(.atom (.string { data := #[] }))] (fun r1 ef1=>K ⟨[(0,S.get 0),(1,S.get 1),(3,S.get 3),(4,S.get 4),(5,S.get 5),(6,S.get 6),(8,S.get 8),(13,S.get 13)],(Eff.hp ef1 S.nx S.hp),(S.nx+ef1.add.length),S.gh⟩)) fun K hK=>?_
    repeat' (first|(refine hK _ ?_;clear hK K)|refine And.intro ?_ ?_|exact cl|refine .inr (vProc.put0 7 (zfm false ⟨#[]⟩ (by decide)) rfl rfl ?_)|refine .inr (vProc.put0 6 (zfm false _ hxo) rfl rfl ?_)|refine .inr (vProc.put 6 7 (by decide) (zi9 false ks2 _ hxo hks2 hkl2) rfl rfl rfl ?_)|(refine st ?_;try simp only[encM,zay,encC,zbb,finV,tV])|fail)
    all_goals
    first|(refine⟨⟨[⟨#[]⟩],false,.mp 7,some ⟨0,[setE ⟨#[]⟩]⟩,zov (by first|assumption|simp_all) (by first|omega|simp_all),.inr ⟨rfl,rfl,by simp⟩⟩,[0,1,2,3,4,5,7,8],?_⟩;exact zbW)|(refine⟨⟨[],false,.atom (.map none),none,tst_no (fun h1 h2=>by simp_all),HasR.start⟩,[0,1,2,3,4,5,7,6],?_⟩;exact zbW)
   try (cases h50;done)
   all_goals (try simp only[CQ] at h50)
   all_goals
   refine Tri.skip ?_
   first|(refine⟨⟨[⟨#[]⟩],false,.mp 7,some ⟨0,[setE ⟨#[]⟩]⟩,zov (by first|assumption|simp_all) (by first|omega|simp_all),.inr ⟨rfl,rfl,by simp⟩⟩,[0,1,2,3,4,5,7,8],?_⟩;exact zbW)|(refine⟨⟨[],false,.atom (.map none),none,tst_no (fun h1 h2=>by simp_all),HasR.start⟩,[0,1,2,3,4,5,7,6],?_⟩;exact zbW)
  rintro⟨ks,many,hv,ho,⟨hT,hH⟩⟩
  refine Tri.seq ?_
  refine sZ [1,3,4,6,8,13,56,57,58] (fun P S K=>XvLoad P 91 (M S.hp S.nx) (S.get 5) (fun r0 _=>XvIndexAddr P 91 r0 (S.get 0) (fun r2 _=>XvLoad P 22 (M S.hp S.nx) r2 (fun r3 _=>XvLen P 22 (M S.hp S.nx) r3 (fun r4 _=>K ⟨[(1,S.get 1),(3,S.get 3),(4,S.get 4),(6,S.get 6),(8,S.get 8),(13,S.get 13),(56,r3),(57,r4),(58,(.atom (.int .i64 0)))],S.hp,S.nx,S.gh⟩))))) fun K hK=>?_
  repeat' (first|(refine hK _ ?_;clear hK K)|refine And.intro ?_ ?_|exact cl|(refine st ?_;try simp only[encM,zay,encC,zbb,finV,tV,zdd hkn])|refine sx ?_ (by simp only[encM,zay,encC,zbb,finV,tV,zdd hkn];exact rfl)|fail)
  all_goals
  refine Tri.block ?_
  refine Tri.loop (α:=(p:Nat) ×' (ks:List ByteArray) ×' (many:Bool) ×' (hv:PV) ×' (ho:Option AO) ×' (p≤(zbf m k.1).length∧TSt (InP m s k p) ks many∧HasR hv ho ks)) (fun z=>(fun(p:Nat) (ks:List ByteArray) (many:Bool) (hv:PV) (ho:Option AO)=>(⟨[(1,encI k.2),(3,.ptr 1 4 0 0),(4,.ptr 2 1 0 0),(6,.ptr 4 1 0 0),(8,.is b 6),(13,.ptr 6 2 0 0),(56,ints (zbf m k.1)),(57,encI (zbf m k.1).length),(58,encI p)],[(0,some ⟨1,[.mp 5]⟩),(1,some ⟨4,[encM m]⟩),(2,some ⟨1,[encS s]⟩),(3,some ⟨1,[zbb (zbq m)]⟩),(4,some ⟨1,[.fn 38 [.ptr 0 1 0 0,.ptr 1 4 0 0,.ptr 2 1 0 0,.ptr 3 1 0 0,.ptr 4 1 0 0]]⟩),(5,some ⟨0,(l++(k,.raw b) :: (visA m s n (zcP l) k p).map (finE m s)).map entE⟩),(6,some ⟨2,[.agg [hv,.atom (.bool many)]]⟩),(7,ho)],8,[.mark 0,.mark 1,.mark 2,.mark 3,.mark 4,.mark 5]⟩:St)) z.1 z.2.1 z.2.2.1 z.2.2.2.1 z.2.2.2.2.1) (fun z=>(fun(p:Nat) (ks:List ByteArray) (many:Bool) (hv:PV) (ho:Option AO)=>(zbf m k.1).length - p) z.1 z.2.1 z.2.2.1 z.2.2.2.1 z.2.2.2.2.1) ⟨0,ks,many,hv,ho,⟨Nat.zero_le _,hT,hH⟩⟩ [0,1,2,3,4,5,6,7] ?_ ?_
  ·(rcases hH with ⟨rfl,rfl,rfl⟩|⟨rfl,rfl,hne⟩)<;>exact zbW
  rintro⟨p,ks,many,hv,ho,⟨hp,hT,hH⟩⟩
  refine sY [1,3,4,6,8,13,56,57,58,59] (fun P S K=>XvBinOV P .lss 3 (.tmp 57) (S.get 58) (S.get 57) (fun r0 _=>K ⟨[(1,S.get 1),(3,S.get 3),(4,S.get 4),(6,S.get 6),(8,S.get 8),(13,S.get 13),(56,S.get 56),(57,S.get 57),(58,S.get 58),(59,r0)],S.hp,S.nx,S.gh⟩)) ?_
  all_goals
  refine Tri.seq ?_
  refine Tri.cond rfl (fun h59=>?_) (fun h59=>?_)
  ·try (cases h59;done)
   all_goals (try simp only[CQ] at h59)
   all_goals
   refine Tri.skip ?_
   refine Tri.seq ?_
   refine Tri.block ?_
   have hpl:p<(zbf m k.1).length:=by omega
   obtain⟨j0,hj0,hj0l,hj0f⟩:=zfi h0 h1 hpl
   have hos:=hR.out (zb5 hj0l)
   have hin:=hR.inM _ (zb5 hj0l)
   have his:(fC m.arcs j0).inp.size≤1:=(arcOk_iff.1 (List.all_eq_true.1 hR.valid.arcs _ (zb5 hj0l))).2.2.1
   refine sZ [1,3,4,6,8,13,17,56,57,58] (fun P S K=>XvIndexAddr P 22 (S.get 56) (S.get 58) (fun r0 _=>XvLoad P 3 (M S.hp S.nx) r0 (fun r1 _=>K ⟨[(1,S.get 1),(3,S.get 3),(4,S.get 4),(6,S.get 6),(8,S.get 8),(13,S.get 13),(17,r1),(56,S.get 56),(57,S.get 57),(58,S.get 58)],S.hp,S.nx,S.gh⟩))) fun K hK=>?_
   repeat' (first|(refine hK _ ?_;clear hK K)|refine And.intro ?_ ?_|exact cl|(refine st ?_;try simp only[encM,zay,encC,zbb,finV,tV,zbi hpl,hj0])|fail)
   all_goals
   refine sZ [1,3,4,6,8,13,18,56,57,58] (fun P S K=>XvFieldAddr P 58 3 (S.get 3) (fun r0 _=>XvLoad P 56 (M S.hp S.nx) r0 (fun r1 _=>XvIndexAddr P 56 r1 (S.get 17) (fun r3 _=>XvLoad P 105 (M S.hp S.nx) r3 (fun r4 _=>XvAlloc P 105 S.nx (fun r5 ef5=>XvStore P 105 (M (Eff.hp ef5 S.nx S.hp) (S.nx+ef5.add.length)) r5 r4 (fun r6 ef6=>K ⟨[(1,S.get 1),(3,S.get 3),(4,S.get 4),(6,S.get 6),(8,S.get 8),(13,S.get 13),(18,r5),(56,S.get 56),(57,S.get 57),(58,S.get 58)],(Eff.hp ef6 (S.nx+ef5.add.length) (Eff.hp ef5 S.nx S.hp)),((S.nx+ef5.add.length)+ef6.add.length),S.gh⟩))))))) fun K hK=>?_
   repeat' (first|(refine hK _ ?_;clear hK K)|refine And.intro ?_ ?_|exact cl|(refine st ?_;try simp only[encM,zay,encC,zbb,finV,tV,zd2 hj0l])|fail)
   all_goals
   refine Tri.seq ?_
   refine sD 7 [1,3,4,6,8,13,18,56,57,58,73] (fun P GD S K=>XvLoad P 9 (M S.hp S.nx) (S.get 4) (fun r0 ef0=>XvSliceV P 9 r0 (some (S.get 1)) none (fun r2 ef2=>XvFieldAddr P 105 2 (S.get 18) (fun r3 ef3=>XvLoad P 9 (M S.hp S.nx) r3 (fun r4 ef4=>XvFnDV P (M S.hp S.nx) (.fn 41 []) [r2,r4] (fun r5 ef5=>XvUn .not r5 (fun r6 ef6=>(trOk S.nx GD [⟨S.nx,0,ef0.rd,[],[]⟩,⟨S.nx,0,[],[],[]⟩,⟨S.nx,0,ef2.rd,[],[]⟩,⟨S.nx,0,ef3.rd,[],[]⟩,⟨S.nx,0,ef4.rd,[],[]⟩,(Eff.tr ef5 S.nx),⟨(S.nx+ef5.add.length),0,ef6.rd,[],[]⟩]=true∧K ⟨[(1,S.get 1),(3,S.get 3),(4,S.get 4),(6,S.get 6),(8,S.get 8),(13,S.get 13),(18,S.get 18),(56,S.get 56),(57,S.get 57),(58,S.get 58),(73,r6)],(Eff.hp ef5 S.nx S.hp),(S.nx+ef5.add.length),S.gh⟩)))))))) fun K hK=>?_
   repeat' (first|(refine hK _ ?_;clear hK K)|(refine(?_:trOk _ _ _=true);kernel_rfl)|refine And.intro ?_ ?_|exact cl|refine .inl ⟨_,_,zdL _ _ (Nat.le_trans (zij _ _ _) (by omega)) (hR.held.arcs _ (zb5 hj0l)).inp,?_⟩|(refine st ?_;try simp only[encM,zay,encC,zbb,finV,tV])|fail)
   all_goals try simp (disch:=omega) only[zae,zaf]
   all_goals
   refine Tri.cond rfl (fun h73=>?_) (fun h73=>?_)
   ·try (cases h73;done)
    all_goals (try simp only[CQ] at h73)
    all_goals
    refine Tri.exit ?_
    refine rY [1,3,4,6,8,13,56,57,58] (fun P S K=>XvBinOV P .add 3 (.const (.int .i64 1)) (S.get 58) (.atom (.int .i64 1)) (fun r0 _=>K ⟨[(1,S.get 1),(3,S.get 3),(4,S.get 4),(6,S.get 6),(8,S.get 8),(13,S.get 13),(56,S.get 56),(57,S.get 57),(58,r0)],S.hp,S.nx,S.gh⟩)) ?_
    all_goals try simp (disch:=omega) only[zae,zaf]
    all_goals
    first
    | (have hkid0:kidM m s k.2 (li (zbf m k.1) p)=none:=by rw[hj0,kidM,Int.toNat_natCast,if_neg (by rw[h73];decide)]
       have hHc:=hH
       (rcases hHc with ⟨rfl,rfl,rfl⟩|⟨rfl,rfl,hne⟩)<;>(refine⟨⟨p+1,_,many,_,_,by omega,hT.congr (zmJ hkid0),hH⟩,[0,1,2,3,4,5,6,7],by dsimp only;omega,?_⟩;rw[←zit (n:=n) (ks:=zcP l) hpl hkid0];exact zbW))
    | (obtain rfl:rem2=[]:=by simpa using hrem
       have hLs:=zdU hR.valid.acyc hR.inM s (fC m.arcs j0).to (k.2+(fC m.arcs j0).inp.size)
       have hT2:=hrun2.end_ (zgf hkid hj0 hLs.2)
       have hHc:=hH2
       (rcases hHc with ⟨rfl,rfl,rfl⟩|⟨rfl,rfl,hne2⟩)<;>(refine⟨⟨p+1,_,many2,_,_,by omega,hT2,hH2⟩,[0,1,2,3,4,5,6,7],by dsimp only;omega,?_⟩;exact zbW))
   try (cases h73;done)
   all_goals (try simp only[CQ] at h73)
   all_goals
   refine Tri.skip ?_
   have hpre:zbI (s.extract k.2 s.size) (fC m.arcs j0).inp=true:=by simp_all
   have hple:=zd1 hpre h2
   have hkid:kidM m s k.2 (li (zbf m k.1) p)=some ((fC m.arcs j0).to,k.2+(fC m.arcs j0).inp.size):=by rw[hj0,kidM,Int.toNat_natCast,if_pos hpre]
   have hdec:=hR.far.dec _ (zb5 hj0l) k.2 h2 hpre
   rw[hj0f] at hdec
   have hih:=ih ((fC m.arcs j0).to,k.2+(fC m.arcs j0).inp.size) (l++(k,.raw b) :: (visA m s n (zcP l) k p).map (finE m s)) (by show mu (fC m.arcs j0).to (k.2+(fC m.arcs j0).inp.size)<n;omega) hin.2.2.1 hin.2.2.2 hple (hg.mid hdec hk1 hk2 (visA_ok hR.valid hsz h0 h1 h2 p hp))
   rw[zqZ,show(l++(k,.raw b) :: (visA m s n (zcP l) k p).map (finE m s))++(visK m s n (zcP l++k :: visA m s n (zcP l) k p) ((fC m.arcs j0).to,k.2+(fC m.arcs j0).inp.size)).map (finE m s)=l++(k,.raw b) :: (visA m s n (zcP l) k (p+1)).map (finE m s) by rw[zgl hpl,hkid];simp] at hih
   refine sZ [1,3,4,6,8,13,18,19,56,57,58] (fun P S K=>XvLoad P 94 (M S.hp S.nx) (S.get 6) (fun r0 _=>XvFieldAddr P 105 1 (S.get 18) (fun r1 _=>XvLoad P 3 (M S.hp S.nx) r1 (fun r2 _=>XvFieldAddr P 105 2 (S.get 18) (fun r4 _=>XvLoad P 9 (M S.hp S.nx) r4 (fun r5 _=>XvLen P 9 (M S.hp S.nx) r5 (fun r6 _=>XvBinOV P .add 3 (.tmp 80) (S.get 1) r6 (fun r7 _=>XvFnIV P (M S.hp S.nx) r0 [r2,r7] (fun r8 ef8=>K ⟨[(1,S.get 1),(3,S.get 3),(4,S.get 4),(6,S.get 6),(8,S.get 8),(13,S.get 13),(18,S.get 18),(19,r8),(56,S.get 56),(57,S.get 57),(58,S.get 58)],(Eff.hp ef8 S.nx S.hp),(S.nx+ef8.add.length),S.gh⟩))))))))) fun K hK=>?_
   repeat' (first|(refine hK _ ?_;clear hK K)|refine .inr (vProc.after hih (by simp[ziq,encI]) rfl rfl rfl rfl rfl rfl ?_)|(refine st ?_;try simp only[encM,zay,encC,zbb,finV,tV,zae (x:=(k.2:Int)+(fC m.arcs j0).inp.size) (by omega) (by omega)])|fail)
   all_goals try simp (disch:=omega) only[zae,zaf]
   all_goals
   refine Tri.cut (α:=Unit) (fun⟨⟩=>⟨[(1,encI k.2),(3,.ptr 1 4 0 0),(4,.ptr 2 1 0 0),(6,.ptr 4 1 0 0),(8,.is b 6),(13,.ptr 6 2 0 0),(18,.ptr 8 4 0 0),(19,finV (outL m s (fC m.arcs j0).to (k.2+(fC m.arcs j0).inp.size))),(56,ints (zbf m k.1)),(57,encI (zbf m k.1).length),(58,encI p)],[(0,some ⟨1,[.mp 5]⟩),(1,some ⟨4,[encM m]⟩),(2,some ⟨1,[encS s]⟩),(3,some ⟨1,[zbb (zbq m)]⟩),(4,some ⟨1,[.fn 38 [.ptr 0 1 0 0,.ptr 1 4 0 0,.ptr 2 1 0 0,.ptr 3 1 0 0,.ptr 4 1 0 0]]⟩),(5,some ⟨0,(l++(k,.raw b) :: (visA m s n (zcP l) k (p+1)).map (finE m s)).map entE⟩),(6,some ⟨2,[.agg [hv,.atom (.bool (many || zch (outL m s (fC m.arcs j0).to (k.2+(fC m.arcs j0).inp.size))))]]⟩),(7,ho),(8,some ⟨4,[encC (fC m.arcs j0)]⟩)],9,[.mark 0,.mark 1,.mark 2,.mark 3,.mark 4,.mark 5]⟩) ?_ ?_
   ·skip
    refine rZ [1,3,4,6,8,13,18,19,56,57,58] (fun P S K=>XvNil (S.get 13) (fun r2 _=>XvFieldAddr P 100 1 r2 (fun r3 _=>XvLoad P 4 (M S.hp S.nx) r3 (fun r4 _=>Xgq r4 false (fun k=>k (S.get 19)) (fun g6 r6=>Xgq g6 false (fun k=>XvNil r6 (fun r7 _=>k r7)) (fun g7 r7=>Xgq g7 false (fun k=>XvFieldAddr P 100 1 r7 (fun r8 _=>k r8)) (fun g8 r8=>Xgq g8 false (fun k=>XvLoad P 4 (M S.hp S.nx) r8 (fun r9 _=>k r9)) (fun g9 r9=>XvPick g9 (.atom (.bool true)) r9 (fun r10 _=>XvNil (S.get 13) (fun r11 _=>XvFieldAddr P 100 1 r11 (fun r12 _=>XvStore P 4 (M S.hp S.nx) r12 r10 (fun r13 ef13=>K ⟨[(1,S.get 1),(3,S.get 3),(4,S.get 4),(6,S.get 6),(8,S.get 8),(13,S.get 13),(18,S.get 18),(19,S.get 19),(56,S.get 56),(57,S.get 57),(58,S.get 58)],(Eff.hp ef13 S.nx S.hp),(S.nx+ef13.add.length),S.gh⟩)))))))))))) fun K hK=>?_
    repeat' (first|(refine hK _ ?_;clear hK K)|((first|refine zav (fun hg=>?_) (fun hg=>?_)|refine fun(hg:(_:Prop))=>?_)<;>((try simp only[BQ] at hg);try (exfalso;omega)))|(refine st ?_;try simp only[encM,zay,encC,zbb,finV,tV])|fail)
    all_goals
    (rcases hH with ⟨rfl,rfl,rfl⟩|⟨rfl,rfl,hne⟩)<;>(refine⟨(),[0,1,2,3,4,5,6,7,8],?_⟩;subst hg;first|(rw[Bool.true_or];exact zbW)|(rw[Bool.false_or];exact zbW))
   rintro⟨⟩
   refine Tri.cut (α:=(remS:List ByteArray) ×' (RunT (InP m s k p) (InP m s k (p+1)) (fC m.arcs j0).out (outL m s (fC m.arcs j0).to (k.2+(fC m.arcs j0).inp.size)) remS ks (many || zch (outL m s (fC m.arcs j0).to (k.2+(fC m.arcs j0).inp.size))))) (fun z=>(fun(remS:List ByteArray)=>(⟨[(1,encI k.2),(3,.ptr 1 4 0 0),(4,.ptr 2 1 0 0),(6,.ptr 4 1 0 0),(8,.is b 6),(13,.ptr 6 2 0 0),(18,.ptr 8 4 0 0),(56,ints (zbf m k.1)),(57,encI (zbf m k.1).length),(58,encI p),(100,.it 9)],[(0,some ⟨1,[.mp 5]⟩),(1,some ⟨4,[encM m]⟩),(2,some ⟨1,[encS s]⟩),(3,some ⟨1,[zbb (zbq m)]⟩),(4,some ⟨1,[.fn 38 [.ptr 0 1 0 0,.ptr 1 4 0 0,.ptr 2 1 0 0,.ptr 3 1 0 0,.ptr 4 1 0 0]]⟩),(5,some ⟨0,(l++(k,.raw b) :: (visA m s n (zcP l) k (p+1)).map (finE m s)).map entE⟩),(6,some ⟨2,[.agg [hv,.atom (.bool (many || zch (outL m s (fC m.arcs j0).to (k.2+(fC m.arcs j0).inp.size))))]]⟩),(7,ho),(8,some ⟨4,[encC (fC m.arcs j0)]⟩),(9,some ⟨0,[.fmp (remS.map setE),.junk]⟩)],10,[.mark 0,.mark 1,.mark 2,.mark 3,.mark 4,.mark 5]⟩:St)) z.1) ?_ ?_
   ·skip
    have hLs:=zdU hR.valid.acyc hR.inM s (fC m.arcs j0).to (k.2+(fC m.arcs j0).inp.size)
    have hX:=zgf hkid hj0 hLs.2
    rcases zhE (outL m s (fC m.arcs j0).to (k.2+(fC m.arcs j0).inp.size)) with ⟨hm,hhas⟩|⟨hm,hl,hhas⟩|⟨hm,hl,hhas⟩
    all_goals first|(refine Tri.openP 19 (.atom (.bool (zch (outL m s (fC m.arcs j0).to (k.2+(fC m.arcs j0).inp.size))))) (fin_amp hhas) ?_ (fun kx=>?_))|skip
    all_goals
    refine rZ [1,3,4,6,8,13,18,56,57,58,100] (fun P S K=>XvNil (S.get 19) (fun r1 _=>XvFieldAddr P 100 0 r1 (fun r2 _=>XvLoad P 98 (M S.hp S.nx) r2 (fun r3 _=>XvRange P 98 r3 S.nx (fun r4 ef4=>K ⟨[(1,S.get 1),(3,S.get 3),(4,S.get 4),(6,S.get 6),(8,S.get 8),(13,S.get 13),(18,S.get 18),(56,S.get 56),(57,S.get 57),(58,S.get 58),(100,r4)],(Eff.hp ef4 S.nx S.hp),(S.nx+ef4.add.length),S.gh⟩))))) fun K hK=>?_
    repeat' (first|(refine hK _ ?_;clear hK K)|refine And.intro ?_ ?_|(refine st ?_;try simp only[encM,zay,encC,zbb,finV,tV,hhas])|fail)
    all_goals
    (rcases hH with ⟨rfl,rfl,rfl⟩|⟨rfl,rfl,hne⟩)<;>(first|(refine⟨⟨kx,RunT.over hT hLs.1 (fun x=>(hX x).2) hm⟩,[0,1,2,3,4,5,6,7,8,9],?_⟩;exact zbW)|(refine⟨⟨[],RunT.over hT hLs.1 (fun x=>(hX x).2) hm⟩,[0,1,2,3,4,5,6,7,8,9],?_⟩;exact zbW)|(refine⟨⟨(outL m s (fC m.arcs j0).to (k.2+(fC m.arcs j0).inp.size)),RunT.start hT hLs.1 (fun x=>(hX x).2) hm⟩,[0,1,2,3,4,5,6,7,8,9],?_⟩;exact zbW)|(refine⟨⟨[],RunT.start0 hT hl (fun x=>(hX x).2)⟩,[0,1,2,3,4,5,6,7,8,9],?_⟩;exact zbW))
   rintro⟨remS,hrun⟩
   refine Tri.block ?_
   refine Tri.loop (α:=(rem2:List ByteArray) ×' (ks2:List ByteArray) ×' (many2:Bool) ×' (hv2:PV) ×' (ho2:Option AO) ×' (cur:Option ByteArray) ×' (RunT (InP m s k p) (InP m s k (p+1)) (fC m.arcs j0).out (outL m s (fC m.arcs j0).to (k.2+(fC m.arcs j0).inp.size)) rem2 ks2 many2∧HasR hv2 ho2 ks2)) (fun z=>(fun(rem2:List ByteArray) (ks2:List ByteArray) (many2:Bool) (hv2:PV) (ho2:Option AO) (cur:Option ByteArray)=>(⟨[(1,encI k.2),(3,.ptr 1 4 0 0),(4,.ptr 2 1 0 0),(6,.ptr 4 1 0 0),(8,.is b 6),(13,.ptr 6 2 0 0),(18,.ptr 8 4 0 0),(56,ints (zbf m k.1)),(57,encI (zbf m k.1).length),(58,encI p),(100,.it 9)],[(0,some ⟨1,[.mp 5]⟩),(1,some ⟨4,[encM m]⟩),(2,some ⟨1,[encS s]⟩),(3,some ⟨1,[zbb (zbq m)]⟩),(4,some ⟨1,[.fn 38 [.ptr 0 1 0 0,.ptr 1 4 0 0,.ptr 2 1 0 0,.ptr 3 1 0 0,.ptr 4 1 0 0]]⟩),(5,some ⟨0,(l++(k,.raw b) :: (visA m s n (zcP l) k (p+1)).map (finE m s)).map entE⟩),(6,some ⟨2,[.agg [hv2,.atom (.bool many2)]]⟩),(7,ho2),(8,some ⟨4,[encC (fC m.arcs j0)]⟩),(9,some ⟨0,[.fmp (rem2.map setE),curV cur]⟩)],10,[.mark 0,.mark 1,.mark 2,.mark 3,.mark 4,.mark 5]⟩:St)) z.1 z.2.1 z.2.2.1 z.2.2.2.1 z.2.2.2.2.1 z.2.2.2.2.2.1) (fun z=>(fun(rem2:List ByteArray) (ks2:List ByteArray) (many2:Bool) (hv2:PV) (ho2:Option AO) (cur:Option ByteArray)=>rem2.length) z.1 z.2.1 z.2.2.1 z.2.2.2.1 z.2.2.2.2.1 z.2.2.2.2.2.1) ⟨remS,ks,many || zch (outL m s (fC m.arcs j0).to (k.2+(fC m.arcs j0).inp.size)),hv,ho,none,⟨hrun,hH⟩⟩ [0,1,2,3,4,5,6,7,8,9] ?_ ?_
   ·(rcases hH with ⟨rfl,rfl,rfl⟩|⟨rfl,rfl,hne⟩)<;>exact zbW
   rintro⟨rem2,ks2,many2,hv2,ho2,cur,⟨hrun2,hH2⟩⟩
   refine sZ [1,3,4,6,8,13,18,56,57,58,100,102] (fun P S K=>XvNext (M S.hp S.nx) (S.get 100) (fun r0 ef0=>XvExtract r0 0 (fun r1 _=>K ⟨[(1,S.get 1),(3,S.get 3),(4,S.get 4),(6,S.get 6),(8,S.get 8),(13,S.get 13),(18,S.get 18),(56,S.get 56),(57,S.get 57),(58,S.get 58),(100,S.get 100),(102,r1)],(Eff.hp ef0 S.nx S.hp),(S.nx+ef0.add.length),S.gh⟩))) fun K hK=>?_
   repeat' (first|(refine hK _ ?_;clear hK K)|(refine(⟨fun hrem=>?_,fun jn hjn=>?_⟩:zot _ _ _))|(refine st ?_;try simp only[encM,zay,encC,zbb,finV,tV,zfy,zhk])|fail)
   all_goals
   refine Tri.seq ?_
   refine Tri.cond rfl (fun h102=>?_) (fun h102=>?_)
   ·try (cases h102;done)
    all_goals (try simp only[CQ] at h102)
    all_goals
    refine Tri.skip ?_
    refine Tri.block ?_
    have hjl:jn<rem2.length:=by simpa using hjn
    have hcur:rem2[jn]? = some rem2[jn]:=List.getElem?_eq_getElem hjl
    refine sZ [1,3,4,6,8,13,18,20,56,57,58,100] (fun P S K=>XvEntry (M S.hp S.nx) (S.get 100) (fun r0 _=>XvExtract r0 0 (fun r1 _=>K ⟨[(1,S.get 1),(3,S.get 3),(4,S.get 4),(6,S.get 6),(8,S.get 8),(13,S.get 13),(18,S.get 18),(20,r1),(56,S.get 56),(57,S.get 57),(58,S.get 58),(100,S.get 100)],S.hp,S.nx,S.gh⟩))) fun K hK=>?_
    repeat' (first|(refine hK _ ?_;clear hK K)|refine And.intro ?_ ?_|(refine st ?_;try simp only[encM,zay,encC,zbb,finV,tV,hcur,curV,setE])|fail)
    all_goals
    refine sZ [1,3,4,6,8,13,18,20,56,57,58,100,109] (fun P S K=>XvNil (S.get 13) (fun r1 _=>XvFieldAddr P 100 1 r1 (fun r2 _=>XvLoad P 4 (M S.hp S.nx) r2 (fun r3 _=>XvUn .not r3 (fun r4 _=>K ⟨[(1,S.get 1),(3,S.get 3),(4,S.get 4),(6,S.get 6),(8,S.get 8),(13,S.get 13),(18,S.get 18),(20,S.get 20),(56,S.get 56),(57,S.get 57),(58,S.get 58),(100,S.get 100),(109,r4)],S.hp,S.nx,S.gh⟩))))) fun K hK=>?_
    repeat' (first|(refine hK _ ?_;clear hK K)|(refine st ?_;try simp only[encM,zay,encC,zbb,finV,tV])|fail)
    all_goals try simp (disch:=omega) only[zae,zaf]
    all_goals
    refine Tri.cond rfl (fun h109=>?_) (fun h109=>?_)
    ·try (cases h109;done)
     all_goals (try simp only[CQ] at h109)
     all_goals
     obtain rfl:many2=false:=by simp_all
     have hLs:=zdU hR.valid.acyc hR.inM s (fC m.arcs j0).to (k.2+(fC m.arcs j0).inp.size)
     have hX:=zgf hkid hj0 hLs.2
     obtain⟨hf1,hf2,hf3⟩:=hrun2.facts
     have hxs:(rem2[jn]).size≤30000000:=hR.osize ((hLs.2 _).1 (hf1 _ (List.getElem_mem hjl)))
     have hxo:((fC m.arcs j0).out++rem2[jn]).size≤9223372036854775807:=by rw[ByteArray.size_append];omega
     have hks2:∀x,x∈ks2→x.size≤9223372036854775807:=fun x hx=>by
       have:=hR.osize (InP_out h0 h1 h2 (show p+1≤_ by omega) ((hX x).2 (hf3 x hx)))
       omega
     have hkl2:ks2.length≤1000000:=by omega
     rcases hH2 with ⟨rfl,rfl,rfl⟩|⟨rfl,rfl,hne2⟩
     all_goals
     refine rZ [1,3,4,6,8,13,18,56,57,58,100] (fun P S K=>XvFieldAddr P 105 3 (S.get 18) (fun r1 _=>XvLoad P 9 (M S.hp S.nx) r1 (fun r2 _=>XvBinOV P .add 9 (.tmp 113) r2 (S.get 20) (fun r4 _=>XvFnIV P (M S.hp S.nx) (.fn 40 []) [(S.get 13),r4] (fun r5 ef5=>K ⟨[(1,S.get 1),(3,S.get 3),(4,S.get 4),(6,S.get 6),(8,S.get 8),(13,S.get 13),(18,S.get 18),(56,S.get 56),(57,S.get 57),(58,S.get 58),(100,S.get 100)],(Eff.hp ef5 S.nx S.hp),(S.nx+ef5.add.length),S.gh⟩))))) fun K hK=>?_
     repeat' (first|(refine hK _ ?_;clear hK K)|refine And.intro ?_ ?_|exact cl|refine .inr (vProc.put0 7 (zfm false ⟨#[]⟩ (by decide)) rfl rfl ?_)|refine .inr (vProc.put0 6 (zfm false _ hxo) rfl rfl ?_)|refine .inr (vProc.put 6 7 (by decide) (zi9 false ks2 _ hxo hks2 hkl2) rfl rfl rfl ?_)|(refine st ?_;try simp only[encM,zay,encC,zbb,finV,tV])|fail)
     all_goals try simp (disch:=omega) only[zae,zaf]
     all_goals
     have hlen:(rem2.eraseIdx jn).length<rem2.length:=by rw[List.length_eraseIdx_of_lt hjl];omega
     first
       | (subst h109
          have hHc:=hH2
          (rcases hHc with ⟨rfl,rfl,rfl⟩|⟨rfl,rfl,hne2⟩)<;>(refine⟨⟨rem2.eraseIdx jn,_,true,_,_,some rem2[jn],hrun2.many,hH2⟩,[0,1,2,3,4,5,6,7,8,9],hlen,?_⟩;exact zbW))
       | (refine⟨⟨rem2.eraseIdx jn,putS [] ((fC m.arcs j0).out++rem2[jn]),false,.mp 7,some ⟨0,[setE ((fC m.arcs j0).out++rem2[jn])]⟩,some rem2[jn],hrun2.put hjl (fun x=>(hX x).2),.inr ⟨rfl,rfl,zh4 _ _⟩⟩,[0,1,2,3,4,5,6,10,8,9],hlen,?_⟩
          exact zbW)
       | (refine⟨⟨rem2.eraseIdx jn,putS ks2 ((fC m.arcs j0).out++rem2[jn]),_,.mp 7,some ⟨0,(putS ks2 ((fC m.arcs j0).out++rem2[jn])).map setE⟩,some rem2[jn],hrun2.put hjl (fun x=>(hX x).2),.inr ⟨rfl,rfl,zh4 _ _⟩⟩,[0,1,2,3,4,5,6,7,8,9],hlen,?_⟩
          exact zbW)
    try (cases h109;done)
    all_goals (try simp only[CQ] at h109)
    all_goals
    refine Tri.skip ?_
    have hlen:(rem2.eraseIdx jn).length<rem2.length:=by rw[List.length_eraseIdx_of_lt hjl];omega
    first
      | (subst h109
         have hHc:=hH2
         (rcases hHc with ⟨rfl,rfl,rfl⟩|⟨rfl,rfl,hne2⟩)<;>(refine⟨⟨rem2.eraseIdx jn,_,true,_,_,some rem2[jn],hrun2.many,hH2⟩,[0,1,2,3,4,5,6,7,8,9],hlen,?_⟩;exact zbW))
      | (refine⟨⟨rem2.eraseIdx jn,putS [] ((fC m.arcs j0).out++rem2[jn]),false,.mp 7,some ⟨0,[setE ((fC m.arcs j0).out++rem2[jn])]⟩,some rem2[jn],hrun2.put hjl (fun x=>(hX x).2),.inr ⟨rfl,rfl,zh4 _ _⟩⟩,[0,1,2,3,4,5,6,10,8,9],hlen,?_⟩
         exact zbW)
      | (refine⟨⟨rem2.eraseIdx jn,putS ks2 ((fC m.arcs j0).out++rem2[jn]),_,.mp 7,some ⟨0,(putS ks2 ((fC m.arcs j0).out++rem2[jn])).map setE⟩,some rem2[jn],hrun2.put hjl (fun x=>(hX x).2),.inr ⟨rfl,rfl,zh4 _ _⟩⟩,[0,1,2,3,4,5,6,7,8,9],hlen,?_⟩
         exact zbW)
   try (cases h102;done)
   all_goals (try simp only[CQ] at h102)
   all_goals
   refine Tri.exit ?_
   refine rY [1,3,4,6,8,13,56,57,58] (fun P S K=>XvBinOV P .add 3 (.const (.int .i64 1)) (S.get 58) (.atom (.int .i64 1)) (fun r0 _=>K ⟨[(1,S.get 1),(3,S.get 3),(4,S.get 4),(6,S.get 6),(8,S.get 8),(13,S.get 13),(56,S.get 56),(57,S.get 57),(58,r0)],S.hp,S.nx,S.gh⟩)) ?_
   all_goals try simp (disch:=omega) only[zae,zaf]
   all_goals
   first
   | (have hkid0:kidM m s k.2 (li (zbf m k.1) p)=none:=by rw[hj0,kidM,Int.toNat_natCast,if_neg (by rw[h73];decide)]
      have hHc:=hH
      (rcases hHc with ⟨rfl,rfl,rfl⟩|⟨rfl,rfl,hne⟩)<;>(refine⟨⟨p+1,_,many,_,_,by omega,hT.congr (zmJ hkid0),hH⟩,[0,1,2,3,4,5,6,7],by dsimp only;omega,?_⟩;rw[←zit (n:=n) (ks:=zcP l) hpl hkid0];exact zbW))
   | (obtain rfl:rem2=[]:=by simpa using hrem
      have hLs:=zdU hR.valid.acyc hR.inM s (fC m.arcs j0).to (k.2+(fC m.arcs j0).inp.size)
      have hT2:=hrun2.end_ (zgf hkid hj0 hLs.2)
      have hHc:=hH2
      (rcases hHc with ⟨rfl,rfl,rfl⟩|⟨rfl,rfl,hne2⟩)<;>(refine⟨⟨p+1,_,many2,_,_,by omega,hT2,hH2⟩,[0,1,2,3,4,5,6,7],by dsimp only;omega,?_⟩;exact zbW))
  try (cases h59;done)
  all_goals (try simp only[CQ] at h59)
  all_goals
  refine Tri.exit ?_
  have hpe:p=(zbf m k.1).length:=by omega
  subst hpe
  have hLs:=zdU hR.valid.acyc hR.inM s k.1 k.2
  have hT':=hT.congr (zrJ h0 h1 h2)
  have hend:=(hT'.end_ hLs.1 hLs.2).1
  obtain⟨hs1,hs2⟩:=hT'.soft hLs.1 hLs.2
  refine Tri.unraw 8 13 0 5 l.length 6 2 b _ (keyP k) rfl rfl (by simp[entE,encEV]) rfl rfl ?_
  rw[mid_set]
  rcases hH with ⟨rfl,rfl,rfl⟩|⟨rfl,rfl,hne⟩
  rotate_left
  refine zox (f:=38) (m:=m) (s:=s) (l:=l) (k:=k) (a:=(visA m s n (zcP l) k (zbf m k.1).length).map (finE m s)) (many:=many) (hv:=.mp 7) (hvF:=.fmp (ks.map setE)) rfl rfl rfl rfl rfl rfl rfl rfl rfl (fun keep n hk=>by simp only[sealed,hk,St.obj,lk];simp[-List.map_map,zbT]) (zb3 ks) (hs2 hne) hend ?_
  rotate_left
  refine zox (f:=38) (m:=m) (s:=s) (l:=l) (k:=k) (a:=(visA m s n (zcP l) k (zbf m k.1).length).map (finE m s)) (many:=many) (hv:=.atom (.map none)) (hvF:=.atom (.map none)) rfl rfl rfl rfl rfl rfl rfl rfl rfl (fun keep n hk=>rfl) rfl (hs1 rfl) hend ?_
  all_goals
  refine sY [8,9] (fun P S K=>K ⟨[(8,S.get 8),(9,(S.get 13))],S.hp,S.nx,S.gh⟩) ?_
  all_goals
  refine Tri.ret ?_
  show ResP _ _ _ _ _ _
  rw[zon hkk]
  exact ResP.after rfl (zb9 _) rfl rfl rfl rfl rfl rfl rfl
end Go.Proofs.Ytehoglapajkabaa
