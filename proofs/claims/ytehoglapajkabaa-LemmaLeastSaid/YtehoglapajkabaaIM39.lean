/-
  From the row's reading of a lexicon to a plain value: structs of three rows of structs.
-/
import Derived.Test.YtehoglapajkabaaIM0
import Derived.Test.YtehoglapajkabaaIA16
import Derived.Lib.SmallJoins
import Derived.SizedLaws
import Derived.Test.YtehoglapajkabaaIA11
set_option linter.all false
namespace Go.Proofs.Ytehoglapajkabaa
open Go Go.RowKit Go.ChangeShapes Go.WideShapes Go.ChangeAt Go.Deep
structure RawX (x:LexD):Prop where
  nforms:x.forms.length≤140737488355328
  nrules:x.rules.length≤140737488355328
  nprefs:x.prefs.length≤140737488355328
  forms:∀f,f∈x.forms→HeldF f
  rules:∀r,r∈x.rules→HeldR r
  prefs:∀p,p∈x.prefs→HeldA p
theorem RawX.held{x:LexD}(h:RawX x) (hn:(x.forms.length:Int)+x.rules.length+x.prefs.length≤70):HeldX x:=⟨by omega,by omega,by omega,h.forms,h.rules,h.prefs⟩
section
variable {H:Type} {enc:TypeId×Value→H} {P:Program} {W:World} {sp:Nat→Bool} {held:Bool}
instance:Inhabited FormD:=⟨noF⟩
instance:Inhabited RuleD:=⟨noR⟩
instance:Inhabited PrefD:=⟨noA⟩
end
end Go.Proofs.Ytehoglapajkabaa
namespace Go.Proofs.Ytehoglapajkabaa
open Go Go.RowKit
set_option maxRecDepth 20000
set_option maxHeartbeats 1000000
theorem zmK (m:List Int):(zgi m).length≤7:=by unfold zgi;simp;omega
structure ArcD where
  fr:Int
  to:Int
  inp:ByteArray
  out:ByteArray
deriving DecidableEq
structure MachD where
  states:Int
  start:Int
  fin:List Int
  arcs:List ArcD
def encC (a:ArcD):PV:=.agg [encI a.fr,encI a.to,encS a.inp,encS a.out]
def zay (l:List ArcD):PV:=.sl 4 (l.map encC)
def encM (m:MachD):PV:=.agg [encI m.states,encI m.start,ints m.fin,zay m.arcs]
theorem za5 (l:List ArcD):zaw (l.map encC)=true:=zbh encC (fun _=>rfl) l
theorem zbL (l:List ArcD):(zay l).pure=true:=za5 l
theorem zaI (m:MachD):(encM m).pure=true:=by simp[encM,zay,PV.pure,zaw,za5,zah,encI]
theorem zbE (ρ:Nat→Nat) (m:MachD):(encM m).ren ρ=encM m:=za8 ρ _ (zaI m)
theorem zaQ (ρ:Nat→Nat) (l:List ArcD):renL ρ (l.map encC)=l.map encC:=zbo ρ _ (za5 l)
theorem zaF (H:Nat→Option AO) (keep:Nat→Bool) (n:Nat) (l:List ArcD):(l.map encC).map (sealed H keep n)=l.map encC:=zak H keep n (za5 l)
theorem zax (ρ:Nat→Nat) (l:List ArcD):(l.map encC).map (PV.ren ρ)=l.map encC:=zaO ρ (za5 l)
def noC:ArcD:=⟨0,0,.empty,.empty⟩
def fC (l:List ArcD) (k:Nat):ArcD:=l.getD k noC
theorem zd2{l:List ArcD}{k:Nat}(h:k<l.length):(l.map encC).getD k .junk=encC (fC l k):=by simp[fC,List.getD_eq_getElem?_getD,h]
theorem zf1{l:List ArcD}{k:Nat}(h:k<l.length):fC l k=l[k]:=by simp[fC,List.getD_eq_getElem?_getD,h]
theorem zb5{l:List ArcD}{k:Nat}(h:k<l.length):fC l k∈l:=by rw[zf1 h];exact List.getElem_mem h
structure HeldC (a:ArcD):Prop where
  fr:I64 a.fr
  to:I64 a.to
  inp:a.inp.size≤4294967296
  out:a.out.size≤4294967296
structure HeldM (m:MachD):Prop where
  states:I64 m.states
  start:I64 m.start
  fin:Fits m.fin
  narcs:m.arcs.length≤1000000
  arcs:∀a,a∈m.arcs→HeldC a
def zdY (m:MachD):Bool:=decide (4096<m.states) || decide (16384<m.arcs.length)
def isM (m:MachD) (k:Int):Bool:=decide (0≤k) && decide (k<m.states)
def ze8 (arcs:List ArcD) (n t:Nat):List (List Int):=(List.range n).map fun(k:Nat)=>((List.range t).filter fun i=>decide ((fC arcs i).fr=k)).map fun(i:Nat)=>(i:Int)
def zbq (m:MachD):List (List Int):=ze8 m.arcs m.states.toNat m.arcs.length
def zbb (l:List (List Int)):PV:=.sl 1 (l.map ints)
theorem zbn (arcs:List ArcD) (n t:Nat):(ze8 arcs n t).length=n:=by simp[ze8]
theorem zbM{arcs:List ArcD}{n t k:Nat}(h:k<n):(ze8 arcs n t).getD k []=((List.range t).filter fun i=>decide ((fC arcs i).fr=k)).map fun(i:Nat)=>(i:Int):=by
  simp[ze8,List.getD_eq_getElem?_getD,h]
theorem zfv{arcs:List ArcD}{n t k:Nat}(h:k<n):((ze8 arcs n t).getD k []).length≤t:=by
  rw[zbM h,List.length_map]
  exact Nat.le_trans (List.length_filter_le _ _) (by simp)
theorem znR{arcs:List ArcD}{n t k:Nat}(h:k<n):(ze8 arcs n (t+1)).getD k []=if (fC arcs t).fr=k then (ze8 arcs n t).getD k []++[(t:Int)] else (ze8 arcs n t).getD k []:=by
  rw[zbM h,zbM h,List.range_succ,List.filter_append,List.map_append]
  by_cases e:(fC arcs t).fr=k
  · simp[e]
  · simp[e]
def zgy (l:List (List Int)):List (List PV):=l.map fun x=>x.map encI
theorem zcw (l:List (List Int)):(zgy l).length=l.length:=by simp[zgy]
theorem zb8{l:List (List Int)}{k:Nat}(h:k<l.length):(zgy l).getD k []=(l.getD k []).map encI:=by simp[zgy,List.getD_eq_getElem?_getD,h]
theorem rowsP_sl (l:List (List Int)):PV.sl 1 ((zgy l).map fun x=>.sl 1 x)=zbb l:=by simp[zgy,zbb,ints]
theorem zbk (l:List (List Int)):(zbb l).pure=true:=by
  simp only[zbb,PV.pure,zbr,List.all_map]
  exact List.all_eq_true.2 fun x _=>zah x
theorem zdd{l:List (List Int)}{k:Nat}(h:k<l.length):(l.map ints).getD k .junk=ints (l.getD k []):=by simp[List.getD_eq_getElem?_getD,h]
section
variable {P:Program} {n:Nat} {S:St} {Q:Exit→St→Prop}
structure LeqB (k:Nat) (L:List Nat) (S S':St):Prop where
  env:∀p,p∈S'.env→sealed S.obj (fun i=>L.contains i) k (S.get p.1)=p.2.ren (rmap L S.nx)
  hp:∀p,p∈S'.hp→∀o,p.2=some o→p.1<L.length∧∃o',S.obj (rmap L S.nx p.1)=some o'∧o'.sz=o.sz∧o'.els.map (sealed S.obj (fun i=>L.contains i) k)=o.els.map (PV.ren (rmap L S.nx))
  nx:S'.nx=L.length
  inj:∀i j o o',S'.obj i=some o→S'.obj j=some o'→(L[i]?).getD 0=(L[j]?).getD 0→i=j
  ghl:S'.gh.length=S.gh.length
  gh:∀i (h:i<S'.gh.length) (h2:i<S.gh.length),sealed S.obj (fun i=>L.contains i) k (S.gh[i])=S'.gh[i].ren (rmap L S.nx)
def LeqA (L:List Nat) (S S':St):Prop:=∃k,LeqB k L S S'
theorem Sim.leqA{w0:Home}{F0 D:Nat→Prop}{μ:Nat→Option Nat}{F:Nat→Prop}{G:List Value}{a:Act}{w:World}{L:List Nat}{S':St}(hS:Sim w0 F0 D μ F G S n a w) (h:LeqA L S S'):
    Sim w0 F0 (fun i=>D (rmap L S.nx i)) (fun i=>μ (rmap L S.nx i)) (frz S L μ F) G S' n a w:=by
  obtain⟨k,h⟩:=h
  have hD:∀i,D (rmap L S.nx i)→D (rmap L S.nx i)∧μ (rmap L S.nx i)=μ (rmap L S.nx i):=fun i hi=>⟨hi,rfl⟩
  have hF:∀b,F b→frz S L μ F b:=fun b h=>.inl h
  have hO:∀i o b,L.contains i=false→S.obj i=some o→μ i=some b→frz S L μ F b:=fun i o b h1 h2 h3=>.inr ⟨i,o,h1,h2,h3⟩
  have hobj:∀i o,S'.obj i=some o→i<L.length∧∃o',S.obj (rmap L S.nx i)=some o'∧o'.sz=o.sz∧o'.els.map (sealed S.obj (fun i=>L.contains i) k)=o.els.map (PV.ren (rmap L S.nx)):=fun i o hi=>by
    unfold St.obj at hi
    cases hl:lk S'.hp i with
    | none=>rw[hl] at hi;cases hi
    | some x=>
      rw[hl] at hi
      have hx:x=some o:=hi
      exact h.hp (i,x) (zjp hl) o hx
  have hget:∀i,i<L.length→rmap L S.nx i∈L:=fun i hi=>by
    have e:rmap L S.nx i=L[i]:=by simp[rmap,hi]
    rw[e];exact List.getElem_mem hi
  have hno:∀i b o',i<L.length→S.obj (rmap L S.nx i)=some o'→μ (rmap L S.nx i)=some b→¬frz S L μ F b:=fun i b o' hi h1 hib hbF=>by
    rcases hbF with h|⟨j,o2,g1,g2,g3⟩
    · exact(hS.heap.own _ _ b h1 hib).2 h
    · have:=hS.heap.inj _ _ _ _ b h1 g2 hib g3
      rw[←this] at g1
      have:=List.contains_iff_mem.2 (hget i hi)
      rw[g1] at this
      cases this
  refine⟨hS.defers,hS.size,fun s=>?_,⟨fun i o hi=>?_,fun i j o o' b hi hj hib hjb=>?_,fun i o b hi hib=>?_,hS.heap.ext,fun b hb=>?_,fun b hb=>?_⟩,fun i hi=>?_,by rw[h.ghl];exact hS.ghl,fun i hi=>?_⟩
  · cases hl:lk S'.env s with
    | none=>rw[show S'.get s=.junk by simp[St.get,hl]];exact .junk _
    | some p=>
      rw[show S'.get s=p by simp[St.get,hl]]
      have:=Rep.sealed hS.heap (fun i=>L.contains i) _ hF hO k _ _ (hS.env s)
      rw[h.env (s,p) (zjp hl)] at this
      exact this.ren_inv hD _ rfl
  · obtain⟨h0,o',h1,h2,h3⟩:=hobj i o hi
    obtain⟨g1,g2⟩:=hS.heap.objs _ _ h1
    exact⟨g1,(Stands.frz hS.heap g2 h2 h3).ren_inv hD⟩
  · obtain⟨h0,o1,h1,h2,h3⟩:=hobj i o hi
    obtain⟨k0,o2,k1,k2,k3⟩:=hobj j o' hj
    have e:=hS.heap.inj _ _ _ _ b h1 k1 hib hjb
    exact h.inj i j o o' hi hj (by simpa[rmap,h0,k0] using e)
  · obtain⟨h0,o',h1,h2,h3⟩:=hobj i o hi
    exact⟨(hS.heap.own _ _ b h1 hib).1,hno i b o' h0 h1 hib⟩
  · rcases hb with h|⟨i,o,h1,h2,h3⟩
    · exact hS.heap.f0 b h
    · exact .inr (hS.heap.own i o b h2 h3).1
  · rcases hb with h|⟨i,o,h1,h2,h3⟩
    · exact hS.heap.fsz b h
    · exact(hS.heap.ok h2 h3).lt
  · rw[h.nx]
    exact(zh2 hS.ids hi).1
  · have hi2:i<S.gh.length:=by rw[←h.ghl];exact hi
    have:=Rep.sealed hS.heap (fun i=>L.contains i) _ hF hO k _ _ (hS.gh i hi2)
    rw[h.gh i hi hi2] at this
    exact this.ren_inv hD _ rfl
theorem Tri.again{c:Code}(L:List Nat) (S':St) (h:LeqA L S S') (ht:Tri P n c S' Q):Tri P n c S Q:=fun w0 F0 _ _ _ G a w hS=>ht w0 F0 _ _ _ G a w (hS.leqA h)
end
def eB:ByteArray:=⟨#[]⟩
def chB (c:Nat):ByteArray:=⟨#[UInt8.ofNat (97+c)]⟩
theorem utf_chB:∀c:Nat,c<26→Utf8.encode (97+(c:Int))=chB c:=by
  have h:((List.range 26).all fun c=>decide ((Utf8.encode (97+(c:Int))).data=(chB c).data))=true:=by kernel_rfl
  intro c hc
  have:=of_decide_eq_true (List.all_eq_true.1 h c (List.mem_range.2 hc))
  exact ByteArray.ext this
theorem zok{x:Int}(h1 : -2147483648≤x) (h2:x≤2147483647):IntKind.i32.wrap x=x:=by
  unfold IntKind.wrap;simp[IntKind.bits,IntKind.signed];omega
def zcd (fr to:Int) (k:Nat):List ArcD:=(List.range k).map fun c=>⟨fr,to,chB c,chB c⟩
theorem zn0 (fr to:Int) (k:Nat):zcd fr to (k+1)=zcd fr to k++[⟨fr,to,chB k,chB k⟩]:=by
  unfold zcd;rw[List.range_succ,List.map_append];rfl
theorem zbN (fr to:Int) (k:Nat):(zcd fr to k).length=k:=by simp[zcd]
def zbp (n:Nat) (fr:Int) (k:Nat):Int:=if k=0 then fr else (n:Int)+k - 1
def zcW (n:Nat) (fr:Int) (t:ByteArray):Nat→List ArcD
  | 0=>[]
  | k+1=>zcW n fr t k++[⟨zbp n fr k,(n:Int)+k,t.extract k (k+1),eB⟩]
theorem zdP (n:Nat) (fr:Int) (t:ByteArray):∀k,(zcW n fr t k).length=k
  | 0=>rfl
  | k+1=>by rw[zcW,List.length_append,zdP n fr t k];rfl
def zd5:Nat→Nat→Int→Int→ByteArray→List ArcD
  | 0,n,fr,to,t=>[⟨fr,to,eB,t⟩]
  | f+1,n,fr,to,t=>if 24<t.size then ⟨fr,n,eB,t.extract 0 24⟩ :: zd5 f (n+1) n to (t.extract 24 t.size) else [⟨fr,to,eB,t⟩]
def zdD:Nat→ByteArray→Nat
  | 0,t=>0
  | f+1,t=>if 24<t.size then zdD f (t.extract 24 t.size)+1 else 0
theorem zhQ:∀f t,zdD f t≤f
  | 0,t=>Nat.le_refl _
  | f+1,t=>by
    rw[zdD];split
    · have:=zhQ f (t.extract 24 t.size);omega
    · omega
theorem zfc:∀f n fr to t,(zd5 f n fr to t).length=zdD f t+1
  | 0,n,fr,to,t=>rfl
  | f+1,n,fr,to,t=>by
    rw[zd5,zdD];split
    · rw[List.length_cons,zfc f]
    · rfl
def bS (n st:Int) (fin:List Int) (ri len:Nat):PV:=.agg [encI n,encI st,ints fin,.ob ri 4 0 len]
def bHp (n st:Int) (fin:List Int) (A:List ArcD):List AO:=[⟨4,[bS n st fin 1 A.length]⟩,⟨4,A.map encC⟩]
def bHp' (n st:Int) (fin:List Int) (A:List ArcD):List (Option AO):=[some ⟨4,[bS n st fin 2 A.length]⟩,none]
def bOs (A:List ArcD):List AO:=[⟨4,A.map encC⟩]
section
variable {P:Program} {S:St} {n n' st:Int} {fin:List Int} {A A':List ArcD} {r:PV} {ts:List Nat} {f:FuncId} {vals args:List PV} {K:PV→Eff→Prop}
theorem zfE{H:Nat→Option AO}{keep:Nat→Bool}{k ri len:Nat}(hk:keep ri=true):sealed H keep (k+2) (bS n st fin ri len)=bS n st fin ri len:=by
  have h1:sealed H keep (k+1) (ints fin)=ints fin:=by simp[ints,sealed,zak H keep _ (zbh encI (fun _=>rfl) fin)]
  simp[bS,sealed,h1,hk,encI]
theorem zc2 (ρ:Nat→Nat) {ri len:Nat}:(bS n st fin ri len).ren ρ=bS n st fin (ρ ri) len:=by
  have h1:(ints fin).ren ρ=ints fin:=za8 ρ _ (zah fin)
  simp[bS,PV.ren,renL,h1,encI]
theorem ResP.grow (k:Nat) (hr:retV S ts=r) (hp:r.pure=true) (hg:S.gh=[.mark 0,.mark 1]) (hk:2≤k) {n2:Int}{len:Nat}{els:List PV}(h0:S.obj 0=some ⟨4,[bS n2 st fin k len]⟩) (h2:S.obj k=some ⟨4,els⟩)
    (hn2:n2=n':=by first|rfl|(simp;done)|(simp;omega)|omega) (hl2:len=A'.length:=by first|rfl|(simp;done)|(simp;omega)) (he2:els=A'.map encC:=by first|rfl|(simp[encC,encI,encS];done)):ResP S ts r (bHp n st fin A) (bHp' n' st fin A') (bOs A'):=by
  subst hn2 hl2 he2
  refine ResP.of [0,1,k] (by rw[hr];exact sp hp) rfl (by simp;omega) hg rfl (fun i hi=>?_) (fun i o ho=>?_)
  · match i,hi with
    | 0,_|1,_=>rfl
  · match i,ho with
    | 0,ho=>
      cases ho
      refine⟨_,h0,rfl,?_⟩
      rw[List.map_cons,List.map_cons,zfE (by simp),zc2];rfl
    | 1,ho=>cases ho
    | 2,ho=>
      cases ho
      refine⟨_,h2,rfl,?_⟩
      rw[zaF,zax]
theorem ResP.grow0 (hr:retV S ts=r) (hp:r.pure=true) (hg:S.gh=[.mark 0,.mark 1]) (h0:S.obj 0=some ⟨4,[bS n' st fin 1 A.length]⟩) (h2:S.obj 1=some ⟨4,A.map encC⟩):ResP S ts r (bHp n st fin A) ((bHp n' st fin A).map some) []:=by
  refine ResP.of [0,1] (by rw[hr];exact sp hp) rfl (by simp) hg rfl (fun i hi=>?_) (fun i o ho=>?_)
  · match i,hi with
    | 0,_|1,_=>rfl
  · match i,ho with
    | 0,ho=>
      cases ho
      refine⟨_,h0,rfl,?_⟩
      rw[List.map_cons,List.map_cons,zfE (by simp),zc2];rfl
    | 1,ho=>
      cases ho
      refine⟨_,h2,rfl,?_⟩
      rw[zaF,zax]
theorem vProc.grow (i j:Nat) (hij:i≠j) (hpr:Proc P f args (bHp n st fin A) r (bHp' n' st fin A') (bOs A')) (hr:r.pure=true) (hv:vals=args.map (PV.ren (rmap [i,j] S.nx))) {len:Nat}(h0:S.obj i=some ⟨4,[bS n st fin j len]⟩) (h1:S.obj j=some ⟨4,A.map encC⟩)
    (hk:K r ⟨[⟨4,A'.map encC⟩],[j],[(i,⟨4,[bS n' st fin S.nx A'.length]⟩)],[]⟩) (hlen:len=A.length:=by first|rfl|(simp;done)|(simp;omega)):vProc P S f vals K:=by
  subst hlen
  refine vProc.of [i,j] hpr (by simp[hij]) rfl hv (fun a o ha=>?_) ?_
  · match a,ha with
    | 0,ha=>
      cases ha
      rw[show rmap [i,j] S.nx 0=i from rfl,h0]
      simp only[AO.ren,List.map_cons,List.map_nil,zc2];rfl
    | 1,ha=>
      cases ha
      rw[show rmap [i,j] S.nx 1=j from rfl,h1]
      simp only[AO.ren,zax]
  · rw[za8 _ _ hr]
    have e1:(bOs A').map (AO.ren (pmap [i,j] S.nx))=[⟨4,A'.map encC⟩]:=by simp only[bOs,List.map_cons,List.map_nil,AO.ren,zax]
    have e2:zaW (pmap [i,j] S.nx) [i,j] (bHp' n' st fin A')=[(i,⟨4,[bS n' st fin S.nx A'.length]⟩)]:=by
      simp only[bHp',zaW,AO.ren,List.map_cons,List.map_nil,zc2];rfl
    rw[e1,e2]
    exact hk
theorem vProc.grow0 (i j:Nat) (hij:i≠j) (hpr:Proc P f args (bHp n st fin A) r ((bHp n' st fin A).map some) []) (hr:r.pure=true) (hv:vals=args.map (PV.ren (rmap [i,j] S.nx))) {len:Nat}(h0:S.obj i=some ⟨4,[bS n st fin j len]⟩) (h1:S.obj j=some ⟨4,A.map encC⟩)
    (hk:K r ⟨[],[],[(i,⟨4,[bS n' st fin j A.length]⟩),(j,⟨4,A.map encC⟩)],[]⟩) (hlen:len=A.length:=by first|rfl|(simp;done)|(simp;omega)):vProc P S f vals K:=by
  subst hlen
  refine vProc.of [i,j] hpr (by simp[hij]) rfl hv (fun a o ha=>?_) ?_
  · match a,ha with
    | 0,ha=>
      cases ha
      rw[show rmap [i,j] S.nx 0=i from rfl,h0]
      simp only[AO.ren,List.map_cons,List.map_nil,zc2];rfl
    | 1,ha=>
      cases ha
      rw[show rmap [i,j] S.nx 1=j from rfl,h1]
      simp only[AO.ren,zax]
  · rw[za8 _ _ hr]
    have e2:zaW (pmap [i,j] S.nx) [i,j] ((bHp n' st fin A).map some)=[(i,⟨4,[bS n' st fin j A.length]⟩),(j,⟨4,A.map encC⟩)]:=by
      simp only[bHp,zaW,AO.ren,List.map_cons,List.map_nil,zc2,zax]<;>rfl
    rw[e2]
    exact hk
def bSlot (S:St) (p:Nat×PV):Prop:=S.get p.1=p.2∧(p.2.pure=true∨p.2=.ptr 0 4 0 0)
theorem bSlot.leq{p:Nat×PV}{k:Nat}(h:bSlot S p):sealed S.obj (fun i=>[0,1,k].contains i) 4 (S.get p.1)=p.2.ren (rmap [0,1,k] S.nx):=by
  obtain⟨h1,h2|h2⟩:=h
  · rw[h1];exact sp h2
  · rw[h1,h2];simp[sealed,PV.ren,rmap]
theorem Leq.grow{env:List (Nat×PV)}(k:Nat) (hk:2≤k) (he:∀p,p∈env→bSlot S p) {n2:Int}{len:Nat}{els:List PV}(h0:S.obj 0=some ⟨4,[bS n2 st fin k len]⟩) (h2:S.obj k=some ⟨4,els⟩) (hg:S.gh=[.mark 0,.mark 1])
    (hn2:n2=n':=by first|rfl|(simp;done)|(simp;omega)|omega) (hl2:len=A'.length:=by first|rfl|(simp;done)|(simp;omega)) (he2:els=A'.map encC:=by first|rfl|(simp[encC,encI,encS];done)):
    Leq [0,1,k] S ⟨env,[(0,some ⟨4,[bS n' st fin 2 A'.length]⟩),(2,some ⟨4,A'.map encC⟩)],3,[.mark 0,.mark 1]⟩:=by
  subst hn2 hl2 he2
  refine⟨4,fun p hp=>(he p hp).leq,fun p hp o ho=>?_,rfl,by simp;omega,by rw[hg],fun i hi hi2=>?_⟩
  · simp only[List.mem_cons,List.not_mem_nil,or_false] at hp
    rcases hp with rfl|rfl
    · cases ho
      refine⟨by show 0<3;omega,_,h0,rfl,?_⟩
      rw[List.map_cons,List.map_cons,zfE (by simp),zc2];rfl
    · cases ho
      refine⟨by show 2<3;omega,_,h2,rfl,?_⟩
      rw[zaF,zax]
  · have e:∀(l:List PV) (hl:i<l.length),l=[.mark 0,.mark 1]→sealed S.obj (fun i=>[0,1,k].contains i) 4 l[i]=[PV.mark 0,PV.mark 1][i].ren (rmap [0,1,k] S.nx):=fun l hl e=>by
      subst e
      match i,hi with
      | 0,_=>simp[sealed,PV.ren,rmap]
      | 1,_=>simp[sealed,PV.ren,rmap]
    exact e _ hi2 hg
theorem Tri.regrow{m:Nat}{c:Code}{Q:Exit→St→Prop}{env:List (Nat×PV)}(hS:S=⟨env,[(0,some ⟨4,[bS n st fin 1 A.length]⟩),(1,some ⟨4,A.map encC⟩)],2,[.mark 0,.mark 1]⟩) (hen:∀p,p∈env→bSlot S p)
    (h:Tri P m c ⟨env,[(0,some ⟨4,[bS n st fin 2 A.length]⟩),(2,some ⟨4,A.map encC⟩)],3,[.mark 0,.mark 1]⟩ Q):Tri P m c S Q:=by
  refine Tri.again [0,1,1] _ ⟨4,fun p hp=>(hen p hp).leq (k:=1),fun p hp o ho=>?_,rfl,fun i j o o' hi hj e=>?_,by rw[hS],fun i hi hi2=>?_⟩ h
  · subst hS
    simp only[List.mem_cons,List.not_mem_nil,or_false] at hp
    rcases hp with rfl|rfl
    · cases ho
      refine⟨by show 0<3;omega,_,rfl,rfl,?_⟩
      rw[List.map_cons,List.map_cons,zfE (by rfl),zc2];rfl
    · cases ho
      refine⟨by show 2<3;omega,_,rfl,rfl,?_⟩
      rw[zaF,zax]
  · have key:∀i o,(St.mk env [(0,some ⟨4,[bS n st fin 2 A.length]⟩),(2,some ⟨4,A.map encC⟩)] 3 [.mark 0,.mark 1]).obj i=some o→i=0∨i=2:=fun i o hi=>by
      unfold St.obj lk at hi
      by_cases h0:0=i
      · exact .inl h0.symm
      · rw[if_neg h0,lk] at hi
        by_cases h2:2=i
        · exact .inr h2.symm
        · rw[if_neg h2] at hi;cases hi
    rcases key i o hi with rfl|rfl<;>rcases key j o' hj with rfl|rfl
    · rfl
    · simp at e
    · simp at e
    · rfl
  · subst hS
    match i,hi with
    | 0,_=>rfl
    | 1,_=>rfl
end
theorem leq2M38{p:Prop}(h:p:=by(refine⟨4,?_,?_,rfl,by simp,rfl,fun i h _=>(match i,h with|0,_=>(by first|rfl|simp[sealed,PV.ren,rmap])|1,_=>(by first|rfl|simp[sealed,PV.ren,rmap])|i+2,h=>absurd h (by simp))⟩<;>(simp only[List.forall_mem_cons];repeat' (first|refine And.intro ?_ ?_|(intro p hp;exact absurd hp List.not_mem_nil)|rfl|exact(zas _ _ _ (zah _)).trans (zbQ _ _).symm|exact(zas _ _ _ (zag _)).trans (zbP _ _).symm|exact sp (by assumption)|(intro o ho;cases ho;refine⟨by decide,?_⟩;first|(refine LeqS.row rfl ?_ ?_;(next=>(first|rfl|(simp only[List.map_append,List.map_cons,List.map_nil,List.append_nil,List.nil_append,List.append_assoc,List.cons_append,encI,encS,ints,strs];done)|(simp[encI,encS,ints,strs,encC,bS];done)));(next=>(first|rfl|exact zal _|exact zaq _|exact zau _|exact zat _|(simp[zar,zal,zaq,zau,zat,zaw,PV.pure,zah,zag];done)));done)|refine⟨_,rfl,rfl,?_⟩)|(simp[St.born,St.known,retV,St.get,St.obj,lk,sealed,PV.ren,renL,rmap,AO.ren,ints,strs,encI,encS,zap,zao,zan,zam,zaC,zaB,zaA,zaz,za1,za0,zaZ,zaY,bS,zaQ,zaF,zax,encC,zaL]<;>omega))));first|done|fail):p:=h
theorem bsl{S:St}{env:List (Nat×PV)}(h:∀p,p∈env→bSlot S p:=by(repeat' (first|refine List.forall_mem_cons.2 ⟨?_,?_⟩|(intro p hp;exact absurd hp List.not_mem_nil)|exact⟨rfl,.inl rfl⟩|exact⟨rfl,.inr rfl⟩|(refine⟨?_,.inl rfl⟩;simp[St.get,lk,encI,encS];done)|(refine⟨?_,.inl rfl⟩;simp[St.get,lk,encI,encS,zbp];omega)))):∀p,p∈env→bSlot S p:=h
theorem toNat1 (k:Nat):((k:Int)+1).toNat=k+1:=by omega
theorem zb0 (n sta:Int) (fin:List Int) (A:List ArcD) (hn0:0≤n) (hn:n≤1000000):Proc Try.prog 30 [.ptr 0 4 0 0] (bHp n sta fin A) (encI n) ((bHp (n+1) sta fin A).map some) []:=by
  unfold bHp
  refine Proc.intro (ts:=[2]) Try.func30 (by kernel_rfl) rfl rfl rfl (Nat.le_of_ble_eq_true rfl) rfl ?_
  simp only[za9,zbw,List.map_cons,List.map_nil,List.length_cons,List.length_nil,Nat.zero_add,Nat.reduceAdd]
  refine sY [0] (fun P S K=>K ⟨[(0,S.get 0)],S.hp,S.nx,S.gh⟩) ?_
  all_goals
  refine sZ [0] (fun P S K=>XvNil (S.get 0) (fun r1 _=>XvFieldAddr P 83 0 r1 (fun r2 _=>XvFieldAddr P 58 0 r2 (fun r3 _=>XvLoad P 3 (M S.hp S.nx) r3 (fun r4 _=>XvBinOV P .add 3 (.const (.int .i64 1)) r4 (.atom (.int .i64 1)) (fun r5 _=>XvNil (S.get 0) (fun r6 _=>XvFieldAddr P 83 0 r6 (fun r7 _=>XvFieldAddr P 58 0 r7 (fun r8 _=>XvStore P 3 (M S.hp S.nx) r8 r5 (fun r9 ef9=>K ⟨[(0,S.get 0)],(Eff.hp ef9 S.nx S.hp),(S.nx+ef9.add.length),S.gh⟩)))))))))) fun K hK=>?_
  repeat' (first|(refine hK _ ?_;clear hK K)|refine And.intro ?_ ?_|exact cl|(refine st ?_;try simp only[bS])|fail)
  all_goals try simp (disch:=omega) only[zae,zaf]
  all_goals
  refine sZ [2] (fun P S K=>XvNil (S.get 0) (fun r1 _=>XvFieldAddr P 83 0 r1 (fun r2 _=>XvFieldAddr P 58 0 r2 (fun r3 _=>XvLoad P 3 (M S.hp S.nx) r3 (fun r4 _=>XvBinOV P .sub 3 (.const (.int .i64 1)) r4 (.atom (.int .i64 1)) (fun r5 _=>K ⟨[(2,r5)],S.hp,S.nx,S.gh⟩)))))) fun K hK=>?_
  repeat' (first|(refine hK _ ?_;clear hK K)|refine And.intro ?_ ?_|exact cl|(refine st ?_;try simp only[bS])|fail)
  all_goals try simp (disch:=omega) only[zae,zaf]
  all_goals
  refine Tri.ret ?_
  show ResP _ _ _ _ _ _
  rw[show n+1 - 1=n by omega]
  exact ResP.grow0 rfl rfl rfl rfl rfl
theorem zd4 (n sta:Int) (fin:List Int) (A:List ArcD) (fr to:Int) (i o:ByteArray) (hA:A.length≤1000000):Proc Try.prog 32 [.ptr 0 4 0 0,encI fr,encI to,encS i,encS o] (bHp n sta fin A) (.tup []) (bHp' n sta fin (A++[⟨fr,to,i,o⟩])) (bOs (A++[⟨fr,to,i,o⟩])):=by
  unfold bHp
  refine Proc.intro (ts:=[]) Try.func32 (by kernel_rfl) rfl rfl rfl (Nat.le_of_ble_eq_true rfl) rfl ?_
  simp only[za9,zbw,List.map_cons,List.map_nil,List.length_cons,List.length_nil,Nat.zero_add,Nat.reduceAdd]
  refine rZ [] (fun P S K=>XvNil (S.get 0) (fun r2 _=>XvFieldAddr P 83 0 r2 (fun r3 _=>XvFieldAddr P 58 3 r3 (fun r4 _=>XvLoad P 56 (M S.hp S.nx) r4 (fun r5 _=>XvBuild P 105 [(0,(S.get 1)),(1,(S.get 2)),(2,(S.get 3)),(3,(S.get 4))] (fun r10 _=>XvBuildS P 56 1 S.nx [(0,r10)] (fun r11 ef11=>(56=56∧XvAppend P 56 (M (Eff.hp ef11 S.nx S.hp) (S.nx+ef11.add.length)) r5 r11 (fun r12 ef12=>XvNil (S.get 0) (fun r13 _=>XvFieldAddr P 83 0 r13 (fun r14 _=>XvFieldAddr P 58 3 r14 (fun r15 _=>XvStore P 56 (M (Eff.hp ef12 (S.nx+ef11.add.length) (Eff.hp ef11 S.nx S.hp)) ((S.nx+ef11.add.length)+ef12.add.length)) r15 r12 (fun r16 ef16=>K ⟨[],(Eff.hp ef16 ((S.nx+ef11.add.length)+ef12.add.length) (Eff.hp ef12 (S.nx+ef11.add.length) (Eff.hp ef11 S.nx S.hp))),(((S.nx+ef11.add.length)+ef12.add.length)+ef16.add.length),S.gh⟩))))))))))))) fun K hK=>?_
  repeat' (first|(refine hK _ ?_;clear hK K)|refine And.intro ?_ ?_|exact cl|(refine st ?_;try simp only[bS])|fail)
  all_goals
  exact ResP.grow 3 rfl rfl rfl (by omega) rfl rfl
theorem za6 (n sta:Int) (fin:List Int) (A:List ArcD) (fr to:Int) (hA:A.length≤900000):Proc Try.prog 35 [.ptr 0 4 0 0,encI fr,encI to] (bHp n sta fin A) (.tup []) (bHp' n sta fin (A++zcd fr to 26)) (bOs (A++zcd fr to 26)):=by
  unfold bHp
  refine Proc.intro (ts:=[]) Try.func35 (by kernel_rfl) rfl rfl rfl (Nat.le_of_ble_eq_true rfl) rfl ?_
  simp only[za9,zbw,List.map_cons,List.map_nil,List.length_cons,List.length_nil,Nat.zero_add,Nat.reduceAdd]
  refine sY [0,1,2,6] (fun P S K=>K ⟨[(0,S.get 0),(1,S.get 1),(2,S.get 2),(6,(.atom (.int .i32 97)))],S.hp,S.nx,S.gh⟩) ?_
  refine Tri.regrow rfl bsl ?_
  all_goals
  refine Tri.block ?_
  refine Tri.loop (α:=(B:List ArcD) ×' (k:Nat) ×' (k≤26∧B.length≤A.length+k∧B=A++zcd fr to k)) (fun z=>(fun(B:List ArcD) (k:Nat)=>(⟨[(0,.ptr 0 4 0 0),(1,encI fr),(2,encI to),(6,.atom (.int .i32 (97+k)))],[(0,some ⟨4,[bS n sta fin 2 B.length]⟩),(2,some ⟨4,B.map encC⟩)],3,[.mark 0,.mark 1]⟩:St)) z.1 z.2.1) (fun z=>(fun(B:List ArcD) (k:Nat)=>26 - k) z.1 z.2.1) ⟨A,0,⟨Nat.zero_le _,Nat.le_refl _,by simp[zcd]⟩⟩ [0,1,2] ?_ ?_
  ·exact leq2M38
  rintro⟨B,k,⟨hk,hBl,hB⟩⟩
  refine Tri.seq ?_
  refine sY [0,1,2,6,8] (fun P S K=>XvBinOV P .leq 21 (.const (.int .i32 122)) (S.get 6) (.atom (.int .i32 122)) (fun r1 _=>K ⟨[(0,S.get 0),(1,S.get 1),(2,S.get 2),(6,S.get 6),(8,r1)],S.hp,S.nx,S.gh⟩)) ?_
  all_goals
  refine Tri.cond rfl (fun h8=>?_) (fun h8=>?_)
  ·try (cases h8;done)
   all_goals (try simp only[CQ] at h8)
   all_goals
   refine Tri.skip ?_
   refine Tri.seq ?_
   refine Tri.block ?_
   have hk26:k<26:=by omega
   have hch:=utf_chB k hk26
   refine rZ [0,1,2,6] (fun P S K=>XvConvert P 21 9 (M S.hp S.nx) (S.get 6) (fun r4 ef4=>XvConvert P 21 9 (M (Eff.hp ef4 S.nx S.hp) (S.nx+ef4.add.length)) (S.get 6) (fun r6 ef6=>XvFnIV P (M (Eff.hp ef6 (S.nx+ef4.add.length) (Eff.hp ef4 S.nx S.hp)) ((S.nx+ef4.add.length)+ef6.add.length)) (.fn 32 []) [(S.get 0),(S.get 1),(S.get 2),r4,r6] (fun r7 ef7=>K ⟨[(0,S.get 0),(1,S.get 1),(2,S.get 2),(6,S.get 6)],(Eff.hp ef7 ((S.nx+ef4.add.length)+ef6.add.length) (Eff.hp ef6 (S.nx+ef4.add.length) (Eff.hp ef4 S.nx S.hp))),(((S.nx+ef4.add.length)+ef6.add.length)+ef7.add.length),S.gh⟩)))) fun K hK=>?_
   repeat' (first|(refine hK _ ?_;clear hK K)|refine .inr (vProc.grow 0 2 (by decide) (zd4 n sta fin B fr to (chB k) (chB k) (by omega)) rfl rfl rfl rfl ?_)|(refine st ?_;try simp only[bS,hch])|fail)
   all_goals try simp (disch:=omega) only[zae,zaf]
   all_goals
   refine rZ [0,1,2,6] (fun P S K=>XvBinOV P .add 21 (.const (.int .i32 1)) (S.get 6) (.atom (.int .i32 1)) (fun r1 _=>K ⟨[(0,S.get 0),(1,S.get 1),(2,S.get 2),(6,r1)],S.hp,S.nx,S.gh⟩)) fun K hK=>?_
   repeat' (first|(refine hK _ ?_;clear hK K)|(refine st ?_;try simp only[bS,zok (x:=97+(k:Int)+1) (by omega) (by omega)])|fail)
   all_goals try simp (disch:=omega) only[zae,zaf]
   all_goals
   refine⟨⟨B++[⟨fr,to,chB k,chB k⟩],k+1,by omega,by simp;omega,by rw[zn0,hB,List.append_assoc]⟩,[0,1,3],by dsimp only;omega,?_⟩
   exact Leq.grow 3 (by omega) bsl rfl rfl rfl
  try (cases h8;done)
  all_goals (try simp only[CQ] at h8)
  all_goals
  refine Tri.exit ?_
  have he:A++zcd fr to 26=B:=by rw[hB];congr 2;omega
  show ResP _ _ _ _ _ _
  rw[he]
  exact ResP.grow 2 rfl rfl rfl (by omega) rfl rfl
theorem zfa (n:Nat) (sta:Int) (fin:List Int) (A:List ArcD) (fr:Int) (t:ByteArray) (hA:A.length≤100000) (hn:n≤100000) (ht:t.size≤100000):Proc Try.prog 34 [.ptr 0 4 0 0,encI fr,encS t] (bHp n sta fin A) (encI (zbp n fr t.size)) (bHp' ((n:Int)+t.size) sta fin (A++zcW n fr t t.size)) (bOs (A++zcW n fr t t.size)):=by
  unfold bHp
  refine Proc.intro (ts:=[6]) Try.func34 (by kernel_rfl) rfl rfl rfl (Nat.le_of_ble_eq_true rfl) rfl ?_
  simp only[za9,zbw,List.map_cons,List.map_nil,List.length_cons,List.length_nil,Nat.zero_add,Nat.reduceAdd]
  refine sY [0,1,2] (fun P S K=>K ⟨[(0,S.get 0),(1,S.get 1),(2,S.get 2)],S.hp,S.nx,S.gh⟩) ?_
  refine Tri.regrow rfl bsl ?_
  all_goals
  refine Tri.seq ?_
  refine sZ [0,1,2,10,11] (fun P S K=>XvLen P 9 (M S.hp S.nx) (S.get 2) (fun r1 _=>K ⟨[(0,S.get 0),(1,S.get 1),(2,S.get 2),(10,r1),(11,(.atom (.int .i64 0)))],S.hp,S.nx,S.gh⟩)) fun K hK=>?_
  repeat' (first|(refine hK _ ?_;clear hK K)|refine And.intro ?_ ?_|exact cl|(refine st ?_;try simp only[bS])|fail)
  all_goals
  refine Tri.block ?_
  refine Tri.loop (α:=(B:List ArcD) ×' (k:Nat) ×' (k≤t.size∧B.length≤A.length+k∧B=A++zcW n fr t k)) (fun z=>(fun(B:List ArcD) (k:Nat)=>(⟨[(0,.ptr 0 4 0 0),(1,encI (zbp n fr k)),(2,encS t),(10,encI t.size),(11,encI k)],[(0,some ⟨4,[bS ((n:Int)+k) sta fin 2 B.length]⟩),(2,some ⟨4,B.map encC⟩)],3,[.mark 0,.mark 1]⟩:St)) z.1 z.2.1) (fun z=>(fun(B:List ArcD) (k:Nat)=>t.size - k) z.1 z.2.1) ⟨A,0,⟨Nat.zero_le _,Nat.le_refl _,by simp[zcW]⟩⟩ [0,1,2] ?_ ?_
  ·exact Leq.grow 2 (by omega) bsl rfl rfl rfl
  rintro⟨B,k,⟨hk,hBl,hB⟩⟩
  refine sY [0,1,2,10,11,12] (fun P S K=>XvBinOV P .lss 3 (.tmp 10) (S.get 11) (S.get 10) (fun r0 _=>K ⟨[(0,S.get 0),(1,S.get 1),(2,S.get 2),(10,S.get 10),(11,S.get 11),(12,r0)],S.hp,S.nx,S.gh⟩)) ?_
  all_goals
  refine Tri.seq ?_
  refine Tri.cond rfl (fun h12=>?_) (fun h12=>?_)
  ·try (cases h12;done)
   all_goals (try simp only[CQ] at h12)
   all_goals
   refine Tri.skip ?_
   refine Tri.seq ?_
   refine Tri.block ?_
   have hkt:k<t.size:=by omega
   refine sY [0,1,2,7,10,11] (fun P S K=>K ⟨[(0,S.get 0),(1,S.get 1),(2,S.get 2),(7,(S.get 11)),(10,S.get 10),(11,S.get 11)],S.hp,S.nx,S.gh⟩) ?_
   all_goals
   refine sZ [0,1,2,7,8,10,11] (fun P S K=>XvFnIV P (M S.hp S.nx) (.fn 30 []) [(S.get 0)] (fun r1 ef1=>K ⟨[(0,S.get 0),(1,S.get 1),(2,S.get 2),(7,S.get 7),(8,r1),(10,S.get 10),(11,S.get 11)],(Eff.hp ef1 S.nx S.hp),(S.nx+ef1.add.length),S.gh⟩)) fun K hK=>?_
   repeat' (first|(refine hK _ ?_;clear hK K)|refine .inr (vProc.grow0 0 2 (by decide) (zb0 ((n:Int)+k) sta fin B (by omega) (by omega)) rfl rfl rfl rfl ?_)|(refine st ?_;try simp only[bS])|fail)
   all_goals
   refine sZ [0,2,8,10,11] (fun P S K=>XvBinOV P .add 3 (.const (.int .i64 1)) (S.get 7) (.atom (.int .i64 1)) (fun r6 _=>XvSliceV P 9 (S.get 2) (some (S.get 7)) (some r6) (fun r7 _=>XvFnIV P (M S.hp S.nx) (.fn 32 []) [(S.get 0),(S.get 1),(S.get 8),r7,(.atom (.string { data := #[] }))] (fun r8 ef8=>K ⟨[(0,S.get 0),(2,S.get 2),(8,S.get 8),(10,S.get 10),(11,S.get 11)],(Eff.hp ef8 S.nx S.hp),(S.nx+ef8.add.length),S.gh⟩)))) fun K hK=>?_
   repeat' (first|(refine hK _ ?_;clear hK K)|refine And.intro ?_ ?_|exact cl|refine .inr (vProc.grow 0 2 (by decide) (zd4 ((n:Int)+k+1) sta fin B (zbp n fr k) ((n:Int)+k) (t.extract k (k+1)) ⟨#[]⟩ (by omega)) rfl rfl rfl rfl ?_)|(refine st ?_;try simp only[bS,zae (x:=(k:Int)+1) (by omega) (by omega),toNat1])|fail)
   all_goals try simp (disch:=omega) only[zae,zaf]
   all_goals
   refine rY [0,1,2,10,11] (fun P S K=>K ⟨[(0,S.get 0),(1,(S.get 8)),(2,S.get 2),(10,S.get 10),(11,S.get 11)],S.hp,S.nx,S.gh⟩) ?_
   all_goals
   refine rY [0,1,2,10,11] (fun P S K=>XvBinOV P .add 3 (.const (.int .i64 1)) (S.get 11) (.atom (.int .i64 1)) (fun r0 _=>K ⟨[(0,S.get 0),(1,S.get 1),(2,S.get 2),(10,S.get 10),(11,r0)],S.hp,S.nx,S.gh⟩)) ?_
   all_goals try simp (disch:=omega) only[zae,zaf]
   all_goals
   refine⟨⟨B++[⟨zbp n fr k,(n:Int)+k,t.extract k (k+1),⟨#[]⟩⟩],k+1,by omega,by simp;omega,by rw[zcW,hB,List.append_assoc];rfl⟩,[0,1,3],by dsimp only;omega,?_⟩
   exact Leq.grow 3 (by omega) bsl rfl rfl rfl
  try (cases h12;done)
  all_goals (try simp only[CQ] at h12)
  all_goals
  refine Tri.exit ?_
  refine sY [6] (fun P S K=>K ⟨[(6,(S.get 1))],S.hp,S.nx,S.gh⟩) ?_
  all_goals
  refine Tri.ret ?_
  show ResP _ _ _ _ _ _
  have he:k=t.size:=by omega
  show ResP _ _ _ _ _ _
  rw[←he,←hB]
  exact ResP.grow 2 rfl rfl rfl (by omega) rfl rfl
theorem zeH (n:Nat) (sta:Int) (fin:List Int) (A:List ArcD) (fr to:Int) (t:ByteArray) (f:Nat) (hA:A.length≤100000) (hn:n≤100000) (hf:t.size≤24 * (f+1)) (hf2:f≤1000):Proc Try.prog 33 [.ptr 0 4 0 0,encI fr,encI to,encS t] (bHp n sta fin A) (.tup []) (bHp' ((n:Int)+(zdD f t:Nat)) sta fin (A++zd5 f n fr to t)) (bOs (A++zd5 f n fr to t)):=by
  have hwl:=zfc f n fr to t
  have hwn:=zhQ f t
  unfold bHp
  refine Proc.intro (ts:=[]) Try.func33 (by kernel_rfl) rfl rfl rfl (Nat.le_of_ble_eq_true rfl) rfl ?_
  simp only[za9,zbw,List.map_cons,List.map_nil,List.length_cons,List.length_nil,Nat.zero_add,Nat.reduceAdd]
  refine Tri.regrow rfl bsl ?_
  refine Tri.seq ?_
  refine Tri.block ?_
  refine Tri.loop (α:=(B:List ArcD) ×' (c:Nat) ×' (q:Int) ×' (u:ByteArray) ×' (g:Nat) ×' (c+zdD g u=n+zdD f t∧B.length+g≤A.length+f∧B++zd5 g c q to u=A++zd5 f n fr to t∧u.size≤24 * (g+1)∧c+g≤n+f)) (fun z=>(fun(B:List ArcD) (c:Nat) (q:Int) (u:ByteArray) (g:Nat)=>(⟨[(0,.ptr 0 4 0 0),(1,encI q),(2,encI to),(3,encS u)],[(0,some ⟨4,[bS (c:Int) sta fin 2 B.length]⟩),(2,some ⟨4,B.map encC⟩)],3,[.mark 0,.mark 1]⟩:St)) z.1 z.2.1 z.2.2.1 z.2.2.2.1 z.2.2.2.2.1) (fun z=>(fun(B:List ArcD) (c:Nat) (q:Int) (u:ByteArray) (g:Nat)=>u.size) z.1 z.2.1 z.2.2.1 z.2.2.2.1 z.2.2.2.2.1) ⟨A,n,fr,t,f,⟨rfl,Nat.le_refl _,rfl,hf,Nat.le_refl _⟩⟩ [0,1,2] ?_ ?_
  ·exact Leq.grow 2 (by omega) bsl rfl rfl rfl
  rintro⟨B,c,q,u,g,⟨hc,hBl,hB,hu,hcg⟩⟩
  refine Tri.seq ?_
  refine sZ [0,1,2,3,11] (fun P S K=>XvLen P 9 (M S.hp S.nx) (S.get 3) (fun r1 _=>XvBinOV P .gtr 3 (.const (.int .i64 24)) r1 (.atom (.int .i64 24)) (fun r2 _=>K ⟨[(0,S.get 0),(1,S.get 1),(2,S.get 2),(3,S.get 3),(11,r2)],S.hp,S.nx,S.gh⟩))) fun K hK=>?_
  repeat' (first|(refine hK _ ?_;clear hK K)|refine And.intro ?_ ?_|exact cl|(refine st ?_;try simp only[bS])|fail)
  all_goals
  refine Tri.cond rfl (fun h11=>?_) (fun h11=>?_)
  ·try (cases h11;done)
   all_goals (try simp only[CQ] at h11)
   all_goals
   refine Tri.skip ?_
   refine Tri.block ?_
   have hu24:24<u.size:=by omega
   obtain⟨g',rfl⟩:∃g',g=g'+1:=⟨g - 1,by omega⟩
   rw[zdD,if_pos hu24] at hc
   rw[zd5,if_pos hu24] at hB
   have hes:(u.extract 24 u.size).size=u.size - 24:=by rw[ByteArray.size_extract];omega
   refine sZ [0,1,2,3,8] (fun P S K=>XvFnIV P (M S.hp S.nx) (.fn 30 []) [(S.get 0)] (fun r1 ef1=>K ⟨[(0,S.get 0),(1,S.get 1),(2,S.get 2),(3,S.get 3),(8,r1)],(Eff.hp ef1 S.nx S.hp),(S.nx+ef1.add.length),S.gh⟩)) fun K hK=>?_
   repeat' (first|(refine hK _ ?_;clear hK K)|refine .inr (vProc.grow0 0 2 (by decide) (zb0 (c:Int) sta fin B (by omega) (by omega)) rfl rfl rfl rfl ?_)|(refine st ?_;try simp only[bS])|fail)
   all_goals
   refine sZ [0,2,3,8] (fun P S K=>XvSliceV P 9 (S.get 3) none (some (.atom (.int .i64 24))) (fun r4 _=>XvFnIV P (M S.hp S.nx) (.fn 32 []) [(S.get 0),(S.get 1),(S.get 8),(.atom (.string { data := #[] })),r4] (fun r5 ef5=>K ⟨[(0,S.get 0),(2,S.get 2),(3,S.get 3),(8,S.get 8)],(Eff.hp ef5 S.nx S.hp),(S.nx+ef5.add.length),S.gh⟩))) fun K hK=>?_
   repeat' (first|(refine hK _ ?_;clear hK K)|refine And.intro ?_ ?_|exact cl|refine .inr (vProc.grow 0 2 (by decide) (zd4 ((c:Int)+1) sta fin B q (c:Int) ⟨#[]⟩ (u.extract 0 24) (by omega)) rfl rfl rfl rfl ?_)|(refine st ?_;try simp only[bS])|fail)
   all_goals
   refine rD 5 [0,1,2,3] (fun P GD S K=>XvSliceV P 9 (S.get 3) (some (.atom (.int .i64 24))) none (fun r2 ef2=>(trOk S.nx GD [⟨S.nx,0,[],[],[]⟩,⟨S.nx,0,[],[],[]⟩,⟨S.nx,0,ef2.rd,[],[]⟩,⟨S.nx,0,[],[],[]⟩,⟨S.nx,0,[],[],[]⟩]=true∧K ⟨[(0,S.get 0),(1,(S.get 8)),(2,S.get 2),(3,r2)],S.hp,S.nx,S.gh⟩))) fun K hK=>?_
   repeat' (first|(refine hK _ ?_;clear hK K)|(refine(?_:trOk _ _ _=true);kernel_rfl)|refine And.intro ?_ ?_|exact cl|(refine st ?_;try simp only[bS])|fail)
   all_goals
   refine⟨⟨B++[⟨q,(c:Int),⟨#[]⟩,u.extract 0 24⟩],c+1,(c:Int),u.extract 24 u.size,g',by omega,by simp;omega,by rw[List.append_assoc];exact hB,by omega,by omega⟩,[0,1,3],by dsimp only;omega,?_⟩
   exact Leq.grow 3 (by omega) bsl rfl rfl rfl
  try (cases h11;done)
  all_goals (try simp only[CQ] at h11)
  all_goals
  refine Tri.exit ?_
  have hu24:¬24<u.size:=by omega
  have hw1:zd5 g c q to u=[⟨q,to,⟨#[]⟩,u⟩]:=by cases g with|zero=>rfl|succ g=>rw[zd5,if_neg hu24];rfl
  have hw2:zdD g u=0:=by cases g with|zero=>rfl|succ g=>rw[zdD,if_neg hu24]
  rw[hw1] at hB
  rw[hw2] at hc
  refine rZ [] (fun P S K=>XvFnIV P (M S.hp S.nx) (.fn 32 []) [(S.get 0),(S.get 1),(S.get 2),(.atom (.string { data := #[] })),(S.get 3)] (fun r4 ef4=>K ⟨[],(Eff.hp ef4 S.nx S.hp),(S.nx+ef4.add.length),S.gh⟩)) fun K hK=>?_
  repeat' (first|(refine hK _ ?_;clear hK K)|refine .inr (vProc.grow 0 2 (by decide) (zd4 (c:Int) sta fin B q to ⟨#[]⟩ u (by omega)) rfl rfl rfl rfl ?_)|(refine st ?_;try simp only[bS])|fail)
  all_goals
  show ResP _ _ _ _ _ _
  rw[←hB,show(n:Int)+(zdD f t:Nat)=(c:Int) by omega]
  exact ResP.grow 3 rfl rfl rfl (by omega) rfl rfl
mutual
theorem zmf{m:Nat}:∀p:PV,p.pure=true→p.lowB m=true
  | .junk,_ | .atom _,_ | .amp,_=>rfl
  | .agg l,h | .tup l,h | .sl _ l,h | .fptr _ l _ _,h | .fn _ l,h | .fmp l,h=>by
    simp only[PV.pure] at h
    simp only[PV.lowB]
    exact zgJ l h
  | .own _ _,h | .ob _ _ _ _,h | .ptr _ _ _ _,h | .mp _,h | .it _,h | .mark _,h | .is _ _,h=>by simp[PV.pure] at h
theorem zgJ{m:Nat}:∀l:List PV,zaw l=true→lowL m l=true
  | [],_=>rfl
  | p :: l,h=>by
    simp only[zaw,Bool.and_eq_true] at h
    simp only[lowL,Bool.and_eq_true]
    exact⟨zmf p h.1,zgJ l h.2⟩
end
theorem zqQ{m:Nat}{l:List PV}(h:zaw l=true):l.all (PV.lowB m)=true:=by rw[←zcz];exact zgJ l h
section
variable {P:Program} {S:St} {n n' st:Int} {fin:List Int} {A A':List ArcD} {r:PV} {f:FuncId} {vals args:List PV} {K:PV→Eff→Prop}
theorem low_bS{m ri len:Nat}(h:ri<m):(bS n st fin ri len).lowB m=true:=by
  have h1:(ints fin).lowB m=true:=zmf _ (zah fin)
  simp[bS,PV.lowB,lowL,h1,h,encI]
theorem vProcD.of{hp:List AO}{hp':List (Option AO)}{os:List AO}(L:List Nat) (set':List (Nat×AO)) (hpr:Proc P f args hp r hp' os) (hn:L.Nodup) (hlen:L.length=hp.length)
    (hv:vals=args.map (PV.ren (rmap L S.nx))) (ho:∀i o,hp[i]? = some o→S.obj (rmap L S.nx i)=some (o.ren (rmap L S.nx)))
    (hs:∀i,lk set' i=lk (zaW (pmap L S.nx) L hp') i∨(lk set' i=none∧i∈L∧i∉zbl L hp'∧∃o,lk (zaW (pmap L S.nx) L hp') i=some o∧S.obj i=some o))
    (ha:args.all (PV.lowB hp.length)=true) (hb:hp.all (fun o=>o.els.all (PV.lowB hp.length))=true)
    (hk:K (r.ren (pmap L S.nx)) ⟨os.map (AO.ren (pmap L S.nx)),zbl L hp',set',L⟩):vProcD P S f vals K:=by
  have h0:∀l:List PV,l.map (sealed S.obj (fun i=>L.contains i) 0)=l:=fun l=>by
    rw[show sealed S.obj (fun i=>L.contains i) 0=id from funext fun p=>rfl];simp
  exact⟨L,args,hp,r,hp',os,set',hpr,⟨hn,hlen,by rw[h0];exact hv,fun i o hi=>⟨_,ho i o hi,rfl,by rw[h0];rfl⟩⟩,hs,⟨ha,hb⟩,hk⟩
theorem zqS:(bHp n st fin A).all (fun o=>o.els.all (PV.lowB 2))=true:=by
  have h1:=zqQ (m:=2) (za5 A)
  have h2:(bS n st fin 1 A.length).lowB 2=true:=low_bS (by decide)
  simp only[bHp,List.all_cons,List.all_nil,h1,h2];rfl
theorem vProcD.grow (i j:Nat) (hij:i≠j) (hpr:Proc P f args (bHp n st fin A) r (bHp' n' st fin A') (bOs A')) (hr:r.pure=true) (hv:vals=args.map (PV.ren (rmap [i,j] S.nx))) (ha:args.all (PV.lowB 2)=true) {len:Nat}(h0:S.obj i=some ⟨4,[bS n st fin j len]⟩) (h1:S.obj j=some ⟨4,A.map encC⟩)
    (hk:K r ⟨[⟨4,A'.map encC⟩],[j],[(i,⟨4,[bS n' st fin S.nx A'.length]⟩)],[i,j]⟩) (hlen:len=A.length:=by first|rfl|(simp;done)|(simp;omega)):vProcD P S f vals K:=by
  subst hlen
  have e2:zaW (pmap [i,j] S.nx) [i,j] (bHp' n' st fin A')=[(i,⟨4,[bS n' st fin S.nx A'.length]⟩)]:=by
    simp only[bHp',zaW,AO.ren,List.map_cons,List.map_nil,zc2];rfl
  refine vProcD.of [i,j] [(i,⟨4,[bS n' st fin S.nx A'.length]⟩)] hpr (by simp[hij]) rfl hv (fun a o ho=>?_) (fun x=>.inl (by rw[e2])) ha zqS ?_
  · match a,ho with
    | 0,ho=>
      cases ho
      rw[show rmap [i,j] S.nx 0=i from rfl,h0]
      simp only[AO.ren,List.map_cons,List.map_nil,zc2];rfl
    | 1,ho=>
      cases ho
      rw[show rmap [i,j] S.nx 1=j from rfl,h1]
      simp only[AO.ren,zax]
  · rw[za8 _ _ hr]
    have e1:(bOs A').map (AO.ren (pmap [i,j] S.nx))=[⟨4,A'.map encC⟩]:=by simp only[bOs,List.map_cons,List.map_nil,AO.ren,zax]
    rw[e1]
    exact hk
theorem vProcD.grow0 (i j:Nat) (hij:i≠j) (hpr:Proc P f args (bHp n st fin A) r ((bHp n' st fin A).map some) []) (hr:r.pure=true) (hv:vals=args.map (PV.ren (rmap [i,j] S.nx))) (ha:args.all (PV.lowB 2)=true) {len:Nat}(h0:S.obj i=some ⟨4,[bS n st fin j len]⟩) (h1:S.obj j=some ⟨4,A.map encC⟩)
    (hk:K r ⟨[],[],[(i,⟨4,[bS n' st fin j A.length]⟩)],[i,j]⟩) (hlen:len=A.length:=by first|rfl|(simp;done)|(simp;omega)):vProcD P S f vals K:=by
  subst hlen
  have e2:zaW (pmap [i,j] S.nx) [i,j] ((bHp n' st fin A).map some)=[(i,⟨4,[bS n' st fin j A.length]⟩),(j,⟨4,A.map encC⟩)]:=by
    simp only[bHp,zaW,AO.ren,List.map_cons,List.map_nil,zc2,zax]<;>rfl
  refine vProcD.of [i,j] [(i,⟨4,[bS n' st fin j A.length]⟩)] hpr (by simp[hij]) rfl hv (fun a o ho=>?_) (fun x=>?_) ha zqS ?_
  · match a,ho with
    | 0,ho=>
      cases ho
      rw[show rmap [i,j] S.nx 0=i from rfl,h0]
      simp only[AO.ren,List.map_cons,List.map_nil,zc2];rfl
    | 1,ho=>
      cases ho
      rw[show rmap [i,j] S.nx 1=j from rfl,h1]
      simp only[AO.ren,zax]
  · rw[e2]
    by_cases hx:x=j
    · subst hx
      exact .inr ⟨by simp[lk,hij],by simp,by simp[bHp,zbl],_,by simp[lk,hij],h1⟩
    · refine .inl ?_
      simp only[lk]
      split
      · rfl
      · rw[if_neg (fun e=>hx e.symm)]
  · rw[za8 _ _ hr]
    exact hk
def eHp (n st:Int) (fin:List Int) (A:List ArcD):List AO:=[⟨4,[bS n st fin 1 A.length]⟩,⟨4,A.map encC⟩,⟨1,[.ptr 0 4 0 0]⟩,⟨1,[encI st]⟩]
def eHp' (n st:Int) (fin:List Int) (A:List ArcD):List (Option AO):=[some ⟨4,[bS n st fin 4 A.length]⟩,none,some ⟨1,[.ptr 0 4 0 0]⟩,some ⟨1,[encI st]⟩]
theorem low_eHp:(eHp n st fin A).all (fun o=>o.els.all (PV.lowB 4))=true:=by
  have h1:=zqQ (m:=4) (za5 A)
  have h2:(bS n st fin 1 A.length).lowB 4=true:=low_bS (by decide)
  simp only[eHp,List.all_cons,List.all_nil,h1,h2];rfl
theorem lk_enter{i j c d:Nat}{a u v:AO}(hn:[i,j,c,d].Nodup) (hc:S.obj c=some u) (hd:S.obj d=some v) (L:List (Nat×AO)) (hL:L=[(i,a),(c,u),(d,v)]) (x:Nat):lk [(i,a)] x=lk L x∨(lk [(i,a)] x=none∧x∈[i,j,c,d]∧x∉[j]∧∃o,lk L x=some o∧S.obj x=some o):=by
  subst hL
  simp only[List.nodup_cons,List.mem_cons,List.not_mem_nil,or_false,not_or,List.nodup_nil,and_true] at hn
  obtain⟨⟨h1,h2,h3⟩,⟨h4,h5⟩,h6⟩:=hn
  by_cases hxc:x=c
  · subst hxc
    exact .inr ⟨by simp[lk,h2],by simp,by simpa using fun e=>h4 e.symm,u,by simp[lk,h2],hc⟩
  · by_cases hxd:x=d
    · subst hxd
      exact .inr ⟨by simp[lk,h3],by simp,by simpa using fun e=>h5 e.symm,v,by simp[lk,h3,h6],hd⟩
    · refine .inl ?_
      simp only[lk]
      split
      · rfl
      · rw[if_neg (fun e=>hxc e.symm),if_neg (fun e=>hxd e.symm)]
theorem eHp_ok{i j c d:Nat}(h0:S.obj i=some ⟨4,[bS n st fin j A.length]⟩) (h1:S.obj j=some ⟨4,A.map encC⟩) (h2:S.obj c=some ⟨1,[.ptr i 4 0 0]⟩) (h3:S.obj d=some ⟨1,[encI st]⟩):∀a o,(eHp n st fin A)[a]? = some o→S.obj (rmap [i,j,c,d] S.nx a)=some (o.ren (rmap [i,j,c,d] S.nx)):=fun a o ho=>by
  match a,ho with
  | 0,ho=>
    cases ho
    rw[show rmap [i,j,c,d] S.nx 0=i from rfl,h0]
    simp only[AO.ren,List.map_cons,List.map_nil,zc2];rfl
  | 1,ho=>
    cases ho
    rw[show rmap [i,j,c,d] S.nx 1=j from rfl,h1]
    simp only[AO.ren,zax]
  | 2,ho=>cases ho;exact h2
  | 3,ho=>cases ho;exact h3
theorem eHp'_set{i j c d:Nat}:zaW (pmap [i,j,c,d] S.nx) [i,j,c,d] (eHp' n' st fin A')=[(i,⟨4,[bS n' st fin S.nx A'.length]⟩),(c,⟨1,[.ptr i 4 0 0]⟩),(d,⟨1,[encI st]⟩)]:=by
  simp only[eHp',zaW,AO.ren,List.map_cons,List.map_nil,zc2];rfl
theorem vProcD.enter (i j c d:Nat) (hn:[i,j,c,d].Nodup) (hpr:Proc P f args (eHp n st fin A) r (eHp' n' st fin A') (bOs A')) (hr:r.pure=true) (hv:vals=args.map (PV.ren (rmap [i,j,c,d] S.nx))) (ha:args.all (PV.lowB 4)=true) {len:Nat}(h0:S.obj i=some ⟨4,[bS n st fin j len]⟩) (h1:S.obj j=some ⟨4,A.map encC⟩) (h2:S.obj c=some ⟨1,[.ptr i 4 0 0]⟩) (h3:S.obj d=some ⟨1,[encI st]⟩)
    (hk:K r ⟨[⟨4,A'.map encC⟩],[j],[(i,⟨4,[bS n' st fin S.nx A'.length]⟩)],[i,j,c,d]⟩) (hlen:len=A.length:=by first|rfl|(simp;done)|(simp;omega)):vProcD P S f vals K:=by
  subst hlen
  refine vProcD.of [i,j,c,d] [(i,⟨4,[bS n' st fin S.nx A'.length]⟩)] hpr hn rfl hv (eHp_ok h0 h1 h2 h3) (fun x=>lk_enter hn h2 h3 _ eHp'_set x) ha low_eHp ?_
  rw[za8 _ _ hr]
  have e1:(bOs A').map (AO.ren (pmap [i,j,c,d] S.nx))=[⟨4,A'.map encC⟩]:=by simp only[bOs,List.map_cons,List.map_nil,AO.ren,zax]
  rw[e1]
  exact hk
theorem vProc.enter (i j c d:Nat) (hn:[i,j,c,d].Nodup) (hpr:Proc P f args (eHp n st fin A) r (eHp' n' st fin A') (bOs A')) (hr:r.pure=true) (hv:vals=args.map (PV.ren (rmap [i,j,c,d] S.nx))) {len:Nat}(h0:S.obj i=some ⟨4,[bS n st fin j len]⟩) (h1:S.obj j=some ⟨4,A.map encC⟩) (h2:S.obj c=some ⟨1,[.ptr i 4 0 0]⟩) (h3:S.obj d=some ⟨1,[encI st]⟩)
    (hk:K r ⟨[⟨4,A'.map encC⟩],[j],[(i,⟨4,[bS n' st fin S.nx A'.length]⟩),(c,⟨1,[.ptr i 4 0 0]⟩),(d,⟨1,[encI st]⟩)],[]⟩) (hlen:len=A.length:=by first|rfl|(simp;done)|(simp;omega)):vProc P S f vals K:=by
  subst hlen
  refine vProc.of [i,j,c,d] hpr hn rfl hv (eHp_ok h0 h1 h2 h3) ?_
  rw[za8 _ _ hr]
  have e1:(bOs A').map (AO.ren (pmap [i,j,c,d] S.nx))=[⟨4,A'.map encC⟩]:=by simp only[bOs,List.map_cons,List.map_nil,AO.ren,zax]
  rw[e1,eHp'_set]
  exact hk
theorem ResP.enter{ts:List Nat}(hr:retV S ts=r) (hp:r.pure=true) (hg:S.gh=[.mark 0,.mark 1,.mark 2,.mark 3]) (k:Nat) (hk:4≤k) {n2:Int}{len:Nat}{els:List PV}(h0:S.obj 0=some ⟨4,[bS n2 st fin k len]⟩) (h2:S.obj k=some ⟨4,els⟩) (h3:S.obj 2=some ⟨1,[.ptr 0 4 0 0]⟩) (h4:S.obj 3=some ⟨1,[encI st]⟩)
    (hn2:n2=n':=by first|rfl|(simp;done)|(simp;omega)|omega) (hl2:len=A'.length:=by first|rfl|(simp;done)|(simp;omega)) (he2:els=A'.map encC:=by first|rfl|(simp[encC,encI,encS];done)):ResP S ts r (eHp n st fin A) (eHp' n' st fin A') (bOs A'):=by
  subst hn2 hl2 he2
  refine ResP.of [0,1,2,3,k] (by rw[hr];exact sp hp) rfl (by simp;omega) hg rfl (fun i hi=>?_) (fun i o ho=>?_)
  · match i,hi with
    | 0,_|1,_|2,_|3,_=>rfl
  · match i,ho with
    | 0,ho=>
      cases ho
      refine⟨_,h0,rfl,?_⟩
      rw[List.map_cons,List.map_cons,zfE (by simp),zc2];rfl
    | 1,ho=>cases ho
    | 2,ho=>cases ho;exact⟨_,h3,rfl,by simp[sealed,PV.ren,rmap]⟩
    | 3,ho=>cases ho;exact⟨_,h4,rfl,rfl⟩
    | 4,ho=>
      cases ho
      refine⟨_,h2,rfl,?_⟩
      rw[zaF,zax]
end
theorem zds (n sta:Int) (fin:List Int) (A:List ArcD) (mk:ByteArray) (hA:A.length≤100000) (hn0:0≤n) (hn:n≤100000):Proc Try.prog 31 [encS mk,.ptr 2 1 0 0,.ptr 3 1 0 0] (eHp n sta fin A) (encI n) (eHp' (n+1) sta fin (A++[⟨sta,n,⟨#[]⟩,mk⟩])) (bOs (A++[⟨sta,n,⟨#[]⟩,mk⟩])):=by
  unfold eHp
  refine Proc.intro (ts:=[4]) Try.func31 (by kernel_rfl) rfl rfl rfl (Nat.le_of_ble_eq_true rfl) rfl ?_
  simp only[za9,zbw,List.map_cons,List.map_nil,List.length_cons,List.length_nil,Nat.zero_add,Nat.reduceAdd]
  refine sY [0,1,2] (fun P S K=>K ⟨[(0,S.get 0),(1,S.get 1),(2,S.get 2)],S.hp,S.nx,S.gh⟩) ?_
  all_goals
  refine sZ [0,1,2,5] (fun P S K=>XvLoad P 81 (M S.hp S.nx) (S.get 1) (fun r0 _=>XvFnIV P (M S.hp S.nx) (.fn 30 []) [r0] (fun r1 ef1=>K ⟨[(0,S.get 0),(1,S.get 1),(2,S.get 2),(5,r1)],(Eff.hp ef1 S.nx S.hp),(S.nx+ef1.add.length),S.gh⟩))) fun K hK=>?_
  repeat' (first|(refine hK _ ?_;clear hK K)|refine .inr (vProc.grow0 0 1 (by decide) (zb0 n sta fin A (by omega) (by omega)) rfl rfl rfl rfl ?_)|(refine st ?_;try simp only[bS])|fail)
  all_goals
  refine sZ [5] (fun P S K=>XvLoad P 81 (M S.hp S.nx) (S.get 1) (fun r0 _=>XvLoad P 3 (M S.hp S.nx) (S.get 2) (fun r1 _=>XvFnIV P (M S.hp S.nx) (.fn 32 []) [r0,r1,(S.get 5),(.atom (.string { data := #[] })),(S.get 0)] (fun r4 ef4=>K ⟨[(5,S.get 5)],(Eff.hp ef4 S.nx S.hp),(S.nx+ef4.add.length),S.gh⟩)))) fun K hK=>?_
  repeat' (first|(refine hK _ ?_;clear hK K)|refine .inr (vProc.grow 0 1 (by decide) (zd4 (n+1) sta fin A sta n ⟨#[]⟩ mk (by omega)) rfl rfl rfl rfl ?_)|(refine st ?_;try simp only[bS])|fail)
  all_goals
  refine sY [4] (fun P S K=>K ⟨[(4,(S.get 5))],S.hp,S.nx,S.gh⟩) ?_
  all_goals
  refine Tri.ret ?_
  show ResP _ _ _ _ _ _
  exact ResP.enter rfl rfl rfl 4 (by omega) rfl rfl rfl rfl
end Go.Proofs.Ytehoglapajkabaa
