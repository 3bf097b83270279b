/-
  Ground of the clean machine: plain values,how they stand in memory,and how that lasts.
-/
import Derived.Below
import Derived.WalkSmall
import Derived.Laws.AppendOwn
import Derived.Laws.MakeOwn
import Derived.Laws.IdiomCopy
import Derived.WalkKit
import Derived.WalkSpells
import Derived.WalkLawsBesides
import Derived.Laws.Small
set_option linter.all false
namespace Go.Proofs.Ytehoglapajkabaa
open Go Go.RowKit
inductive PV where
  | junk
  | atom (v:Value)
  | agg (l:List PV)
  | tup (l:List PV)
  | sl (sz:Nat) (l:List PV)
  | own (sz:Nat) (l:List PV)
  | ob (i sz off len:Nat)
  | ptr (i sz k c:Nat)
  | mp (i:Nat)
  | it (i:Nat)
  | mark (i:Nat)
  | is (b i:Nat)
  | amp
  | fmp (l:List PV)
  | fptr (sz:Nat) (l:List PV) (k c:Nat)
  | fn (f:FuncId) (cap:List PV)
instance:Inhabited PV:=⟨.junk⟩
def PV.cells:PV→List PV
  | .agg l=>l
  | v=>[v]
def PV.one:PV→Bool
  | .atom v=>v.oneCell'
  | .sl _ _ | .ob _ _ _ _ | .ptr _ _ _ _ | .fptr _ _ _ _ | .fn _ _ | .mp _ | .it _ | .fmp _ | .amp=>true
  | _=>false
structure AO where
  sz:Nat
  els:List PV
instance:Inhabited AO:=⟨⟨0,[]⟩⟩
structure Home where
  w:World
  M:Nat→Prop
def Home.own (B:Home) (b:Nat):Prop:=B.w.heap.size≤b∨B.M b
def zbS (w:World) (b:Nat):Nat:=match w.heap[b]? with|some (.cells A _ _)=>A.size|_=>0
def isCells (w:World) (b:Nat):Prop:=∃A e z,w.heap[b]? = some (.cells A e z)
def isMap (w:World) (b:Nat):Prop:=∃es ck,w.heap[b]? = some (.map es ck)
def isIter (w:World) (b:Nat):Prop:=∃m s x t,w.heap[b]? = some (.mapIter m s x t)
def zeN (es:Array MapEntry) (ck:Nat):Prop:=(∀i (h:i<es.size),es[i].born<ck)∧(∀i j (h:i<es.size) (h2:j<es.size),es[i].born=es[j].born→i=j)∧∀i j (h:i<es.size) (h2:j<es.size),es[i].key=es[j].key→i=j
def mapAt (w:World) (b:Nat) (es:Array MapEntry) (ck:Nat):Prop:=∃es0,w.heap[b]? = some (.map es0 ck)∧es.toList.Perm es0.toList
def entV (es:Array MapEntry) (j:Nat):Value:=.tuple #[(es.getD j default).key,(es.getD j default).val]
def zc3:Option Nat→Value
  | some b=>.slice (some ⟨b,0,none⟩) 0 0
  | none=>.slice none 0 0
theorem zhv{a b:Option Nat}(h:zc3 a=zc3 b):a=b:=by
  cases a<;>cases b<;>simp[zc3] at h<;>simp[h]
def setE (s:ByteArray):PV:=.tup [.atom (.string s),.atom (.bool true)]
inductive Rep (D:Nat→Prop) (μ:Nat→Option Nat) (F:Nat→Prop) (w:World):PV→Value→Prop where
  | junk (v:Value):Rep D μ F w .junk v
  | atom (v:Value):Rep D μ F w (.atom v) v
  | agg (l:List PV) (vs:Array Value):vs.size=l.length→(∀i (h:i<l.length),Rep D μ F w l[i] (vs.getD i undef))→Rep D μ F w (.agg l) (.agg vs)
  | tup (l:List PV) (vs:Array Value):vs.size=l.length→(∀i (h:i<l.length),Rep D μ F w l[i] (vs.getD i undef))→Rep D μ F w (.tup l) (.tuple vs)
  | sl0 (sz:Nat) (a:Option Addr) (cap:Nat):cap≤maxLen→(a=none→cap=0)→(∀x,a=some x→x.spot=none)→Rep D μ F w (.sl sz []) (.slice a 0 cap)
  | sl (sz:Nat) (l:List PV) (b off cap:Nat) (g:Nat→Value):F b→l.length≤cap→cap≤maxLen→(∀j,j<l.length * sz→w.cell? ⟨b,off+j,none⟩=some (g j))→
      (∀k (h:k<l.length),l[k].cells.length=sz)→(∀k (h:k<l.length) c (hc:c<l[k].cells.length),Rep D μ F w (l[k].cells[c]) (g (k * sz+c)))→
      Rep D μ F w (.sl sz l) (.slice (some ⟨b,off,none⟩) l.length cap)
  | ob (i sz off len cap b:Nat):D i→μ i=some b→isCells w b→len≤cap→cap≤maxLen→(off+cap) * sz≤zbS w b→Rep D μ F w (.ob i sz off len) (.slice (some ⟨b,off * sz,none⟩) len cap)
  | obn (i sz:Nat):D i→μ i=none→Rep D μ F w (.ob i sz 0 0) (.slice none 0 0)
  | ptr (i sz k c b:Nat):D i→μ i=some b→isCells w b→Rep D μ F w (.ptr i sz k c) (.pointer (some ⟨b,k * sz+c,none⟩))
  | fptr (sz:Nat) (l:List PV) (k c:Nat) (b off:Nat) (g:Nat→Value):F b→(∀j,j<l.length * sz→w.cell? ⟨b,off+j,none⟩=some (g j))→
      (∀k (h:k<l.length),l[k].cells.length=sz)→(∀k (h:k<l.length) c (hc:c<l[k].cells.length),Rep D μ F w (l[k].cells[c]) (g (k * sz+c)))→
      Rep D μ F w (.fptr sz l k c) (.pointer (some ⟨b,off+(k * sz+c),none⟩))
  | fn (f:FuncId) (cap:List PV) (vs:Array Value):vs.size=cap.length→(∀i (h:i<cap.length),Rep D μ F w cap[i] (vs.getD i undef))→Rep D μ F w (.fn f cap) (.func (.func f) #[] vs)
  | mp (i b:Nat):D i→μ i=some b→isMap w b→Rep D μ F w (.mp i) (.map (some b))
  | it (i b:Nat):D i→μ i=some b→isIter w b→Rep D μ F w (.it i) (.pointer (some ⟨b,0,none⟩))
  | mark (i:Nat) (v:Value):D i→v=zc3 (μ i)→Rep D μ F w (.mark i) v
  | fmp (l:List PV) (b:Nat) (es:Array MapEntry) (ck:Nat):F b→mapAt w b es ck→zeN es ck→es.size=l.length→(∀j (h:j<l.length),Rep D μ F w l[j] (entV es j))→Rep D μ F w (.fmp l) (.map (some b))
  | is (b i:Nat) (v:Value):D i→μ i=some b→Rep D μ F w (.is b i) v
  | amp (ks:List ByteArray) (v:Value):Rep D μ F w (.fmp (ks.map setE)) v→Rep D μ F w .amp v
  | ampN:Rep D μ F w .amp (.map none)
theorem Rep.one{D:Nat→Prop}{μ:Nat→Option Nat}{F:Nat→Prop}{w:World}{p:PV}{v:Value}(h:Rep D μ F w p v) (h1:p.one=true):v.oneCell'=true:=by
  cases h<;>first|rfl|exact h1|(cases h1;done)|(rename_i h;cases h;rfl)
structure Stay (F:Nat→Prop) (w w':World):Prop where
  size:∀b,zbS w b≤zbS w' b
  cells:∀b,isCells w b→isCells w' b
  maps:∀b,isMap w b→isMap w' b
  iters:∀b,isIter w b→isIter w' b
  map:∀b es ck,F b→w.heap[b]? = some (.map es ck)→w'.heap[b]? = some (.map es ck)
  cell:∀b c v,F b→w.cell? ⟨b,c,none⟩=some v→w'.cell? ⟨b,c,none⟩=some v
theorem Stay.mapAt{F:Nat→Prop}{w w':World}(h:Stay F w w') {b:Nat}{es:Array MapEntry}{ck:Nat}(hF:F b) (hm:mapAt w b es ck):mapAt w' b es ck:=by
  obtain⟨es0,h1,h2⟩:=hm
  exact⟨es0,h.map b es0 ck hF h1,h2⟩
theorem mapAt.isMap{w:World}{b:Nat}{es:Array MapEntry}{ck:Nat}(h:mapAt w b es ck):isMap w b:=by
  obtain⟨es0,h1,_⟩:=h
  exact⟨es0,ck,h1⟩
theorem mapAt.of{w w':World}{b:Nat}{es:Array MapEntry}{ck:Nat}(h:mapAt w b es ck) (e:w'.heap[b]? = w.heap[b]?):mapAt w' b es ck:=by
  obtain⟨es0,h1,h2⟩:=h
  exact⟨es0,e.trans h1,h2⟩
theorem Stay.refl (F:Nat→Prop) (w:World):Stay F w w:=⟨fun _=>Nat.le_refl _,fun _ h=>h,fun _ h=>h,fun _ h=>h,fun _ _ _ _ h=>h,fun _ _ _ _ h=>h⟩
theorem Stay.trans{F F':Nat→Prop}{a b c:World}(h:Stay F a b) (k:Stay F' b c) (hF:∀b,F b→F' b):Stay F a c:=
  ⟨fun x=>Nat.le_trans (h.size x) (k.size x),fun x hx=>k.cells x (h.cells x hx),fun x hx=>k.maps x (h.maps x hx),fun x hx=>k.iters x (h.iters x hx),fun x es ck hx hv=>k.map x es ck (hF x hx) (h.map x es ck hx hv),fun x y v hx hv=>k.cell x y v (hF x hx) (h.cell x y v hx hv)⟩
theorem zge{w w':World}{b:Nat}(h:w'.heap[b]? = w.heap[b]?):zbS w' b=zbS w b:=by simp[zbS,h]
theorem zdJ{w:World}{b:Nat}{o:Obj}(h:w.heap[b]? = some o):b<w.heap.size:=(Array.getElem?_eq_some_iff.1 h).1
theorem isCells.lt{w:World}{b:Nat}(h:isCells w b):b<w.heap.size:=by obtain⟨_,_,_,h⟩:=h;exact zdJ h
theorem isMap.lt{w:World}{b:Nat}(h:isMap w b):b<w.heap.size:=by obtain⟨_,_,h⟩:=h;exact zdJ h
theorem isIter.lt{w:World}{b:Nat}(h:isIter w b):b<w.heap.size:=by obtain⟨_,_,_,_,h⟩:=h;exact zdJ h
theorem isCells.of{w w':World}{b:Nat}(h:isCells w b) (e:w'.heap[b]? = w.heap[b]?):isCells w' b:=by unfold isCells at *;rw[e];exact h
theorem isMap.of{w w':World}{b:Nat}(h:isMap w b) (e:w'.heap[b]? = w.heap[b]?):isMap w' b:=by unfold isMap at *;rw[e];exact h
theorem isIter.of{w w':World}{b:Nat}(h:isIter w b) (e:w'.heap[b]? = w.heap[b]?):isIter w' b:=by unfold isIter at *;rw[e];exact h
theorem isCells.mk'{w:World}{b:Nat}{A:Array Value}{e:TypeId}{z:Nat×Nat}(h:w.heap[b]? = some (.cells A e z)):isCells w b:=⟨A,e,z,h⟩
theorem isMap.mk'{w:World}{b:Nat}{es:Array MapEntry}{ck:Nat}(h:w.heap[b]? = some (.map es ck)):isMap w b:=⟨es,ck,h⟩
theorem isCells.not_map{w:World}{b:Nat}(h:isCells w b) (h2:isMap w b):False:=by
  obtain⟨_,_,_,h⟩:=h;obtain⟨_,_,h2⟩:=h2;rw[h] at h2;cases h2
theorem isCells.not_iter{w:World}{b:Nat}(h:isCells w b) (h2:isIter w b):False:=by
  obtain⟨_,_,_,h⟩:=h;obtain⟨_,_,_,_,h2⟩:=h2;rw[h] at h2;cases h2
theorem isMap.not_iter{w:World}{b:Nat}(h:isMap w b) (h2:isIter w b):False:=by
  obtain⟨_,_,h⟩:=h;obtain⟨_,_,_,_,h2⟩:=h2;rw[h] at h2;cases h2
theorem Stay.of_blocks{F:Nat→Prop}{w w':World}(h:∀b,b<w.heap.size→w'.heap[b]? = w.heap[b]?):Stay F w w':=by
  refine⟨fun b=>?_,fun b hb=>hb.of (h b hb.lt),fun b hb=>hb.of (h b hb.lt),fun b hb=>hb.of (h b hb.lt),fun b es ck _ hb=>(h b (zdJ hb)).trans hb,fun b c v _ hv=>?_⟩
  · by_cases hb:b<w.heap.size
    · rw[zge (h b hb)];exact Nat.le_refl _
    · have:zbS w b=0:=by simp[zbS,Array.getElem?_eq_none (Nat.le_of_not_lt hb)]
      rw[this];exact Nat.zero_le _
  · have hb:=World.block_lt_of_cell? w _ hv
    rw[World.cell?_of_block (h b hb)];exact hv
theorem Stay.below{F:Nat→Prop}{w w':World}(h:Below w.heap.size w w'):Stay F w w':=Stay.of_blocks h.block
structure Kind (w w':World) (g:Nat):Prop where
  cells:isCells w g→isCells w' g
  maps:isMap w g→isMap w' g
  iters:isIter w g→isIter w' g
theorem Kind.cells'{w w':World}{g:Nat}(h:isCells w g) (h':isCells w' g):Kind w w' g:=⟨fun _=>h',fun k=>(h.not_map k).elim,fun k=>(h.not_iter k).elim⟩
theorem Kind.maps'{w w':World}{g:Nat}(h:isMap w g) (h':isMap w' g):Kind w w' g:=⟨fun k=>(k.not_map h).elim,fun _=>h',fun k=>(h.not_iter k).elim⟩
theorem Kind.iters'{w w':World}{g:Nat}(h:isIter w g) (h':isIter w' g):Kind w w' g:=⟨fun k=>(k.not_iter h).elim,fun k=>(k.not_iter h).elim,fun _=>h'⟩
theorem Kind.refl (w:World) (g:Nat):Kind w w g:=⟨fun h=>h,fun h=>h,fun h=>h⟩
theorem Kind.trans{a b c:World}{g:Nat}(h:Kind a b g) (k:Kind b c g):Kind a c g:=⟨fun x=>k.cells (h.cells x),fun x=>k.maps (h.maps x),fun x=>k.iters (h.iters x)⟩
theorem Kind.same{w w':World}{g:Nat}(h:w'.heap[g]? = w.heap[g]?):Kind w w' g:=⟨fun k=>k.of h,fun k=>k.of h,fun k=>k.of h⟩
theorem Stay.kind{F:Nat→Prop}{w w':World}(h:Stay F w w') (g:Nat):Kind w w' g:=⟨h.cells g,h.maps g,h.iters g⟩
theorem Stay.of_block{F:Nat→Prop}{w w':World}(g:Nat) (hg:¬F g) (hs:zbS w g≤zbS w' g) (hk:Kind w w' g) (h:∀b,b<w.heap.size→b≠g→w'.heap[b]? = w.heap[b]?):Stay F w w':=by
  refine⟨fun b=>?_,fun b hb=>?_,fun b hb=>?_,fun b hb=>?_,fun b es ck hF hb=>(h b (zdJ hb) (fun e=>hg (e▸hF))).trans hb,fun b c v hF hv=>?_⟩
  · by_cases hbg:b=g
    · subst hbg;exact hs
    · by_cases hb:b<w.heap.size
      · rw[zge (h b hb hbg)];exact Nat.le_refl _
      · have:zbS w b=0:=by simp[zbS,Array.getElem?_eq_none (Nat.le_of_not_lt hb)]
        rw[this];exact Nat.zero_le _
  · by_cases hbg:b=g
    · subst hbg;exact hk.cells hb
    · exact hb.of (h b hb.lt hbg)
  · by_cases hbg:b=g
    · subst hbg;exact hk.maps hb
    · exact hb.of (h b hb.lt hbg)
  · by_cases hbg:b=g
    · subst hbg;exact hk.iters hb
    · exact hb.of (h b hb.lt hbg)
  · have hb:=World.block_lt_of_cell? w _ hv
    rw[World.cell?_of_block (h b hb (fun e=>hg (e▸hF)))];exact hv
structure Bel (w w':World):Prop extends Below w.heap.size w w' where
  drawn:w.drawn≤w'.drawn
theorem Bel.refl (w:World):Bel w w:=⟨Below.refl _ _,Nat.le_refl _⟩
theorem Bel.drew (w:World):Bel w w.drew:=⟨Below.drew (Below.refl _ _),Nat.le_succ _⟩
theorem Bel.alloc (w:World) (o:Obj):Bel w (w.alloc o):=⟨(Below.refl _ _).alloc (Nat.le_refl _) _,Nat.le_refl _⟩
theorem Bel.drewAlloc (w:World) (o:Obj):Bel w (w.drew.alloc o):=⟨(Below.drew (Below.refl _ _)).alloc (Nat.le_refl _) _,Nat.le_succ _⟩
structure Ext (B:Home) (w:World):Prop where
  os:w.os=B.w.os
  tape:w.tape=B.w.tape
  output:w.output=B.w.output
  size:B.w.heap.size≤w.heap.size
  block:∀k,k<B.w.heap.size→¬B.M k→w.heap[k]? = B.w.heap[k]?
  kind:∀b,Kind B.w w b
  sizes:∀b,zbS B.w b≤zbS w b
  drawn:B.w.drawn≤w.drawn
theorem zlo{w w':World}(h:Below w.heap.size w w') (b:Nat):zbS w b≤zbS w' b:=(Stay.below (F:=fun _=>False) h).size b
theorem Ext.refl (w:World) (M:Nat→Prop):Ext ⟨w,M⟩ w:=⟨rfl,rfl,rfl,Nat.le_refl _,fun _ _ _=>rfl,fun _=>Kind.refl _ _,fun _=>Nat.le_refl _,Nat.le_refl _⟩
theorem Ext.trans{B:Home}{a b:World}(h:Ext B a) (k:Bel a b):Ext B b:=
  ⟨k.os.trans h.os,k.tape.trans h.tape,k.output.trans h.output,Nat.le_trans h.size k.size,fun i hi hM=>(k.block i (Nat.lt_of_lt_of_le hi h.size)).trans (h.block i hi hM),fun b=>(h.kind b).trans ((Stay.below (F:=fun _=>False) k.1).kind b),fun b=>Nat.le_trans (h.sizes b) (zlo k.1 b),Nat.le_trans h.drawn k.drawn⟩
theorem Ext.below{w w':World}{M:Nat→Prop}(h:Ext ⟨w,M⟩ w') (hM:∀b,¬M b):Bel w w':=⟨⟨h.os,h.tape,h.output,h.size,fun k hk=>h.block k hk (hM k)⟩,h.drawn⟩
theorem Ext.own_lt{B:Home}{w:World}(h:Ext B w) (b:Nat) (hb:w.heap.size≤b):B.own b:=.inl (Nat.le_trans h.size hb)
theorem zin (w:World) (p:Addr) (u:Value) (b:Nat):zbS w b≤zbS (w.setCell p u) b:=by
  by_cases hb:b=p.block
  · subst hb
    simp only[zbS,World.setCell,Array.getElem?_modify,if_true]
    cases h:w.heap[p.block]? with
    | none=>simp
    | some o=>cases o<;>simp<;>first|omega|(split<;>simp)
  · rw[zge (Below.heap_setCell _ _ _ _ hb)];exact Nat.le_refl _
theorem Kind.setCell (w:World) (p:Addr) (u:Value) (b:Nat):Kind w (w.setCell p u) b:=by
  by_cases hb:b=p.block
  · subst hb
    refine⟨fun⟨A,e,z,h⟩=>?_,fun⟨es,ck,h⟩=>?_,fun⟨m,s,x,t,h⟩=>?_⟩
    · exact⟨_,e,z,by simp only[World.setCell,Array.getElem?_modify,if_true,h,Option.map_some];rfl⟩
    · exact⟨es,ck,by simp only[World.setCell,Array.getElem?_modify,if_true,h,Option.map_some]⟩
    · exact⟨m,s,x,t,by simp only[World.setCell,Array.getElem?_modify,if_true,h,Option.map_some]⟩
  · exact Kind.same (Below.heap_setCell _ _ _ _ hb)
theorem Ext.setCell{B:Home}{a:World}(h:Ext B a) {p:Addr}(hp:B.own p.block) (u:Value):Ext B (a.setCell p u):=by
  refine⟨h.os,h.tape,h.output,by simpa[World.setCell] using h.size,fun k hk hM=>?_,fun b=>(h.kind b).trans (Kind.setCell _ _ _ _),fun b=>Nat.le_trans (h.sizes b) (zin _ _ _ _),h.drawn⟩
  rw[Below.heap_setCell _ _ _ _ (by rintro rfl;exact hp.elim (fun h=>by omega) hM)]
  exact h.block k hk hM
theorem Rep.stay{D D':Nat→Prop}{μ μ':Nat→Option Nat}{F F':Nat→Prop}{w w':World}{p:PV}{v:Value}(h:Rep D μ F w p v) (hs:Stay F w w') (hD:∀i,D i→D' i∧μ' i=μ i) (hF:∀b,F b→F' b):
    Rep D' μ' F' w' p v:=by
  induction h with
  | junk v=>exact .junk v
  | atom v=>exact .atom v
  | agg l vs h1 _ ih=>exact .agg l vs h1 ih
  | tup l vs h1 _ ih=>exact .tup l vs h1 ih
  | sl0 sz a cap h1 h2 h3=>exact .sl0 sz a cap h1 h2 h3
  | sl sz l b off cap g h1 h2 h3 h4 h5 _ ih=>exact .sl sz l b off cap g (hF b h1) h2 h3 (fun j hj=>hs.cell _ _ _ h1 (h4 j hj)) h5 ih
  | ob i sz off len cap b h1 hb hk h2 h3 h4=>
    obtain⟨d1,d2⟩:=hD i h1
    exact .ob i sz off len cap b d1 (d2.trans hb) (hs.cells _ hk) h2 h3 (Nat.le_trans h4 (hs.size _))
  | obn i sz h1 hb=>
    obtain⟨d1,d2⟩:=hD i h1
    exact .obn i sz d1 (d2.trans hb)
  | ptr i sz k c b h1 hb hk=>
    obtain⟨d1,d2⟩:=hD i h1
    exact .ptr i sz k c b d1 (d2.trans hb) (hs.cells _ hk)
  | mp i b h1 hb hk=>
    obtain⟨d1,d2⟩:=hD i h1
    exact .mp i b d1 (d2.trans hb) (hs.maps _ hk)
  | it i b h1 hb hk=>
    obtain⟨d1,d2⟩:=hD i h1
    exact .it i b d1 (d2.trans hb) (hs.iters _ hk)
  | mark i v h1 hb=>
    obtain⟨d1,d2⟩:=hD i h1
    exact .mark i v d1 (by rw[d2];exact hb)
  | fmp l b es ck h1 h2 h3 h4 _ ih=>exact .fmp l b es ck (hF b h1) (hs.mapAt h1 h2) h3 h4 ih
  | is b i v h1 hb=>
    obtain⟨d1,d2⟩:=hD i h1
    exact .is b i v d1 (d2.trans hb)
  | amp ks v _ ih=>exact .amp ks v ih
  | ampN=>exact .ampN
  | fptr sz l k c b off g h1 h2 h3 _ ih=>exact .fptr sz l k c b off g (hF b h1) (fun j hj=>hs.cell _ _ _ h1 (h2 j hj)) h3 ih
  | fn f cap vs h1 _ ih=>exact .fn f cap vs h1 ih
def CellsOk (D:Nat→Prop) (μ:Nat→Option Nat) (F:Nat→Prop) (w:World) (b:Nat) (o:AO):Prop:=
  ∃ A e,w.heap[b]? = some (.cells A e (0,0))∧o.els.length * o.sz≤A.size∧(∀k (h:k<o.els.length),o.els[k].cells.length=o.sz)∧
    ∀k (h:k<o.els.length) c (hc:c<o.els[k].cells.length),Rep D μ F w (o.els[k].cells[c]) (A.getD (k * o.sz+c) undef)
def MapOk (D:Nat→Prop) (μ:Nat→Option Nat) (F:Nat→Prop) (w:World) (b:Nat) (o:AO):Prop:=
  ∃es ck,mapAt w b es ck∧zeN es ck∧es.size=o.els.length∧∀j (h:j<o.els.length),Rep D μ F w o.els[j] (entV es j)
def zcO (es:Array MapEntry) (seen:Array Nat):Array MapEntry:=es.filter fun e => !seen.contains e.born
def IterAt (D:Nat→Prop) (μ:Nat→Option Nat) (F:Nat→Prop) (w:World) (b:Nat) (rem:List PV) (cur:PV):Prop:=
  (∃m seen es ck,w.heap[b]? = some (.mapIter (some m) ck seen ck)∧F m∧mapAt w m es ck∧zeN es ck∧(zcO es seen).size=rem.length∧(∀j (h:j<rem.length),Rep D μ F w rem[j] (entV (zcO es seen) j))∧
    (cur=.junk∨∃e,e∈es.toList∧seen.back? = some e.born∧Rep D μ F w cur (.tuple #[e.key,e.val])))∨
  (∃s x t,w.heap[b]? = some (.mapIter none s x t)∧rem=[]∧cur=.junk)
def IterOk (D:Nat→Prop) (μ:Nat→Option Nat) (F:Nat→Prop) (w:World) (b:Nat) (o:AO):Prop:=∃rem cur,o.els=[.fmp rem,cur]∧IterAt D μ F w b rem cur
theorem IterAt.to{D D':Nat→Prop}{μ μ':Nat→Option Nat}{F F':Nat→Prop}{w w':World}{b:Nat}{rem rem':List PV}{cur cur':PV}(h:IterAt D μ F w b rem cur) (hb:w'.heap[b]? = w.heap[b]?) (hF:∀m,F m→F' m∧∀es ck,mapAt w m es ck→mapAt w' m es ck)
    (hl:rem'.length=rem.length) (hr:∀j (h:j<rem.length) (h':j<rem'.length) v,Rep D μ F w rem[j] v→Rep D' μ' F' w' rem'[j] v) (hc:∀v,Rep D μ F w cur v→Rep D' μ' F' w' cur' v) (hj:cur=.junk→cur'=.junk):IterAt D' μ' F' w' b rem' cur':=by
  rcases h with ⟨m,seen,es,ck,h1,h2,h3,h4,h5,h6,h7⟩|⟨s,x,t,h1,h2,h3⟩
  · refine .inl ⟨m,seen,es,ck,hb.trans h1,(hF m h2).1,(hF m h2).2 _ _ h3,h4,h5.trans hl.symm,fun j hj=>hr j (by omega) hj _ (h6 j (by omega)),?_⟩
    rcases h7 with h7|⟨e,g1,g2,g3⟩
    · exact .inl (hj h7)
    · exact .inr ⟨e,g1,g2,hc _ g3⟩
  · exact .inr ⟨s,x,t,hb.trans h1,by subst h2;exact List.eq_nil_of_length_eq_zero hl,hj h3⟩
def ObjOk (D:Nat→Prop) (μ:Nat→Option Nat) (F:Nat→Prop) (w:World) (b:Nat) (o:AO):Prop:=CellsOk D μ F w b o∨MapOk D μ F w b o∨IterOk D μ F w b o
theorem CellsOk.kind{D:Nat→Prop}{μ:Nat→Option Nat}{F:Nat→Prop}{w:World}{b:Nat}{o:AO}(h:CellsOk D μ F w b o):isCells w b:=by obtain⟨A,e,h,_⟩:=h;exact⟨A,e,_,h⟩
theorem MapOk.kind{D:Nat→Prop}{μ:Nat→Option Nat}{F:Nat→Prop}{w:World}{b:Nat}{o:AO}(h:MapOk D μ F w b o):isMap w b:=by obtain⟨A,e,h,_⟩:=h;exact h.isMap
theorem IterOk.kind{D:Nat→Prop}{μ:Nat→Option Nat}{F:Nat→Prop}{w:World}{b:Nat}{o:AO}(h:IterOk D μ F w b o):isIter w b:=by
  obtain⟨_,_,_,⟨_,_,_,_,h,_⟩|⟨_,_,_,h,_⟩⟩:=h
  · exact⟨_,_,_,_,h⟩
  · exact⟨_,_,_,_,h⟩
theorem ObjOk.cells{D:Nat→Prop}{μ:Nat→Option Nat}{F:Nat→Prop}{w:World}{b:Nat}{o:AO}(h:ObjOk D μ F w b o) (hk:isCells w b):CellsOk D μ F w b o:=by
  rcases h with h|h|h
  · exact h
  · exact(hk.not_map h.kind).elim
  · exact(hk.not_iter h.kind).elim
theorem ObjOk.map{D:Nat→Prop}{μ:Nat→Option Nat}{F:Nat→Prop}{w:World}{b:Nat}{o:AO}(h:ObjOk D μ F w b o) (hk:isMap w b):MapOk D μ F w b o:=by
  rcases h with h|h|h
  · exact(h.kind.not_map hk).elim
  · exact h
  · exact(hk.not_iter h.kind).elim
theorem ObjOk.iter{D:Nat→Prop}{μ:Nat→Option Nat}{F:Nat→Prop}{w:World}{b:Nat}{o:AO}(h:ObjOk D μ F w b o) (hk:isIter w b):IterOk D μ F w b o:=by
  rcases h with h|h|h
  · exact(h.kind.not_iter hk).elim
  · exact(h.kind.not_iter hk).elim
  · exact h
theorem ObjOk.lt{D:Nat→Prop}{μ:Nat→Option Nat}{F:Nat→Prop}{w:World}{b:Nat}{o:AO}(h:ObjOk D μ F w b o):b<w.heap.size:=by
  rcases h with h|h|h
  · exact h.kind.lt
  · exact h.kind.lt
  · exact h.kind.lt
theorem ObjOk.stay{D D':Nat→Prop}{μ μ':Nat→Option Nat}{F F':Nat→Prop}{w w':World}{b:Nat}{o:AO}(h:ObjOk D μ F w b o) (hs:Stay F w w') (hD:∀i,D i→D' i∧μ' i=μ i) (hF:∀b,F b→F' b)
    (hb:w'.heap[b]? = w.heap[b]?):ObjOk D' μ' F' w' b o:=by
  rcases h with h|h|h
  · obtain⟨A,e,h1,h2,h3,h4⟩:=h
    exact .inl ⟨A,e,by rw[hb];exact h1,h2,h3,fun k hk c hc=>(h4 k hk c hc).stay hs hD hF⟩
  · obtain⟨es,ck,h1,h2,h3,h4⟩:=h
    exact .inr (.inl ⟨es,ck,h1.of hb,h2,h3,fun j hj=>(h4 j hj).stay hs hD hF⟩)
  · obtain⟨rem,cur,h1,h2⟩:=h
    exact .inr (.inr ⟨rem,cur,h1,h2.to hb (fun m hm=>⟨hF m hm,fun es ck g=>hs.mapAt hm g⟩) rfl (fun j _ _ v g=>g.stay hs hD hF) (fun v g=>g.stay hs hD hF) id⟩)
def Stands (D:Nat→Prop) (μ:Nat→Option Nat) (F:Nat→Prop) (w:World) (o:AO):Option Nat→Prop
  | some b=>ObjOk D μ F w b o
  | none=>o.els=[]
structure HeapSim (w0:Home) (F0:Nat→Prop) (D:Nat→Prop) (μ:Nat→Option Nat) (F:Nat→Prop) (H:Nat→Option AO) (w:World):Prop where
  objs:∀i o,H i=some o→D i∧Stands D μ F w o (μ i)
  inj:∀i j o o' b,H i=some o→H j=some o'→μ i=some b→μ j=some b→i=j
  own:∀i o b,H i=some o→μ i=some b→w0.own b∧¬F b
  ext:Ext w0 w
  f0:∀b,F b→F0 b∨w0.own b
  fsz:∀b,F b→b<w.heap.size
section
variable {w0:Home} {F0 D D':Nat→Prop} {μ μ':Nat→Option Nat} {F F':Nat→Prop} {H H':Nat→Option AO} {w w':World}
theorem HeapSim.ok (h:HeapSim w0 F0 D μ F H w) {i:Nat}{o:AO}{b:Nat}(hi:H i=some o) (hb:μ i=some b):ObjOk D μ F w b o:=by
  have:=(h.objs i o hi).2
  rw[hb] at this
  exact this
theorem HeapSim.cellsOk (h:HeapSim w0 F0 D μ F H w) {i:Nat}{o:AO}{b:Nat}(hi:H i=some o) (hb:μ i=some b) (hk:isCells w b):CellsOk D μ F w b o:=(h.ok hi hb).cells hk
theorem HeapSim.mapOk (h:HeapSim w0 F0 D μ F H w) {i:Nat}{o:AO}{b:Nat}(hi:H i=some o) (hb:μ i=some b) (hk:isMap w b):MapOk D μ F w b o:=(h.ok hi hb).map hk
theorem HeapSim.iterOk (h:HeapSim w0 F0 D μ F H w) {i:Nat}{o:AO}{b:Nat}(hi:H i=some o) (hb:μ i=some b) (hk:isIter w b):IterOk D μ F w b o:=(h.ok hi hb).iter hk
theorem HeapSim.step (h:HeapSim w0 F0 D μ F H w)
    (hs:Stay F w w') (hD:∀i,D i→D' i∧μ' i=μ i) (hF:∀b,F b→F' b) (hB:Ext w0 w') (hf0:∀b,F' b→F0 b∨w0.own b) (hfs:∀b,F' b→b<w'.heap.size)
    (hH:∀i o,H' i=some o→(H i=some o∧∀b,μ i=some b→w'.heap[b]? = w.heap[b]? ∧ ¬F' b)∨
      (D' i∧Stands D' μ' F' w' o (μ' i)∧∀b,μ' i=some b→w0.own b∧¬F' b∧∀j o',j≠i→H' j=some o'→μ' j≠some b)):HeapSim w0 F0 D' μ' F' H' w':=by
  refine⟨fun i o hi=>?_,fun i j o o' b hi hj hib hjb=>?_,fun i o b hi hib=>?_,hB,hf0,hfs⟩
  · rcases hH i o hi with ⟨h1,h2⟩|⟨h1,h2,_⟩
    · obtain⟨d,ok⟩:=h.objs i o h1
      obtain⟨d1,d2⟩:=hD i d
      refine⟨d1,?_⟩
      rw[d2]
      cases hm:μ i with
      | none=>rw[hm] at ok;exact ok
      | some b=>rw[hm] at ok;exact ObjOk.stay ok hs hD hF (h2 b hm).1
    · exact⟨h1,h2⟩
  · apply Classical.byContradiction
    intro hne
    rcases hH i o hi with ⟨h1,_⟩|⟨_,_,h1⟩
    · rcases hH j o' hj with ⟨h2,_⟩|⟨_,_,h2⟩
      · have d1:=(hD i (h.objs i o h1).1).2
        have d2:=(hD j (h.objs j o' h2).1).2
        exact hne (h.inj i j o o' b h1 h2 (by rw[←d1];exact hib) (by rw[←d2];exact hjb))
      · exact(h2 b hjb).2.2 i o hne hi hib
    · exact(h1 b hib).2.2 j o' (fun e=>hne e.symm) hj hjb
  · rcases hH i o hi with ⟨h1,h3⟩|⟨_,_,h1⟩
    · have d1:=(hD i (h.objs i o h1).1).2
      rw[d1] at hib
      exact⟨(h.own i o b h1 hib).1,(h3 b hib).2⟩
    · exact⟨(h1 b hib).1,(h1 b hib).2.1⟩
theorem HeapSim.drop (h:HeapSim w0 F0 D μ F H w) (hH:∀i o,H' i=some o→H i=some o):HeapSim w0 F0 D μ F H' w:=
  ⟨fun i o hi=>h.objs i o (hH i o hi),fun i j o o' b hi hj=>h.inj i j o o' b (hH i o hi) (hH j o' hj),fun i o b hi=>h.own i o b (hH i o hi),h.ext,h.f0,h.fsz⟩
theorem HeapSim.still (h:HeapSim w0 F0 D μ F H w) (hb:Bel w w'):HeapSim w0 F0 D μ F H w':=
  h.step (Stay.below hb.1) (fun i hi=>⟨hi,rfl⟩) (fun _ hb=>hb) (h.ext.trans hb) h.f0 (fun b hb'=>Nat.lt_of_lt_of_le (h.fsz b hb') hb.size)
    (fun i o hi=>.inl ⟨hi,fun b hib=>⟨hb.block _ (h.ok hi hib).lt,(h.own i o b hi hib).2⟩⟩)
def upd{α:Type}(f:Nat→α) (i:Nat) (x:α):Nat→α:=fun j=>if j=i then x else f j
theorem zbg{α:Type}(f:Nat→α) (i:Nat) (x:α):upd f i x i=x:=if_pos rfl
theorem zby{α:Type}(f:Nat→α) {i j:Nat}(x:α) (h:j≠i):upd f i x j=f j:=if_neg h
def also (D:Nat→Prop) (i:Nat):Nat→Prop:=fun j=>D j∨j=i
theorem zeM (m:Option Nat) {i:Nat}(hi:¬D i):∀j,D j→also D i j∧upd μ i m j=μ j:=fun _ hj=>⟨.inl hj,zby _ _ (fun e=>hi (e▸hj))⟩
theorem HeapSim.add (h:HeapSim w0 F0 D μ F H w) (i:Nat) (hi:¬D i) (o:AO) (m:Option Nat)
    (hs:Stay F w w') (hB:Ext w0 w') (hsz:w.heap.size≤w'.heap.size) (hok:Stands D μ F w' o m)
    (hb:∀b,m=some b→w0.own b∧¬F b∧∀j o',H j=some o'→μ j≠some b)
    (hoth:∀j o' b,H j=some o'→μ j=some b→w'.heap[b]? = w.heap[b]?):HeapSim w0 F0 (also D i) (upd μ i m) F (upd H i (some o)) w':=by
  refine h.step hs (zeM m hi) (fun _ hb=>hb) hB h.f0 (fun b hb=>Nat.lt_of_lt_of_le (h.fsz b hb) hsz) fun j o' hj=>?_
  by_cases hji:j=i
  · subst hji
    rw[zbg] at hj
    obtain rfl:=Option.some.inj hj
    rw[zbg]
    refine .inr ⟨.inr rfl,?_,fun b hbm=>⟨(hb b hbm).1,(hb b hbm).2.1,fun k o2 hk hk2=>?_⟩⟩
    · cases m with
      | none=>exact hok
      | some b=>exact ObjOk.stay hok (Stay.refl _ _) (zeM _ hi) (fun _ hb=>hb) rfl
    · rw[zby _ _ hk] at hk2 ⊢
      exact(hb b hbm).2.2 k o2 hk2
  · rw[zby _ _ hji] at hj
    exact .inl ⟨hj,fun b hjb=>⟨hoth j o' b hj hjb,(h.own j o' b hj hjb).2⟩⟩
theorem HeapSim.set (h:HeapSim w0 F0 D μ F H w) (i:Nat) (o0:AO) (b:Nat) (hi:H i=some o0) (hib:μ i=some b) (o:AO)
    (hs:Stay F w w') (hB:Ext w0 w') (hsz:w.heap.size≤w'.heap.size) (hok:ObjOk D μ F w' b o)
    (hoth:∀c,c<w.heap.size→c≠b→w'.heap[c]? = w.heap[c]?):HeapSim w0 F0 D μ F (upd H i (some o)) w':=by
  refine h.step hs (fun j hj=>⟨hj,rfl⟩) (fun _ hb=>hb) hB h.f0 (fun b hb=>Nat.lt_of_lt_of_le (h.fsz b hb) hsz) fun j o' hj=>?_
  by_cases hji:j=i
  · subst hji
    rw[zbg] at hj
    obtain rfl:=Option.some.inj hj
    refine .inr ⟨(h.objs j o0 hi).1,by rw[hib];exact hok,fun c hc=>⟨(h.own j o0 c hi hc).1,(h.own j o0 c hi hc).2,fun k o2 hk hk2 e=>?_⟩⟩
    rw[zby _ _ hk] at hk2
    exact hk (h.inj k j o2 o0 c hk2 hi e hc)
  · rw[zby _ _ hji] at hj
    exact .inl ⟨hj,fun c hc=>⟨hoth c (h.ok hj hc).lt (fun e=>hji (h.inj j i o' o0 c hj hi hc (e▸hib))),(h.own j o' c hj hc).2⟩⟩
end
section
variable {P:Program} {w0:Home} {F0 D D':Nat→Prop} {μ μ':Nat→Option Nat} {F F':Nat→Prop} {H H':Nat→Option AO} {w w':World}
theorem zgQ{A:Array Value}{i:Nat}(h:i<A.size):A[i]? = some (A.getD i undef):=by simp[h]
theorem ze9 (l:List PV) (k:Nat) (h:k<l.length):l.getD k .junk=l[k]:=by simp[List.getD_eq_getElem?_getD,h]
theorem Rep.cells{p:PV}{v:Value}(h:Rep D μ F w p v) (h1:p.cells.all PV.one=true):
    v.cells.size=p.cells.length∧(∀c (hc:c<p.cells.length),Rep D μ F w p.cells[c] (v.cells.getD c undef))∧v.cells.all (·.oneCell')=true:=by
  by_cases ha:∃l,p=.agg l
  · obtain⟨l,rfl⟩:=ha
    cases h with
    | agg l vs hs hr=>
      refine⟨hs,hr,?_⟩
      rw[Array.all_eq_true_iff_forall_mem]
      intro x hx
      obtain⟨i,hi,rfl⟩:=Array.mem_iff_getElem.1 hx
      change i<vs.size at hi
      have:=hr i (by omega)
      have e:vs.getD i undef=vs[i]:=by simp[hi]
      rw[e] at this
      exact this.one (List.all_eq_true.1 h1 _ (List.getElem_mem _))
  · have hp:p.cells=[p]:=by cases p<;>first|rfl|exact absurd ⟨_,rfl⟩ ha
    rw[hp] at h1 ⊢
    have h1':p.one=true:=by simpa using h1
    have hv:=h.one h1'
    have hvc:v.cells = #[v]:=by cases v<;>first|rfl|cases hv
    rw[hvc]
    refine⟨rfl,fun c hc=>?_,by simp[hv]⟩
    have:c=0:=by simp at hc;omega
    subst this
    exact h
theorem zcy{k n sz c:Nat}(hk:k<n) (hc:c<sz):k * sz+c<n * sz:=by
  have:(k+1) * sz≤n * sz:=Nat.mul_le_mul_right _ hk
  rw[Nat.add_mul] at this
  omega
theorem CellsOk.cell{b:Nat}{o:AO}(h:CellsOk D μ F w b o) {k:Nat}(hk:k<o.els.length) {c:Nat}(hc:c<o.els[k].cells.length):
    ∃v,w.cell? ⟨b,k * o.sz+c,none⟩=some v∧w.frozen? ⟨b,k * o.sz+c,none⟩=false∧Rep D μ F w o.els[k].cells[c] v:=by
  obtain⟨A,e,h1,h2,h3,h4⟩:=h
  have hlt:k * o.sz+c<A.size:=Nat.lt_of_lt_of_le (zcy hk (by rw[←h3 k hk];exact hc)) h2
  exact⟨_,by simp only[World.cell?,h1];exact zgQ hlt,by simp[World.frozen?,h1],h4 k hk c hc⟩
theorem ObjOk.alloc (A:Array Value) (e:TypeId) (o:AO) (hl:o.els.length * o.sz≤A.size) (hc:∀k (h:k<o.els.length),o.els[k].cells.length=o.sz)
    (hr:∀k (h:k<o.els.length) c (hc:c<o.els[k].cells.length),Rep D μ F w (o.els[k].cells[c]) (A.getD (k * o.sz+c) undef)):ObjOk D μ F (w.alloc (.cells A e)) w.heap.size o:=
  .inl ⟨A,e,heap_alloc_new w _,hl,hc,fun k hk c hc=>(hr k hk c hc).stay (Stay.below ((Below.refl _ _).alloc (Nat.le_refl _) _)) (fun _ h=>⟨h,rfl⟩) (fun _ h=>h)⟩
theorem isCells.new (w:World) (A:Array Value) (e:TypeId):isCells (w.alloc (.cells A e)) w.heap.size:=⟨A,e,_,heap_alloc_new w _⟩
theorem HeapSim.alloc (h:HeapSim w0 F0 D μ F H w) (i:Nat) (hi:¬D i) (A:Array Value) (e:TypeId) (o:AO) (hl:o.els.length * o.sz≤A.size) (hc:∀k (h:k<o.els.length),o.els[k].cells.length=o.sz)
    (hr:∀k (h:k<o.els.length) c (hc:c<o.els[k].cells.length),Rep D μ F w (o.els[k].cells[c]) (A.getD (k * o.sz+c) undef)):
    HeapSim w0 F0 (also D i) (upd μ i (some w.heap.size)) F (upd H i (some o)) (w.alloc (.cells A e)):=by
  have hb:Bel w (w.alloc (.cells A e)):=Bel.alloc w _
  refine h.add i hi o (some w.heap.size) (Stay.below hb.1) (h.ext.trans hb) hb.size (ObjOk.alloc A e o hl hc hr) (fun b hbe=>?_) (fun j o' b hj hjb=>hb.block _ (h.ok hj hjb).lt)
  cases hbe
  refine⟨.inl h.ext.size,fun hF=>?_,fun j o' hj e=>?_⟩
  · exact absurd (h.fsz _ hF) (Nat.lt_irrefl _)
  · exact absurd (h.ok hj e).lt (Nat.lt_irrefl _)
theorem HeapSim.unborn (h:HeapSim w0 F0 D μ F H w) (i:Nat) (hi:¬D i) (sz:Nat):HeapSim w0 F0 (also D i) (upd μ i none) F (upd H i (some ⟨sz,[]⟩)) w:=
  h.add i hi _ none (Stay.refl _ _) h.ext (Nat.le_refl _) rfl (fun _ h=>by cases h) (fun _ _ _ _ _=>rfl)
theorem zdF (b:Nat):∀(vs:List Value) (o:Nat) (w:World) (k:Nat),k≠b→(w.setCells b o vs).heap[k]? = w.heap[k]?
  | [],_,_,_,_=>rfl
  | v :: r,o,w,k,hk=>by rw[World.setCells,zdF b r (o+1) _ k hk,Below.heap_setCell _ _ _ _ hk]
theorem zfe (b:Nat):∀(vs:List Value) (o:Nat) (w:World),(w.setCells b o vs).heap.size=w.heap.size
  | [],_,_=>rfl
  | v :: r,o,w=>by rw[World.setCells,zfe b r (o+1)];simp
theorem zdG (b:Nat):∀(vs:List Value) (o:Nat) (w:World) (A:Array Value) (e:TypeId) (z:Nat×Nat),w.heap[b]? = some (.cells A e z)→
    ∃A',(w.setCells b o vs).heap[b]? = some (.cells A' e z)∧A'.size=A.size∧∀j,A'.getD j undef=if o≤j∧j<o+vs.length∧j<A.size then vs.getD (j - o) undef else A.getD j undef
  | [],o,w,A,e,z,h=>⟨A,h,rfl,fun j=>by rw[if_neg (by simp;omega)]⟩
  | v :: r,o,w,A,e,z,h=>by
    have h1:(w.setCell ⟨b,o,none⟩ v).heap[b]? = some (.cells (A.setIfInBounds o v) e z):=by
      simp only[World.setCell,Array.getElem?_modify,if_true,h,Option.map_some];simp
    obtain⟨A',g1,g2,g3⟩:=zdG b r (o+1) _ _ e z h1
    refine⟨A',g1,by rw[g2];simp,fun j=>?_⟩
    rw[g3 j]
    simp only[Array.size_setIfInBounds,List.length_cons]
    by_cases hj:j=o
    · subst hj
      rw[if_neg (by omega)]
      by_cases hlt:j<A.size
      · rw[if_pos ⟨Nat.le_refl _,by omega,hlt⟩];simp[Array.getD_eq_getD_getElem?,hlt]
      · rw[if_neg (by omega)];simp[Array.getD_eq_getD_getElem?,hlt]
    · have hg:(A.setIfInBounds o v).getD j undef=A.getD j undef:=by
        simp only[Array.getD_eq_getD_getElem?,Array.getElem?_setIfInBounds_ne (Ne.symm hj)]
      rw[hg]
      by_cases hc:o+1≤j∧j<o+1+r.length∧j<A.size
      · rw[if_pos hc,if_pos ⟨by omega,by omega,hc.2.2⟩]
        rw[show j - o=(j - (o+1))+1 by omega,List.getD_cons_succ]
      · rw[if_neg hc,if_neg (by omega)]
theorem zg7{b:Nat}(h:Ext w0 w) (hB:w0.own b) (vs:List Value) (o:Nat):Ext w0 (w.setCells b o vs):=by
  induction vs generalizing o w with
  | nil=>exact h
  | cons v r ih=>exact ih (h.setCell (p:=⟨b,o,none⟩) hB v) (o+1)
theorem zhZ{b:Nat}(hb:¬F b) (vs:List Value) (o:Nat) (A:Array Value) (e:TypeId) (z:Nat×Nat) (h:w.heap[b]? = some (.cells A e z)):Stay F w (w.setCells b o vs):=by
  obtain⟨A',g1,g2,_⟩:=zdG b vs o w A e z h
  exact Stay.of_block b hb (by simp only[zbS,h,g1,g2];exact Nat.le_refl _) (Kind.cells' (.mk' h) (.mk' g1)) (fun c _ hc=>zdF b vs o w c hc)
theorem HeapSim.store (h:HeapSim w0 F0 D μ F H w) (i:Nat) (o0 o:AO) (b:Nat) (hi:H i=some o0) (hib:μ i=some b) (hkd:isCells w b) (at_:Nat) (vs:List Value) (hsz:o.sz=o0.sz) (hln:o.els.length=o0.els.length)
    (hcl:∀k (h:k<o.els.length),o.els[k].cells.length=o.sz)
    (hin:∀k (h:k<o.els.length) c (hc:c<o.els[k].cells.length),at_≤k * o.sz+c→k * o.sz+c<at_+vs.length→Rep D μ F w o.els[k].cells[c] (vs.getD (k * o.sz+c - at_) undef))
    (hout:∀k (h:k<o.els.length) c (hc:c<o.els[k].cells.length),¬ (at_≤k * o.sz+c∧k * o.sz+c<at_+vs.length)→∃(h2:k<o0.els.length) (h3:c<o0.els[k].cells.length),o.els[k].cells[c]=o0.els[k].cells[c]):
    HeapSim w0 F0 D μ F (upd H i (some o)) (w.setCells b at_ vs)∧Stay F w (w.setCells b at_ vs):=by
  obtain⟨A,e,h1,h2,h3,h4⟩:=h.cellsOk hi hib hkd
  obtain⟨hB,hF⟩:=h.own i o0 b hi hib
  obtain⟨A',g1,g2,g3⟩:=zdG b vs at_ w A e (0,0) h1
  have hst:=zhZ hF vs at_ A e (0,0) h1
  refine⟨h.set i o0 b hi hib o hst (zg7 h.ext hB vs at_) (by rw[zfe];exact Nat.le_refl _) ?_ (fun c _ hc=>zdF b vs at_ w c hc),hst⟩
  refine .inl ⟨A',e,g1,by rw[g2,hln,hsz];exact h2,hcl,fun k hk c hc=>?_⟩
  have hlt:k * o.sz+c<A.size:=Nat.lt_of_lt_of_le (zcy hk (by rw[←hcl k hk];exact hc)) (by rw[hln,hsz];exact h2)
  have stay:∀ {p v},Rep D μ F w p v→Rep D μ F (w.setCells b at_ vs) p v:=fun hr=>hr.stay hst (fun _ h=>⟨h,rfl⟩) (fun _ h=>h)
  rw[g3]
  by_cases hc2:at_≤k * o.sz+c∧k * o.sz+c<at_+vs.length
  · rw[if_pos ⟨hc2.1,hc2.2,hlt⟩]
    exact stay (hin k hk c hc hc2.1 hc2.2)
  · rw[if_neg (fun h=>hc2 ⟨h.1,h.2.1⟩)]
    obtain⟨q1,q2,q3⟩:=hout k hk c hc hc2
    rw[q3,hsz]
    exact stay (h4 k q1 c q2)
def flat (l:List PV):List PV:=l.flatMap PV.cells
theorem zeh (l:List PV) (sz:Nat) (h:∀k (h:k<l.length),l[k].cells.length=sz):(flat l).length=l.length * sz:=by
  induction l with
  | nil=>simp[flat]
  | cons a l ih=>
    have h0:=h 0 (by simp)
    simp only[List.getElem_cons_zero] at h0
    have:=ih (fun k hk=>by have:=h (k+1) (by simp;omega);simpa using this)
    simp only[flat,List.flatMap_cons,List.length_append] at this ⊢
    rw[this,h0,List.length_cons,Nat.add_mul];omega
theorem zmq (l:List PV) (sz:Nat) (h:∀k (h:k<l.length),l[k].cells.length=sz):∀k (hk:k<l.length) c (hc:c<l[k].cells.length),(flat l)[k * sz+c]? = some (l[k].cells[c]):=by
  induction l with
  | nil=>intro k hk;simp at hk
  | cons a l ih=>
    have h0:=h 0 (by simp)
    simp only[List.getElem_cons_zero] at h0
    have ih':=ih (fun k hk=>by have:=h (k+1) (by simp;omega);simpa using this)
    intro k hk c hc
    cases k with
    | zero=>
      simp only[List.getElem_cons_zero] at hc ⊢
      simp only[flat,List.flatMap_cons,Nat.zero_mul,Nat.zero_add]
      rw[List.getElem?_append_left hc,List.getElem?_eq_getElem hc]
    | succ k=>
      simp only[List.getElem_cons_succ] at hc ⊢
      have:=ih' k (by simpa using hk) c hc
      simp only[flat,List.flatMap_cons] at this ⊢
      rw[List.getElem?_append_right (by rw[h0,Nat.add_mul];omega),←this]
      congr 1
      rw[h0,Nat.add_mul];omega
theorem zhI (l:List PV) (sz:Nat) (h:∀k (h:k<l.length),l[k].cells.length=sz) {j:Nat}(hj:j<l.length * sz):
    ∃(k:Nat) (hk:k<l.length) (c:Nat) (_:c<l[k].cells.length),j=k * sz+c:=by
  have hs:0<sz:=by
    rcases Nat.eq_zero_or_pos sz with h0|h0
    · subst h0;simp at hj
    · exact h0
  have hk:j / sz<l.length:=(Nat.div_lt_iff_lt_mul hs).2 hj
  exact⟨j / sz,hk,j % sz,by rw[h _ hk];exact Nat.mod_lt _ hs,by rw[Nat.mul_comm];exact(Nat.div_add_mod j sz).symm⟩
end
def lk{α:Type}:List (Nat×α)→Nat→Option α
  | [],_=>none
  | (i,x) :: t,j=>if i=j then some x else lk t j
structure St where
  env:List (Nat×PV)
  hp:List (Nat×Option AO)
  nx:Nat
  gh:List PV:=[]
def St.get (S:St) (s:Nat):PV:=(lk S.env s).getD .junk
def St.obj (S:St) (i:Nat):Option AO:=(lk S.hp i).join
def St.ev (S:St):Operand→PV
  | .tmp t=>S.get t
  | .const v=>.atom v
  | .global _=>.junk
  | .func f=>.fn f []
structure Eff where
  add:List AO
  del:List Nat
  set:List (Nat×AO)
  rd:List Nat
def e0:Eff:=⟨[],[],[],[]⟩
def addH:Nat→List AO→List (Nat×Option AO)→List (Nat×Option AO)
  | _,[],h=>h
  | n,o :: r,h=>addH (n+1) r ((n,some o) :: h)
def Eff.hp (e:Eff) (n:Nat) (h:List (Nat×Option AO)):List (Nat×Option AO):=
  addH n e.add (e.set.map (fun p=>(p.1,some p.2))++(e.del.map (fun i=>(i,none))++h))
def St.fin (S:St) (dst:Option Tmp) (r:PV) (e:Eff):St:=
  ⟨match dst with|some d=>(d,r) :: S.env|none=>S.env,e.hp S.nx S.hp,S.nx+e.add.length,S.gh⟩
def Eff.app (e:Eff) (n:Nat) (H:Nat→Option AO):Nat→Option AO:=fun i=>
  if n≤i∧i<n+e.add.length then e.add[i - n]? else
  match lk e.set i with
  | some o=>some o
  | none=>if i∈e.del then none else H i
theorem zex{α:Type}(a b:List (Nat×α)) (i:Nat):lk (a++b) i=(lk a i).or (lk b i):=by
  induction a with
  | nil=>rfl
  | cons p a ih=>obtain⟨j,x⟩:=p;simp only[List.cons_append,lk];split<;>simp_all
theorem zqT (i:Nat):∀(l:List AO) (n:Nat) (h:List (Nat×Option AO)),lk (addH n l h) i=if n≤i∧i<n+l.length then some l[i - n]? else lk h i
  | [],n,h=>by simp only[addH,List.length_nil];rw[if_neg (by omega)]
  | o :: r,n,h=>by
    rw[addH,zqT i r (n+1)]
    by_cases h1:n+1≤i∧i<n+1+r.length
    · rw[if_pos h1,if_pos (by simp;omega),show i - n=(i - (n+1))+1 by omega];simp
    · rw[if_neg h1,lk]
      by_cases h2:n=i
      · subst h2;rw[if_pos rfl,if_pos (by simp)];simp
      · rw[if_neg h2,if_neg (by simp;omega)]
theorem lk_dels (l:List Nat) (i:Nat):lk (l.map (fun i=>(i,(none:Option AO)))) i=if i∈l then some none else none:=by
  induction l with
  | nil=>simp[lk]
  | cons a l ih=>
    simp only[List.map_cons,lk,ih,List.mem_cons]
    by_cases h:a=i
    · simp[h]
    · simp[h,Ne.symm h]
theorem lk_sets (l:List (Nat×AO)) (i:Nat):lk (l.map (fun p=>(p.1,some p.2))) i=(lk l i).map some:=by
  induction l with
  | nil=>rfl
  | cons p l ih=>obtain⟨j,x⟩:=p;simp only[List.map_cons,lk,ih];split<;>simp
theorem St.obj_fin (S:St) (dst:Option Tmp) (r:PV) (e:Eff):(S.fin dst r e).obj=e.app S.nx S.obj:=by
  funext i
  show(lk (e.hp S.nx S.hp) i).join=_
  unfold Eff.hp Eff.app St.obj
  rw[zqT,zex,zex,lk_sets,lk_dels]
  by_cases h:S.nx≤i∧i<S.nx+e.add.length
  · rw[if_pos h,if_pos h];simp
  · rw[if_neg h,if_neg h]
    cases lk e.set i with
    | some o=>simp
    | none=>by_cases h2:i∈e.del<;>simp[h2]
def Sound (P:Program) (op:Op) (S:St) (r:PV) (e:Eff):Prop:=
  ∀ (o:Oper) (a:Act) (w0:Home) (F0 D:Nat→Prop) (μ:Nat→Option Nat) (F:Nat→Prop) (H:Nat→Option AO) (w:World),o.op=op→HeapSim w0 F0 D μ F H w→
    (∀x,x∈op.operands.toList→Rep D μ F w (S.ev x) (a.eval x))→(∀i,i∈e.rd→H i=S.obj i)→(∀k,k<e.add.length→¬D (S.nx+k))→
    ∀ (next:Act→World→Prop) (Q:Exit→Act→World→Prop),
      (∀v w' (D':Nat→Prop) μ' F',Rep D' μ' F' w' r v→HeapSim w0 F0 D' μ' F' (e.app S.nx H) w'→Stay F w w'→(∀i,D i→D' i∧μ' i=μ i)→(∀b,F b→F' b)→
        (∀i,D' i→D i∨(S.nx≤i∧i<S.nx+e.add.length))→next (a.put o.dst v) w')→o.wp P a w next Q
def SoundI (P:Program) (op:Op) (S:St) (r:PV) (e:Eff):Prop:=
  ∀ (o:Oper) (a:Act) (w0:Home) (F0 D:Nat→Prop) (μ:Nat→Option Nat) (F:Nat→Prop) (w:World),o.op=op→HeapSim w0 F0 D μ F S.obj w→
    (∀x,x∈op.operands.toList→Rep D μ F w (S.ev x) (a.eval x))→(∀i,D i→i<S.nx)→
    ∀ (next:Act→World→Prop) (Q:Exit→Act→World→Prop),
      (∀v w' (D':Nat→Prop) μ' F',Rep D' μ' F' w' r v→HeapSim w0 F0 D' μ' F' (e.app S.nx S.obj) w'→Stay F w w'→(∀i,D i→D' i∧μ' i=μ i)→(∀b,F b→F' b)→
        (∀i,D' i→D i∨(S.nx≤i∧i<S.nx+e.add.length))→next (a.put o.dst v) w')→o.wp P a w next Q
def SoundR (P:Program) (op:Op) (S:St) (R:PV→Eff→Prop):Prop:=
  ∀ (o:Oper) (a:Act) (w0:Home) (F0 D:Nat→Prop) (μ:Nat→Option Nat) (F:Nat→Prop) (w:World),o.op=op→HeapSim w0 F0 D μ F S.obj w→
    (∀x,x∈op.operands.toList→Rep D μ F w (S.ev x) (a.eval x))→(∀i,D i→i<S.nx)→
    ∀ (next:Act→World→Prop) (Q:Exit→Act→World→Prop),
      (∀r e v w' (D':Nat→Prop) μ' F',R r e→Rep D' μ' F' w' r v→HeapSim w0 F0 D' μ' F' (e.app S.nx S.obj) w'→Stay F w w'→(∀i,D i→D' i∧μ' i=μ i)→(∀b,F b→F' b)→
        (∀i,D' i→D i∨(S.nx≤i∧i<S.nx+e.add.length))→next (a.put o.dst v) w')→o.wp P a w next Q
theorem SoundI.toR{P:Program}{op:Op}{S:St}{r:PV}{e:Eff}(h:SoundI P op S r e):SoundR P op S (fun r' e'=>r'=r∧e'=e):=fun o a w0 F0 D μ F w ho hH hx hD next Q hn=>
  h o a w0 F0 D μ F w ho hH hx hD next Q fun v w' D' μ' F' h1 h2 h3 h4 h5 h6=>hn r e v w' D' μ' F' ⟨rfl,rfl⟩ h1 h2 h3 h4 h5 h6
theorem Sound.toI{P:Program}{op:Op}{S:St}{r:PV}{e:Eff}(h:Sound P op S r e):SoundI P op S r e:=fun o a w0 F0 D μ F w ho hH hx hD next Q hn=>
  h o a w0 F0 D μ F S.obj w ho hH hx (fun _ _=>rfl) (fun k _ hk=>by have:=hD _ hk;omega) next Q hn
theorem Eff.app_e0 (n:Nat) (H:Nat→Option AO) (rd:List Nat):(⟨[],[],[],rd⟩:Eff).app n H=H:=by
  funext i;unfold Eff.app;simp[lk]
  intro h1 h2;omega
theorem Sound.quiet{P:Program}{op:Op}{S:St}{r:PV}{rd:List Nat}
    (h:∀(o:Oper) (a:Act) (w0:Home) (F0 D:Nat→Prop) (μ:Nat→Option Nat) (F:Nat→Prop) (H:Nat→Option AO) (w:World),o.op=op→HeapSim w0 F0 D μ F H w→
      (∀x,x∈op.operands.toList→Rep D μ F w (S.ev x) (a.eval x))→(∀i,i∈rd→H i=S.obj i)→∃v,(execOp a.eval o).run P w=.ok (.value v) w∧Rep D μ F w r v):Sound P op S r ⟨[],[],[],rd⟩:=by
  intro o a w0 F0 D μ F H w ho hH hx hr _ next Q hn
  obtain⟨v,h1,h2⟩:=h o a w0 F0 D μ F H w ho hH hx hr
  unfold Oper.wp
  rw[h1]
  exact hn v w D μ F h2 (by rw[Eff.app_e0];exact hH) (Stay.refl _ _) (fun _ h=>⟨h,rfl⟩) (fun _ h=>h) (fun _ h=>.inl h)
theorem Eff.app_add (n:Nat) (o:AO) (H:Nat→Option AO) (rd:List Nat):(⟨[o],[],[],rd⟩:Eff).app n H=upd H n (some o):=by
  funext i;unfold Eff.app upd;simp only[lk,List.length_singleton]
  by_cases h:i=n
  · subst h;simp
  · rw[if_neg (by omega),if_neg h];simp
theorem Sound.makes{P:Program}{op:Op}{S:St}{r:PV}{rd:List Nat}{ob:AO}
    (h:∀(o:Oper) (a:Act) (w0:Home) (F0 D:Nat→Prop) (μ:Nat→Option Nat) (F:Nat→Prop) (H:Nat→Option AO) (w:World),o.op=op→HeapSim w0 F0 D μ F H w→
      (∀x,x∈op.operands.toList→Rep D μ F w (S.ev x) (a.eval x))→(∀i,i∈rd→H i=S.obj i)→¬D S.nx→
      ∃v w' m,(execOp a.eval o).run P w=.ok (.value v) w'∧Rep (also D S.nx) (upd μ S.nx m) F w' r v∧HeapSim w0 F0 (also D S.nx) (upd μ S.nx m) F (upd H S.nx (some ob)) w'∧Stay F w w'):Sound P op S r ⟨[ob],[],[],rd⟩:=by
  intro o a w0 F0 D μ F H w ho hH hx hr hD next Q hn
  have hD0:¬D S.nx:=by simpa using hD 0 (by simp)
  obtain⟨v,w',m,h1,h2,h3,h4⟩:=h o a w0 F0 D μ F H w ho hH hx hr hD0
  unfold Oper.wp
  rw[h1]
  exact hn v w' _ _ F h2 (by rw[Eff.app_add];exact h3) h4 (zeM m hD0) (fun _ h=>h) (fun i hi=>hi.elim .inl (fun e=>.inr (by subst e;simp)))
section
variable {P:Program}
def tAgg (P:Program) (t:TypeId):Option Bool:=(P.underlying t).map fun | .struct _ | .array _ _=>true|_=>false
def zaP (P:Program) (t:TypeId):Option Nat:=(P.info? t).map (·.size)
def zaV (P:Program) (t:TypeId):Option Nat:=(P.info? t).map (·.bytes)
def zaN (P:Program) (t:TypeId):Option TypeId:=match P.underlying t with|some (.slice e)=>some e|_=>none
def tArr (P:Program) (t:TypeId):Option (Nat×TypeId):=match P.underlying t with|some (.array n e)=>some (n,e)|_=>none
def tFld (P:Program) (t:TypeId) (f:Nat):Option (Nat×TypeId):=match P.underlying t with|some (.struct fs)=>(fs[f]?).map fun x=>(x.offset,x.type)|_=>none
def tStr (P:Program) (t:TypeId):Bool:=match P.underlying t with|some .string=>true|_=>false
def tInt (P:Program) (t:TypeId):Option IntKind:=match P.underlying t with|some (.int k)=>some k|_=>none
def pvOf:Value→PV
  | .agg cs=>.agg (cs.toList.map .atom)
  | v=>.atom v
def zgn (P:Program) (t:TypeId) (z:PV):Prop:=∃i v,P.info? t=some i∧i.zero=some v∧pvOf v=z∧v.cells.size=i.size∧v.cells.all (·.oneCell')=true
theorem zdc (v:Value) (h:v.cells.all (·.oneCell')=true):(pvOf v).cells=v.cells.toList.map .atom:=by
  cases v<;>first|rfl|simp[pvOf,PV.cells,Value.cells]
theorem pvOf_rep{D:Nat→Prop}{μ:Nat→Option Nat}{F:Nat→Prop}{w:World}(v:Value):Rep D μ F w (pvOf v) v:=by
  cases v<;>first|exact .atom _|skip
  rename_i cs
  refine .agg _ _ (by simp) fun i hi=>?_
  have hi':i<cs.size:=by simpa using hi
  have e:cs.getD i undef=cs[i]:=by simp[hi']
  rw[e]
  simp only[List.getElem_map,Array.getElem_toList]
  exact .atom _
theorem zaS{D:Nat→Prop}{μ:Nat→Option Nat}{F:Nat→Prop}{w:World}{p:PV}{u v:Value}(h:Rep D μ F w p u) (hp:p=.atom v):u=v:=by
  subst hp;cases h;rfl
theorem Sound.move{x:Operand}{S:St}:Sound P (.move x) S (S.ev x) e0:=Sound.quiet fun o a _ _ _ _ _ _ w ho _ hx _=>⟨_,by unfold execOp;simp only[ho];rfl,hx x (by simp[Op.operands])⟩
theorem Sound.assign{x:Operand}{S:St}:Sound P (.assign x) S (S.ev x) e0:=Sound.quiet fun o a _ _ _ _ _ _ w ho _ hx _=>⟨_,by unfold execOp;simp only[ho];rfl,hx x (by simp[Op.operands])⟩
theorem Sound.pick{c x y:Operand}{S:St}{t:Bool}(h:S.ev c=.atom (.bool t)):Sound P (.pick c x y) S (bif t then S.ev x else S.ev y) e0:=Sound.quiet fun o a _ _ _ _ _ _ w ho _ hx _=>by
  have hc:=zaS (hx c (by simp[Op.operands])) h
  refine⟨if t then a.eval x else a.eval y,by unfold execOp;simp only[ho,hc];cases t<;>simp[asBool],?_⟩
  cases t
  · exact hx y (by simp[Op.operands])
  · exact hx x (by simp[Op.operands])
theorem zb6{t:TypeId}{n:Nat}(h:zaP P t=some n) (w:World):(sizeOf t).run P w=.ok n w:=by
  unfold zaP at h
  cases hi:P.info? t with
  | none=>simp[hi] at h
  | some i=>simp[hi] at h;simp[sizeOf,typeInfo,hi,h]
theorem zlM{t:TypeId}{b:Bool}(h:tAgg P t=some b) (w:World):(isAgg t).run P w=.ok b w:=by
  unfold tAgg at h
  cases hu:P.underlying t with
  | none=>simp[hu] at h
  | some d=>simp[hu] at h;cases d<;>simp at h<;>simp[isAgg,run_underlying hu,h]
theorem zb1{t e:TypeId}(h:zaN P t=some e):P.underlying t=some (.slice e):=by
  unfold zaN at h;split at h<;>first|(rename_i hu;simp at h;rw[hu,h])|cases h
theorem zkk{t e:TypeId}{n:Nat}(h:tArr P t=some (n,e)):P.underlying t=some (.array n e):=by
  unfold tArr at h;split at h<;>first|(rename_i hu;simp at h;rw[hu,h.1,h.2])|cases h
theorem zen{t:TypeId}(h:tStr P t=true):P.underlying t=some .string:=by
  unfold tStr at h;split at h<;>first|assumption|cases h
theorem zkj{t:TypeId}{k:IntKind}(h:tInt P t=some k):P.underlying t=some (.int k):=by
  unfold tInt at h;split at h<;>first|(rename_i hu;simp at h;rw[hu,h])|cases h
theorem Sound.box{t:TypeId}{x:Operand}{S:St}{sz:Nat}(hs:(S.ev x).cells.length=sz) (h1:(S.ev x).cells.all PV.one=true):Sound P (.box t x) S (.ptr S.nx sz 0 0) ⟨[⟨sz,[S.ev x]⟩],[],[],[]⟩:=
  Sound.makes fun o a w0 F0 D μ F H w ho hH hx _ hD=>by
    obtain⟨c1,c2,c3⟩:=(hx x (by simp[Op.operands])).cells h1
    have hS:=hH.alloc S.nx hD (a.eval x).cells t ⟨sz,[S.ev x]⟩ (by simp[c1,hs]) (fun k hk=>by
      have:k=0:=by simp at hk;omega
      subst this;exact hs) (fun k hk c hc=>by
      have:k=0:=by simp at hk;omega
      subst this;simpa using c2 c hc)
    refine⟨.pointer (some ⟨w.heap.size,0,none⟩),_,some w.heap.size,?_,?_,hS,Stay.below ((Below.refl _ _).alloc (Nat.le_refl _) _)⟩
    · unfold execOp;simp[ho,Instr.box,newVar,newRow]
    · have:=Rep.ptr (D:=also D S.nx) (μ:=upd μ S.nx (some w.heap.size)) (F:=F) (w:=w.alloc (.cells (a.eval x).cells t)) S.nx sz 0 0 w.heap.size (.inr rfl) (zbg _ _ _) (isCells.new _ _ _)
      simpa using this
theorem Sound.alloc{t:TypeId}{S:St}{z:PV}(hz:zgn P t z):Sound P (.alloc t) S (.ptr S.nx z.cells.length 0 0) ⟨[⟨z.cells.length,[z]⟩],[],[],[]⟩:=
  Sound.makes fun o a w0 F0 D μ F H w ho hH hx _ hD=>by
    obtain⟨i,v,hi,hv,rfl,hsz,h1⟩:=hz
    have hc:=zdc v h1
    have hS:=hH.alloc S.nx hD v.cells t ⟨(pvOf v).cells.length,[pvOf v]⟩ (by simp[hc]) (fun k hk=>by
      have:k=0:=by simp at hk;omega
      subst this;rfl) (fun k hk c hcc=>by
      have:k=0:=by simp at hk;omega
      subst this
      simp only[List.getElem_cons_zero,hc,Nat.zero_mul,Nat.zero_add] at hcc ⊢
      have hlt:c<v.cells.size:=by simpa using hcc
      have e:v.cells.getD c undef=v.cells[c]:=by simp[hlt]
      rw[e,List.getElem_map,Array.getElem_toList]
      exact .atom _)
    refine⟨.pointer (some ⟨w.heap.size,0,none⟩),_,some w.heap.size,?_,?_,hS,Stay.below ((Below.refl _ _).alloc (Nat.le_refl _) _)⟩
    · unfold execOp;simp[ho,Instr.alloc,zeroValue,typeInfo,hi,hv,newVar,newRow]
    · have:=Rep.ptr (D:=also D S.nx) (μ:=upd μ S.nx (some w.heap.size)) (F:=F) (w:=w.alloc (.cells v.cells t)) S.nx (pvOf v).cells.length 0 0 w.heap.size (.inr rfl) (zbg _ _ _) (isCells.new _ _ _)
      simpa using this
def PV.part (v:PV) (ag:Bool) (c n:Nat):PV:=bif ag then (if c=0∧n=v.cells.length then .agg v.cells else .agg ((v.cells.drop c).take n)) else v.cells.getD c .junk
theorem zcU{D:Nat→Prop}{μ:Nat→Option Nat}{F:Nat→Prop}{w:World}{t:TypeId}{ag:Bool}{n c:Nat}{p:PV}{ad:Addr}(ha:tAgg P t=some ag) (hn:zaP P t=some n)
    (hin:bif ag then c+n≤p.cells.length else c<p.cells.length) (hspot:ad.spot=none)
    (h:∀j (hj:j<p.cells.length),c≤j→∃v,w.cell? ⟨ad.block,ad.off+(j - c),none⟩=some v∧Rep D μ F w p.cells[j] v):
    ∃v,(loadVar t ad).run P w=.ok v w∧Rep D μ F w (p.part ag c n) v:=by
  have hadd:∀j,ad.add j=⟨ad.block,ad.off+j,none⟩:=fun j=>by
    obtain⟨b,off,sp⟩:=ad
    simp at hspot;subst hspot
    unfold Addr.add;split<;>simp_all
  unfold loadVar
  simp only[Sem.run_bind,zlM ha,Result.andThen_ok]
  cases ag
  · have hin':c<p.cells.length:=hin
    obtain⟨v,hv,hr⟩:=h c hin' (Nat.le_refl _)
    have hv':w.cell? ad=some v:=by
      obtain⟨b,off,sp⟩:=ad
      simp at hspot;subst hspot
      simpa using hv
    refine⟨v,by simp[hv'],?_⟩
    unfold PV.part
    simp only[cond_false]
    rw[ze9 _ _ hin']
    exact hr
  · have hin':c+n≤p.cells.length:=hin
    let f:Nat→Value:=fun j=>((w.cell? ⟨ad.block,ad.off+j,none⟩).getD undef)
    have hl:=run_loadCells (P:=P) w ad n f (fun j hj=>by
      obtain⟨v,hv,_⟩:=h (c+j) (by omega) (by omega)
      rw[show c+j - c=j by omega] at hv
      rw[hadd];simp only[f,hv];rfl)
    refine⟨.agg ((List.range n).map f).toArray,by simp[zb6 hn,hl],?_⟩
    have key:Rep D μ F w (.agg ((p.cells.drop c).take n)) (.agg ((List.range n).map f).toArray):=by
      refine .agg _ _ (by simp;omega) fun j hj=>?_
      have hj':j<n:=by simp at hj;omega
      obtain⟨v,hv,hr⟩:=h (c+j) (by omega) (by omega)
      rw[show c+j - c=j by omega] at hv
      simp only[List.getElem_take,List.getElem_drop]
      have e:((List.range n).map f).toArray.getD j undef=v:=by simp[hj',f,hv]
      rw[e];exact hr
    unfold PV.part
    simp only[cond_true]
    split
    · rename_i hc
      obtain⟨rfl,rfl⟩:=hc
      simpa using key
    · exact key
theorem Sound.load{t:TypeId}{x:Operand}{S:St}{i sz k c:Nat}{o:AO}{ag:Bool}{n:Nat}(hx:S.ev x=.ptr i sz k c) (ho:S.obj i=some o) (hsz:o.sz=sz) (hk:k<o.els.length) (ha:tAgg P t=some ag) (hn:zaP P t=some n)
    (hin:bif ag then c+n≤(o.els.getD k .junk).cells.length else c<(o.els.getD k .junk).cells.length):Sound P (.load t x) S ((o.els.getD k .junk).part ag c n) ⟨[],[],[],[i]⟩:=
  Sound.quiet fun op a w0 F0 D μ F H w hop hH hxs hr=>by
    have hp:=hxs x (by simp[Op.operands])
    rw[hx] at hp
    have hi:H i=some o:=(hr i (by simp)).trans ho
    generalize he:a.eval x=u at hp
    cases hp with
    | ptr _ _ _ _ b hD hb hkd=>
      have hok:=hH.cellsOk hi hb hkd
      rw[ze9 _ _ hk] at hin ⊢
      obtain⟨v,h1,h2⟩:=zcU (D:=D) (μ:=μ) (F:=F) (w:=w) (ad:=⟨b,k * sz+c,none⟩) ha hn hin rfl (fun j hj hcj=>by
        obtain⟨v,g1,_,g3⟩:=hok.cell hk hj
        refine⟨v,?_,g3⟩
        rw[←hsz]
        rw[show k * o.sz+c+(j - c)=k * o.sz+j by omega];exact g1)
      exact⟨v,by unfold execOp;simp[hop,he,Instr.loadAt,Instr.sureAddr,h1],h2⟩
theorem Sound.loadF{t:TypeId}{x:Operand}{S:St}{sz k c:Nat}{l:List PV}{ag:Bool}{n:Nat}(hx:S.ev x=.fptr sz l k c) (hk:k<l.length) (ha:tAgg P t=some ag) (hn:zaP P t=some n)
    (hin:bif ag then c+n≤(l.getD k .junk).cells.length else c<(l.getD k .junk).cells.length):Sound P (.load t x) S ((l.getD k .junk).part ag c n) e0:=
  Sound.quiet fun op a w0 F0 D μ F H w hop hH hxs hr=>by
    have hp:=hxs x (by simp[Op.operands])
    rw[hx] at hp
    generalize he:a.eval x=u at hp
    cases hp with
    | fptr _ _ _ _ b off g hF hg hcl hrep=>
      rw[ze9 _ _ hk] at hin ⊢
      obtain⟨v,h1,h2⟩:=zcU (D:=D) (μ:=μ) (F:=F) (w:=w) (ad:=⟨b,off+(k * sz+c),none⟩) ha hn hin rfl (fun j hj hcj=>by
        refine⟨g (k * sz+j),?_,hrep k hk j hj⟩
        have:=hg (k * sz+j) (zcy hk (by rw[←hcl k hk];exact hj))
        rw[show off+(k * sz+c)+(j - c)=off+(k * sz+j) by omega];exact this)
      exact⟨v,by unfold execOp;simp[hop,he,Instr.loadAt,Instr.sureAddr,h1],h2⟩
end
end Go.Proofs.Ytehoglapajkabaa
