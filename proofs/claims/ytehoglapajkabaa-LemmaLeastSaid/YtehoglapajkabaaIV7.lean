/-
  The clean machine: appends.
-/
import Derived.Test.YtehoglapajkabaaIV5
import Derived.Laws.CopyOwn
import Derived.ChangeKeysEq
import Derived.Laws.StructEq
set_option linter.all false
namespace Go.Proofs.Ytehoglapajkabaa
open Go Go.RowKit
inductive Src (S:St):PV→Nat→List PV→List Nat→Prop where
  | sl {sz:Nat} {l:List PV}:Src S (.sl sz l) sz l []
  | ob {i sz off len:Nat} {o:AO}:S.obj i=some o→o.sz=sz→off+len≤o.els.length→Src S (.ob i sz off len) sz ((o.els.drop off).take len) [i]
  | nil {sz:Nat}:Src S (.atom (.slice none 0 0)) sz [] []
inductive Base (S:St):PV→Nat→List PV→List Nat→Prop where
  | nil {sz:Nat}:Base S (.atom (.slice none 0 0)) sz [] []
  | ob {i sz len:Nat} {o:AO}:S.obj i=some o→o.sz=sz→len≤o.els.length→Base S (.ob i sz 0 len) sz (o.els.take len) [i]
section
variable {P:Program} {w0:Home} {F0 D:Nat→Prop} {μ:Nat→Option Nat} {F:Nat→Prop} {H:Nat→Option AO} {w w':World} {S:St}
theorem zlL{q:PV}{sz:Nat}{els:List PV}{rd:List Nat}{v:Value}(h:Src S q sz els rd) (hp:Rep D μ F w q v) (hH:HeapSim w0 F0 D μ F H w) (hr:∀i,i∈rd→H i=S.obj i):
    ∃ (ad:Option Addr) (cap:Nat) (cs:List Value),v=.slice ad els.length cap∧els.length≤cap∧cs.length=els.length * sz∧(ad=none→els=[])∧(∀x,ad=some x→∀(j:Nat) u,cs[j]? = some u→w.cell? (x.add j)=some u)∧
      (∀k (hk:k<els.length) c (hc:c<els[k].cells.length),Rep D μ F w (els[k].cells[c]) (cs.getD (k * sz+c) undef))∧(∀k (hk:k<els.length),els[k].cells.length=sz):=by
  cases h with
  | nil=>cases hp;exact⟨none,0,[],rfl,by simp,by simp,fun _=>rfl,fun x hx=>(by cases hx),fun k hk=>by simp at hk,fun k hk=>by simp at hk⟩
  | sl=>
    cases hp with
    | sl0 _ ad cap h1 h2 h3=>exact⟨ad,cap,[],rfl,by simp,by simp,fun _=>rfl,fun x _ j u hj=>by simp at hj,fun k hk=>by simp at hk,fun k hk=>by simp at hk⟩
    | sl _ _ b off cap g hF g1 g2 g3 g4 g5=>
      refine⟨some ⟨b,off,none⟩,cap,(List.range (els.length * sz)).map g,rfl,g1,by simp,fun h=>(by cases h),fun x hx j u hj=>?_,fun k hk c hc=>?_,g4⟩
      · cases hx
        simp only[List.getElem?_map] at hj
        rw[Addr.add_lit]
        by_cases hlt:j<els.length * sz
        · simp[hlt] at hj;rw[←hj];exact g3 j hlt
        · simp[hlt] at hj
      · have hlt:k * sz+c<els.length * sz:=zcy hk (by rw[←g4 k hk];exact hc)
        have e:((List.range (els.length * sz)).map g).getD (k * sz+c) undef=g (k * sz+c):=by simp[List.getD_eq_getElem?_getD,hlt]
        rw[e];exact g5 k hk c hc
  | @ob i _ off len o ho hsz hle=>
    have hi:H i=some o:=(hr i (by simp)).trans ho
    cases hp with
    | obn _ _ hD hb=>
      have hst:=(hH.objs i o hi).2
      rw[hb] at hst
      have hst':o.els=[]:=hst
      rw[hst']
      exact⟨none,0,[],rfl,by simp,by simp,fun _=>by simp,fun x hx=>(by cases hx),fun k hk=>by simp at hk,fun k hk=>by simp at hk⟩
    | ob _ _ _ _ cap b hD hb hkd g1 g2 g3=>
      obtain⟨A,e,a1,a2,a3,a4⟩:=hH.cellsOk hi hb hkd
      rw[hsz] at a2 a3
      have hlen:((o.els.drop off).take len).length=len:=by simp;omega
      have hmul:(off+len) * sz≤A.size:=Nat.le_trans (Nat.mul_le_mul_right _ hle) a2
      rw[Nat.add_mul] at hmul
      have hgk:∀k (hk:k<((o.els.drop off).take len).length),((o.els.drop off).take len)[k]=o.els[off+k]'(by simp at hk;omega):=fun k hk=>by simp
      refine⟨some ⟨b,off * sz,none⟩,cap,(A.toList.drop (off * sz)).take (len * sz),by rw[hlen],by rw[hlen];exact g1,by rw[hlen];simp;omega,fun h=>(by cases h),fun x hx j u hj=>?_,fun k hk c hc=>?_,fun k hk=>by rw[hgk k hk];exact a3 _ _⟩
      · cases hx
        rw[Addr.add_lit]
        have hjl:j<len * sz:=by have:=(List.getElem?_eq_some_iff.1 hj).1;simp at this;omega
        simp only[List.getElem?_take,hjl,if_true,List.getElem?_drop,Array.getElem?_toList] at hj
        simp only[World.cell?,a1];exact hj
      · have hk':k<len:=by rw[hlen] at hk;exact hk
        have hc':c<sz:=by rw[hgk k hk,a3] at hc;exact hc
        have hlt:=zcy hk' hc'
        have e1:((A.toList.drop (off * sz)).take (len * sz)).getD (k * sz+c) undef=A.getD ((off+k) * sz+c) undef:=by
          simp only[List.getD_eq_getElem?_getD,List.getElem?_take,hlt,if_true,List.getElem?_drop,Array.getElem?_toList,Array.getD_eq_getD_getElem?]
          congr 2;rw[Nat.add_mul];omega
        rw[e1]
        have:=a4 (off+k) (by omega) c (by rw[hgk k hk] at hc;exact hc)
        rw[hsz] at this
        have e2:((o.els.drop off).take len)[k].cells[c]=(o.els[off+k]'(by omega)).cells[c]'(by rw[hgk k hk] at hc;exact hc):=by congr 1;rw[hgk k hk]
        rw[e2];exact this
theorem cs_one{els:List PV}{sz:Nat}{cs:List Value}(hl:cs.length=els.length * sz) (hr:∀k (hk:k<els.length) c (hc:c<els[k].cells.length),Rep D μ F w (els[k].cells[c]) (cs.getD (k * sz+c) undef))
    (hc:∀k (hk:k<els.length),els[k].cells.length=sz) (h1:∀q,q∈els→q.cells.all PV.one=true):∀u,u∈cs→u.oneCell'=true:=by
  intro u hu
  obtain⟨j,hj,rfl⟩:=List.mem_iff_getElem.1 hu
  obtain⟨k,hk,c,hc',he⟩:=zhI els sz hc (by rw[←hl];exact hj)
  have:=hr k hk c hc'
  have e:cs.getD (k * sz+c) undef=cs[j]:=by subst he;simp[List.getD_eq_getElem?_getD,hj]
  rw[e] at this
  exact this.one (List.all_eq_true.1 (h1 _ (List.getElem_mem hk)) _ (List.getElem_mem hc'))
theorem Ext.setRow{B:Home}{w:World}{g:Nat}(h:Ext B w) (hg:B.own g) (cs:Array Value) (hs:∀b,zbS w b≤zbS (w.setRow g cs) b) (hk:∀b,Kind w (w.setRow g cs) b):Ext B (w.setRow g cs):=by
  refine⟨h.os,h.tape,h.output,by simpa[World.setRow] using h.size,fun k hk hM=>?_,fun b=>(h.kind b).trans (hk b),fun b=>Nat.le_trans (h.sizes b) (hs b),h.drawn⟩
  rw[setRow_other w g k cs (by rintro rfl;exact hg.elim (fun h=>by omega) hM)]
  exact h.block k hk hM
theorem HeapSim.renew (h:HeapSim w0 F0 D μ F H w) (i:Nat) (o0:AO) (b:Nat) (hi:H i=some o0) (hib:μ i=some b) (n:Nat) (hn:¬D n) (o:AO) (hs:Stay F w w') (hB:Ext w0 w') (hsz:w.heap.size≤w'.heap.size)
    (hok:ObjOk D μ F w' b o) (hoth:∀c,c<w.heap.size→c≠b→w'.heap[c]? = w.heap[c]?):HeapSim w0 F0 (also D n) (upd μ n (some b)) F (upd (upd H i none) n (some o)) w':=by
  have hni:n≠i:=fun e=>hn (e▸(h.objs i o0 hi).1)
  refine(h.drop (H':=upd H i none) (fun j o' hj=>?_)).add n hn o (some b) hs hB hsz hok (fun c hc=>?_) (fun j o' c hj hjc=>?_)
  · by_cases hji:j=i
    · subst hji;rw[zbg] at hj;cases hj
    · rw[zby _ _ hji] at hj;exact hj
  · cases hc
    refine⟨(h.own i o0 b hi hib).1,(h.own i o0 b hi hib).2,fun j o' hj hjb=>?_⟩
    by_cases hji:j=i
    · subst hji;rw[zbg] at hj;cases hj
    · rw[zby _ _ hji] at hj;exact hji (h.inj j i o' o0 b hj hi hjb hib)
  · by_cases hji:j=i
    · subst hji;rw[zbg] at hj;cases hj
    · rw[zby _ _ hji] at hj
      exact hoth c (h.ok hj hjc).lt (fun e=>hji (h.inj j i o' o0 c hj hi hjc (e▸hib)))
theorem Eff.app_renew (n i:Nat) (o:AO) (H:Nat→Option AO) (rd:List Nat):(⟨[o],[i],[],rd⟩:Eff).app n H=upd (upd H i none) n (some o):=by
  funext j;unfold Eff.app upd;simp only[lk,List.length_singleton,List.mem_singleton]
  by_cases h:j=n
  · subst h;simp
  · rw[if_neg (by omega),if_neg h]
theorem zgx{els1 els2:List PV}{sz:Nat}{A:Array Value}{l1 l2 l3:List Value}(hA:A=(l1++l2++l3).toArray) (h1:l1.length=els1.length * sz) (h2:l2.length=els2.length * sz)
    (r1:∀k (hk:k<els1.length) c (hc:c<els1[k].cells.length),Rep D μ F w (els1[k].cells[c]) (l1.getD (k * sz+c) undef)) (c1:∀k (hk:k<els1.length),els1[k].cells.length=sz)
    (r2:∀k (hk:k<els2.length) c (hc:c<els2[k].cells.length),Rep D μ F w (els2[k].cells[c]) (l2.getD (k * sz+c) undef)) (c2:∀k (hk:k<els2.length),els2[k].cells.length=sz):
    (els1++els2).length * sz≤A.size∧(∀k (hk:k<(els1++els2).length),(els1++els2)[k].cells.length=sz)∧
      ∀k (hk:k<(els1++els2).length) c (hc:c<(els1++els2)[k].cells.length),Rep D μ F w ((els1++els2)[k].cells[c]) (A.getD (k * sz+c) undef):=by
  subst hA
  have hcl:∀k (hk:k<(els1++els2).length),(els1++els2)[k].cells.length=sz:=fun k hk=>by
    rw[List.getElem_append];split
    · exact c1 _ _
    · exact c2 _ _
  refine⟨by simp[h1,h2,Nat.add_mul],hcl,fun k hk c hc=>?_⟩
  have hcs:c<sz:=by rw[←hcl k hk];exact hc
  simp only[Array.getD_eq_getD_getElem?,List.getElem?_toArray]
  by_cases hk1:k<els1.length
  · have hlt:k * sz+c<l1.length:=by rw[h1];exact zcy hk1 hcs
    rw[List.append_assoc,List.getElem?_append_left hlt]
    have e:(els1++els2)[k]=els1[k]:=List.getElem_append_left hk1
    have:=r1 k hk1 c (by rw[←e];exact hc)
    simp only[List.getD_eq_getElem?_getD] at this
    simpa[e] using this
  · have hk2:k - els1.length<els2.length:=by simp at hk;omega
    have hge:l1.length≤k * sz+c:=by
      have:els1.length * sz≤k * sz:=Nat.mul_le_mul_right _ (by omega)
      omega
    have hlt:(k - els1.length) * sz+c<l2.length:=by rw[h2];exact zcy hk2 hcs
    have hidx:k * sz+c - l1.length=(k - els1.length) * sz+c:=by
      have:els1.length * sz≤k * sz:=Nat.mul_le_mul_right _ (by omega)
      rw[h1,Nat.sub_mul];omega
    rw[List.append_assoc,List.getElem?_append_right hge,hidx,List.getElem?_append_left hlt]
    have e:(els1++els2)[k]=els2[k - els1.length]:=List.getElem_append_right (by omega)
    have:=r2 (k - els1.length) hk2 c (by rw[←e];exact hc)
    simp only[List.getD_eq_getElem?_getD] at this
    simpa[e] using this
theorem zep{t ty e:TypeId}{i:TypeInfo}(ht:P.underlying t=some (.slice e)) (hi:P.info? e=some i) (w:World) (ad ad':Option Addr) (n c c':Nat) (h:n≤c):
    (Builtin.append_ #[t,t] ty #[.slice ad n c,.slice ad' 0 c']).run P w=.ok (.slice ad n c) w:=by
  have hf:(Builtin.firstCells i.size 0 (.slice ad' 0 c')).run P w=.ok #[] w:=by cases ad'<;>simp[Builtin.firstCells,loadCells,loadCellsFrom]
  cases ad<;>simp[Builtin.append_,run_underlying ht,sizeOf,typeInfo,hi,Builtin.lenOf,h,hf,storeCells]
set_option maxHeartbeats 1000000 in
theorem Sound.append{t e:TypeId}{x y:Operand}{sz by_:Nat}{z:PV}{olds els:List PV}{del rd:List Nat}(hx:Base S (S.ev x) sz olds del) (hy:Src S (S.ev y) sz els rd) (he:zaN P t=some e) (hz:zgn P e z) (hzl:z.cells.length=sz)
    (hby:zaV P e=some by_) (hb0:0<by_) (hone:∀q,q∈els→q.cells.all PV.one=true) (hbig:(olds.length+els.length) * by_≤140737488355328):
    Sound P (.call ⟨.builtin .append,#[x,y],#[t,t]⟩) S (.ob S.nx sz 0 (olds.length+els.length)) ⟨[⟨sz,olds++els⟩],del,[],del++rd⟩:=by
  intro o a w0 F0 D μ F H w ho hH hxs hr hD next Q hn
  have hD0:¬D S.nx:=by simpa using hD 0 (by simp)
  have hp:=hxs x (by simp[Op.operands,Call.operands])
  have hq:=hxs y (by simp[Op.operands,Call.operands])
  obtain⟨ti,v,hti,htz,hzv,hzs,hz1⟩:=hz
  have hzs':v.cells.size=sz:=by rw[←hzl,←hzv,zdc v hz1];simp
  have hsi:ti.size=sz:=hzs.symm.trans hzs'
  have hbi:ti.bytes=by_:=by simpa[zaV,hti] using hby
  have ht:=zb1 he
  obtain⟨ad,cap,cs,hv,hcap,hcl,hnone,hcell,hcr,hcz⟩:=zlL hy hq hH (fun i hi=>hr i (List.mem_append_right _ hi))
  have hcs1:=cs_one hcl hcr hcz hone
  have hbig':olds.length+els.length≤140737488355328:=Nat.le_trans (Nat.le_mul_of_pos_right _ hb0) hbig
  generalize hevx:a.eval x=u at hp
  have run:∀v' w',(Builtin.append_ #[t,t] o.type #[u,.slice ad els.length cap]).run P w=.ok v' w'→(execOp a.eval o).run P w=.ok (.value v') w':=fun v' w' h=>by
    unfold execOp
    simp only[ho,resolve,invoke,builtin,Sem.run_bind,Sem.run_pure,Result.andThen_ok,List.map_toArray,List.map_cons,List.map_nil,hevx,hv,h]
  have fin:∀v' w' m,(Builtin.append_ #[t,t] o.type #[u,.slice ad els.length cap]).run P w=.ok v' w'→Rep (also D S.nx) (upd μ S.nx m) F w' (.ob S.nx sz 0 (olds.length+els.length)) v'→
      HeapSim w0 F0 (also D S.nx) (upd μ S.nx m) F ((⟨[⟨sz,olds++els⟩],del,[],del++rd⟩:Eff).app S.nx H) w'→Stay F w w'→o.wp P a w next Q:=fun v' w' m h1 h2 h3 h4=>by
    unfold Oper.wp
    rw[run v' w' h1]
    exact hn v' w' _ _ F h2 h3 h4 (zeM m hD0) (fun _ h=>h) (fun i hi=>hi.elim .inl (fun e=>.inr (by subst e;simp)))
  -- a new block for all
  have fresh:∀(old:Nat) (xs:List Value),u=.slice none 0 0∧olds=[]∨True→xs.length=olds.length * sz→
      (∀k (hk:k<olds.length) c (hc:c<olds[k].cells.length),Rep D μ F w (olds[k].cells[c]) (xs.getD (k * sz+c) undef))→(∀k (hk:k<olds.length),olds[k].cells.length=sz)→
      ∀(H0:Nat→Option AO),HeapSim w0 F0 D μ F H0 w→(⟨[⟨sz,olds++els⟩],del,[],del++rd⟩:Eff).app S.nx H=upd H0 S.nx (some ⟨sz,olds++els⟩)→
      (Builtin.append_ #[t,t] o.type #[u,.slice ad els.length cap]).run P w=.ok (.slice (some ⟨w.heap.size,0,none⟩) (olds.length+els.length) (grownCap w (olds.length+els.length) old e))
        (w.drew.alloc (.cells (xs.toArray++cs.toArray++Builtin.zeroCells v.cells (grownCap w (olds.length+els.length) old e - (olds.length+els.length))) e))→o.wp P a w next Q:=by
    intro old xs _ hxl hxr hxz H0 hH0 happ hrun
    have hge:=grownCap_ge w (olds.length+els.length) old e
    have hcm:=grownCap_le_maxLen w (olds.length+els.length) old e (by unfold maxLen;omega)
    obtain⟨q1,q2,q3⟩:=zgx (D:=D) (μ:=μ) (F:=F) (w:=w) (A:=xs.toArray++cs.toArray++Builtin.zeroCells v.cells (grownCap w (olds.length+els.length) old e - (olds.length+els.length)))
      (l1:=xs) (l2:=cs) (l3:=(Builtin.zeroCells v.cells (grownCap w (olds.length+els.length) old e - (olds.length+els.length))).toList) (by simp) hxl hcl hxr hxz hcr hcz
    have hH1:HeapSim w0 F0 D μ F H0 w.drew:=hH0.still (Bel.drew _)
    have hst1:Stay F w w.drew:=Stay.below (Below.drew (Below.refl _ _))
    have hS:=hH1.alloc S.nx hD0 (xs.toArray++cs.toArray++Builtin.zeroCells v.cells (grownCap w (olds.length+els.length) old e - (olds.length+els.length))) e ⟨sz,olds++els⟩ q1 q2
      (fun k hk c hc=>(q3 k hk c hc).stay hst1 (fun _ h=>⟨h,rfl⟩) (fun _ h=>h))
    refine fin _ _ (some w.heap.size) hrun ?_ (by rw[happ];exact hS) (hst1.trans (Stay.below (F:=F) ((Below.refl _ _).alloc (Nat.le_refl _) _)) (fun _ h=>h))
    have hbs:zbS (w.drew.alloc (.cells (xs.toArray++cs.toArray++Builtin.zeroCells v.cells (grownCap w (olds.length+els.length) old e - (olds.length+els.length))) e)) w.heap.size=grownCap w (olds.length+els.length) old e * sz:=by
      have:(w.drew.alloc (.cells (xs.toArray++cs.toArray++Builtin.zeroCells v.cells (grownCap w (olds.length+els.length) old e - (olds.length+els.length))) e)).heap[w.heap.size]? = some (.cells (xs.toArray++cs.toArray++Builtin.zeroCells v.cells (grownCap w (olds.length+els.length) old e - (olds.length+els.length))) e):=heap_alloc_new w.drew _
      simp only[zbS,this,Array.size_append,List.size_toArray,hxl,hcl,size_zeroCells,hzs',←Nat.add_mul]
      congr 1;omega
    have:=Rep.ob (D:=also D S.nx) (μ:=upd μ S.nx (some w.heap.size)) (F:=F) (w:=w.drew.alloc (.cells (xs.toArray++cs.toArray++Builtin.zeroCells v.cells (grownCap w (olds.length+els.length) old e - (olds.length+els.length))) e))
      S.nx sz 0 (olds.length+els.length) (grownCap w (olds.length+els.length) old e) w.heap.size (.inr rfl) (zbg _ _ _) (isCells.new w.drew _ _) hge hcm (by rw[hbs];simp)
    simpa using this
  -- from nothing
  have nothing:u=.slice none 0 0→olds=[]→∀(H0:Nat→Option AO),HeapSim w0 F0 D μ F H0 w→(⟨[⟨sz,olds++els⟩],del,[],del++rd⟩:Eff).app S.nx H=upd H0 S.nx (some ⟨sz,olds++els⟩)→o.wp P a w next Q:=by
    intro hu ho0 H0 hH0 happ
    subst ho0
    by_cases hm:els=[]
    · subst hm
      refine fin (.slice none 0 0) w none (by rw[hu];exact zep ht hti w none ad 0 0 cap (Nat.le_refl _)) ?_ ?_ (Stay.refl _ _)
      · simpa using Rep.obn (D:=also D S.nx) (μ:=upd μ S.nx none) (F:=F) (w:=w) S.nx sz (.inr rfl) (zbg _ _ _)
      · rw[happ];exact hH0.unborn S.nx hD0 sz
    · have hmp:0<els.length:=List.length_pos_iff.2 hm
      obtain⟨x,hx⟩:∃x,ad=some x:=by cases ad with|none=>exact absurd (hnone rfl) hm|some x=>exact⟨x,rfl⟩
      have hr0:=run_append_nil (P:=P) w t o.type e ti v ht hti htz x els.length cap cs (by rw[hcl,hsi]) (hcell x hx) hmp (by simp at hbig';omega) (by rw[hbi];simp at hbig;omega)
      refine fresh 0 [] (.inr trivial) (by simp) (fun k hk=>by simp at hk) (fun k hk=>by simp at hk) H0 hH0 happ ?_
      rw[hu,hx]
      simpa using hr0
  generalize S.ev x=qx at hx hp
  cases hx with
  | nil=>
    cases hp
    exact nothing rfl rfl H hH (by rw[show(⟨[⟨sz,[]++els⟩],[],[],[]++rd⟩:Eff)=⟨[⟨sz,[]++els⟩],[],[],rd⟩ from rfl,Eff.app_add])
  | @ob i _ len ob hob hosz hle=>
    have hi:H i=some ob:=(hr i (by simp)).trans hob
    have hdrop:HeapSim w0 F0 D μ F (upd H i none) w:=hH.drop (fun j o' hj=>by
      by_cases hji:j=i
      · subst hji;rw[zbg] at hj;cases hj
      · rw[zby _ _ hji] at hj;exact hj)
    have happ:=Eff.app_renew S.nx i ⟨sz,ob.els.take len++els⟩ H ([i]++rd)
    cases hp with
    | obn _ _ hDi hb=>
      exact nothing rfl (by simp) (upd H i none) hdrop happ
    | ob _ _ _ _ bcap b hDi hb hkd g1 g2 g3=>
      obtain⟨A,e',a1,a2,a3,a4⟩:=hH.cellsOk hi hb hkd
      rw[hosz] at a2 a3
      have hbs:zbS w b=A.size:=by simp[zbS,a1]
      have hlen:(ob.els.take len).length=len:=by simp;omega
      have hA:len * sz≤A.size:=Nat.le_trans (Nat.mul_le_mul_right _ hle) a2
      have hxl:(A.toList.take (len * sz)).length=(ob.els.take len).length * sz:=by rw[hlen];simp;omega
      have hxz:∀k (hk:k<(ob.els.take len).length),(ob.els.take len)[k].cells.length=sz:=fun k hk=>by
        have:(ob.els.take len)[k]=ob.els[k]'(by simp at hk;omega):=by simp
        rw[this];exact a3 _ _
      have hxr:∀k (hk:k<(ob.els.take len).length) c (hc:c<(ob.els.take len)[k].cells.length),Rep D μ F w ((ob.els.take len)[k].cells[c]) ((A.toList.take (len * sz)).getD (k * sz+c) undef):=fun k hk c hc=>by
        have hk':k<len:=by rw[hlen] at hk;exact hk
        have hcs:c<sz:=by rw[←hxz k hk];exact hc
        have hlt:=zcy hk' hcs
        have e1:(A.toList.take (len * sz)).getD (k * sz+c) undef=A.getD (k * sz+c) undef:=by
          simp only[List.getD_eq_getElem?_getD,List.getElem?_take,hlt,if_true,Array.getElem?_toList,Array.getD_eq_getD_getElem?]
        rw[e1]
        have e2:(ob.els.take len)[k]=ob.els[k]'(by omega):=by simp
        have:=a4 k (by omega) c (by rw[←e2];exact hc)
        rw[hosz] at this
        simpa[e2] using this
      rw[hlen] at hbig hbig'
      simp only[Nat.zero_add] at g3
      rw[hbs] at g3
      by_cases hm:els=[]
      · subst hm
        have hS:=hH.renew i ob b hi hb S.nx hD0 ⟨sz,ob.els.take len++[]⟩ (Stay.refl _ _) hH.ext (Nat.le_refl _) (by
          refine .inl ⟨A,e',a1,by simp only[List.append_nil,hlen];exact hA,by simpa using hxz,fun k hk c hc=>?_⟩
          simp only[List.append_nil] at hk hc ⊢
          have hk':k<len:=by rw[hlen] at hk;exact hk
          have e2:(ob.els.take len)[k]=ob.els[k]'(by omega):=by simp
          have:=a4 k (by omega) c (by rw[←e2];exact hc)
          rw[hosz] at this
          simpa[e2] using this) (fun _ _ _=>rfl)
        refine fin _ w (some b) (zep ht hti w _ ad len bcap cap g1) ?_ (by rw[happ];exact hS) (Stay.refl _ _)
        have:=Rep.ob (D:=also D S.nx) (μ:=upd μ S.nx (some b)) (F:=F) (w:=w) S.nx sz 0 len bcap b (.inr rfl) (zbg _ _ _) hkd g1 g2 (by rw[hbs];simpa using g3)
        simpa[hlen] using this
      · obtain⟨x,hx⟩:∃x,ad=some x:=by cases ad with|none=>exact absurd (hnone rfl) hm|some x=>exact⟨x,rfl⟩
        by_cases hroom:len+els.length≤bcap
        · have hfit:len * ti.size+cs.length≤A.size:=by rw[hsi,hcl,←Nat.add_mul];exact Nat.le_trans (Nat.mul_le_mul_right _ hroom) g3
          obtain⟨_,A',e'',a1',_⟩:=(⟨trivial,A,e',a1,trivial⟩:True∧∃A e,w.heap[b]? = some (.cells A e (0,0))∧True)
          have hst:=run_storeCells_at P b (len * sz) e' cs 0 A w a1 (by rw[hsi] at hfit;simpa using hfit) hcs1
          have hf:=run_firstCells_some (P:=P) w ti.size els.length x els.length cap cs (by rw[hcl,hsi]) (hcell x hx)
          have hrun:(Builtin.append_ #[t,t] o.type #[.slice (some ⟨b,0,none⟩) len bcap,.slice ad els.length cap]).run P w=
              .ok (.slice (some ⟨b,0,none⟩) (len+els.length) bcap) (w.setRow b (A.toList.take (len * sz)++cs++A.toList.drop (len * sz+cs.length)).toArray):=by
            simp only[Nat.add_zero] at hst
            rw[hx]
            simp[Builtin.append_,run_underlying ht,sizeOf,typeInfo,hti,Builtin.lenOf,hroom,hf,Addr.add_lit]
            rw[hsi];simp[hst]
          obtain⟨q1,q2,q3⟩:=zgx (D:=D) (μ:=μ) (F:=F) (w:=w) (A:=(A.toList.take (len * sz)++cs++A.toList.drop (len * sz+cs.length)).toArray) (l1:=A.toList.take (len * sz)) (l2:=cs)
            (l3:=A.toList.drop (len * sz+cs.length)) rfl hxl hcl hxr hxz hcr hcz
          have hrow:=setRow_heap w b A (A.toList.take (len * sz)++cs++A.toList.drop (len * sz+cs.length)).toArray e' (0,0) a1
          have hrs:(A.toList.take (len * sz)++cs++A.toList.drop (len * sz+cs.length)).toArray.size=A.size:=by rw[hsi] at hfit;simp;omega
          have hstay:Stay F w (w.setRow b (A.toList.take (len * sz)++cs++A.toList.drop (len * sz+cs.length)).toArray):=
            Stay.of_block b (hH.own i ob b hi hb).2 (by rw[hbs];simp only[zbS,hrow,hrs];exact Nat.le_refl _) (Kind.cells' hkd (.mk' hrow)) (fun c _ hc=>setRow_other w b c _ hc)
          have hBel:Ext w0 (w.setRow b (A.toList.take (len * sz)++cs++A.toList.drop (len * sz+cs.length)).toArray):=hH.ext.setRow (hH.own i ob b hi hb).1 _ hstay.size hstay.kind
          have hS:=hH.renew i ob b hi hb S.nx hD0 ⟨sz,ob.els.take len++els⟩ hstay hBel (by simp) (.inl ⟨_,e',hrow,q1,q2,fun k hk c hc=>(q3 k hk c hc).stay hstay (fun _ h=>⟨h,rfl⟩) (fun _ h=>h)⟩) (fun c _ hc=>setRow_other w b c _ hc)
          refine fin _ _ (some b) (by simpa using hrun) ?_ (by rw[happ];exact hS) hstay
          have:=Rep.ob (D:=also D S.nx) (μ:=upd μ S.nx (some b)) (F:=F) (w:=w.setRow b (A.toList.take (len * sz)++cs++A.toList.drop (len * sz+cs.length)).toArray) S.nx sz 0 (len+els.length) bcap b (.inr rfl) (zbg _ _ _) (.mk' hrow) hroom g2
            (by simp only[zbS,hrow,hrs];simpa using g3)
          simpa[hlen] using this
        · have hold:∀j u,(A.toList.take (len * sz))[j]? = some u→w.cell? ((⟨b,0,none⟩:Addr).add j)=some u:=fun j u hj=>by
            rw[Addr.add_lit]
            simp only[Nat.zero_add,World.cell?,a1]
            have hjl:j<len * sz:=by have:=(List.getElem?_eq_some_iff.1 hj).1;simp at this;omega
            simpa[List.getElem?_take,hjl] using hj
          have hgr:=run_append_grow (P:=P) w t o.type e ti v ht hti htz ⟨b,0,none⟩ len bcap (A.toList.take (len * sz)) (by rw[hxl,hlen,hsi]) hold x els.length cap cs (by rw[hcl,hsi]) (hcell x hx) (by omega) (by omega)
            (growslice_fits (by omega) (by rw[hbi];exact hbig))
          refine fresh bcap (A.toList.take (len * sz)) (.inr trivial) hxl hxr hxz (upd H i none) hdrop happ ?_
          rw[hlen,hx]
          simpa using hgr
end
def binV:BinOp→Value→Value→Option Value
  | .add,.int k a,.int k' b=>if k=k' then some (.int k (k.wrap (a+b))) else none
  | .sub,.int k a,.int k' b=>if k=k' then some (.int k (k.wrap (a - b))) else none
  | .mul,.int k a,.int k' b=>if k=k' then some (.int k (k.wrap (a * b))) else none
  | .and,.int k a,.int k' b=>if k=k' then some (.int k (bits .and k a b)) else none
  | .or,.int k a,.int k' b=>if k=k' then some (.int k (bits .or k a b)) else none
  | .xor,.int k a,.int k' b=>if k=k' then some (.int k (bits .xor k a b)) else none
  | .andNot,.int k a,.int k' b=>if k=k' then some (.int k (bits .andNot k a b)) else none
  | .eql,.int k a,.int k' b=>if k=k' then some (.bool (decide (a=b))) else none
  | .neq,.int k a,.int k' b=>if k=k' then some (.bool (!decide (a=b))) else none
  | .lss,.int k a,.int k' b=>if k=k' then some (.bool (decide (a<b))) else none
  | .leq,.int k a,.int k' b=>if k=k' then some (.bool (decide (a≤b))) else none
  | .gtr,.int k a,.int k' b=>if k=k' then some (.bool (decide (b<a))) else none
  | .geq,.int k a,.int k' b=>if k=k' then some (.bool (decide (b≤a))) else none
  | .eql,.string a,.string b=>some (.bool (decide (a=b)))
  | .neq,.string a,.string b=>some (.bool (!decide (a=b)))
  | .lss,.string a,.string b=>some (.bool (Op.bytesLess a.toList b.toList))
  | .leq,.string a,.string b=>some (.bool (Op.bytesLess a.toList b.toList || decide (a=b)))
  | .gtr,.string a,.string b=>some (.bool !(Op.bytesLess a.toList b.toList || decide (a=b)))
  | .geq,.string a,.string b=>some (.bool (!Op.bytesLess a.toList b.toList))
  | _,_,_=>none
theorem zmA{a b:ByteArray}:(a.toList == b.toList)=decide (a=b):=by
  rw[Bool.eq_iff_iff,beq_iff_eq,decide_eq_true_iff]
  constructor
  · intro h
    rw[ByteArray.toList_eq,ByteArray.toList_eq] at h
    exact ByteArray.ext (Array.ext' h)
  · intro h;rw[h]
section
variable {P:Program}
theorem binV_run{op:BinOp}{x y v:Value}(h:binV op x y=some v) (t:TypeId) (ox oy:Operand) (w:World):(do eqGuard op t ox oy x y;binOp op t x y:Sem Value).run P w=.ok v w:=by
  cases x<;>cases y<;>cases op<;>simp only[binV] at h<;>first
    | (cases h;done)
    | (split at h<;>first
        | (cases h;done)
        | (rename_i hk;subst hk;cases h;simp[eqGuard,binOp,Op.intArith,Op.intCmp,Op.intBits,bits];done)
        | (rename_i hk;subst hk;cases h;simp[eqGuard,binOp,Op.intArith,Op.intCmp,Op.intBits,bits];rfl))
    | (cases h;simp[eqGuard,binOp,Op.stringOp,zmA];done)
theorem Sound.bin{op:BinOp}{t t':TypeId}{x y:Operand}{S:St}{a b v:Value}(hx:S.ev x=.atom a) (hy:S.ev y=.atom b) (h:binV op a b=some v):Sound P (.binOp op t x y t') S (.atom v) e0:=
  Sound.quiet fun o ac w0 F0 D μ F H w hop hH hxs hr=>by
    have hp:=zaS (hxs x (by simp[Op.operands])) hx
    have hq:=zaS (hxs y (by simp[Op.operands])) hy
    refine⟨v,?_,.atom _⟩
    have:=binV_run (P:=P) h t x y w
    unfold execOp
    simp only[hop,hp,hq]
    rw[Sem.run_bind,this]
    rfl
theorem Sound.binBool{t t':TypeId}{x y:Operand}{S:St}{a b:Bool}(hx:S.ev x=.atom (.bool a)) (hy:S.ev y=.atom (.bool b)) (ht:P.underlying t=some .bool):Sound P (.binOp .eql t x y t') S (.atom (.bool (a == b))) e0:=
  Sound.quiet fun o ac w0 F0 D μ F H w hop hH hxs hr=>by
    have hp:=zaS (hxs x (by simp[Op.operands])) hx
    have hq:=zaS (hxs y (by simp[Op.operands])) hy
    refine⟨_,?_,.atom _⟩
    unfold execOp
    simp[hop,hp,hq,eqGuard,run_eql_bool w t a b ht]
theorem Sound.binBoolN{t t':TypeId}{x y:Operand}{S:St}{a b:Bool}(hx:S.ev x=.atom (.bool a)) (hy:S.ev y=.atom (.bool b)) (ht:P.underlying t=some .bool):Sound P (.binOp .neq t x y t') S (.atom (.bool (!(a == b)))) e0:=
  Sound.quiet fun o ac w0 F0 D μ F H w hop hH hxs hr=>by
    have hp:=zaS (hxs x (by simp[Op.operands])) hx
    have hq:=zaS (hxs y (by simp[Op.operands])) hy
    refine⟨_,?_,.atom _⟩
    unfold execOp
    simp[hop,hp,hq,eqGuard,run_neq_bool w t a b ht]
def zfr (k:IntKind):List PV→Option (List Int)
  | []=>some []
  | .atom (.int k' n) :: l=>if k'=k then (match zfr k l with|some r=>some (n :: r)|none=>none) else none
  | _=>none
theorem zjy{k:IntKind}:∀ {l:List PV}{xs:List Int},zfr k l=some xs→l=xs.map fun n=>PV.atom (.int k n)
  | [],xs,h=>by cases h;rfl
  | .atom (.int k' n) :: l,xs,h=>by
    unfold zfr at h
    split at h
    · rename_i hk
      subst hk
      split at h
      · rename_i r hr
        cases h
        rw[zjy hr];rfl
      · cases h
    · cases h
  | .atom (.bool _) :: l,xs,h | .atom (.float _ _) :: l,xs,h | .atom (.complex _ _ _) :: l,xs,h | .atom (.string _) :: l,xs,h | .atom (.pointer _) :: l,xs,h | .atom (.slice _ _ _) :: l,xs,h | .atom (.map _) :: l,xs,h | .atom (.chan _) :: l,xs,h | .atom (.func _ _ _) :: l,xs,h | .atom .nilFunc :: l,xs,h | .atom (.iface _ _) :: l,xs,h | .atom .nilIface :: l,xs,h | .atom (.agg _) :: l,xs,h | .atom (.tuple _) :: l,xs,h=>by cases h
  | .junk :: l,xs,h | .agg _ :: l,xs,h | .tup _ :: l,xs,h | .sl _ _ :: l,xs,h | .own _ _ :: l,xs,h | .ob _ _ _ _ :: l,xs,h | .ptr _ _ _ _ :: l,xs,h | .fptr _ _ _ _ :: l,xs,h | .fn _ _ :: l,xs,h=>by cases h
theorem zcV{D:Nat→Prop}{μ:Nat→Option Nat}{F:Nat→Prop}{w:World}{a v:Value}(h:Rep D μ F w (.atom a) v):v=a:=by cases h;rfl
theorem zmH{D:Nat→Prop}{μ:Nat→Option Nat}{F:Nat→Prop}{w:World}{l:List PV}{v:Value}{k:IntKind}{xs:List Int}(h:Rep D μ F w (.agg l) v) (hx:zfr k l=some xs):v=.agg (xs.map (Value.int k)).toArray:=by
  cases h with
  | agg _ vs h1 h2=>
    congr 1
    have e:=zjy hx
    subst e
    apply Array.ext
    · simpa using h1
    · intro i hi1 hi2
      have hi:i<xs.length:=by simpa using hi2
      have hr:=h2 i (by simpa using hi)
      simp only[List.getElem_map] at hr
      have:=zcV hr
      simp only[List.getElem_toArray,List.getElem_map]
      rw[←this]
      simp[hi1]
theorem ziV{e:TypeId}{k k':IntKind}(hp:P.plainKey e=true) (hu:P.underlying e=some (.int k')) (w:World) (d:Nat) (xs ys:List Int):∀(n j:Nat),j+n=xs.length→j+n=ys.length→
    (Op.eqItems (d+1) e 1 (xs.map (Value.int k)).toArray (ys.map (Value.int k)).toArray (List.range' j n)).run P w=.ok (decide (xs.drop j=ys.drop j)) w
  | 0,j,h1,h2=>by
    rw[List.drop_of_length_le (by omega),List.drop_of_length_le (by omega)]
    simp[Op.eqItems]
  | n + 1,j,h1,h2=>by
    have a1:j<xs.length:=by omega
    have a2:j<ys.length:=by omega
    rw[List.range'_succ]
    have p1:=run_part_plain (P:=P) w hp (xs:=(xs.map (Value.int k)).toArray) (off:=j * 1) (v:=.int k xs[j]) (by simp[a1])
    have p2:=run_part_plain (P:=P) w hp (xs:=(ys.map (Value.int k)).toArray) (off:=j * 1) (v:=.int k ys[j]) (by simp[a2])
    simp only[Op.eqItems,Sem.run_bind,p1,p2,Result.andThen_ok,run_equalIn_int w d e k k' _ _ hu]
    have e1:(xs.drop j=ys.drop j)↔(xs[j]=ys[j]∧xs.drop (j+1)=ys.drop (j+1)):=by
      rw[List.drop_eq_getElem_cons a1,List.drop_eq_getElem_cons a2,List.cons.injEq]
    rw[show decide (xs.drop j=ys.drop j)=(decide (xs[j]=ys[j]) && decide (xs.drop (j+1)=ys.drop (j+1))) by rw[Bool.eq_iff_iff];simp only[decide_eq_true_eq,Bool.and_eq_true];exact e1]
    by_cases hab:xs[j]=ys[j]
    · have:=ziV (k:=k) hp hu w d xs ys n (j+1) (by omega) (by omega)
      simp only[hab,beq_self_eq_true,Bool.not_true,Bool.false_eq_true,if_false,Sem.run_ite]
      rw[this]
      simp
    · simp[hab]
theorem ziX{t e:TypeId}{n:Nat}{k:IntKind}(w:World) (ht:tArr P t=some (n,e)) (hk:tInt P e=some k) (hs:zaP P e=some 1) {xs ys:List Int}(h1:xs.length=n) (h2:ys.length=n):
    (Op.equalIn 10000 t (.agg (xs.map (Value.int k)).toArray) (.agg (ys.map (Value.int k)).toArray)).run P w=.ok (decide (xs=ys)) w:=by
  have hu:P.underlying t=some (.array n e):=by
    unfold tArr at ht;split at ht
    · rename_i h;cases ht;exact h
    · cases ht
  have hue:P.underlying e=some (.int k):=by
    unfold tInt at hk;split at hk
    · rename_i h;cases hk;exact h
    · cases hk
  have hi:∃i,P.info? e=some i:=by
    unfold Program.underlying at hue
    cases hi:P.info? e with
    | none=>simp[hi] at hue
    | some i=>exact⟨i,rfl⟩
  obtain⟨i,hi⟩:=hi
  have hc:P.cellsOf e=1:=by
    unfold zaP at hs
    simp[Program.cellsOf,hi]
    simpa[hi] using hs
  rw[show(10000:Nat)=9999+1 from rfl,run_equalIn_array w 9999 _ _ hu hi,hc,List.range_eq_range']
  have:=ziV (k:=k) (by simp[Program.plainKey,hue]) hue w 9998 xs ys n 0 (by omega) (by omega)
  simpa using this
theorem Sound.binArr{op:BinOp}{t t' e:TypeId}{n:Nat}{k:IntKind}{x y:Operand}{S:St}{a b:List PV}{xs ys:List Int}{neg:Bool}(hop2:(op=.eql∧neg=false)∨(op=.neq∧neg=true)) (hx:S.ev x=.agg a) (hy:S.ev y=.agg b) (ht:tArr P t=some (n,e)) (hk:tInt P e=some k) (hs:zaP P e=some 1) (hxs':zfr k a=some xs) (hys':zfr k b=some ys) (h1:xs.length=n) (h2:ys.length=n) (hg:P.eqGuardType P.depth t=false):
    Sound P (.binOp op t x y t') S (.atom (.bool (bif neg then !decide (xs=ys) else decide (xs=ys)))) e0:=
  Sound.quiet fun o ac w0 F0 D μ F H w hop hH hxs hr=>by
    have hp:=hxs x (by simp[Op.operands])
    have hq:=hxs y (by simp[Op.operands])
    rw[hx] at hp
    rw[hy] at hq
    have ep:=zmH hp hxs'
    have eq:=zmH hq hys'
    refine⟨_,?_,.atom _⟩
    have hb:(do eqGuard op t x y (ac.eval x) (ac.eval y);binOp op t (ac.eval x) (ac.eval y):Sem Value).run P w=.ok (.bool (bif neg then !decide (xs=ys) else decide (xs=ys))) w:=by
      rw[ep,eq,Sem.run_bind,run_eqGuard_agg w op t x y _ _ hg,Result.andThen_ok]
      rcases hop2 with ⟨rfl,rfl⟩|⟨rfl,rfl⟩
      · rw[run_eql_struct,ziX w ht hk hs h1 h2];rfl
      · rw[run_neq_struct,ziX w ht hk hs h1 h2];rfl
    unfold execOp
    simp only[hop]
    rw[Sem.run_bind,hb]
    rfl
def fkOf (P:Program) (t:TypeId):Option Nat:=
  match P.underlying t with
  | some .string=>some 0
  | some .bool=>some 1
  | some (.int _)=>some 2
  | _=>none
def zmr (P:Program):Nat→List Field→Option (List Nat)
  | _,[]=>some []
  | j, f :: fs => if f.offset = j ∧ f.name ≠ "_" then match fkOf P f.type, zmr P (j + 1) fs with
    | some k,some ks=>some (k :: ks)
    | _,_=>none
    else none
def zg6 (P:Program) (t:TypeId):Option (List Nat):=
  match P.underlying t with
  | some (.struct fs)=>if P.stoodInHeld t=false∧P.eqGuardType P.depth t=false then zmr P 0 fs.toList else none
  | _=>none
def zdK:List Nat→List PV→List PV→Option Bool
  | [],[],[]=>some true
  | 0 :: ks,.atom (.string a) :: l,.atom (.string b) :: r=>(zdK ks l r).map (decide (a=b) && ·)
  | 1 :: ks,.atom (.bool a) :: l,.atom (.bool b) :: r=>(zdK ks l r).map (decide (a=b) && ·)
  | 2 :: ks,.atom (.int k a) :: l,.atom (.int k' b) :: r=>if k=k' then (zdK ks l r).map (decide (a=b) && ·) else none
  | _,_,_=>none
theorem fk_plain{t:TypeId}{k:Nat}(h:fkOf P t=some k):P.plainKey t=true:=by
  unfold fkOf at h
  unfold Program.plainKey
  split at h<;>first|(cases h;done)|(rename_i hu;simp only[hu])
theorem zhm (w:World) (d:Nat):∀(fs:List Field) (ks:List Nat) (j:Nat) (l r:List PV) (xs ys:Array Value) (b:Bool),zmr P j fs=some ks→zdK ks l r=some b→
    (∀i (h:i<l.length) v,l[i]=.atom v→xs[j+i]? = some v)→(∀i (h:i<r.length) v,r[i]=.atom v→ys[j+i]? = some v)→(Op.eqFields (d+1) xs ys fs).run P w=.ok b w
  | [],ks,j,l,r,xs,ys,b,hk,he,hl,hr=>by
    cases hk
    cases l<;>cases r<;>simp only[zdK] at he<;>cases he
    simp[Op.eqFields]
  | f :: fs,ks,j,l,r,xs,ys,b,hk,he,hl,hr=>by
    unfold zmr at hk
    split at hk<;>try (cases hk;done)
    rename_i hf
    split at hk<;>try (cases hk;done)
    rename_i k ks' h1 h2
    cases hk
    have hpl:=fk_plain h1
    have step:∀(u v:Value) (l' r':List PV) (b' c:Bool),l=.atom u :: l'→r=.atom v :: r'→zdK ks' l' r'=some b'→(Op.equalIn (d+1) f.type u v).run P w=.ok c w→(Op.eqFields (d+1) xs ys (f :: fs)).run P w=.ok (c && b') w:=by
      intro u v l' r' b' c el er hb' hc
      subst el;subst er
      have hx:xs[f.offset]? = some u:=by have:=hl 0 (by simp) u rfl;rw[hf.1];exact this
      have hy:ys[f.offset]? = some v:=by have:=hr 0 (by simp) v rfl;rw[hf.1];exact this
      have ih:=zhm w d fs ks' (j+1) l' r' xs ys b' h2 hb' (fun i hi v' hv'=>by have:=hl (i+1) (by simpa using hi) v' (by simpa using hv');rw[show j+1+i=j+(i+1) by omega];exact this)
        (fun i hi v' hv'=>by have:=hr (i+1) (by simpa using hi) v' (by simpa using hv');rw[show j+1+i=j+(i+1) by omega];exact this)
      simp only[Op.eqFields,if_pos hf.2,Sem.run_bind,run_part_plain w hpl hx,run_part_plain w hpl hy,hc,Result.andThen_ok,Sem.run_ite]
      cases c
      · simp
      · simpa using ih
    unfold fkOf at h1
    split at h1<;>try (cases h1;done)
    all_goals
      rename_i hu
      cases h1
      unfold zdK at he
      split at he<;>try (first|(cases he;done)|(rename_i hx;cases hx;done)|(rename_i hx _ _;cases hx;done))
    · rename_i ks2 a l' b2 r' e1
      cases e1
      obtain⟨b',hb',rfl⟩:=Option.map_eq_some_iff.1 he
      exact step _ _ _ _ _ _ rfl rfl hb' (by rw[run_equalIn_string w d f.type a b2 hu];rw[zmA])
    · rename_i ks2 a l' b2 r' e1
      cases e1
      obtain⟨b',hb',rfl⟩:=Option.map_eq_some_iff.1 he
      exact step _ _ _ _ _ _ rfl rfl hb' (by rw[run_equalIn_bool' w d f.type a b2 hu];rfl)
    · rename_i ks2 k a l' k' b2 r' e1
      cases e1
      split at he<;>try (cases he;done)
      rename_i hkk
      subst hkk
      obtain⟨b',hb',rfl⟩:=Option.map_eq_some_iff.1 he
      exact step _ _ _ _ _ _ rfl rfl hb' (by rw[run_equalIn_int w d f.type k _ a b2 hu];rfl)
theorem zj1{D:Nat→Prop}{μ:Nat→Option Nat}{F:Nat→Prop}{w:World}{l:List PV}{v:Value}(h:Rep D μ F w (.agg l) v):∃xs,v=.agg xs∧∀i (h:i<l.length) u,l[i]=.atom u→xs[0+i]? = some u:=by
  cases h with
  | agg _ vs h1 h2=>
    refine⟨vs,rfl,fun i hi u hu=>?_⟩
    have:=h2 i hi
    rw[hu] at this
    have e:=zcV this
    rw[Nat.zero_add,←e]
    have:i<vs.size:=by omega
    simp[this]
theorem Sound.binStr{op:BinOp}{t t':TypeId}{x y:Operand}{S:St}{a b:List PV}{ks:List Nat}{r neg:Bool}(hop2:(op=.eql∧neg=false)∨(op=.neq∧neg=true)) (hx:S.ev x=.agg a) (hy:S.ev y=.agg b) (ht:zg6 P t=some ks) (he:zdK ks a b=some r):
    Sound P (.binOp op t x y t') S (.atom (.bool (bif neg then !r else r))) e0:=
  Sound.quiet fun o ac w0 F0 D μ F H w hop hH hxs hr=>by
    have hp:=hxs x (by simp[Op.operands])
    have hq:=hxs y (by simp[Op.operands])
    rw[hx] at hp
    rw[hy] at hq
    obtain⟨xs,ep,hxs'⟩:=zj1 hp
    obtain⟨ys,eq,hys'⟩:=zj1 hq
    unfold zg6 at ht
    split at ht<;>try (cases ht;done)
    rename_i fs hu
    split at ht<;>try (cases ht;done)
    rename_i hg
    have hfs:P.fieldsOf t=fs:=by simp[Program.fieldsOf,hu]
    have heq:(Op.equalIn 10000 t (.agg xs) (.agg ys)).run P w=.ok r w:=by
      rw[show(10000:Nat)=9999+1 from rfl,run_equalIn_struct w 9999 t xs ys (by rw[hfs];exact hu) hg.1,hfs]
      exact zhm w 9998 fs.toList ks 0 a b xs ys r ht he hxs' hys'
    refine⟨_,?_,.atom _⟩
    have hb:(do eqGuard op t x y (ac.eval x) (ac.eval y);binOp op t (ac.eval x) (ac.eval y):Sem Value).run P w=.ok (.bool (bif neg then !r else r)) w:=by
      rw[ep,eq,Sem.run_bind,run_eqGuard_agg w op t x y _ _ hg.2,Result.andThen_ok]
      rcases hop2 with ⟨rfl,rfl⟩|⟨rfl,rfl⟩
      · rw[run_eql_struct,heq];rfl
      · rw[run_neq_struct,heq];rfl
    unfold execOp
    simp only[hop]
    rw[Sem.run_bind,hb]
    rfl
def nilMp:PV→Option Bool
  | .mp _ | .fmp _=>some false
  | .atom (.map none)=>some true
  | _=>none
theorem zqE{D:Nat→Prop}{μ:Nat→Option Nat}{F:Nat→Prop}{w:World}{p:PV}{u:Value}{b:Bool}(hp:Rep D μ F w p u) (hb:nilMp p=some b):∃m,u=.map m∧m.isNone=b:=by
  unfold nilMp at hb
  split at hb<;>cases hb
  · cases hp;exact⟨_,rfl,rfl⟩
  · cases hp;exact⟨_,rfl,rfl⟩
  · cases hp;exact⟨_,rfl,rfl⟩
def tMap (P:Program) (t:TypeId):Option (TypeId×TypeId):=match P.underlying t with|some (.map k e)=>some (k,e)|_=>none
theorem zlH{t k e:TypeId}(h:tMap P t=some (k,e)):P.underlying t=some (.map k e):=by
  unfold tMap at h;split at h
  · rename_i h';cases h;exact h'
  · cases h
theorem ziW (w:World) {t k e:TypeId}(ht:P.underlying t=some (.map k e)) (d:Nat) (m:Option Nat):(Op.equalIn (d+1) t (.map m) (.map none)).run P w=.ok m.isNone w:=by
  cases m<;>simp[Op.equalIn,run_underlying ht]
theorem zhl (w:World) {t k e:TypeId}(ht:P.underlying t=some (.map k e)) (m:Option Nat):(Op.equal t (.map m) (.map none)).run P w=.ok m.isNone w:=by
  exact ziW w ht 9999 m
theorem Sound.nilM{op:BinOp}{t t' k e:TypeId}{x y:Operand}{S:St}{b neg:Bool}(hop2:(op=.eql∧neg=false)∨(op=.neq∧neg=true)) (hx:nilMp (S.ev x)=some b) (hy:S.ev y=.atom (.map none)) (ht:tMap P t=some (k,e)):
    Sound P (.binOp op t x y t') S (.atom (.bool (bif neg then !b else b))) e0:=
  Sound.quiet fun o ac w0 F0 D μ F H w hop hH hxs hr=>by
    obtain⟨m,hm,hb⟩:=zqE (hxs x (by simp[Op.operands])) hx
    have hq:=zaS (hxs y (by simp[Op.operands])) hy
    refine⟨_,?_,.atom _⟩
    subst hb
    have hb:(do eqGuard op t x y (ac.eval x) (ac.eval y);binOp op t (ac.eval x) (ac.eval y):Sem Value).run P w=.ok (.bool (bif neg then !m.isNone else m.isNone)) w:=by
      rcases hop2 with ⟨rfl,rfl⟩|⟨rfl,rfl⟩
      · rw[hm,hq];simp[eqGuard,binOp,zhl w (zlH ht)]
      · rw[hm,hq];simp[eqGuard,binOp,zhl w (zlH ht)]
    unfold execOp
    simp only[hop]
    rw[Sem.run_bind,hb]
    rfl
theorem Sound.convRune{t t':TypeId}{x:Operand}{S:St}{k:IntKind}{n:Int}(hx:S.ev x=.atom (.int k n)) (ht:(P.underlying t).isSome=true) (ht':tStr P t'=true):Sound P (.convert t t' x) S (.atom (.string (Utf8.encode n))) e0:=
  Sound.quiet fun o ac w0 F0 D μ F H w hop hH hxs hr=>by
    have hp:=zaS (hxs x (by simp[Op.operands])) hx
    obtain⟨d,hd⟩:=Option.isSome_iff_exists.1 ht
    refine⟨_,?_,.atom _⟩
    unfold execOp
    simp[hop,hp,convert,run_underlying hd,run_underlying (zen ht'),Conv.intToString]
theorem Sound.concat{t t':TypeId}{x y:Operand}{S:St}{a b:ByteArray}(hx:S.ev x=.atom (.string a)) (hy:S.ev y=.atom (.string b)) (h:a.size+b.size≤9223372036854775807):Sound P (.binOp .add t x y t') S (.atom (.string (a++b))) e0:=
  Sound.quiet fun o ac w0 F0 D μ F H w hop hH hxs hr=>by
    have hp:=zaS (hxs x (by simp[Op.operands])) hx
    have hq:=zaS (hxs y (by simp[Op.operands])) hy
    refine⟨_,?_,.atom _⟩
    have hno:(a.size:Int)+b.size≤9223372036854775807:=by omega
    unfold execOp
    simp[hop,hp,hq,eqGuard,binOp,Op.stringOp]
    exact hno
theorem Sound.quo{t t':TypeId}{x y:Operand}{S:St}{k:IntKind}{a b:Int}(hx:S.ev x=.atom (.int k a)) (hy:S.ev y=.atom (.int k b)) (h:b≠0):Sound P (.binOp .quo t x y t') S (.atom (.int k (k.wrap (a.tdiv b)))) e0:=
  Sound.quiet fun o ac w0 F0 D μ F H w hop hH hxs hr=>by
    have hp:=zaS (hxs x (by simp[Op.operands])) hx
    have hq:=zaS (hxs y (by simp[Op.operands])) hy
    refine⟨_,?_,.atom _⟩
    unfold execOp
    simp[hop,hp,hq,eqGuard,binOp,Op.intDiv,h]
theorem Sound.rem{t t':TypeId}{x y:Operand}{S:St}{k:IntKind}{a b:Int}(hx:S.ev x=.atom (.int k a)) (hy:S.ev y=.atom (.int k b)) (h:b≠0):Sound P (.binOp .rem t x y t') S (.atom (.int k (a.tmod b))) e0:=
  Sound.quiet fun o ac w0 F0 D μ F H w hop hH hxs hr=>by
    have hp:=zaS (hxs x (by simp[Op.operands])) hx
    have hq:=zaS (hxs y (by simp[Op.operands])) hy
    refine⟨_,?_,.atom _⟩
    unfold execOp
    simp[hop,hp,hq,eqGuard,binOp,Op.intDiv,h]
theorem Sound.shl{t t':TypeId}{x y:Operand}{S:St}{k k':IntKind}{a b:Int}(hx:S.ev x=.atom (.int k a)) (hy:S.ev y=.atom (.int k' b)) (h:0≤b):Sound P (.binOp .shl t x y t') S (.atom (.int k (k.wrap (a * 2 ^ (min b.toNat k.bits))))) e0:=
  Sound.quiet fun o ac w0 F0 D μ F H w hop hH hxs hr=>by
    have hp:=zaS (hxs x (by simp[Op.operands])) hx
    have hq:=zaS (hxs y (by simp[Op.operands])) hy
    refine⟨_,?_,.atom _⟩
    have hno:¬b<0:=by omega
    unfold execOp
    simp[hop,hp,hq,eqGuard,binOp,Op.shift,hno]
theorem Sound.shr{t t':TypeId}{x y:Operand}{S:St}{k k':IntKind}{a b:Int}(hx:S.ev x=.atom (.int k a)) (hy:S.ev y=.atom (.int k' b)) (h:0≤b):Sound P (.binOp .shr t x y t') S (.atom (.int k (a.fdiv (2 ^ (min b.toNat k.bits))))) e0:=
  Sound.quiet fun o ac w0 F0 D μ F H w hop hH hxs hr=>by
    have hp:=zaS (hxs x (by simp[Op.operands])) hx
    have hq:=zaS (hxs y (by simp[Op.operands])) hy
    refine⟨_,?_,.atom _⟩
    have hno:¬b<0:=by omega
    unfold execOp
    simp[hop,hp,hq,eqGuard,binOp,Op.shift,hno]
def zh7:PV→Option Bool
  | .atom (.slice none 0 0)=>some true
  | .sl _ (_ :: _)=>some false
  | .ob _ _ _ (_+1)=>some false
  | _=>none
theorem zl2{D:Nat→Prop}{μ:Nat→Option Nat}{F:Nat→Prop}{w:World}{p:PV}{u:Value}{b:Bool}(hp:Rep D μ F w p u) (hb:zh7 p=some b):∃ad n c,u=.slice ad n c∧ad.isNone=b:=by
  cases p with
  | atom v=>
    cases hp
    unfold zh7 at hb
    split at hb<;>try (cases hb;done)
    all_goals (rename_i he;cases he;try (cases hb;exact⟨none,0,0,rfl,rfl⟩))
  | sl sz l=>
    cases l with
    | nil=>cases hb
    | cons x l=>cases hb;cases hp;exact⟨_,_,_,rfl,rfl⟩
  | ob i sz off len=>
    cases len with
    | zero=>cases hb
    | succ n=>cases hb;cases hp;exact⟨_,_,_,rfl,rfl⟩
  | _=>cases hb
theorem zlO{t e:TypeId}(he:zaN P t=some e) (ad:Option Addr) (n c:Nat) (w:World) (ox oy:Operand):
    (do eqGuard .eql t ox oy (.slice ad n c) (.slice none 0 0);binOp .eql t (.slice ad n c) (.slice none 0 0):Sem Value).run P w=.ok (.bool ad.isNone) w∧
    (do eqGuard .neq t ox oy (.slice ad n c) (.slice none 0 0);binOp .neq t (.slice ad n c) (.slice none 0 0):Sem Value).run P w=.ok (.bool (!ad.isNone)) w:=by
  have h1:=run_neq_slice_nil (P:=P) w t e ad n c (zb1 he)
  have h2:=Lib.run_eql_slice_nil (P:=P) w t e ad n c 0 0 (zb1 he)
  exact⟨by simp only[eqGuard];simpa using h2,by simp only[eqGuard];simpa using h1⟩
theorem Sound.nilS{t t' e:TypeId}{x:Operand}{S:St}{b:Bool}(hx:zh7 (S.ev x)=some b) (he:zaN P t=some e):Sound P (.binOp .eql t x (.const (.slice none 0 0)) t') S (.atom (.bool b)) e0:=
  Sound.quiet fun o ac w0 F0 D μ F H w hop hH hxs hr=>by
    obtain⟨ad,n,c,hu,hn⟩:=zl2 (hxs x (by simp[Op.operands])) hx
    refine⟨_,?_,.atom _⟩
    have:=(zlO (P:=P) he ad n c w x (.const (.slice none 0 0))).1
    unfold execOp
    simp only[hop,hu]
    rw[Sem.run_bind,show ac.eval (.const (.slice none 0 0))=.slice none 0 0 from rfl,this,←hn]
    rfl
theorem Sound.nilSN{t t' e:TypeId}{x:Operand}{S:St}{b:Bool}(hx:zh7 (S.ev x)=some b) (he:zaN P t=some e):Sound P (.binOp .neq t x (.const (.slice none 0 0)) t') S (.atom (.bool (!b))) e0:=
  Sound.quiet fun o ac w0 F0 D μ F H w hop hH hxs hr=>by
    obtain⟨ad,n,c,hu,hn⟩:=zl2 (hxs x (by simp[Op.operands])) hx
    refine⟨_,?_,.atom _⟩
    have:=(zlO (P:=P) he ad n c w x (.const (.slice none 0 0))).2
    unfold execOp
    simp only[hop,hu]
    rw[Sem.run_bind,show ac.eval (.const (.slice none 0 0))=.slice none 0 0 from rfl,this,←hn]
    rfl
theorem Sound.min2{x y:Operand}{ts:Array TypeId}{S:St}{k:IntKind}{a b:Int}(hx:S.ev x=.atom (.int k a)) (hy:S.ev y=.atom (.int k b)):Sound P (.call ⟨.builtin .min,#[x,y],ts⟩) S (.atom (.int k (min a b))) e0:=
  Sound.quiet fun o ac w0 F0 D μ F H w hop hH hxs hr=>by
    have hp:=zaS (hxs x (by simp[Op.operands,Call.operands])) hx
    have hq:=zaS (hxs y (by simp[Op.operands,Call.operands])) hy
    refine⟨_,?_,.atom _⟩
    have e:(if b<a then b else a)=min a b:=by split<;>omega
    unfold execOp
    simp[hop,resolve,invoke,builtin,hp,hq,Builtin.min_,Builtin.min2,e]
theorem Sound.max2{x y:Operand}{ts:Array TypeId}{S:St}{k:IntKind}{a b:Int}(hx:S.ev x=.atom (.int k a)) (hy:S.ev y=.atom (.int k b)):Sound P (.call ⟨.builtin .max,#[x,y],ts⟩) S (.atom (.int k (max a b))) e0:=
  Sound.quiet fun o ac w0 F0 D μ F H w hop hH hxs hr=>by
    have hp:=zaS (hxs x (by simp[Op.operands,Call.operands])) hx
    have hq:=zaS (hxs y (by simp[Op.operands,Call.operands])) hy
    refine⟨_,?_,.atom _⟩
    have e:(if b>a then b else a)=max a b:=by split<;>omega
    have e':(if a<b then b else a)=max a b:=by split<;>omega
    unfold execOp
    first
      | simp[hop,resolve,invoke,builtin,hp,hq,Builtin.max_,Builtin.max2,e]
      | simp[hop,resolve,invoke,builtin,hp,hq,Builtin.max_,Builtin.max2,e']
theorem Sound.convInt{t t':TypeId}{x:Operand}{S:St}{k k':IntKind}{n:Int}(hx:S.ev x=.atom (.int k n)) (ht:(P.underlying t).isSome=true) (ht':tInt P t'=some k'):Sound P (.convert t t' x) S (.atom (.int k' (k'.wrap n))) e0:=
  Sound.quiet fun o ac w0 F0 D μ F H w hop hH hxs hr=>by
    have hp:=zaS (hxs x (by simp[Op.operands])) hx
    obtain⟨d,hd⟩:=Option.isSome_iff_exists.1 ht
    refine⟨_,?_,.atom _⟩
    unfold execOp
    simp[hop,hp,convert,run_underlying hd,run_underlying (zkj ht'),Conv.intToInt]
theorem Sound.convStr{t t':TypeId}{x:Operand}{S:St}{s:ByteArray}(hx:S.ev x=.atom (.string s)) (ht:tStr P t=true) (ht':tStr P t'=true):Sound P (.convert t t' x) S (.atom (.string s)) e0:=
  Sound.quiet fun o ac w0 F0 D μ F H w hop hH hxs hr=>by
    have hp:=zaS (hxs x (by simp[Op.operands])) hx
    refine⟨_,?_,.atom _⟩
    unfold execOp
    simp[hop,hp,convert,run_underlying (zen ht),run_underlying (zen ht')]
def zdh (s:ByteArray):List PV:=s.data.toList.map fun b=>.atom (.int .u8 (b.toNat:Nat))
theorem Sound.convBytes{t t' e:TypeId}{x:Operand}{S:St}{s:ByteArray}(hx:S.ev x=.atom (.string s)) (ht:tStr P t=true) (ht':zaN P t'=some e) (he:tInt P e=some .u8) (hs:s.size≤9223372036854775807):Sound P (.convert t t' x) S (.sl 1 (zdh s)) e0:=by
  intro o a w0 F0 D μ F H w ho hH hxs hr _ next Q hn
  have hp:=zaS (hxs x (by simp[Op.operands])) hx
  have hrun:=run_bytes_of_string (P:=P) w t t' e s (zen ht) (zb1 ht') (zkj he)
  have hex:(execOp a.eval o).run P w=.ok (.value (.slice (some ⟨w.heap.size,0,none⟩) s.size (grownCap w s.size 0 e))) (w.drew.alloc (.cells (bytesRow s (grownCap w s.size 0 e)) e ((bytesRow s (grownCap w s.size 0 e)).size,(bytesRow s (grownCap w s.size 0 e)).size+1))):=by
    unfold execOp;simp[ho,hp,hrun]
  unfold Oper.wp
  rw[hex]
  have hb:Bel w (w.drew.alloc (.cells (bytesRow s (grownCap w s.size 0 e)) e ((bytesRow s (grownCap w s.size 0 e)).size,(bytesRow s (grownCap w s.size 0 e)).size+1))):=
    Bel.drewAlloc w _
  have hge:=grownCap_ge w s.size 0 e
  have hcm:=grownCap_le_maxLen w s.size 0 e (by unfold maxLen;omega)
  generalize hW:w.drew.alloc (.cells (bytesRow s (grownCap w s.size 0 e)) e ((bytesRow s (grownCap w s.size 0 e)).size,(bytesRow s (grownCap w s.size 0 e)).size+1))=W at hb ⊢
  have hblk:W.heap[w.heap.size]? = some (.cells (bytesRow s (grownCap w s.size 0 e)) e ((bytesRow s (grownCap w s.size 0 e)).size,(bytesRow s (grownCap w s.size 0 e)).size+1)):=by
    rw[←hW];exact heap_alloc_new w.drew _
  have hsz:w.heap.size<W.heap.size:=(Array.getElem?_eq_some_iff.1 hblk).1
  have hlen:(zdh s).length=s.size:=by simp[zdh]
  have hcells:∀k (hk:k<(zdh s).length),(zdh s)[k].cells=[.atom (.int .u8 ((zbA s k).toNat:Nat))]:=fun k hk=>by
    have hk':k<s.data.toList.length:=by simpa[zdh] using hk
    have:zbA s k=s.data.toList[k]:=by unfold zbA;exact(List.getElem_eq_getD _).symm
    simp[zdh,this,PV.cells]
  have hrep:Rep D μ (fun b=>F b∨b=w.heap.size) W (.sl 1 (zdh s)) (.slice (some ⟨w.heap.size,0,none⟩) s.size (grownCap w s.size 0 e)):=by
    have:=Rep.sl (D:=D) (μ:=μ) (F:=fun b=>F b∨b=w.heap.size) (w:=W) 1 (zdh s) w.heap.size 0 (grownCap w s.size 0 e) (fun j=>.int .u8 ((zbA s j).toNat:Nat)) (.inr rfl) (by rw[hlen];exact hge) hcm
      (fun j hj=>by
        have hj':j<s.data.size:=by rw[hlen] at hj;simpa using hj
        have hb8:zbA s j=s.data[j]:=by
          have h':j<s.data.toList.length:=by simpa using hj'
          unfold zbA;rw[←List.getElem_eq_getD (h:=h')];simp
        simp only[World.cell?,hblk,Nat.zero_add]
        rw[bytesRow,Array.getElem?_append_left (by simpa using hj')]
        rw[Array.getElem?_map,Array.getElem?_eq_getElem hj',hb8];rfl)
      (fun k hk=>by rw[hcells k hk];rfl)
      (fun k hk c hc=>by
        have hc0:c=0:=by rw[hcells k hk] at hc;simpa using hc
        subst hc0
        have:(zdh s)[k].cells[0]=.atom (.int .u8 ((zbA s k).toNat:Nat)):=by simp[hcells k hk]
        rw[this,Nat.mul_one,Nat.add_zero];exact .atom _)
    rw[hlen] at this
    exact this
  refine hn _ W D μ (fun b=>F b∨b=w.heap.size) hrep ?_ (Stay.below hb.1) (fun _ h=>⟨h,rfl⟩) (fun _ h=>.inl h) (fun _ h=>.inl h)
  have happ:e0.app S.nx H=H:=Eff.app_e0 _ _ _
  rw[happ]
  refine hH.step (Stay.below hb.1) (fun i hi=>⟨hi,rfl⟩) (fun _ h=>.inl h) (hH.ext.trans hb) (fun b hbF=>hbF.elim (hH.f0 b) (fun e=>.inr (e▸.inl hH.ext.size))) (fun b hbF=>hbF.elim (fun h=>Nat.lt_of_lt_of_le (hH.fsz b h) hb.size) (fun e=>e▸hsz)) fun i ob hi=>.inl ⟨hi,fun b hib=>⟨hb.block _ (hH.ok hi hib).lt,fun hbF=>hbF.elim (hH.own i ob b hi hib).2 (fun e=>?_)⟩⟩
  have:=(hH.ok hi hib).lt
  omega
def zhq:PV→UInt8
  | .atom (.int _ n)=>UInt8.ofNat n.toNat
  | _=>0
def zgM:PV→Bool
  | .atom (.int .u8 _)=>true
  | _=>false
theorem Sound.convText{t t' e:TypeId}{x:Operand}{S:St}{els:List PV}{rd:List Nat}(hx:Src S (S.ev x) 1 els rd) (ht:zaN P t=some e) (he:tInt P e=some .u8) (ht':tStr P t'=true) (hb:els.all zgM=true):Sound P (.convert t t' x) S (.atom (.string ⟨(els.map zhq).toArray⟩)) ⟨[],[],[],rd⟩:=
  Sound.quiet fun o a w0 F0 D μ F H w hop hH hxs hr=>by
    obtain⟨ad,cap,cs,hv,hcap,hcl,hnone,hcell,hcr,hcz⟩:=zlL hx (hxs x (by simp[Op.operands])) hH hr
    refine⟨_,?_,.atom _⟩
    have hrun:=run_convert_bytes_string (P:=P) w t t' e ad els.length cap (zb1 ht) (zkj he) (zen ht')
    let num:PV→Int:=fun p=>match p with | .atom (.int _ n)=>n|_=>0
    have hcs:cs=(els.map num).map (Value.int .u8):=by
      apply List.ext_getElem
      · simp[hcl]
      · intro j h1 h2
        have hj:j<els.length:=by simpa using h2
        have hby:=List.all_eq_true.1 hb els[j] (List.getElem_mem hj)
        have hc0:0<els[j].cells.length:=by rw[hcz j hj];exact Nat.one_pos
        have:=hcr j hj 0 hc0
        simp only[Nat.mul_one,Nat.add_zero] at this
        have e1:cs.getD j undef=cs[j]:=by simp[List.getD_eq_getElem?_getD,h1]
        rw[e1] at this
        have e2:els[j].cells[0]=els[j]:=by
          unfold zgM at hby
          split at hby
          · rename_i he;simp[he,PV.cells]
          · cases hby
        rw[e2] at this
        simp only[List.getElem_map]
        unfold zgM at hby
        split at hby
        · rename_i n he
          rw[he] at this
          simp only[num,he]
          exact zaS this rfl
        · cases hby
    have hnum:(els.map num).foldl (fun(r:ByteArray) n=>r.push (UInt8.ofNat n.toNat)) ByteArray.empty=⟨(els.map zhq).toArray⟩:=by
      have gen:∀(l:List PV) (r:ByteArray),l.all zgM=true→(l.map num).foldl (fun(r:ByteArray) n=>r.push (UInt8.ofNat n.toNat)) r=⟨r.data++(l.map zhq).toArray⟩:=by
        intro l
        induction l with
        | nil=>intro r _;simp
        | cons p l ih=>
          intro r hl
          simp only[List.all_cons,Bool.and_eq_true] at hl
          simp only[List.map_cons,List.foldl_cons]
          rw[ih _ hl.2]
          have:zhq p=UInt8.ofNat (num p).toNat:=by
            have h1:=hl.1
            unfold zgM at h1
            split at h1
            · rfl
            · cases h1
          rw[this]
          simp[ByteArray.push]
      rw[gen els _ hb]
      have:ByteArray.empty.data = #[]:=rfl
      rw[this];simp
    unfold execOp
    simp only[hop,hv,Sem.run_bind,hrun]
    cases had:ad with
    | none=>
      have:=hnone had
      subst this
      have h0:ByteArray.empty=⟨(([]:List PV).map zhq).toArray⟩:=rfl
      simp[Conv.bytesToString];exact h0
    | some y=>
      have hl:=run_loadCells_list (P:=P) w y cs (hcell y had)
      rw[hcl,Nat.mul_one,hcs] at hl
      rw[run_bytesToString w y els.length cap _ hl,hnum]
      rfl
end
end Go.Proofs.Ytehoglapajkabaa
