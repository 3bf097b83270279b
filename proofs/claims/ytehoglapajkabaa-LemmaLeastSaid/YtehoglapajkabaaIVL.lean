/-
  The clean machine: calls of functions that work on own objects of their caller.
-/
import Derived.Test.YtehoglapajkabaaIV9
set_option linter.all false
namespace Go.Proofs.Ytehoglapajkabaa
open Go Go.RowKit
def ProcCall (P:Program) (f:FuncId) (args:List PV) (hp:List AO) (r:PV) (hp':List (Option AO)) (os:List AO):Prop:=
  hp'.length=hp.length∧∀(μ:Nat→Option Nat) (F:Nat→Prop) (w:World) (vs:Array Value),HeapSim ⟨w,fun b=>∃i,i<hp.length∧μ i=some b⟩ F (· < hp.length) μ F (fun i=>hp[i]?) w→
    vs.size=args.length→(∀i (h:i<args.length),Rep (· < hp.length) μ F w args[i] (vs.getD i undef))→
    Calls P f vs w fun e w'=>∃v,e=.returned v∧∃(μ':Nat→Option Nat) (F':Nat→Prop),Rep (· < hp.length+os.length) μ' F' w' r v∧
      HeapSim ⟨w,fun b=>∃i,i<hp.length∧μ i=some b⟩ F (· < hp.length+os.length) μ' F' (fun i=>((hp'++os.map some)[i]?).join) w'∧(∀i,i<hp.length→μ' i=μ i)
def pmap (L:List Nat) (nx:Nat) (i:Nat):Nat:=(L[i]?).getD (nx+(i - L.length))
def zaW (ρ:Nat→Nat):List Nat→List (Option AO)→List (Nat×AO)
  | i :: L,some o :: h=>(i,o.ren ρ) :: zaW ρ L h
  | _ :: L,none :: h=>zaW ρ L h
  | _,_=>[]
def zbl:List Nat→List (Option AO)→List Nat
  | _ :: L,some _ :: h=>zbl L h
  | i :: L,none :: h=>i :: zbl L h
  | _,_=>[]
theorem zdk (ρ:Nat→Nat) {x:Nat}:∀(L:List Nat) (h:List (Option AO)),x∉L→lk (zaW ρ L h) x=none∧x∉zbl L h
  | [],h,_=>by cases h<;>simp[zaW,zbl,lk]
  | i :: L,[],_=>by simp[zaW,zbl,lk]
  | i :: L,m :: h,hx=>by
    have hx2:x∉L:=fun h=>hx (List.mem_cons_of_mem _ h)
    have hxi:i≠x:=fun e=>hx (by rw[e];exact List.mem_cons_self ..)
    obtain⟨a,b⟩:=zdk ρ L h hx2
    cases m with
    | some o=>exact⟨by rw[zaW,lk,if_neg hxi];exact a,by rw[zbl];exact b⟩
    | none=>exact⟨by rw[zaW];exact a,by rw[zbl,List.mem_cons];exact fun h=>h.elim (fun e=>hxi e.symm) b⟩
theorem zfJ (ρ:Nat→Nat):∀(L:List Nat) (h:List (Option AO)),L.Nodup→∀(j:Nat) (i:Nat) (m:Option AO),L[j]? = some i→h[j]? = some m→lk (zaW ρ L h) i=m.map (AO.ren ρ)∧(m=none→i∈zbl L h)∧(m≠none→i∉zbl L h)
  | [],h,_,j,i,m,hL,_=>by simp at hL
  | k :: L,[],_,j,i,m,_,hh=>by simp at hh
  | k :: L,m0 :: h,hn,j,i,m,hL,hh=>by
    rw[List.nodup_cons] at hn
    cases j with
    | zero=>
      simp only[List.getElem?_cons_zero,Option.some.injEq] at hL hh
      subst hL;subst hh
      cases m0 with
      | some o=>exact⟨by rw[zaW,lk,if_pos rfl];rfl,(fun e=>by cases e),fun _=>by rw[zbl];exact(zdk ρ L h hn.1).2⟩
      | none=>exact⟨by rw[zaW];exact(zdk ρ L h hn.1).1,(fun _=>by rw[zbl];exact List.mem_cons_self ..),fun e=>absurd rfl e⟩
    | succ j=>
      simp only[List.getElem?_cons_succ] at hL hh
      have hki:k≠i:=fun e=>hn.1 (by rw[e];exact List.mem_of_getElem? hL)
      obtain⟨a,b,c⟩:=zfJ ρ L h hn.2 j i m hL hh
      cases m0 with
      | some o=>exact⟨by rw[zaW,lk,if_neg hki];exact a,(fun e=>by rw[zbl];exact b e),fun e=>by rw[zbl];exact c e⟩
      | none=>exact⟨by rw[zaW];exact a,(fun e=>by rw[zbl];exact List.mem_cons_of_mem _ (b e)),fun e=>by rw[zbl,List.mem_cons];exact fun h=>h.elim (fun e'=>hki e'.symm) (c e)⟩
structure Lent (S:St) (L:List Nat) (n:Nat) (vals args:List PV) (hp:List AO):Prop where
  nodup:L.Nodup
  len:L.length=hp.length
  args:vals.map (sealed S.obj (fun i=>L.contains i) n)=args.map (PV.ren (rmap L S.nx))
  objs:∀i o,hp[i]? = some o→∃o',S.obj (rmap L S.nx i)=some o'∧o'.sz=o.sz∧o'.els.map (sealed S.obj (fun i=>L.contains i) n)=o.els.map (PV.ren (rmap L S.nx))
section
variable {P:Program} {w0:Home} {F0 D D':Nat→Prop} {μ μ':Nat→Option Nat} {F F':Nat→Prop} {H H':Nat→Option AO} {w w':World}
theorem zn1 (p:PV) (val:Nat→Value) (hF:∀b,F b→F' b) (h:∀c (hc:c<p.cells.length),Rep D μ F w p.cells[c] (val c)):∀c (hc:c<p.cells.length),Rep D μ F' w p.cells[c] (val c):=
  fun c hc=>(h c hc).stay (Stay.refl _ _) (fun _ h=>⟨h,rfl⟩) hF
def zic (H:Nat→Option AO) (μ:Nat→Option Nat) (F:Nat→Prop) (L:List Nat) (n:Nat) (b:Nat):Prop:=F b∨(n≠0∧∃i o,L.contains i=false∧H i=some o∧μ i=some b)
theorem zib (hH:HeapSim w0 F0 D μ F H w) (L:List Nat) (n:Nat) {p:PV}{v:Value}(h:Rep D μ F w p v):Rep D μ (zic H μ F L n) w (sealed H (fun i=>L.contains i) n p) v:=by
  cases n with
  | zero=>exact h.stay (Stay.refl _ _) (fun _ h=>⟨h,rfl⟩) (fun _ h=>.inl h)
  | succ n=>exact Rep.sealed hH _ _ (fun _ h=>.inl h) (fun i o b h1 h2 h3=>.inr ⟨by omega,i,o,h1,h2,h3⟩) _ _ _ h
theorem znI (hH:HeapSim w0 F0 D μ F H w) (L:List Nat) (n:Nat) (p:PV) (val:Nat→Value) (h:∀c (hc:c<p.cells.length),Rep D μ F w p.cells[c] (val c)):
    ∀c (hc:c<(sealed H (fun i=>L.contains i) n p).cells.length),Rep D μ (zic H μ F L n) w (sealed H (fun i=>L.contains i) n p).cells[c] (val c):=by
  cases n with
  | zero=>exact zn1 p val (fun _ h=>.inl h) h
  | succ n=>exact zeF hH _ _ (fun _ h=>.inl h) (fun i o b h1 h2 h3=>.inr ⟨by omega,i,o,h1,h2,h3⟩) _ p val h
theorem zk5 (hH:HeapSim w0 F0 D μ F H w) (L:List Nat) (n:Nat) {o o':AO}{ρ:Nat→Nat}{m:Option Nat}(hst:Stands D μ F w o' m) (h2:o'.sz=o.sz) (h3:o'.els.map (sealed H (fun i=>L.contains i) n)=o.els.map (PV.ren ρ)):
    Stands D μ (zic H μ F L n) w (o.ren ρ) m:=by
  cases m with
  | none=>
    have h':o'.els=[]:=hst
    show(o.ren ρ).els=[]
    unfold AO.ren
    rw[←h3,h'];rfl
  | some b=>
    have hlen:o.els.length=o'.els.length:=by have:=congrArg List.length h3;simpa using this.symm
    have hek:∀kk (hk:kk<(o.ren ρ).els.length),(o.ren ρ).els[kk]=sealed H (fun i=>L.contains i) n (o'.els[kk]'(by simp[AO.ren] at hk;omega)):=fun kk hk=>by
      have e1:(o.ren ρ).els=o'.els.map (sealed H (fun i=>L.contains i) n):=h3.symm
      rw[gl e1 hk,List.getElem_map]
    rcases hst with ⟨A,e,a1,a2,a3,a4⟩|⟨es,ck,a1,a2,a3,a4⟩|⟨rem,cur,a6,a7⟩
    rotate_left
    · refine .inr (.inl ⟨es,ck,a1,a2,by simp[AO.ren,hlen,a3],fun j hj=>?_⟩)
      rw[hek j hj]
      exact zib hH L n (a4 j (by simp[AO.ren] at hj;omega))
    · have hs0:sealed H (fun i=>L.contains i) n (.fmp rem)=.fmp rem:=by cases n<;>rfl
      have e1:(o.ren ρ).els=[.fmp rem,sealed H (fun i=>L.contains i) n cur]:=by
        have:(o.ren ρ).els=o'.els.map (sealed H (fun i=>L.contains i) n):=h3.symm
        rw[this,a6,List.map_cons,List.map_cons,List.map_nil,hs0]
      exact .inr (.inr ⟨rem,_,e1,a7.to rfl (fun m hm=>⟨.inl hm,fun _ _ g=>g⟩) rfl (fun j _ _ v g=>g.stay (Stay.refl _ _) (fun _ h=>⟨h,rfl⟩) (fun _ h=>.inl h)) (fun v g=>zib hH L n g) (fun e=>by subst e;cases n<;>rfl)⟩)
    refine .inl ⟨A,e,a1,?_,fun kk hk=>?_,fun kk hk c hc=>?_⟩
    · simp only[AO.ren,List.length_map];rw[hlen,←h2];exact a2
    · rw[hek kk hk,zcm,a3];exact h2
    · have hkk:kk<o'.els.length:=by simp[AO.ren] at hk;omega
      have e2:(o.ren ρ).els[kk].cells=(sealed H (fun i=>L.contains i) n o'.els[kk]).cells:=by rw[hek kk hk]
      rw[gl e2 hc]
      have:=znI hH L n o'.els[kk] (fun c=>A.getD (kk * o'.sz+c) undef) (fun c hc=>a4 kk hkk c hc) c (by rw[←e2];exact hc)
      have e3:(o.ren ρ).sz=o'.sz:=h2.symm
      rw[e3];exact this
def flatO:Option AO→Bool
  | some o=>o.els.all PV.flatB
  | none=>true
theorem zec{L:List Nat}{nx i:Nat}(h:i<L.length):pmap L nx i=L[i]:=by simp[pmap,h]
theorem zc7{L:List Nat}{nx i:Nat}(h:L.length≤i):pmap L nx i=nx+(i - L.length):=by simp[pmap,h]
theorem zh1{L:List Nat}{nx i:Nat}(h:i<L.length):rmap L nx i=L[i]:=by simp[rmap,h]
theorem Ext.trans2{B:Home}{a b:World}{M:Nat→Prop}(h:Ext B a) (k:Ext ⟨a,M⟩ b) (hM:∀b,M b→B.own b):Ext B b:=
  ⟨k.os.trans h.os,k.tape.trans h.tape,k.output.trans h.output,Nat.le_trans h.size k.size,
    fun i hi hn=>(k.block i (Nat.lt_of_lt_of_le hi h.size) (fun hm=>(hM i hm).elim (fun h=>by omega) hn)).trans (h.block i hi hn),fun b=>(h.kind b).trans (k.kind b),fun b=>Nat.le_trans (h.sizes b) (k.sizes b),Nat.le_trans h.drawn k.drawn⟩
theorem Sound.callProc{fo:Operand}{xs:Array Operand}{ts:Array TypeId}{S:St}{f:FuncId}{n:Nat}{cap args:List PV}{hp:List AO}{r:PV}{hp':List (Option AO)}{os:List AO}{L:List Nat}{rd:List Nat}
    (hfo:S.ev fo=.fn f cap) (hen:zg2 P f) (hc:ProcCall P f args hp r hp' os) (hl:Lent S L n (xs.toList.map S.ev++cap) args hp)
    (hfl:n=0∨(r.flatB=true∧os.all (fun o=>o.els.all PV.flatB)=true∧hp'.all flatO=true)):
    SoundI P (.call ⟨.value fo,xs,ts⟩) S (r.ren (pmap L S.nx)) ⟨os.map (AO.ren (pmap L S.nx)),zbl L hp',zaW (pmap L S.nx) L hp',rd⟩:=by
  intro o a w0 F0 D μ F w ho hH hxs hD next Q hn
  have hpf:=hxs fo (by simp[Op.operands,Call.operands])
  rw[hfo] at hpf
  have hxa:∀x,x∈xs.toList→Rep D μ F w (S.ev x) (a.eval x):=fun x hx=>hxs x (by simp only[Op.operands,Call.operands];simp at hx ⊢;exact .inr hx)
  generalize hef:a.eval fo=u at hpf
  cases hpf with
  | fn _ _ cvs hcs hcr=>
    have hval:∀i (h:i<(xs.toList.map S.ev++cap).length),Rep D μ F w ((xs.toList.map S.ev++cap)[i]) ((xs.map a.eval++cvs).getD i undef):=fun i h=>by
      by_cases hi:i<xs.size
      · have e1:(xs.toList.map S.ev++cap)[i]=S.ev xs[i]:=by rw[List.getElem_append_left (by simpa using hi)];simp
        have e2:(xs.map a.eval++cvs).getD i undef=a.eval xs[i]:=by simp[Array.getD_eq_getD_getElem?,Array.getElem?_append,hi]
        rw[e1,e2]
        exact hxa _ (by simp)
      · have hi2:i - xs.size<cap.length:=by simp at h;omega
        have e1:(xs.toList.map S.ev++cap)[i]=cap[i - xs.size]:=by rw[List.getElem_append_right (by simpa using hi)];simp
        have e2:(xs.map a.eval++cvs).getD i undef=cvs.getD (i - xs.size) undef:=by simp[Array.getD_eq_getD_getElem?,Array.getElem?_append,hi]
        rw[e1,e2]
        exact hcr _ hi2
    have hex:(execOp a.eval o).run P w=.ok (.enter f (xs.map a.eval++cvs)) w:=by
      have:=hen (xs.map a.eval++cvs) w
      unfold execOp
      simp only[ho,resolve,hef,Deferred.ofValue,Sem.run_bind,Sem.run_pure,Result.andThen_ok,invoke]
      simpa using this
    unfold Oper.wp
    rw[hex]
    simp only[Oper.upon]
    obtain⟨hlen',hcall⟩:=hc
    have hLk:=hl.len
    have hlt:∀i,i<hp.length→∃hi:i<L.length,rmap L S.nx i=L[i]:=fun i hi=>⟨by omega,zh1 _⟩
    have hLobj:∀i (hi:i<hp.length),∃o',S.obj (rmap L S.nx i)=some o'∧D (rmap L S.nx i)∧Stands D μ (zic S.obj μ F L n) w ((hp[i]).ren (rmap L S.nx)) (μ (rmap L S.nx i)):=fun i hi=>by
      obtain⟨o',h1,h2,h3⟩:=hl.objs i _ (List.getElem?_eq_getElem hi)
      obtain⟨g1,g2⟩:=hH.objs _ _ h1
      exact⟨o',h1,g1,zk5 hH L n g2 h2 h3⟩
    have hDr:∀i,D (rmap L S.nx i)→i<hp.length∧μ (rmap L S.nx i)=μ (rmap L S.nx i):=fun i hi=>⟨by have:=(zh2 hD hi).1;omega,rfl⟩
    have hFs:∀b,zic S.obj μ F L n b→b<w.heap.size:=fun b hb=>hb.elim (hH.fsz b) (fun⟨_,i,o,_,h2,h3⟩=>(hH.ok h2 h3).lt)
    have hnF:∀i b,i<hp.length→μ (rmap L S.nx i)=some b→¬zic S.obj μ F L n b:=fun i b hi hib hb=>by
      obtain⟨o',h1,_⟩:=hLobj i hi
      rcases hb with hb|⟨_,j,o2,g1,g2,g3⟩
      · exact(hH.own _ _ b h1 hib).2 hb
      · have:=hH.inj _ _ _ _ b h1 g2 hib g3
        obtain⟨hiL,e⟩:=hlt i hi
        rw[←this,e] at g1
        have:=List.contains_iff_mem.2 (List.getElem_mem hiL)
        rw[g1] at this;cases this
    have hHc:HeapSim ⟨w,fun b=>∃i,i<hp.length∧μ (rmap L S.nx i)=some b⟩ (zic S.obj μ F L n) (· < hp.length) (fun i=>μ (rmap L S.nx i)) (zic S.obj μ F L n) (fun i=>hp[i]?) w:=by
      refine⟨fun i ob hi=>?_,fun i j ob ob' b hi hj hib hjb=>?_,fun i ob b hi hib=>?_,Ext.refl _ _,fun b hb=>.inl hb,hFs⟩
      · have hik:=(List.getElem?_eq_some_iff.1 hi).1
        obtain⟨o',h1,h2,h3⟩:=hLobj i hik
        rw[(List.getElem?_eq_some_iff.1 hi).2] at h3
        exact⟨hik,h3.ren_inv hDr⟩
      · have hik:=(List.getElem?_eq_some_iff.1 hi).1
        have hjk:=(List.getElem?_eq_some_iff.1 hj).1
        obtain⟨o1,h1,_⟩:=hLobj i hik
        obtain⟨o2,h2,_⟩:=hLobj j hjk
        have e:=hH.inj _ _ _ _ b h1 h2 hib hjb
        obtain⟨hi2,e1⟩:=hlt i hik
        obtain⟨hj2,e2⟩:=hlt j hjk
        rw[e1,e2] at e
        exact zet hl.nodup hi2 hj2 e
      · have hik:=(List.getElem?_eq_some_iff.1 hi).1
        exact⟨.inr ⟨i,hik,hib⟩,hnF i b hik hib⟩
    have hargs:∀i (h:i<args.length),Rep (· < hp.length) (fun i=>μ (rmap L S.nx i)) (zic S.obj μ F L n) w args[i] ((xs.map a.eval++cvs).getD i undef):=fun i h=>by
      have hla:args.length=(xs.toList.map S.ev++cap).length:=by have:=congrArg List.length hl.args;simpa using this.symm
      have h1:=zib hH L n (hval i (by omega))
      have e:(args.map (PV.ren (rmap L S.nx)))[i]'(by simpa using h)=sealed S.obj (fun i=>L.contains i) n ((xs.toList.map S.ev++cap)[i]'(by omega)):=by
        have e1:args.map (PV.ren (rmap L S.nx))=(xs.toList.map S.ev++cap).map (sealed S.obj (fun i=>L.contains i) n):=hl.args.symm
        rw[gl e1,List.getElem_map]
      rw[←e,List.getElem_map] at h1
      exact h1.ren_inv hDr _ rfl
    have hla:(xs.map a.eval++cvs).size=args.length:=by have:=congrArg List.length hl.args;simp at this ⊢;omega
    refine(hcall _ _ w _ hHc hla hargs).mono fun e w' he=>?_
    obtain⟨v,rfl,μ',F',h1,h2,h3⟩:=he
    show next (a.put o.dst v) w'
    have hMown:∀b,(∃i,i<hp.length∧μ (rmap L S.nx i)=some b)→w0.own b∧¬F b:=fun b ⟨i,hi,hib⟩=>by
      obtain⟨o',g1,_⟩:=hLobj i hi
      exact hH.own _ _ b g1 hib
    have hunl:∀i ob b,L.contains i=false→S.obj i=some ob→μ i=some b→b<w.heap.size∧¬ ∃i,i<hp.length∧μ (rmap L S.nx i)=some b:=fun i ob b g1 g2 g3=>by
      refine⟨(hH.ok g2 g3).lt,fun⟨j,hj,hjb⟩=>?_⟩
      obtain⟨o',q1,_⟩:=hLobj j hj
      have:=hH.inj _ _ _ _ b g2 q1 g3 hjb
      obtain⟨hjL,e⟩:=hlt j hj
      rw[this,e] at g1
      have:=List.contains_iff_mem.2 (List.getElem_mem hjL)
      rw[g1] at this;cases this
    obtain ⟨F3,hF3,h1',h2',h5',h6',h7'⟩:∃F3:Nat→Prop,(∀b,F b→F3 b)∧Rep (· < hp.length+os.length) μ' F3 w' r v∧(∀i o,((hp'++os.map some)[i]?).join=some o→Stands (· < hp.length+os.length) μ' F3 w' o (μ' i))∧
        (∀b,F3 b→(F b∨w.heap.size≤b∨∃i,i<hp.length∧μ (rmap L S.nx i)=some b)∧b<w'.heap.size)∧(∀i o b,((hp'++os.map some)[i]?).join=some o→μ' i=some b→¬F3 b)∧
        (∀i ob b,L.contains i=false→S.obj i=some ob→μ i=some b→¬F3 b):=by
      have hnotF:∀i o b,((hp'++os.map some)[i]?).join=some o→μ' i=some b→¬F b:=fun i o b hi hib hbF=>by
        rcases(h2.own i o b hi hib).1 with h|h
        · have:=hH.fsz b hbF
          have:w.heap.size≤b:=h
          omega
        · exact(hMown b h).2 hbF
      rcases hfl with hn0|⟨hf1,hf2,hf3⟩
      · have hF':∀b,F' b→F b∨w.heap.size≤b∨∃i,i<hp.length∧μ (rmap L S.nx i)=some b:=fun b hb=>by
          rcases h2.f0 b hb with (h|h)|h
          · exact .inl h
          · exact absurd hn0 h.1
          · exact .inr h
        refine⟨fun b=>F b∨F' b,fun b h=>.inl h,h1.stay (Stay.refl _ _) (fun _ h=>⟨h,rfl⟩) (fun _ h=>.inr h),fun i o hi=>((h2.objs i o hi).2).stay (Stay.refl _ _) (fun _ h=>⟨h,rfl⟩) (fun _ h=>.inr h) (fun _ _=>rfl),fun b hbF=>?_,fun i o b hi hib hbF=>?_,fun i ob b g1 g2 g3 hbF=>?_⟩
        · rcases hbF with hbF|hbF
          · exact⟨.inl hbF,Nat.lt_of_lt_of_le (hH.fsz b hbF) h2.ext.size⟩
          · exact⟨hF' b hbF,h2.fsz b hbF⟩
        · exact hbF.elim (hnotF i o b hi hib) (h2.own i o b hi hib).2
        · obtain⟨q1,q2⟩:=hunl i ob b g1 g2 g3
          rcases hbF with hbF|hbF
          · exact(hH.own i ob b g2 g3).2 hbF
          · rcases hF' b hbF with h|h|h
            · exact(hH.own i ob b g2 g3).2 h
            · omega
            · exact q2 h
      · refine⟨F,fun b h=>h,h1.flatAny hf1,fun i o hi=>((h2.objs i o hi).2).flat ?_,fun b hbF=>⟨.inl hbF,Nat.lt_of_lt_of_le (hH.fsz b hbF) h2.ext.size⟩,hnotF,fun i ob b g1 g2 g3=>(hH.own i ob b g2 g3).2⟩
        cases hx:(hp'++os.map some)[i]? with
        | none=>rw[hx] at hi;cases hi
        | some m=>
          rw[hx] at hi
          have hm:m=some o:=hi
          subst hm
          rcases List.mem_append.1 (List.mem_of_getElem? hx) with hm|hm
          · exact List.all_eq_true.1 hf3 _ hm
          · obtain⟨o2,ho2,e⟩:=List.mem_map.1 hm
            cases e
            exact List.all_eq_true.1 hf2 _ ho2
    have hst:Stay F w w':=⟨h2.ext.sizes,fun b=>(h2.ext.kind b).cells,fun b=>(h2.ext.kind b).maps,fun b=>(h2.ext.kind b).iters,fun b es ck hbF hu=>(h2.ext.block b (hH.fsz b hbF) (fun hm=>(hMown b hm).2 hbF)).trans hu,fun b c u hbF hu=>by
      rw[World.cell?_of_block (h2.ext.block b (hH.fsz b hbF) (fun hm=>(hMown b hm).2 hbF))];exact hu⟩
    have hlen2:(os.map (AO.ren (pmap L S.nx))).length=os.length:=by simp
    have hold:∀i,D i→zeu S.nx os.length D i∧zb4 S.nx os.length μ (fun j=>μ' (hp.length+j)) i=μ i:=fun i hi=>⟨.inl hi,by
      unfold zb4
      rw[if_neg]
      rintro⟨g1,g2⟩
      have:=hD i hi
      omega⟩
    have hnew:∀i,i<hp.length+os.length→zeu S.nx os.length D (pmap L S.nx i)∧zb4 S.nx os.length μ (fun j=>μ' (hp.length+j)) (pmap L S.nx i)=μ' i:=fun i hi=>by
      by_cases hik:i<hp.length
      · obtain⟨hiL,e⟩:=hlt i hik
        obtain⟨o',_,g2,_⟩:=hLobj i hik
        rw[e] at g2
        have:=hold _ g2
        rw[zec hiL]
        refine⟨this.1,this.2.trans ?_⟩
        rw[h3 i hik,e]
      · rw[zc7 (by omega)]
        refine⟨.inr ⟨by omega,by omega⟩,?_⟩
        unfold zb4
        rw[if_pos ⟨by omega,by omega⟩]
        show μ' _=_
        congr 1;omega
    have key:∀j ob,(Eff.mk (os.map (AO.ren (pmap L S.nx))) (zbl L hp') (zaW (pmap L S.nx) L hp') rd).app S.nx S.obj j=some ob→
        (∃c oc,c<hp.length+os.length∧((hp'++os.map some)[c]?).join=some oc∧j=pmap L S.nx c∧ob=oc.ren (pmap L S.nx))∨(L.contains j=false∧S.obj j=some ob):=fun j ob hj=>by
      unfold Eff.app at hj
      simp only at hj
      by_cases hin:S.nx≤j∧j<S.nx+(os.map (AO.ren (pmap L S.nx))).length
      · rw[if_pos hin] at hj
        rw[hlen2] at hin
        have hjm:j - S.nx<os.length:=by omega
        rw[List.getElem?_map,List.getElem?_eq_getElem hjm] at hj
        cases hj
        refine .inl ⟨hp.length+(j - S.nx),os[j - S.nx],by omega,?_,?_,rfl⟩
        · rw[List.getElem?_append_right (by omega),hlen',Nat.add_sub_cancel_left,List.getElem?_map,List.getElem?_eq_getElem hjm];rfl
        · rw[zc7 (by omega)];omega
      · rw[if_neg hin] at hj
        by_cases hjL:j∈L
        · obtain⟨c,hc,rfl⟩:=List.getElem_of_mem hjL
          have hck:c<hp'.length:=by omega
          obtain⟨p1,p2,p3⟩:=zfJ (pmap L S.nx) L hp' hl.nodup c L[c] hp'[c] (List.getElem?_eq_getElem hc) (List.getElem?_eq_getElem hck)
          rw[p1] at hj
          cases hm:hp'[c] with
          | none=>rw[hm] at hj p2;simp only[Option.map_none] at hj;rw[if_pos (p2 rfl)] at hj;cases hj
          | some oc=>
            rw[hm] at hj
            simp only[Option.map_some,Option.some.injEq] at hj
            refine .inl ⟨c,oc,by omega,?_,(zec hc).symm,hj.symm⟩
            rw[List.getElem?_append_left hck,List.getElem?_eq_getElem hck,hm];rfl
        · obtain⟨p1,p2⟩:=zdk (pmap L S.nx) L hp' hjL
          rw[p1] at hj
          simp only[if_neg p2] at hj
          refine .inr ⟨?_,hj⟩
          cases hcn:L.contains j with
          | false=>rfl
          | true=>exact absurd (List.contains_iff_mem.1 hcn) hjL
    refine hn v w' (zeu S.nx os.length D) (zb4 S.nx os.length μ (fun j=>μ' (hp.length+j))) F3 (h1'.ren hnew) ?_ hst hold hF3 (fun i hi=>by rw[hlen2];exact hi)
    refine hH.step hst hold hF3 (hH.ext.trans2 h2.ext (fun b hb=>(hMown b hb).1)) (fun b hbF=>?_) (fun b hbF=>(h5' b hbF).2) fun i ob hi=>?_
    · rcases(h5' b hbF).1 with h|h|h
      · exact hH.f0 b h
      · exact .inr (hH.ext.own_lt _ h)
      · exact .inr (hMown b h).1
    rcases key i ob hi with ⟨c,oc,hc,hoc,rfl,rfl⟩|⟨g1,g2⟩
    · obtain⟨q1,q2⟩:=hnew c hc
      right
      rw[q2]
      refine⟨q1,(h2' c oc hoc).ren hnew,fun b hcb=>⟨?_,h6' c oc b hoc hcb,fun j o2 hj hj2 hjb=>?_⟩⟩
      · rcases(h2.own c oc b hoc hcb).1 with h|h
        · exact hH.ext.own_lt _ h
        · exact(hMown b h).1
      · rcases key j o2 hj2 with ⟨c',oc',hc',hoc',rfl,rfl⟩|⟨g1,g2⟩
        · rw[(hnew c' hc').2] at hjb
          exact hj (by rw[h2.inj c' c oc' oc b hoc' hoc hjb hcb])
        · rw[(hold j (hH.objs j o2 g2).1).2] at hjb
          obtain⟨q3,q4⟩:=hunl j o2 b g1 g2 hjb
          rcases(h2.own c oc b hoc hcb).1 with h|h
          · have:w.heap.size≤b:=h
            omega
          · exact q4 h
    · left
      refine⟨g2,fun b hib=>⟨?_,h7' i ob b g1 g2 hib⟩⟩
      obtain⟨q3,q4⟩:=hunl i ob b g1 g2 hib
      exact h2.ext.block b q3 q4
end
mutual
def PV.lowB (m:Nat):PV→Bool
  | .junk | .atom _ | .amp=>true
  | .agg l | .tup l | .sl _ l | .own _ l | .fptr _ l _ _ | .fn _ l | .fmp l=>lowL m l
  | .ob i _ _ _ | .ptr i _ _ _ | .mp i | .it i | .mark i | .is _ i=>decide (i<m)
def lowL (m:Nat):List PV→Bool
  | []=>true
  | p :: l=>p.lowB m && lowL m l
end
theorem zcz (m:Nat):∀l:List PV,lowL m l=l.all (PV.lowB m)
  | []=>rfl
  | p :: l=>by rw[lowL,zcz m l];rfl
theorem zgI{m:Nat}{p:PV}(h:p.lowB m=true):p.cells.all (PV.lowB m)=true:=by
  cases p<;>simp_all[PV.cells,PV.lowB,zcz]
section
variable {P:Program} {w0:Home} {F0 D D':Nat→Prop} {μ μ':Nat→Option Nat} {F F':Nat→Prop} {H:Nat→Option AO} {w w':World}
theorem Rep.ren_invL{q:PV}{v:Value}{ρ:Nat→Nat}{m:Nat}(h:Rep D μ F w q v) (hD:∀i,i<m→D (ρ i)→D' i∧μ' i=μ (ρ i)):∀p:PV,p.lowB m=true→p.ren ρ=q→Rep D' μ' F w p v:=by
  induction h with
  | junk v=>intro p hq hp;cases p<;>simp only[PV.ren] at hp<;>cases hp;exact .junk v
  | atom v=>intro p hq hp;cases p<;>simp only[PV.ren] at hp<;>cases hp;exact .atom v
  | agg l vs h1 _ ih=>
    intro p hq hp;cases p<;>simp only[PV.ren,za4] at hp<;>cases hp
    simp only[PV.lowB,zcz] at hq
    exact .agg _ vs (by simpa using h1) (fun i hi=>ih i (by simpa using hi) _ (zbj hq i hi) (by rw[getElem_map']))
  | tup l vs h1 _ ih=>
    intro p hq hp;cases p<;>simp only[PV.ren,za4] at hp<;>cases hp
    simp only[PV.lowB,zcz] at hq
    exact .tup _ vs (by simpa using h1) (fun i hi=>ih i (by simpa using hi) _ (zbj hq i hi) (by rw[getElem_map']))
  | sl0 sz a cap h1 h2 h3=>
    intro p hq hp
    cases p<;>simp only[PV.ren,za4] at hp<;>try (cases hp;done)
    simp only[PV.sl.injEq,List.map_eq_nil_iff] at hp
    obtain⟨rfl,rfl⟩:=hp
    exact .sl0 _ a cap h1 h2 h3
  | sl sz l b off cap g h1 h2 h3 h4 h5 _ ih=>
    intro p hq hp;cases p<;>simp only[PV.ren,za4] at hp<;>try (cases hp;done)
    rename_i sz' l'
    simp only[PV.sl.injEq] at hp
    obtain⟨rfl,rfl⟩:=hp
    simp only[PV.lowB,zcz] at hq
    have:=Rep.sl (D:=D') (μ:=μ') (F:=F) (w:=w) sz' l' b off cap g h1 (by simpa using h2) h3 (by simpa using h4)
      (fun k hk=>by have:=h5 k (by simpa using hk);rwa [getElem_map',zaX,List.length_map] at this)
      (fun k hk c hc=>ih k (by simpa using hk) c (by rw[getElem_map',zaX,List.length_map];exact hc) _ (zbj (zgI (zbj hq k hk)) c hc) (by simp[zaX]))
    simpa using this
  | ob i sz off len cap b h1 hb hk h2 h3 h4=>
    intro p hq hp;cases p<;>simp only[PV.ren] at hp<;>cases hp
    have hD:=hD _ (of_decide_eq_true hq)
    exact .ob _ sz off len cap b (hD h1).1 ((hD h1).2.trans hb) hk h2 h3 h4
  | obn i sz h1 hb=>
    intro p hq hp;cases p<;>simp only[PV.ren] at hp<;>cases hp
    have hD:=hD _ (of_decide_eq_true hq)
    exact .obn _ sz (hD h1).1 ((hD h1).2.trans hb)
  | ptr i sz k c b h1 hb hk=>
    intro p hq hp;cases p<;>simp only[PV.ren] at hp<;>cases hp
    have hD:=hD _ (of_decide_eq_true hq)
    exact .ptr _ sz k c b (hD h1).1 ((hD h1).2.trans hb) hk
  | mp i b h1 hb hk=>
    intro p hq hp;cases p<;>simp only[PV.ren] at hp<;>cases hp
    have hD:=hD _ (of_decide_eq_true hq)
    exact .mp _ b (hD h1).1 ((hD h1).2.trans hb) hk
  | it i b h1 hb hk=>
    intro p hq hp;cases p<;>simp only[PV.ren] at hp<;>cases hp
    have hD:=hD _ (of_decide_eq_true hq)
    exact .it _ b (hD h1).1 ((hD h1).2.trans hb) hk
  | mark i v h1 hb=>
    intro p hq hp;cases p<;>simp only[PV.ren] at hp<;>cases hp
    have hD:=hD _ (of_decide_eq_true hq)
    exact .mark _ v (hD h1).1 (by rw[(hD h1).2];exact hb)
  | fmp l b es ck h1 h2 h3 h4 _ ih=>
    intro p hq hp;cases p<;>simp only[PV.ren,za4] at hp<;>cases hp
    simp only[PV.lowB,zcz] at hq
    exact .fmp _ b es ck h1 h2 h3 (by simpa using h4) (fun j hj=>ih j (by simpa using hj) _ (zbj hq j hj) (by rw[getElem_map']))
  | is b i v h1 hb=>
    intro p hq hp;cases p<;>simp only[PV.ren] at hp<;>cases hp
    have hD:=hD _ (of_decide_eq_true hq)
    exact .is b _ v (hD h1).1 ((hD h1).2.trans hb)
  | amp ks v _ ih=>
    intro p hq hp;cases p<;>simp only[PV.ren] at hp<;>try (cases hp;done)
    exact .amp ks v (ih (.fmp (ks.map setE)) (by simp only[PV.lowB,zcz,List.all_map];exact List.all_eq_true.2 fun _ _=>rfl) (by simp only[PV.ren,za4,zcv]))
  | ampN => intro p hq hp;cases p<;>simp only[PV.ren] at hp<;>try (cases hp;done)
            exact .ampN
  | fptr sz l k c b off g h1 h2 h3 _ ih=>
    intro p hq hp;cases p<;>simp only[PV.ren,za4] at hp<;>try (cases hp;done)
    rename_i sz' l' k' c'
    simp only[PV.fptr.injEq] at hp
    obtain⟨rfl,rfl,rfl,rfl⟩:=hp
    simp only[PV.lowB,zcz] at hq
    exact .fptr sz' l' k' c' b off g h1 (by simpa using h2) (fun k hk=>by have:=h3 k (by simpa using hk);rwa [getElem_map',zaX,List.length_map] at this)
      (fun k hk c hc=>ih k (by simpa using hk) c (by rw[getElem_map',zaX,List.length_map];exact hc) _ (zbj (zgI (zbj hq k hk)) c hc) (by simp[zaX]))
  | fn f cap vs h1 _ ih=>
    intro p hq hp;cases p<;>simp only[PV.ren,za4] at hp<;>cases hp
    simp only[PV.lowB,zcz] at hq
    exact .fn f _ vs (by simpa using h1) (fun i hi=>ih i (by simpa using hi) _ (zbj hq i hi) (by rw[getElem_map']))
end
theorem Stands.ren_invL{D D':Nat→Prop}{μ μ':Nat→Option Nat}{F:Nat→Prop}{w:World}{o:AO}{m:Option Nat}{ρ:Nat→Nat}{n:Nat}(hq:o.els.all (PV.lowB n)=true) (h:Stands D μ F w (o.ren ρ) m) (hD:∀i,i<n→D (ρ i)→D' i∧μ' i=μ (ρ i)):Stands D' μ' F w o m:=by
  cases m with
  | none=>
    have h':(o.ren ρ).els=[]:=h
    show o.els=[]
    simpa[AO.ren] using h'
  | some b=>
    rcases h with ⟨A,e,h1,h2,h3,h4⟩|⟨es,ck,h1,h2,h3,h4⟩|⟨rem,cur,h6,h7⟩
    rotate_left
    · exact .inr (.inl ⟨es,ck,h1,h2,by simpa[AO.ren] using h3,fun j hj=>(h4 j (by simpa[AO.ren] using hj)).ren_invL hD _ (zbj hq j hj) (by simp[AO.ren])⟩)
    · have h9:∃q c,o.els=[q,c]∧q.ren ρ=.fmp rem∧c.ren ρ=cur:=by
        have h6':o.els.map (PV.ren ρ)=[.fmp rem,cur]:=h6
        rcases ho:o.els with _|⟨q,_|⟨q2,_|⟨q3,r⟩⟩⟩
        · rw[ho] at h6';simp at h6'
        · rw[ho] at h6';simp at h6'
        · rw[ho] at h6';simp at h6';exact⟨q,q2,rfl,h6'.1,h6'.2⟩
        · rw[ho] at h6';simp at h6'
      obtain⟨q,c,hqc,hr,hc⟩:=h9
      rw[hqc] at hq
      simp only[List.all_cons,List.all_nil,Bool.and_true,Bool.and_eq_true] at hq
      obtain⟨rem',rfl⟩:∃l,q=.fmp l:=by cases q<;>simp only[PV.ren] at hr<;>first|(cases hr;done)|exact⟨_,rfl⟩
      simp only[PV.ren,za4,PV.fmp.injEq] at hr
      subst hr
      subst hc
      exact .inr (.inr ⟨rem',c,hqc,h7.to rfl (fun m hm=>⟨hm,fun _ _ g=>g⟩) (by simp) (fun j hj _ v g=>g.ren_invL hD _ (by have:=hq.1;simp only[PV.lowB,zcz] at this;exact zbj this j (by assumption)) (by rw[getElem_map'])) (fun v g=>g.ren_invL hD _ hq.2 rfl) (fun e=>by cases c<;>simp only[PV.ren] at e<;>first|rfl|cases e)⟩)
    refine .inl ⟨A,e,h1,by simpa[AO.ren] using h2,fun k hk=>?_,fun k hk c hc=>?_⟩
    · have:=h3 k (by simpa[AO.ren] using hk)
      simpa[AO.ren,zaX] using this
    · have:=h4 k (by simpa[AO.ren] using hk) c (by simpa[AO.ren,zaX] using hc)
      exact this.ren_invL hD _ (zbj (zgI (zbj hq k hk)) c hc) (by simp[AO.ren,zaX])
section
variable {P:Program} {w0:Home} {F0 D D':Nat→Prop} {μ μ':Nat→Option Nat} {F F':Nat→Prop} {H H':Nat→Option AO} {w w':World}
theorem Sound.callProcD{fo:Operand}{xs:Array Operand}{ts:Array TypeId}{S:St}{f:FuncId}{cap args:List PV}{hp:List AO}{r:PV}{hp':List (Option AO)}{os:List AO}{L:List Nat}{rd:List Nat}
    (hrd:∀i,i∈L→i∈rd) (hlo:args.all (PV.lowB hp.length)=true) (hlo2:hp.all (fun o=>o.els.all (PV.lowB hp.length))=true)
    (hfo:S.ev fo=.fn f cap) (hen:zg2 P f) (hc:ProcCall P f args hp r hp' os) (hl:Lent S L 0 (xs.toList.map S.ev++cap) args hp):
    Sound P (.call ⟨.value fo,xs,ts⟩) S (r.ren (pmap L S.nx)) ⟨os.map (AO.ren (pmap L S.nx)),zbl L hp',zaW (pmap L S.nx) L hp',rd⟩:=by
  intro o a w0 F0 D μ F H w ho hH hxs hrdH hD next Q hn
  have hlrm:∀i,i<hp.length→rmap L S.nx i∈L:=fun i hi=>by rw[zh1 (by have:=hl.len;omega)];exact List.getElem_mem _
  have hHS:∀i,i<hp.length→H (rmap L S.nx i)=S.obj (rmap L S.nx i):=fun i hi=>hrdH _ (hrd _ (hlrm i hi))
  have hpf:=hxs fo (by simp[Op.operands,Call.operands])
  rw[hfo] at hpf
  have hxa:∀x,x∈xs.toList→Rep D μ F w (S.ev x) (a.eval x):=fun x hx=>hxs x (by simp only[Op.operands,Call.operands];simp at hx ⊢;exact .inr hx)
  generalize hef:a.eval fo=u at hpf
  cases hpf with
  | fn _ _ cvs hcs hcr=>
    have hval:∀i (h:i<(xs.toList.map S.ev++cap).length),Rep D μ F w ((xs.toList.map S.ev++cap)[i]) ((xs.map a.eval++cvs).getD i undef):=fun i h=>by
      by_cases hi:i<xs.size
      · have e1:(xs.toList.map S.ev++cap)[i]=S.ev xs[i]:=by rw[List.getElem_append_left (by simpa using hi)];simp
        have e2:(xs.map a.eval++cvs).getD i undef=a.eval xs[i]:=by simp[Array.getD_eq_getD_getElem?,Array.getElem?_append,hi]
        rw[e1,e2]
        exact hxa _ (by simp)
      · have hi2:i - xs.size<cap.length:=by simp at h;omega
        have e1:(xs.toList.map S.ev++cap)[i]=cap[i - xs.size]:=by rw[List.getElem_append_right (by simpa using hi)];simp
        have e2:(xs.map a.eval++cvs).getD i undef=cvs.getD (i - xs.size) undef:=by simp[Array.getD_eq_getD_getElem?,Array.getElem?_append,hi]
        rw[e1,e2]
        exact hcr _ hi2
    have hex:(execOp a.eval o).run P w=.ok (.enter f (xs.map a.eval++cvs)) w:=by
      have:=hen (xs.map a.eval++cvs) w
      unfold execOp
      simp only[ho,resolve,hef,Deferred.ofValue,Sem.run_bind,Sem.run_pure,Result.andThen_ok,invoke]
      simpa using this
    unfold Oper.wp
    rw[hex]
    simp only[Oper.upon]
    obtain⟨hlen',hcall⟩:=hc
    have hLk:=hl.len
    have hlt:∀i,i<hp.length→∃hi:i<L.length,rmap L S.nx i=L[i]:=fun i hi=>⟨by omega,zh1 _⟩
    have hLobj:∀i (hi:i<hp.length),∃o',H (rmap L S.nx i)=some o'∧D (rmap L S.nx i)∧Stands D μ F w ((hp[i]).ren (rmap L S.nx)) (μ (rmap L S.nx i)):=fun i hi=>by
      obtain⟨o',h1,h2,h3⟩:=hl.objs i _ (List.getElem?_eq_getElem hi)
      rw[←hHS i hi] at h1
      obtain⟨g1,g2⟩:=hH.objs _ _ h1
      have h3':o'.els=(hp[i]).els.map (PV.ren (rmap L S.nx)):=by
        rw[←h3];exact(List.map_id _).symm.trans (List.map_congr_left fun _ _=>rfl)
      have e:o'=(hp[i]).ren (rmap L S.nx):=by
        obtain⟨sz,els⟩:=o'
        simp only at h2 h3'
        rw[h2,h3'];rfl
      exact⟨o',h1,g1,e▸g2⟩
    have hDr:∀i,i<hp.length→D (rmap L S.nx i)→i<hp.length∧μ (rmap L S.nx i)=μ (rmap L S.nx i):=fun i hi _=>⟨hi,rfl⟩
    have hFs:∀b,F b→b<w.heap.size:=fun b hb=>hH.fsz b hb
    have hnF:∀i b,i<hp.length→μ (rmap L S.nx i)=some b→¬F b:=fun i b hi hib hb=>by
      obtain⟨o',h1,_⟩:=hLobj i hi
      exact(hH.own _ _ b h1 hib).2 hb
    have hHc:HeapSim ⟨w,fun b=>∃i,i<hp.length∧μ (rmap L S.nx i)=some b⟩ F (· < hp.length) (fun i=>μ (rmap L S.nx i)) F (fun i=>hp[i]?) w:=by
      refine⟨fun i ob hi=>?_,fun i j ob ob' b hi hj hib hjb=>?_,fun i ob b hi hib=>?_,Ext.refl _ _,fun b hb=>.inl hb,hFs⟩
      · have hik:=(List.getElem?_eq_some_iff.1 hi).1
        obtain⟨o',h1,h2,h3⟩:=hLobj i hik
        rw[(List.getElem?_eq_some_iff.1 hi).2] at h3
        exact⟨hik,h3.ren_invL (List.all_eq_true.1 hlo2 _ (List.mem_of_getElem? hi)) hDr⟩
      · have hik:=(List.getElem?_eq_some_iff.1 hi).1
        have hjk:=(List.getElem?_eq_some_iff.1 hj).1
        obtain⟨o1,h1,_⟩:=hLobj i hik
        obtain⟨o2,h2,_⟩:=hLobj j hjk
        have e:=hH.inj _ _ _ _ b h1 h2 hib hjb
        obtain⟨hi2,e1⟩:=hlt i hik
        obtain⟨hj2,e2⟩:=hlt j hjk
        rw[e1,e2] at e
        exact zet hl.nodup hi2 hj2 e
      · have hik:=(List.getElem?_eq_some_iff.1 hi).1
        exact⟨.inr ⟨i,hik,hib⟩,hnF i b hik hib⟩
    have hargs:∀i (h:i<args.length),Rep (· < hp.length) (fun i=>μ (rmap L S.nx i)) F w args[i] ((xs.map a.eval++cvs).getD i undef):=fun i h=>by
      have hla:args.length=(xs.toList.map S.ev++cap).length:=by have:=congrArg List.length hl.args;simpa using this.symm
      have h1:=hval i (by omega)
      have e:(args.map (PV.ren (rmap L S.nx)))[i]'(by simpa using h)=((xs.toList.map S.ev++cap)[i]'(by omega)):=by
        have e1:args.map (PV.ren (rmap L S.nx))=(xs.toList.map S.ev++cap):=hl.args.symm.trans ((List.map_congr_left fun _ _=>rfl).trans (List.map_id _))
        rw[gl e1]
      rw[←e,List.getElem_map] at h1
      exact h1.ren_invL hDr _ (zbj hlo i h) rfl
    have hla:(xs.map a.eval++cvs).size=args.length:=by have:=congrArg List.length hl.args;simp at this ⊢;omega
    refine(hcall _ _ w _ hHc hla hargs).mono fun e w' he=>?_
    obtain⟨v,rfl,μ',F',h1,h2,h3⟩:=he
    show next (a.put o.dst v) w'
    have hMown:∀b,(∃i,i<hp.length∧μ (rmap L S.nx i)=some b)→w0.own b∧¬F b:=fun b ⟨i,hi,hib⟩=>by
      obtain⟨o',g1,_⟩:=hLobj i hi
      exact hH.own _ _ b g1 hib
    have hunl:∀i ob b,L.contains i=false→H i=some ob→μ i=some b→b<w.heap.size∧¬ ∃i,i<hp.length∧μ (rmap L S.nx i)=some b:=fun i ob b g1 g2 g3=>by
      refine⟨(hH.ok g2 g3).lt,fun⟨j,hj,hjb⟩=>?_⟩
      obtain⟨o',q1,_⟩:=hLobj j hj
      have:=hH.inj _ _ _ _ b g2 q1 g3 hjb
      obtain⟨hjL,e⟩:=hlt j hj
      rw[this,e] at g1
      have:=List.contains_iff_mem.2 (List.getElem_mem hjL)
      rw[g1] at this;cases this
    obtain ⟨F3,hF3,h1',h2',h5',h6',h7'⟩:∃F3:Nat→Prop,(∀b,F b→F3 b)∧Rep (· < hp.length+os.length) μ' F3 w' r v∧(∀i o,((hp'++os.map some)[i]?).join=some o→Stands (· < hp.length+os.length) μ' F3 w' o (μ' i))∧
        (∀b,F3 b→(F b∨w.heap.size≤b∨∃i,i<hp.length∧μ (rmap L S.nx i)=some b)∧b<w'.heap.size)∧(∀i o b,((hp'++os.map some)[i]?).join=some o→μ' i=some b→¬F3 b)∧
        (∀i ob b,L.contains i=false→H i=some ob→μ i=some b→¬F3 b):=by
      have hnotF:∀i o b,((hp'++os.map some)[i]?).join=some o→μ' i=some b→¬F b:=fun i o b hi hib hbF=>by
        rcases(h2.own i o b hi hib).1 with h|h
        · have:=hH.fsz b hbF
          have:w.heap.size≤b:=h
          omega
        · exact(hMown b h).2 hbF
      · have hF':∀b,F' b→F b∨w.heap.size≤b∨∃i,i<hp.length∧μ (rmap L S.nx i)=some b:=fun b hb=>by
          rcases h2.f0 b hb with h|h
          · exact .inl h
          · exact .inr h
        refine⟨fun b=>F b∨F' b,fun b h=>.inl h,h1.stay (Stay.refl _ _) (fun _ h=>⟨h,rfl⟩) (fun _ h=>.inr h),fun i o hi=>((h2.objs i o hi).2).stay (Stay.refl _ _) (fun _ h=>⟨h,rfl⟩) (fun _ h=>.inr h) (fun _ _=>rfl),fun b hbF=>?_,fun i o b hi hib hbF=>?_,fun i ob b g1 g2 g3 hbF=>?_⟩
        · rcases hbF with hbF|hbF
          · exact⟨.inl hbF,Nat.lt_of_lt_of_le (hH.fsz b hbF) h2.ext.size⟩
          · exact⟨hF' b hbF,h2.fsz b hbF⟩
        · exact hbF.elim (hnotF i o b hi hib) (h2.own i o b hi hib).2
        · obtain⟨q1,q2⟩:=hunl i ob b g1 g2 g3
          rcases hbF with hbF|hbF
          · exact(hH.own i ob b g2 g3).2 hbF
          · rcases hF' b hbF with h|h|h
            · exact(hH.own i ob b g2 g3).2 h
            · omega
            · exact q2 h
    have hst:Stay F w w':=⟨h2.ext.sizes,fun b=>(h2.ext.kind b).cells,fun b=>(h2.ext.kind b).maps,fun b=>(h2.ext.kind b).iters,fun b es ck hbF hu=>(h2.ext.block b (hH.fsz b hbF) (fun hm=>(hMown b hm).2 hbF)).trans hu,fun b c u hbF hu=>by
      rw[World.cell?_of_block (h2.ext.block b (hH.fsz b hbF) (fun hm=>(hMown b hm).2 hbF))];exact hu⟩
    have hlen2:(os.map (AO.ren (pmap L S.nx))).length=os.length:=by simp
    have hold:∀i,D i→zeu S.nx os.length D i∧zb4 S.nx os.length μ (fun j=>μ' (hp.length+j)) i=μ i:=fun i hi=>⟨.inl hi,by
      unfold zb4
      rw[if_neg]
      rintro⟨g1,g2⟩
      have hDn:=hD (i - S.nx) (by simp;omega)
      rw[show S.nx+(i - S.nx)=i by omega] at hDn
      exact hDn hi⟩
    have hnew:∀i,i<hp.length+os.length→zeu S.nx os.length D (pmap L S.nx i)∧zb4 S.nx os.length μ (fun j=>μ' (hp.length+j)) (pmap L S.nx i)=μ' i:=fun i hi=>by
      by_cases hik:i<hp.length
      · obtain⟨hiL,e⟩:=hlt i hik
        obtain⟨o',_,g2,_⟩:=hLobj i hik
        rw[e] at g2
        have:=hold _ g2
        rw[zec hiL]
        refine⟨this.1,this.2.trans ?_⟩
        rw[h3 i hik,e]
      · rw[zc7 (by omega)]
        refine⟨.inr ⟨by omega,by omega⟩,?_⟩
        unfold zb4
        rw[if_pos ⟨by omega,by omega⟩]
        show μ' _=_
        congr 1;omega
    have key:∀j ob,(Eff.mk (os.map (AO.ren (pmap L S.nx))) (zbl L hp') (zaW (pmap L S.nx) L hp') rd).app S.nx H j=some ob→
        (∃c oc,c<hp.length+os.length∧((hp'++os.map some)[c]?).join=some oc∧j=pmap L S.nx c∧ob=oc.ren (pmap L S.nx))∨(L.contains j=false∧H j=some ob):=fun j ob hj=>by
      unfold Eff.app at hj
      simp only at hj
      by_cases hin:S.nx≤j∧j<S.nx+(os.map (AO.ren (pmap L S.nx))).length
      · rw[if_pos hin] at hj
        rw[hlen2] at hin
        have hjm:j - S.nx<os.length:=by omega
        rw[List.getElem?_map,List.getElem?_eq_getElem hjm] at hj
        cases hj
        refine .inl ⟨hp.length+(j - S.nx),os[j - S.nx],by omega,?_,?_,rfl⟩
        · rw[List.getElem?_append_right (by omega),hlen',Nat.add_sub_cancel_left,List.getElem?_map,List.getElem?_eq_getElem hjm];rfl
        · rw[zc7 (by omega)];omega
      · rw[if_neg hin] at hj
        by_cases hjL:j∈L
        · obtain⟨c,hc,rfl⟩:=List.getElem_of_mem hjL
          have hck:c<hp'.length:=by omega
          obtain⟨p1,p2,p3⟩:=zfJ (pmap L S.nx) L hp' hl.nodup c L[c] hp'[c] (List.getElem?_eq_getElem hc) (List.getElem?_eq_getElem hck)
          rw[p1] at hj
          cases hm:hp'[c] with
          | none=>rw[hm] at hj p2;simp only[Option.map_none] at hj;rw[if_pos (p2 rfl)] at hj;cases hj
          | some oc=>
            rw[hm] at hj
            simp only[Option.map_some,Option.some.injEq] at hj
            refine .inl ⟨c,oc,by omega,?_,(zec hc).symm,hj.symm⟩
            rw[List.getElem?_append_left hck,List.getElem?_eq_getElem hck,hm];rfl
        · obtain⟨p1,p2⟩:=zdk (pmap L S.nx) L hp' hjL
          rw[p1] at hj
          simp only[if_neg p2] at hj
          refine .inr ⟨?_,hj⟩
          cases hcn:L.contains j with
          | false=>rfl
          | true=>exact absurd (List.contains_iff_mem.1 hcn) hjL
    refine hn v w' (zeu S.nx os.length D) (zb4 S.nx os.length μ (fun j=>μ' (hp.length+j))) F3 (h1'.ren hnew) ?_ hst hold hF3 (fun i hi=>by rw[hlen2];exact hi)
    refine hH.step hst hold hF3 (hH.ext.trans2 h2.ext (fun b hb=>(hMown b hb).1)) (fun b hbF=>?_) (fun b hbF=>(h5' b hbF).2) fun i ob hi=>?_
    · rcases(h5' b hbF).1 with h|h|h
      · exact hH.f0 b h
      · exact .inr (hH.ext.own_lt _ h)
      · exact .inr (hMown b h).1
    rcases key i ob hi with ⟨c,oc,hc,hoc,rfl,rfl⟩|⟨g1,g2⟩
    · obtain⟨q1,q2⟩:=hnew c hc
      right
      rw[q2]
      refine⟨q1,(h2' c oc hoc).ren hnew,fun b hcb=>⟨?_,h6' c oc b hoc hcb,fun j o2 hj hj2 hjb=>?_⟩⟩
      · rcases(h2.own c oc b hoc hcb).1 with h|h
        · exact hH.ext.own_lt _ h
        · exact(hMown b h).1
      · rcases key j o2 hj2 with ⟨c',oc',hc',hoc',rfl,rfl⟩|⟨g1,g2⟩
        · rw[(hnew c' hc').2] at hjb
          exact hj (by rw[h2.inj c' c oc' oc b hoc' hoc hjb hcb])
        · rw[(hold j (hH.objs j o2 g2).1).2] at hjb
          obtain⟨q3,q4⟩:=hunl j o2 b g1 g2 hjb
          rcases(h2.own c oc b hoc hcb).1 with h|h
          · have:w.heap.size≤b:=h
            omega
          · exact q4 h
    · left
      refine⟨g2,fun b hib=>⟨?_,h7' i ob b g1 g2 hib⟩⟩
      obtain⟨q3,q4⟩:=hunl i ob b g1 g2 hib
      exact h2.ext.block b q3 q4
theorem Sound.weakSet{op:Op}{S:St}{r:PV}{add:List AO}{del:List Nat}{set set':List (Nat×AO)}{rd:List Nat}(h:Sound P op S r ⟨add,del,set,rd⟩)
    (hs:∀i,lk set' i=lk set i∨(lk set' i=none∧i∈rd∧i∉del∧∃o,lk set i=some o∧S.obj i=some o)):Sound P op S r ⟨add,del,set',rd⟩:=by
  intro o a w0 F0 D μ F H w ho hH hx hrd hD next Q hn
  refine h o a w0 F0 D μ F H w ho hH hx hrd hD next Q fun v w' D' μ' F' h1 h2 h3 h4 h5 h6=>hn v w' D' μ' F' h1 ?_ h3 h4 h5 h6
  have e:(Eff.mk add del set' rd).app S.nx H=(Eff.mk add del set rd).app S.nx H:=by
    funext i
    unfold Eff.app
    simp only
    split
    · rfl
    · rcases hs i with e|⟨e1,e2,e3,o,e4,e5⟩
      · rw[e]
      · rw[e1,e4]
        simp only[if_neg e3]
        rw[hrd i e2,e5]
  rw[e];exact h2
end
end Go.Proofs.Ytehoglapajkabaa
