/-
  The clean machine: a run over a frozen map.
-/
import Derived.Test.YtehoglapajkabaaIVM
import Derived.Maps.RangeRun
import Derived.Shelf.Abstract
set_option linter.all false
namespace Go.Proofs.Ytehoglapajkabaa
open Go Go.RowKit
section
variable {P:Program} {w0:Home} {F0 D D':Nat→Prop} {μ μ':Nat→Option Nat} {F F':Nat→Prop} {H:Nat→Option AO} {w w':World}
theorem HeapSim.newIter (hH:HeapSim w0 F0 D μ F H w) (n:Nat) (hD:¬D n) (x:Obj) (o:AO) (hx:∃m s y t,x=.mapIter m s y t) (hok:∀w',w'.heap[w.heap.size]? = some x→Stay F w w'→IterOk (also D n) (upd μ n (some w.heap.size)) F w' w.heap.size o):
    HeapSim w0 F0 (also D n) (upd μ n (some w.heap.size)) F (upd H n (some o)) (w.alloc x)∧Stay F w (w.alloc x)∧isIter (w.alloc x) w.heap.size:=by
  have hb:Bel w (w.alloc x):=Bel.alloc w x
  have hnew:(w.alloc x).heap[w.heap.size]? = some x:=heap_alloc_new w _
  have hst:Stay F w (w.alloc x):=Stay.below hb.1
  have hki:isIter (w.alloc x) w.heap.size:=by obtain⟨m,s,y,t,rfl⟩:=hx;exact⟨m,s,y,t,hnew⟩
  refine⟨?_,hst,hki⟩
  refine hH.step hst (zeM _ hD) (fun _ h=>h) (hH.ext.trans hb) hH.f0 (fun b hb'=>Nat.lt_of_lt_of_le (hH.fsz b hb') hb.size) fun j o' hj=>?_
  by_cases hji:j=n
  · subst hji
    rw[zbg] at hj
    obtain rfl:=Option.some.inj hj
    rw[zbg]
    refine .inr ⟨.inr rfl,.inr (.inr (hok _ hnew hst)),fun b hbm=>?_⟩
    cases hbm
    refine⟨.inl hH.ext.size,fun hF=>absurd (hH.fsz _ hF) (Nat.lt_irrefl _),fun k o2 hk hk2 e=>?_⟩
    rw[zby _ _ hk] at hk2 e
    exact absurd (hH.ok hk2 e).lt (Nat.lt_irrefl _)
  · rw[zby _ _ hji] at hj
    exact .inl ⟨hj,fun b hjb=>⟨hb.block _ (hH.ok hj hjb).lt,(hH.own j o' b hj hjb).2⟩⟩
theorem zhA (es:Array MapEntry):zcO es #[]=es:=by
  unfold zcO
  rw[Array.filter_eq_self]
  intro x _;simp
theorem Sound.rangeF{t k e:TypeId}{x:Operand}{S:St}{l:List PV}(hx:S.ev x=.fmp l) (ht:tMap P t=some (k,e)):Sound P (.range t x) S (.it S.nx) ⟨[⟨0,[.fmp l,.junk]⟩],[],[],[]⟩:=
  Sound.makes fun o a w0 F0 D μ F H w ho hH hxs hr hD=>by
    have hp:=hxs x (by simp[Op.operands])
    rw[hx] at hp
    generalize he:a.eval x=u at hp
    cases hp with
    | fmp _ b es ck hF hm a2 a3 a4=>
      obtain⟨es0,a1,hpm⟩:=hm
      obtain⟨h1,h2,h3⟩:=hH.newIter S.nx hD (.mapIter (some b) ck #[] ck) ⟨0,[.fmp l,.junk]⟩ ⟨_,_,_,_,rfl⟩ fun w' hw' hst=>⟨l,.junk,rfl,.inl ⟨b,#[],es,ck,hw',hF,hst.mapAt hF ⟨es0,a1,hpm⟩,a2,by rw[zhA];exact a3,fun j hj=>by rw[zhA];exact(a4 j hj).stay hst (zeM _ hD) (fun _ h=>h),.inl rfl⟩⟩
      refine⟨.pointer (some ⟨w.heap.size,0,none⟩),_,some w.heap.size,?_,.it _ _ (.inr rfl) (zbg _ _ _) h3,h1,h2⟩
      unfold execOp
      simp[ho,he,Instr.range,run_underlying (zcT ht),MapKept.run_getObj_map a1,Result.andThen,newObj]
      rfl
theorem Sound.rangeN{t k e:TypeId}{x:Operand}{S:St}(hx:S.ev x=.atom (.map none)) (ht:tMap P t=some (k,e)):Sound P (.range t x) S (.it S.nx) ⟨[⟨0,[.fmp [],.junk]⟩],[],[],[]⟩:=
  Sound.makes fun o a w0 F0 D μ F H w ho hH hxs hr hD=>by
    have hp:=hxs x (by simp[Op.operands])
    rw[hx] at hp
    have he:=zcV hp
    obtain⟨h1,h2,h3⟩:=hH.newIter S.nx hD (.mapIter none 0 #[] 0) ⟨0,[.fmp [],.junk]⟩ ⟨_,_,_,_,rfl⟩ fun w' hw' hst=>⟨[],.junk,rfl,.inr ⟨0,#[],0,hw',rfl,rfl⟩⟩
    refine⟨.pointer (some ⟨w.heap.size,0,none⟩),_,some w.heap.size,?_,.it _ _ (.inr rfl) (zbg _ _ _) h3,h1,h2⟩
    unfold execOp
    simp[ho,he,Instr.range,run_underlying (zcT ht),Result.andThen,newObj]
    rfl
def zje:PV→PV×PV
  | .tup [k,v]=>(k,v)
  | _=>(.junk,.junk)
theorem zqx{p:PV}{k v:Value}(h:Rep D μ F w p (.tuple #[k,v])):Rep D μ F w (zje p).1 k∧Rep D μ F w (zje p).2 v:=by
  unfold zje
  split
  · cases h with
    | tup _ _ _ hr=>exact⟨by simpa using hr 0 (by simp),by simpa using hr 1 (by simp)⟩
  · exact⟨.junk _,.junk _⟩
theorem zf0:∀ {l:List MapEntry},(l.map (·.born)).Nodup→∀ {j:Nat}(hj:j<l.length),l.filter (fun e=>e.born != l[j].born)=l.eraseIdx j
  | [],_,j,hj=>by simp at hj
  | x :: r,h,j,hj=>by
    rw[List.map_cons,List.nodup_cons] at h
    cases j with
    | zero=>
      simp only[List.getElem_cons_zero,List.eraseIdx_cons_zero,List.filter_cons,bne_self_eq_false,Bool.false_eq_true,if_false]
      rw[List.filter_eq_self]
      intro e he
      simp only[bne_iff_ne,ne_eq]
      exact fun g=>h.1 (List.mem_map.2 ⟨e,he,g⟩)
    | succ j=>
      have hj':j<r.length:=by simpa using hj
      simp only[List.getElem_cons_succ,List.eraseIdx_cons_succ,List.filter_cons]
      rw[if_pos (by
        simp only[bne_iff_ne,ne_eq]
        exact fun g=>h.1 (List.mem_map.2 ⟨r[j],List.getElem_mem hj',g.symm⟩)),zf0 h.2 hj']
theorem znJ{es:Array MapEntry}{seen:Array Nat}{ck:Nat}(hb:zeN es ck) {j:Nat}(hj:j<(zcO es seen).size):(zcO es (seen.push (zcO es seen)[j].born)).toList=(zcO es seen).toList.eraseIdx j:=by
  have hnd:(es.toList.map (·.born)).Nodup:=by
    rw[List.Nodup,List.pairwise_iff_getElem]
    intro i k hi hk hik e
    simp at hi hk
    have:=hb.2.1 i k hi hk (by simpa using e)
    omega
  have hnd2:((zcO es seen).toList.map (·.born)).Nodup:=by
    unfold zcO
    rw[Array.toList_filter]
    exact hnd.sublist ((List.filter_sublist).map _)
  rw[←zf0 hnd2 (by simpa using hj),show(zcO es seen).toList[j]'(by simpa using hj)=(zcO es seen)[j] by simp]
  generalize (zcO es seen)[j].born=bj
  unfold zcO
  simp only[Array.toList_filter,List.filter_filter]
  congr 1
  funext e
  rw[Bool.eq_iff_iff]
  simp only[Array.contains_push,Bool.not_or,Bool.and_eq_true,Bool.not_eq_true',bne_iff_ne,ne_eq,beq_eq_false_iff_ne]
  exact And.comm
def NextR (i:Nat) (sz:Nat) (rem:List PV) (r:PV) (e:Eff):Prop:=
  (rem=[]∧r=.tup [.atom (.bool false)]∧e=⟨[],[],[],[i]⟩)∨
  ∃j,j<rem.length∧r=.tup [.atom (.bool true),(zje (rem.getD j .junk)).1,(zje (rem.getD j .junk)).2]∧e=⟨[],[],[(i,⟨sz,[.fmp (rem.eraseIdx j),rem.getD j .junk]⟩)],[i]⟩
theorem tup_rep3{p q r:PV}{a b c:Value}(h1:Rep D μ F w p a) (h2:Rep D μ F w q b) (h3:Rep D μ F w r c):Rep D μ F w (.tup [p,q,r]) (.tuple #[a,b,c]):=by
  refine .tup _ _ rfl fun i hi=>?_
  match i,hi with
  | 0,_=>simpa using h1
  | 1,_=>simpa using h2
  | 2,_=>simpa using h3
theorem zgB{w1:World}{b:Nat}(h:w1.heap=w.heap) (hm:isIter w b) (hF:¬F b) (m:Option Nat) (s:Nat) (x:Array Nat) (t:Nat):Stay F w (putB w1 b (.mapIter m s x t))∧∀c,Kind w (putB w1 b (.mapIter m s x t)) c:=by
  have hat:(putB w1 b (.mapIter m s x t)).heap[b]? = some (.mapIter m s x t):=zgC (by rw[h];exact hm.lt) _
  have hoth:∀c,c≠b→(putB w1 b (.mapIter m s x t)).heap[c]? = w.heap[c]? := fun c hc=>by rw[zco _ hc,h]
  have hkb:Kind w (putB w1 b (.mapIter m s x t)) b:=Kind.iters' hm ⟨_,_,_,_,hat⟩
  refine⟨Stay.of_block b hF ?_ hkb fun c _ hc=>hoth c hc,fun c=>?_⟩
  · obtain⟨_,_,_,_,h1⟩:=hm
    simp[zbS,h1]
  · by_cases hc:c=b
    · subst hc;exact hkb
    · exact Kind.same (hoth c hc)
theorem putI_ext{w1:World}{B:Home}{b:Nat}(h:w1.heap=w.heap) (ho:w1.os=w.os) (ht:w1.tape=w.tape) (hout:w1.output=w.output) (hdr:w.drawn≤w1.drawn) (hm:isIter w b) (hE:Ext B w) (hb:B.own b) (m:Option Nat) (s:Nat) (x:Array Nat) (t:Nat):Ext B (putB w1 b (.mapIter m s x t)):=by
  have hk:=(zgB (F:=fun _=>False) h hm id m s x t).2
  refine⟨ho.trans hE.os,ht.trans hE.tape,hout.trans hE.output,by simp only[putB,Array.size_setIfInBounds];rw[h];exact hE.size,fun k hk hM=>?_,fun c=>(hE.kind c).trans (hk c),fun c=>Nat.le_trans (hE.sizes c) ((zgB (F:=fun _=>False) h hm id m s x t).1.size c),Nat.le_trans hE.drawn hdr⟩
  rw[zco _ (by rintro rfl;exact hb.elim (fun h=>by omega) hM),h]
  exact hE.block k hk hM
theorem SoundR.next{x:Operand}{S:St}{i:Nat}{o:AO}{rem:List PV}{cur:PV}(hx:S.ev x=.it i) (ho:S.obj i=some o) (he:o.els=[.fmp rem,cur]):SoundR P (.next x false) S (NextR i o.sz rem):=by
  intro op a w0 F0 D μ F w hop hH hxs hD next Q hn
  have hp:=hxs x (by simp[Op.operands])
  rw[hx] at hp
  generalize hev:a.eval x=u at hp
  cases hp with
  | it _ b hDi hb hkd=>
    obtain⟨rem',cur',h1,h2⟩:=hH.iterOk ho hb hkd
    rw[he] at h1
    simp only[List.cons.injEq,PV.fmp.injEq,and_true] at h1
    obtain⟨rfl,rfl⟩:=h1
    have over:rem=[]→(execOp a.eval op).run P w=.ok (.value (.tuple #[.bool false])) w→op.wp P a w next Q:=fun hr hrun=>by
      unfold Oper.wp
      rw[hrun]
      refine hn _ _ _ w D μ F (.inl ⟨hr,rfl,rfl⟩) ?_ (by rw[Eff.app_e0];exact hH) (Stay.refl _ _) (fun _ h=>⟨h,rfl⟩) (fun _ h=>h) (fun _ h=>.inl h)
      refine .tup _ _ rfl fun i hi=>?_
      match i,hi with
      | 0,_=>simpa using Rep.atom _
    rcases h2 with ⟨m,seen,es,ck,g1,g2,⟨es0,g3,hpm⟩,g4,g5,g6,g7⟩|⟨s,y,t,g1,g2,g3⟩
    · have hold:∀e∈es0.toList,e.born<ck:=fun e hm=>by
        obtain⟨j,hj,rfl⟩:=List.getElem_of_mem (hpm.mem_iff.2 hm)
        have:=g4.1 j (by simpa using hj)
        simpa using this
      have hleft:(zcO es seen).toList.Perm (leftOf es0 seen).toList:=by
        unfold zcO leftOf
        rw[Array.toList_filter,Array.toList_filter]
        exact hpm.filter _
      rcases run_next_at (P:=P) w op.type b m ck ck seen es0 ck g1 g3 hold (Nat.le_refl _) with ⟨k1,k2⟩|⟨e,k1,w1,k2,k3⟩
      · refine over ?_ ?_
        · have:=hleft.length_eq
          rw[Array.length_toList,Array.length_toList,k1,g5] at this
          exact List.eq_nil_of_length_eq_zero this
        · unfold execOp
          simp[hop,hev,k2]
      · obtain⟨j,hj,hje⟩:=List.getElem_of_mem (hleft.mem_iff.2 k1)
        have hjl:j<(zcO es seen).size:=by simpa using hj
        have hjr:j<rem.length:=by omega
        have hje':(zcO es seen)[j]=e:=by simpa using hje
        have hrj:=g6 j hjr
        have hent:entV (zcO es seen) j=.tuple #[e.key,e.val]:=by
          unfold entV
          have:(zcO es seen).getD j default=e:=by simp[Array.getD_eq_getD_getElem?,hjl,hje']
          rw[this]
        rw[hent] at hrj
        have hgd:rem.getD j .junk=rem[j]:=by simp[List.getD_eq_getElem?_getD,hjr]
        have hheap:w1.heap=w.heap∧w1.os=w.os∧w1.tape=w.tape∧w1.output=w.output∧w.drawn≤w1.drawn:=by rcases k2 with rfl|rfl<;>exact⟨rfl,rfl,rfl,rfl,by first|exact Nat.le_refl _|exact Nat.le_succ _⟩
        obtain⟨hown,hnF⟩:=hH.own i o b ho hb
        obtain⟨hst,-⟩:=zgB (F:=F) hheap.1 hkd hnF (some m) ck (seen.push e.born) ck
        have hE:=putI_ext hheap.1 hheap.2.1 hheap.2.2.1 hheap.2.2.2.1 hheap.2.2.2.2 hkd hH.ext hown (some m) ck (seen.push e.born) ck
        have hmem:e∈es.toList:=by
          have:e∈(zcO es seen).toList:=hleft.mem_iff.2 k1
          unfold zcO at this
          rw[Array.toList_filter] at this
          exact(List.mem_filter.1 this).1
        have hpush:(zcO es (seen.push e.born)).toList=(zcO es seen).toList.eraseIdx j:=by
          have:=znJ g4 hjl
          rw[hje'] at this;exact this
        have hat:IterAt D μ F (putB w1 b (.mapIter (some m) ck (seen.push e.born) ck)) b (rem.eraseIdx j) rem[j]:=by
          refine .inl ⟨m,seen.push e.born,es,ck,zgC (by rw[hheap.1];exact hkd.lt) _,g2,hst.mapAt g2 ⟨es0,g3,hpm⟩,g4,?_,fun k hk=>?_,.inr ⟨e,hmem,by simp,hrj.stay hst (fun _ h=>⟨h,rfl⟩) (fun _ h=>h)⟩⟩
          · have:=congrArg List.length hpush
            rw[Array.length_toList,List.length_eraseIdx,Array.length_toList,g5] at this
            rw[this,List.length_eraseIdx]
          · have hkl:k<rem.length - 1:=by rw[List.length_eraseIdx,if_pos hjr] at hk;exact hk
            have e1:entV (zcO es (seen.push e.born)) k=entV (zcO es seen) (if k<j then k else k+1):=by
              unfold entV
              have:∀(A:Array MapEntry) (k:Nat),A.getD k default=(A.toList[k]?).getD default:=fun A k=>by simp[Array.getD_eq_getD_getElem?]
              rw[this,this,hpush,List.getElem?_eraseIdx]
              split<;>rfl
            have e2:(rem.eraseIdx j)[k]=rem[if k<j then k else k+1]'(by split<;>omega):=by
              rw[List.getElem_eraseIdx]
              split<;>rfl
            rw[e1,e2]
            exact(g6 _ _).stay hst (fun _ h=>⟨h,rfl⟩) (fun _ h=>h)
        have hS:=hH.set i o b ho hb ⟨o.sz,[.fmp (rem.eraseIdx j),rem[j]]⟩ hst hE (by simp only[putB,Array.size_setIfInBounds];rw[hheap.1];exact Nat.le_refl _) (.inr (.inr ⟨_,_,rfl,hat⟩)) (fun c _ hc=>by rw[zco _ hc,hheap.1])
        have hrun:(execOp a.eval op).run P w=.ok (.value (.tuple #[.bool true,e.key,e.val])) (putB w1 b (.mapIter (some m) ck (seen.push e.born) ck)):=by
          unfold execOp
          simp[hop,hev,k3]
          rfl
        unfold Oper.wp
        rw[hrun]
        obtain⟨q1,q2⟩:=zqx hrj
        refine hn _ _ _ _ D μ F (.inr ⟨j,hjr,rfl,rfl⟩) ?_ ?_ hst (fun _ h=>⟨h,rfl⟩) (fun _ h=>h) (fun _ h=>.inl h)
        · rw[hgd]
          exact tup_rep3 (.atom _) (q1.stay hst (fun _ h=>⟨h,rfl⟩) (fun _ h=>h)) (q2.stay hst (fun _ h=>⟨h,rfl⟩) (fun _ h=>h))
        · rw[Eff.app_set,hgd];exact hS
    · refine over g2 ?_
      unfold execOp
      simp[hop,hev,Instr.next,getObj,Sem.run,g1,Result.andThen]
theorem Sound.entry{x:Operand}{S:St}{i:Nat}{o:AO}{q:PV}{l:List PV}(hx:S.ev x=.it i) (ho:S.obj i=some o) (he:o.els=[q,.tup l]):Sound P (.entry x) S (.tup l) ⟨[],[],[],[i]⟩:=Sound.quiet fun op a w0 F0 D μ F H w hop hH hxs hr=>by
  have hp:=hxs x (by simp[Op.operands])
  rw[hx] at hp
  have hi:H i=some o:=(hr i (by simp)).trans ho
  generalize hev:a.eval x=u at hp
  cases hp with
  | it _ b hDi hb hkd=>
    obtain⟨rem',cur',h1,h2⟩:=hH.iterOk hi hb hkd
    rw[he] at h1
    simp only[List.cons.injEq,and_true] at h1
    obtain⟨-,rfl⟩:=h1
    rcases h2 with ⟨m,seen,es,ck,g1,g2,⟨es0,g3,hpm⟩,g4,g5,g6,g7⟩|⟨s,y,t,g1,g2,g3⟩
    · rcases g7 with g7|⟨e,k1,k2,k3⟩
      · cases g7
      · obtain⟨seen',rfl⟩:∃s':Array Nat,seen=s'.push e.born:=by
          have hne:seen.size≠0:=fun h0=>by
            have:seen = #[]:=Array.eq_empty_of_size_eq_zero h0
            subst this;simp at k2
          refine⟨seen.pop,?_⟩
          have hb2:=k2
          rw[Array.back?_eq_getElem?] at hb2
          apply Array.ext'
          have e3:seen.toList≠[]:=fun h0=>hne (by simpa using congrArg List.length h0)
          rw[Array.toList_push,Array.toList_pop]
          have e4:seen.toList.getLast e3=e.born:=by
            rw[List.getLast_eq_getElem]
            have h5:seen.size - 1<seen.size:=by omega
            rw[Array.getElem?_eq_getElem h5] at hb2
            simpa using Option.some.inj hb2
          rw[←e4];exact(List.dropLast_concat_getLast e3).symm
        have hnd:(es0.toList.map (·.born)).Nodup:=by
          refine(hpm.map _).nodup_iff.1 ?_
          rw[List.Nodup,List.pairwise_iff_getElem]
          intro i k hi hk hik e
          simp at hi hk
          have:=g4.2.1 i k hi hk (by simpa using e)
          omega
        refine⟨_,?_,k3⟩
        unfold execOp
        simp[hop,hev,run_entry_at (P:=P) w b m ck seen' es0 ck e g1 g3 (hpm.mem_iff.1 k1) hnd]
    · cases g3
theorem zkZ{α β:Type}(f:α→β):∀ {a b:List β},a.Perm b→∀l:List α,l.map f=a→∃m,l.Perm m∧m.map f=b:=by
  intro a b h
  induction h with
  | nil=>intro l hl;exact⟨l,List.Perm.refl _,hl⟩
  | cons x h ih=>
    intro l hl
    cases l with
    | nil=>simp at hl
    | cons y r=>
      rw[List.map_cons,List.cons.injEq] at hl
      obtain⟨m,h1,h2⟩:=ih r hl.2
      exact⟨y :: m,h1.cons y,by rw[List.map_cons,h2,hl.1]⟩
  | swap x y l=>
    intro l2 hl
    rcases l2 with _|⟨p,_|⟨q,r⟩⟩
    · simp at hl
    · simp at hl
    · simp only[List.map_cons,List.cons.injEq] at hl
      exact⟨q :: p :: r,List.Perm.swap _ _ _,by simp[hl.1,hl.2.1,hl.2.2]⟩
  | trans h1 h2 ih1 ih2=>
    intro l hl
    obtain⟨m,g1,g2⟩:=ih1 l hl
    obtain⟨m2,g3,g4⟩:=ih2 m g2
    exact⟨m2,g1.trans g3,g4⟩
theorem zfo{α:Type}(l:List α):l.Nodup↔∀i j (h:i<l.length) (h2:j<l.length),l[i]=l[j]→i=j:=by
  constructor
  · intro hn i j h h2 e
    have hp:=List.pairwise_iff_getElem.1 hn
    rcases Nat.lt_trichotomy i j with g|g|g
    · exact absurd e (hp i j h h2 g)
    · exact g
    · exact absurd e.symm (hp j i h2 h g)
  · intro hi
    rw[List.Nodup,List.pairwise_iff_getElem]
    intro i j h h2 g e
    have:=hi i j h h2 e
    omega
theorem zmC (es:Array MapEntry) (ck:Nat):zeN es ck↔(∀e∈es.toList,e.born<ck)∧(es.toList.map (·.born)).Nodup∧(es.toList.map (·.key)).Nodup:=by
  rw[zfo,zfo]
  constructor
  · rintro⟨h1,h2,h3⟩
    refine⟨fun e he=>?_,fun i j h h' e=>?_,fun i j h h' e=>?_⟩
    · obtain⟨j,hj,rfl⟩:=List.getElem_of_mem he
      simpa using h1 j (by simpa using hj)
    · simp at h h' e
      exact h2 i j h h' e
    · simp at h h' e
      exact h3 i j h h' e
  · rintro⟨h1,h2,h3⟩
    exact⟨fun i h=>h1 _ (by simp),fun i j h h' e=>h2 i j (by simpa using h) (by simpa using h') (by simpa using e),fun i j h h' e=>h3 i j (by simpa using h) (by simpa using h') (by simpa using e)⟩
theorem MapOk.shuffle{b:Nat}{sz sz':Nat}{els els':List PV}(h:MapOk D μ F w b ⟨sz,els⟩) (hp:els.Perm els'):MapOk D μ F w b ⟨sz',els'⟩:=by
  obtain⟨es,ck,⟨es0,h1,h2⟩,h3,h4,h5⟩:=h
  simp only at h4 h5
  have hz1:(els.zip es.toList).map Prod.fst=els:=List.map_fst_zip (by simp[h4])
  have hz2:(els.zip es.toList).map Prod.snd=es.toList:=List.map_snd_zip (by simp[h4])
  obtain⟨z,g1,g2⟩:=zkZ Prod.fst hp (els.zip es.toList) hz1
  have g3:(z.map Prod.snd).Perm es.toList:=by rw[←hz2];exact(g1.map _).symm
  have g4:=(zmC es ck).1 h3
  refine⟨(z.map Prod.snd).toArray,ck,⟨es0,h1,by simpa using g3.trans h2⟩,(zmC _ _).2 ⟨fun e he=>g4.1 e (g3.mem_iff.1 (by simpa using he)),?_,?_⟩,?_,fun j hj=>?_⟩
  · exact(g3.map _).nodup_iff.2 g4.2.1
  · exact(g3.map _).nodup_iff.2 g4.2.2
  · have:=congrArg List.length g2
    simpa using this
  · simp only at hj
    have hjz:j<z.length:=by have:=congrArg List.length g2;simp at this;omega
    have hmem:z[j]∈els.zip es.toList:=g1.mem_iff.2 (List.getElem_mem hjz)
    obtain⟨k,hk,hke⟩:=List.getElem_of_mem hmem
    have hkl:k<els.length:=by simp at hk;omega
    have e1:els'[j]=z[j].1:=by
      have:els'[j]? = some z[j].1:=by rw[←g2,List.getElem?_map,List.getElem?_eq_getElem hjz];rfl
      rw[List.getElem?_eq_getElem hj] at this
      exact Option.some.inj this
    have e2:entV (z.map Prod.snd).toArray j=.tuple #[z[j].2.key,z[j].2.val]:=by
      unfold entV
      simp[Array.getD_eq_getD_getElem?,hjz]
    have e3:=h5 k hkl
    have e4:entV es k=.tuple #[z[j].2.key,z[j].2.val]:=by
      unfold entV
      rw[←hke]
      have:k<es.size:=by omega
      simp[Array.getD_eq_getD_getElem?,this]
    rw[e1,e2,←e4,←hke]
    simpa using e3
theorem HeapSim.shuffle (h:HeapSim w0 F0 D μ F H w) {i b:Nat}{o:AO}{els':List PV}(hi:H i=some o) (hib:μ i=some b) (hk:isMap w b) (hp:o.els.Perm els'):HeapSim w0 F0 D μ F (upd H i (some ⟨o.sz,els'⟩)) w:=
  h.set i o b hi hib ⟨o.sz,els'⟩ (Stay.refl _ _) h.ext (Nat.le_refl _) (.inr (.inl ((h.mapOk hi hib hk).shuffle hp))) (fun _ _ _=>rfl)
end
def tzo (P:Program) (t:TypeId):Option PV:=
  match P.info? t with
  | some i=>match i.zero with
    | some v=>if v.cells.size=i.size∧v.cells.all (·.oneCell')=true then some (pvOf v) else none
    | none=>none
  | none=>none
theorem zc5{P:Program}{t:TypeId}{z:PV}(h:tzo P t=some z):zgn P t z:=by
  unfold tzo at h
  cases hi:P.info? t with
  | none=>simp[hi] at h
  | some i=>
    cases hz:i.zero with
    | none=>simp[hi,hz] at h
    | some v=>
      simp only[hi,hz] at h
      split at h
      · rename_i hc;cases h;exact⟨i,v,hi,hz,rfl,hc.1,hc.2⟩
      · cases h
def Pure (P:Program) (f:FuncId) (args:List PV) (r:PV) (os:List AO):Prop:=zg2 P f∧PureCall P f args r os
def vCall (P:Program) (f:FuncId) (args:List PV) (K:PV→List AO→Prop):Prop:=∃r os,Pure P f args r os∧K r os
@[congr] theorem vCall_congr {P:Program} {f:FuncId} {args args':List PV} {K:PV→List AO→Prop} {tq:Unit→Prop} (hq:∀u:Unit,(True,u).1=tq u) (h:args=args'):vCall P f args K=vCall P f args' K:=by rw[h]
def mk1 (o:AO):Eff:=⟨[o],[],[],[]⟩
def rdE (rd:List Nat):Eff:=⟨[],[],[],rd⟩
def vLoad (P:Program) (t:TypeId) (S:St) (a:PV) (K:PV→Eff→Prop):Prop:=
  match tAgg P t,zaP P t with
  | some ag,some n=>match a with
    | .ptr i sz k c=>match S.obj i with
      | some o=>o.sz=sz∧k<o.els.length∧(bif ag then c+n≤(o.els.getD k .junk).cells.length else c<(o.els.getD k .junk).cells.length)∧K ((o.els.getD k .junk).part ag c n) (rdE [i])
      | none=>False
    | .fptr _ l k c=>k<l.length∧(bif ag then c+n≤(l.getD k .junk).cells.length else c<(l.getD k .junk).cells.length)∧K ((l.getD k .junk).part ag c n) e0
    | _=>False
  | _,_=>False
def vStore (P:Program) (t:TypeId) (S:St) (a v:PV) (K:PV→Eff→Prop):Prop:=
  match zaP P t with
  | some n=>match a with
    | .ptr i sz k c=>match S.obj i with
      | some o=>o.sz=sz∧k<o.els.length∧n=v.cells.length∧v.cells.all PV.one=true∧c+v.cells.length≤(o.els.getD k .junk).cells.length∧
          K .junk ⟨[],[],[(i,⟨sz,o.els.set k ((o.els.getD k .junk).putPart c v)⟩)],[i]⟩
      | none=>False
    | _=>False
  | none=>False
def vFieldAddr (P:Program) (t:TypeId) (f:Nat) (a:PV) (K:PV→Eff→Prop):Prop:=
  match tFld P t f with
  | some (off,e)=>match zaP P e with
    | some n=>n≠0∧match a with
      | .ptr i sz k c=>K (.ptr i sz k (c+off)) e0
      | .fptr sz l k c=>K (.fptr sz l k (c+off)) e0
      | _=>False
    | none=>False
  | none=>False
def vField (P:Program) (t:TypeId) (f:Nat) (a:PV) (K:PV→Eff→Prop):Prop:=
  match tFld P t f with
  | some (off,e)=>match tAgg P e,zaP P e with
    | some ag,some n=>match a with
      | .agg l=>(bif ag then off+n≤l.length else off<l.length)∧K ((PV.agg l).part ag off n) e0
      | _=>False
    | _,_=>False
  | none=>False
def vIndexAddr (P:Program) (t:TypeId) (a i:PV) (K:PV→Eff→Prop):Prop:=
  match i with
  | .atom (.int _ n)=>match a with
    | .ob i sz off len=>match zaN P t with
      | some e=>zaP P e=some sz∧0≤n∧n<len∧K (.ptr i sz (off+n.toNat) 0) e0
      | none=>False
    | .sl sz l=>match zaN P t with
      | some e=>zaP P e=some sz∧0≤n∧n<l.length∧K (.fptr sz l n.toNat 0) e0
      | none=>False
    | .ptr i sz k c=>match tArr P t with
      | some (m,e)=>match zaP P e with
        | some es=>0≤n∧n<m∧K (.ptr i sz k (c+n.toNat * es)) e0
        | none=>False
      | none=>False
    | .fptr sz l k c=>match tArr P t with
      | some (m,e)=>match zaP P e with
        | some es=>0≤n∧n<m∧K (.fptr sz l k (c+n.toNat * es)) e0
        | none=>False
      | none=>False
    | _=>False
  | _=>False
def vIndex (P:Program) (t:TypeId) (a i:PV) (K:PV→Eff→Prop):Prop:=
  match i with
  | .atom (.int _ n)=>match a with
    | .atom (.string s)=>tStr P t=true∧0≤n∧n<s.size∧K (.atom (.int .u8 ((zbA s n.toNat).toNat:Nat))) e0
    | .agg l=>match tArr P t with
      | some (m,e)=>match zaP P e,tAgg P e with
        | some es,some ag=>0≤n∧n<m∧(bif ag then n.toNat * es+es≤l.length else n.toNat * es<l.length)∧K ((PV.agg l).part ag (n.toNat * es) es) e0
        | _,_=>False
      | none=>False
    | _=>False
  | _=>False
def vBin (P:Program) (op:BinOp) (t:TypeId) (a b:PV) (K:PV→Eff→Prop):Prop:=
  match a,b with
  | .atom u,.atom v=>
    match op,u,v with
    | .quo,.int k a,.int k' b=>k=k'∧b≠0∧K (.atom (.int k (k.wrap (a.tdiv b)))) e0
    | .rem,.int k a,.int k' b=>k=k'∧b≠0∧K (.atom (.int k (a.tmod b))) e0
    | .shl,.int k a,.int _ b=>0≤b∧K (.atom (.int k (k.wrap (a * 2 ^ (min b.toNat k.bits))))) e0
    | .shr,.int k a,.int _ b=>0≤b∧K (.atom (.int k (a.fdiv (2 ^ (min b.toNat k.bits))))) e0
    | .add,.string a,.string b=>a.size+b.size≤9223372036854775807∧K (.atom (.string (a++b))) e0
    | .eql,.bool a,.bool b=>P.underlying t=some .bool∧K (.atom (.bool (a == b))) e0
    | .neq,.bool a,.bool b=>P.underlying t=some .bool∧K (.atom (.bool (!(a == b)))) e0
    | .eql,.map none,.map none=>(tMap P t).isSome=true∧K (.atom (.bool true)) e0
    | .neq,.map none,.map none=>(tMap P t).isSome=true∧K (.atom (.bool false)) e0
    | op,u,v=>match binV op u v with
      | some w=>K (.atom w) e0
      | none=>False
  | .agg l,.agg r=>match tArr P t with
    | some (n,e)=>match tInt P e with
      | some k=>match zfr k l,zfr k r with
        | some xs,some ys=>zaP P e=some 1∧xs.length=n∧ys.length=n∧P.eqGuardType P.depth t=false∧match op with
          | .eql=>K (.atom (.bool (decide (xs=ys)))) e0
          | .neq=>K (.atom (.bool (!decide (xs=ys)))) e0
          | _=>False
        | _,_=>False
      | none=>False
    | none=>match zg6 P t with
      | some ks=>match zdK ks l r with
        | some b=>match op with
          | .eql=>K (.atom (.bool b)) e0
          | .neq=>K (.atom (.bool (!b))) e0
          | _=>False
        | none=>False
      | none=>False
  | .mp _,.atom (.map none)=>(tMap P t).isSome=true∧match op with
    | .eql=>K (.atom (.bool false)) e0
    | .neq=>K (.atom (.bool true)) e0
    | _=>False
  | .fmp _,.atom (.map none)=>(tMap P t).isSome=true∧match op with
    | .eql=>K (.atom (.bool false)) e0
    | .neq=>K (.atom (.bool true)) e0
    | _=>False
  | _,_=>False
def vSlice (P:Program) (t:TypeId) (S:St) (a:PV) (lo hi:Option Operand) (K:PV→Eff→Prop):Prop:=
  match a with
  | .atom (.string s)=>tStr P t=true∧match bnd S 0 lo,bnd S s.size hi with
    | some l,some h=>0≤l∧l≤h∧h≤s.size∧K (.atom (.string (s.extract l.toNat h.toNat))) e0
    | _,_=>False
  | .sl sz ls=>match zaN P t with
    | some e=>zaP P e=some sz∧match bnd S 0 lo,bnd S ls.length hi with
      | some l,some h=>0≤l∧l≤h∧h≤ls.length∧K (.sl sz ((ls.drop l.toNat).take (h.toNat - l.toNat))) e0
      | _,_=>False
    | none=>False
  | .ob i sz off len=>match zaN P t with
    | some e=>zaP P e=some sz∧match bnd S 0 lo,bnd S len hi with
      | some l,some h=>0≤l∧l≤h∧h≤len∧(l=0→K (.ob i sz off h.toNat) e0)∧(l≠0→(l<h→K (.ob i sz (off+l.toNat) (h.toNat - l.toNat)) e0)∧(l=h→K (.sl sz []) e0))
      | _,_=>False
    | none=>False
  | .atom (.slice none 0 0)=>match zaN P t with
    | some e=>match zaP P e,bnd S 0 lo,bnd S 0 hi with
      | some _,some l,some h=>l=0∧h=0∧K (.atom (.slice none 0 0)) e0
      | _,_,_=>False
    | none=>False
  | _=>False
def vBase (S:St) (sz:Nat) (a:PV) (K:List PV→List Nat→Prop):Prop:=
  match a with
  | .atom (.slice none 0 0)=>K [] []
  | .ob i sz' 0 len=>match S.obj i with
    | some o=>sz'=sz∧o.sz=sz∧len≤o.els.length∧K (if len=o.els.length then o.els else o.els.take len) [i]
    | none=>False
  | _=>False
def vSrc (S:St) (sz:Nat) (a:PV) (K:List PV→List Nat→Prop):Prop:=
  match a with
  | .atom (.slice none 0 0)=>K [] []
  | .sl sz' l=>sz'=sz∧K l []
  | .ob i sz' off len=>match S.obj i with
    | some o=>sz'=sz∧o.sz=sz∧off+len≤o.els.length∧K (if off=0∧len=o.els.length then o.els else (o.els.drop off).take len) [i]
    | none=>False
  | _=>False
def vAppend (P:Program) (t:TypeId) (S:St) (a b:PV) (K:PV→Eff→Prop):Prop:=
  match zaN P t with
  | some e=>match tzo P e,zaV P e with
    | some z,some by_=>0<by_∧vBase S z.cells.length a fun olds del=>vSrc S z.cells.length b fun els rd=>(els.all fun q=>q.cells.all PV.one)=true∧(olds.length+els.length) * by_≤140737488355328∧
        K (.ob S.nx z.cells.length 0 (olds.length+els.length)) ⟨[⟨z.cells.length,olds++els⟩],del,[],del++rd⟩
    | _,_=>False
  | none=>False
def vConvert (P:Program) (t t':TypeId) (S:St) (a:PV) (K:PV→Eff→Prop):Prop:=
  match a with
  | .atom (.int _ n)=>(P.underlying t).isSome=true∧match tInt P t' with
    | some k'=>K (.atom (.int k' (k'.wrap n))) e0
    | none=>tStr P t'=true∧K (.atom (.string (Utf8.encode n))) e0
  | .atom (.string s)=>tStr P t=true∧((tStr P t'=true∧K (.atom (.string s)) e0)∨match zaN P t' with
    | some e=>tInt P e=some .u8∧s.size≤9223372036854775807∧K (.sl 1 (zdh s)) e0
    | none=>False)
  | a=>tStr P t'=true∧match zaN P t with
    | some e=>tInt P e=some .u8∧vSrc S 1 a fun els rd=>els.all zgM=true∧K (.atom (.string ⟨(els.map zhq).toArray⟩)) (rdE rd)
    | none=>False
def vMake (P:Program) (t:TypeId) (S:St) (a b:PV) (K:PV→Eff→Prop):Prop:=
  match a,b with
  | .atom (.int _ l),.atom (.int _ c)=>match zaN P t with
    | some e=>match tzo P e,zaV P e with
      | some z,some by_=>0≤l∧l≤c∧(by_:Int) * c≤281474976710656∧c≤9223372036854775807∧K (.ob S.nx z.cells.length 0 l.toNat) (mk1 ⟨z.cells.length,List.replicate l.toNat z⟩)
      | _,_=>False
    | none=>False
  | _,_=>False
def vMinMax (mx:Bool) (a b:PV) (K:PV→Eff→Prop):Prop:=
  match a,b with
  | .atom (.int k x),.atom (.int k' y)=>k=k'∧K (.atom (.int k (bif mx then max x y else min x y))) e0
  | _,_=>False
def vGet (P:Program) (k:TypeId) (els:List PV) (key:PV) (K:Option PV→Prop):Prop:=∃res,MapGet P k els key res∧K res
def vPut (P:Program) (k:TypeId) (els:List PV) (key v:PV) (K:List PV→Prop):Prop:=∃els',MapPut P k els key v els'∧K els'
@[congr] theorem vGet_congr {P:Program} {k:TypeId} {els els':List PV} {key key':PV} {K:Option PV→Prop} {tq:Unit→Prop} (hq:∀u:Unit,(True,u).1=tq u) (h:els=els') (h1:key=key'):vGet P k els key K=vGet P k els' key' K:=by rw[h,h1]
@[congr] theorem vPut_congr {P:Program} {k:TypeId} {els els':List PV} {key key' v v':PV} {K:List PV→Prop} {tq:Unit→Prop} (hq:∀u:Unit,(True,u).1=tq u) (h:els=els') (h1:key=key') (h2:v=v'):vPut P k els key v K=vPut P k els' key' v' K:=by rw[h,h1,h2]
def vLookup (P:Program) (t:TypeId) (S:St) (a key:PV) (c:Bool) (K:PV→Eff→Prop):Prop:=
  match tMap P t with
  | some (k,e)=>match tzo P e with
    | some z=>match a with
      | .mp i=>match S.obj i with
        | some o=>vGet P k o.els key fun res=>K (zjo c res z) (rdE [i])
        | none=>False
      | .fmp l=>vGet P k l key fun res=>K (zjo c res z) e0
      | .atom (.map none)=>Maps.Keyed P k∧zeg P k key∧K (zjo c none z) e0
      | _=>False
    | none=>False
  | none=>False
def vUpdate (P:Program) (t:TypeId) (S:St) (a key v:PV) (K:PV→Eff→Prop):Prop:=
  match tMap P t with
  | some (k,_)=>match a with
    | .mp i=>match S.obj i with
      | some o=>vPut P k o.els key v fun els'=>K .junk ⟨[],[],[(i,⟨o.sz,els'⟩)],[i]⟩
      | none=>False
    | _=>False
  | none=>False
def vRange (P:Program) (t:TypeId) (a:PV) (nx:Nat) (K:PV→Eff→Prop):Prop:=
  match tMap P t with
  | some _=>match a with
    | .fmp l=>K (.it nx) (mk1 ⟨0,[.fmp l,.junk]⟩)
    | .atom (.map none)=>K (.it nx) (mk1 ⟨0,[.fmp [],.junk]⟩)
    | _=>False
  | none=>False
def vEntry (S:St) (a:PV) (K:PV→Eff→Prop):Prop:=
  match a with
  | .it i=>match S.obj i with
    | some o=>match o.els with
      | [_,.tup l]=>K (.tup l) (rdE [i])
      | _=>False
    | none=>False
  | _=>False
def zot (rem:List PV) (over:Prop) (K:Nat→Prop):Prop:=(rem=[]→over)∧∀j,j<rem.length→K j
@[congr] theorem vStep_congr {rem rem':List PV} {over:Prop} {K:Nat→Prop} {tq:Unit→Prop} (hq:∀u:Unit,(True,u).1=tq u) (h:rem=rem'):zot rem over K=zot rem' over K:=by rw[h]
def vNext (S:St) (a:PV) (K:PV→Eff→Prop):Prop:=
  match a with
  | .it i=>match S.obj i with
    | some o=>match o.els with
      | [.fmp rem,_]=>zot rem (K (.tup [.atom (.bool false)]) (rdE [i])) fun j=>K (.tup [.atom (.bool true),(zje (rem.getD j .junk)).1,(zje (rem.getD j .junk)).2]) ⟨[],[],[(i,⟨o.sz,[.fmp (rem.eraseIdx j),rem.getD j .junk]⟩)],[i]⟩
      | _=>False
    | none=>False
  | _=>False
def vMakeMap (r:Option Operand) (nx:Nat) (K:PV→Eff→Prop):Prop:=match r with|none=>K (.mp nx) (mk1 ⟨0,[]⟩)|some _=>False
def vClear (P:Program) (t:TypeId) (S:St) (a:PV) (K:PV→Eff→Prop):Prop:=
  match a with
  | .ob i sz off len=>match zaN P t with
    | some e=>match tzo P e with
      | some z=>match S.obj i with
        | some o=>o.sz=sz∧z.cells.length=sz∧off+len≤o.els.length∧0<len∧K .junk ⟨[],[],[(i,⟨sz,o.els.take off++(List.replicate len z++o.els.drop (off+len))⟩)],[i]⟩
        | none=>False
      | none=>False
    | none=>False
  | _=>False
def vLen (P:Program) (t:TypeId) (S:St) (a:PV) (K:PV→Eff→Prop):Prop:=
  match a with
  | .mp i=>match tMap P t,S.obj i with
    | some _,some o=>K (.atom (.int .i64 o.els.length)) (rdE [i])
    | _,_=>False
  | .fmp l=>match tMap P t with
    | some _=>K (.atom (.int .i64 l.length)) e0
    | none=>False
  | .atom (.map none)=>match tMap P t with
    | some _=>K (.atom (.int .i64 0)) e0
    | none=>False
  | .atom (.string s)=>tStr P t=true∧K (.atom (.int .i64 s.size)) e0
  | .atom (.slice _ n _)=>tStr P t=false∧(zaN P t).isSome=true∧K (.atom (.int .i64 n)) e0
  | .sl _ l=>tStr P t=false∧(zaN P t).isSome=true∧K (.atom (.int .i64 l.length)) e0
  | .ob _ _ _ n=>tStr P t=false∧(zaN P t).isSome=true∧K (.atom (.int .i64 n)) e0
  | _=>False
def vFn (P:Program) (S:St) (g:PV) (xs:List Operand) (K:PV→Eff→Prop):Prop:=
  match g with
  | .fn f cap=>vCall P f ((xs.map S.ev++cap).map (sealed S.obj (fun _=>false) 6)) fun r os=>
      (zf6 (xs.map S.ev++cap) || (r.flatB && os.all fun o=>o.els.all PV.flatB))=true∧K (r.ren (·+S.nx)) ⟨os.map (AO.ren (·+S.nx)),[],[],(xs.map S.ev++cap).flatMap (reach S.obj 6)⟩
  | _=>False
def Proc (P:Program) (f:FuncId) (args:List PV) (hp:List AO) (r:PV) (hp':List (Option AO)) (os:List AO):Prop:=zg2 P f∧ProcCall P f args hp r hp' os
def vProc (P:Program) (S:St) (f:FuncId) (vals:List PV) (K:PV→Eff→Prop):Prop:=
  ∃ (L:List Nat) (n:Nat) (args:List PV) (hp:List AO) (r:PV) (hp':List (Option AO)) (os:List AO),Proc P f args hp r hp' os∧Lent S L n vals args hp∧
    (n=0∨(r.flatB=true∧os.all (fun o=>o.els.all PV.flatB)=true∧hp'.all flatO=true))∧K (r.ren (pmap L S.nx)) ⟨os.map (AO.ren (pmap L S.nx)),zbl L hp',zaW (pmap L S.nx) L hp',[]⟩
def vProcD (P:Program) (S:St) (f:FuncId) (vals:List PV) (K:PV→Eff→Prop):Prop:=
  ∃ (L:List Nat) (args:List PV) (hp:List AO) (r:PV) (hp':List (Option AO)) (os:List AO) (set':List (Nat×AO)),Proc P f args hp r hp' os∧Lent S L 0 vals args hp∧
    (∀i,lk set' i=lk (zaW (pmap L S.nx) L hp') i∨(lk set' i=none∧i∈L∧i∉zbl L hp'∧∃o,lk (zaW (pmap L S.nx) L hp') i=some o∧S.obj i=some o))∧
    (args.all (PV.lowB hp.length)=true∧hp.all (fun o=>o.els.all (PV.lowB hp.length))=true)∧K (r.ren (pmap L S.nx)) ⟨os.map (AO.ren (pmap L S.nx)),zbl L hp',set',L⟩
def vFnD (P:Program) (S:St) (g:PV) (xs:List Operand) (K:PV→Eff→Prop):Prop:=
  match g with
  | .fn f cap=>vFn P S (.fn f cap) xs K∨vProcD P S f (xs.map S.ev++cap) K
  | _=>False
def vFnI (P:Program) (S:St) (g:PV) (xs:List Operand) (K:PV→Eff→Prop):Prop:=
  match g with
  | .fn f cap=>vFn P S (.fn f cap) xs K∨vProc P S f (xs.map S.ev++cap) K
  | _=>False
def zjx:Operand→Bool
  | .const (.slice none 0 0)=>true
  | _=>false
theorem zjw{y:Operand}(h:zjx y=true):y=.const (.slice none 0 0):=by
  unfold zjx at h;split at h
  · rfl
  · cases h
def vBinO (P:Program) (op:BinOp) (t:TypeId) (S:St) (x y:Operand) (K:PV→Eff→Prop):Prop:=
  match op,zjx y with
  | .eql,true=>match zh7 (S.ev x),zaN P t with|some b,some _=>K (.atom (.bool b)) e0|_,_=>False
  | .neq,true=>match zh7 (S.ev x),zaN P t with|some b,some _=>K (.atom (.bool (!b))) e0|_,_=>False
  | op,_=>vBin P op t (S.ev x) (S.ev y) K
def vCallO (P:Program) (S:St) (callee:Callee) (xs:List Operand) (ts:List TypeId) (K:PV→Eff→Prop):Prop:=
  match callee,xs,ts with
  | .builtin .len,[x],[t]=>vLen P t S (S.ev x) K
  | .builtin .append,[x,y],[t,t']=>t=t'∧vAppend P t S (S.ev x) (S.ev y) K
  | .builtin .min,[x,y],_=>vMinMax false (S.ev x) (S.ev y) K
  | .builtin .max,[x,y],_=>vMinMax true (S.ev x) (S.ev y) K
  | .builtin .clear,[x],[t]=>vClear P t S (S.ev x) K
  | .value g,xs,_=>vFnD P S (S.ev g) xs K
  | _,_,_=>False
def vMakeF (S:St) (fn:Fn) (first cap:List Operand) (K:PV→Eff→Prop):Prop:=
  match fn,first with
  | .func f,[]=>K (.fn f (cap.map S.ev)) e0
  | _,_=>False
def vUn (op:UnOp) (a:PV) (K:PV→Eff→Prop):Prop:=
  match op,a with
  | .not,.atom (.bool b)=>K (.atom (.bool (!b))) e0
  | .neg,.atom (.int k n)=>K (.atom (.int k (k.wrap (-n)))) e0
  | _,_=>False
def vop (P:Program) (op:Op) (S:St) (K:PV→Eff→Prop):Prop:=
  match op with
  | .move x=>K (S.ev x) e0
  | .assign x=>K (S.ev x) e0
  | .pick c x y=>match S.ev c with | .atom (.bool t)=>K (bif t then S.ev x else S.ev y) e0|_=>False
  | .box _ x=>(S.ev x).cells.all PV.one=true∧K (.ptr S.nx (S.ev x).cells.length 0 0) (mk1 ⟨(S.ev x).cells.length,[S.ev x]⟩)
  | .alloc t=>match tzo P t with|some z=>K (.ptr S.nx z.cells.length 0 0) (mk1 ⟨z.cells.length,[z]⟩)|none=>False
  | .build t ps=>match tzo P t with
    | some z=>zct P t=true∧match zeZ (za7 P t) z.cells (zcC S ps) with|some L=>K (.agg L) e0|none=>False
    | none=>False
  | .buildSlice t n ps=>match zaN P t with
    | some e=>match tzo P e with
      | some z=>n * z.cells.length≤16777216∧n≤16777216∧(∀p,p∈zcC S ps→p.1<n∧p.2.cells.length=z.cells.length∧p.2.cells.all PV.one=true)∧
          K (.ob S.nx z.cells.length 0 n) (mk1 ⟨z.cells.length,zce (List.replicate n z) (zcC S ps)⟩)
      | none=>False
    | none=>False
  | .load t a=>vLoad P t S (S.ev a) K
  | .store t a v=>vStore P t S (S.ev a) (S.ev v) K
  | .nilCheck a=>match S.ev a with | .ptr i sz k c=>K (.ptr i sz k c) e0 | .fptr sz l k c=>K (.fptr sz l k c) e0 | .fn f l=>K (.fn f l) e0|_=>False
  | .binOp op t x y _=>vBinO P op t S x y K
  | .unOp op _ x=>vUn op (S.ev x) K
  | .convert t t' x=>vConvert P t t' S (S.ev x) K
  | .makeFunc fn first cap=>vMakeF S fn first.toList cap.toList K
  | .makeSlice t x y=>vMake P t S (S.ev x) (S.ev y) K
  | .slice t x lo hi none=>vSlice P t S (S.ev x) lo hi K
  | .fieldAddr t x f=>vFieldAddr P t f (S.ev x) K
  | .field t x f=>vField P t f (S.ev x) K
  | .indexAddr t x i=>vIndexAddr P t (S.ev x) (S.ev i) K
  | .index t x i=>vIndex P t (S.ev x) (S.ev i) K
  | .extract x k=>match S.ev x with | .tup l=>k<l.length∧K (l.getD k .junk) e0|_=>False
  | .call c=>vCallO P S c.callee c.args.toList c.argTypes.toList K
  | .lookup t x y c=>vLookup P t S (S.ev x) (S.ev y) c K
  | .mapUpdate t x y u=>vUpdate P t S (S.ev x) (S.ev y) (S.ev u) K
  | .makeMap _ r=>vMakeMap r S.nx K
  | .range t x=>vRange P t (S.ev x) S.nx K
  | .entry x=>vEntry S (S.ev x) K
  | _=>False
section
variable {P:Program} {S:St} {K:PV→Eff→Prop}
theorem zkg{t:TypeId}{x:Operand}(h:vLoad P t S (S.ev x) K):∃r e,Sound P (.load t x) S r e∧K r e:=by
  unfold vLoad at h
  split at h<;>try exact h.elim
  rename_i ag n ha hn
  split at h<;>try exact h.elim
  · rename_i i sz k c hx
    split at h<;>try exact h.elim
    rename_i o ho
    exact⟨_,_,Sound.load hx ho h.1 h.2.1 ha hn h.2.2.1,h.2.2.2⟩
  · rename_i sz l k c hx
    exact⟨_,_,Sound.loadF hx h.1 ha hn h.2.1,h.2.2⟩
theorem ziu{t:TypeId}{x y:Operand}(h:vStore P t S (S.ev x) (S.ev y) K):∃r e,Sound P (.store t x y) S r e∧K r e:=by
  unfold vStore at h
  split at h<;>try exact h.elim
  rename_i n hn
  split at h<;>try exact h.elim
  rename_i i sz k c hx
  split at h<;>try exact h.elim
  rename_i o ho
  exact⟨_,_,Sound.store hx ho h.1 h.2.1 (by rw[hn,h.2.2.1]) h.2.2.2.1 h.2.2.2.2.1,h.2.2.2.2.2⟩
theorem zf4{t:TypeId}{f:Nat}{x:Operand}(h:vFieldAddr P t f (S.ev x) K):∃r e,Sound P (.fieldAddr t x f) S r e∧K r e:=by
  unfold vFieldAddr at h
  split at h<;>try exact h.elim
  rename_i off e hf
  split at h<;>try exact h.elim
  rename_i n hn
  obtain⟨h0,h⟩:=h
  split at h<;>try exact h.elim
  · rename_i i sz k c hx;exact⟨_,_,Sound.fieldAddr hx hf hn h0,h⟩
  · rename_i sz l k c hx;exact⟨_,_,Sound.fieldAddrF hx hf hn h0,h⟩
theorem ziB{t:TypeId}{f:Nat}{x:Operand}(h:vField P t f (S.ev x) K):∃r e,Sound P (.field t x f) S r e∧K r e:=by
  unfold vField at h
  split at h<;>try exact h.elim
  rename_i off e hf
  split at h<;>try exact h.elim
  rename_i ag n ha hn
  split at h<;>try exact h.elim
  rename_i l hx
  exact⟨_,_,Sound.field hx hf ha hn h.1,h.2⟩
theorem zf3{t:TypeId}{x y:Operand}(h:vIndexAddr P t (S.ev x) (S.ev y) K):∃r e,Sound P (.indexAddr t x y) S r e∧K r e:=by
  unfold vIndexAddr at h
  split at h<;>try exact h.elim
  rename_i kk n hy
  split at h<;>try exact h.elim
  · rename_i i sz off len hx
    split at h<;>try exact h.elim
    rename_i e he
    exact⟨_,_,Sound.indexAddr hx hy he h.1 h.2.1 h.2.2.1,h.2.2.2⟩
  · rename_i sz l hx
    split at h<;>try exact h.elim
    rename_i e he
    exact⟨_,_,Sound.indexAddrS hx hy he h.1 h.2.1 h.2.2.1,h.2.2.2⟩
  · rename_i i sz k c hx
    split at h<;>try exact h.elim
    rename_i m e he
    split at h<;>try exact h.elim
    rename_i es hs
    exact⟨_,_,Sound.indexAddrA hx hy he hs h.1 h.2.1,h.2.2⟩
  · rename_i sz l k c hx
    split at h<;>try exact h.elim
    rename_i m e he
    split at h<;>try exact h.elim
    rename_i es hs
    exact⟨_,_,Sound.indexAddrAF hx hy he hs h.1 h.2.1,h.2.2⟩
theorem ziz{t:TypeId}{x y:Operand}(h:vIndex P t (S.ev x) (S.ev y) K):∃r e,Sound P (.index t x y) S r e∧K r e:=by
  unfold vIndex at h
  split at h<;>try exact h.elim
  rename_i kk n hy
  split at h<;>try exact h.elim
  · rename_i s hx
    exact⟨_,_,Sound.indexStr hx hy h.1 h.2.1 h.2.2.1,h.2.2.2⟩
  · rename_i l hx
    split at h<;>try exact h.elim
    rename_i m e he
    split at h<;>try exact h.elim
    rename_i es ag hs ha
    exact⟨_,_,Sound.indexArr hx hy he hs ha h.1 h.2.1 h.2.2.1,h.2.2.2⟩
theorem zmQ{op:BinOp}{t t':TypeId}{x y:Operand}(h:vBin P op t (S.ev x) (S.ev y) K):∃r e,Sound P (.binOp op t x y t') S r e∧K r e:=by
  unfold vBin at h
  split at h
  · rename_i u v hx hy
    split at h
    · obtain⟨rfl,h1,h2⟩:=h;exact⟨_,_,Sound.quo hx hy h1,h2⟩
    · obtain⟨rfl,h1,h2⟩:=h;exact⟨_,_,Sound.rem hx hy h1,h2⟩
    · exact⟨_,_,Sound.shl hx hy h.1,h.2⟩
    · exact⟨_,_,Sound.shr hx hy h.1,h.2⟩
    · exact⟨_,_,Sound.concat hx hy h.1,h.2⟩
    · exact⟨_,_,Sound.binBool hx hy h.1,h.2⟩
    · exact⟨_,_,Sound.binBoolN hx hy h.1,h.2⟩
    · obtain⟨⟨k,e⟩,hm⟩:=Option.isSome_iff_exists.1 h.1
      exact⟨_,_,Sound.nilM (neg:=false) (.inl ⟨rfl,rfl⟩) (by rw[hx];rfl) hy hm,h.2⟩
    · obtain⟨⟨k,e⟩,hm⟩:=Option.isSome_iff_exists.1 h.1
      exact⟨_,_,Sound.nilM (neg:=true) (b:=true) (.inr ⟨rfl,rfl⟩) (by rw[hx];rfl) hy hm,h.2⟩
    · split at h<;>try exact h.elim
      rename_i w hw
      exact⟨_,_,Sound.bin hx hy hw,h⟩
  · rename_i l r hx hy
    split at h
    · rename_i n e ha
      split at h<;>try exact h.elim
      rename_i k hk
      split at h<;>try exact h.elim
      rename_i xs ys h1 h2
      obtain⟨g1,g2,g3,g4,h⟩:=h
      split at h
      · exact⟨_,_,Sound.binArr (neg:=false) (.inl ⟨rfl,rfl⟩) hx hy ha hk g1 h1 h2 g2 g3 g4,h⟩
      · exact⟨_,_,Sound.binArr (neg:=true) (.inr ⟨rfl,rfl⟩) hx hy ha hk g1 h1 h2 g2 g3 g4,h⟩
      · exact h.elim
    · split at h<;>try exact h.elim
      rename_i ks hk
      split at h<;>try exact h.elim
      rename_i b hb
      split at h
      · exact⟨_,_,Sound.binStr (neg:=false) (.inl ⟨rfl,rfl⟩) hx hy hk hb,h⟩
      · exact⟨_,_,Sound.binStr (neg:=true) (.inr ⟨rfl,rfl⟩) hx hy hk hb,h⟩
      · exact h.elim
  · rename_i i hx hy
    obtain⟨⟨k,e⟩,hm⟩:=Option.isSome_iff_exists.1 h.1
    have h:=h.2
    split at h
    · exact⟨_,_,Sound.nilM (neg:=false) (.inl ⟨rfl,rfl⟩) (by rw[hx];rfl) hy hm,h⟩
    · exact⟨_,_,Sound.nilM (neg:=true) (b:=false) (.inr ⟨rfl,rfl⟩) (by rw[hx];rfl) hy hm,h⟩
    · exact h.elim
  · rename_i i hx hy
    obtain⟨⟨k,e⟩,hm⟩:=Option.isSome_iff_exists.1 h.1
    have h:=h.2
    split at h
    · exact⟨_,_,Sound.nilM (neg:=false) (.inl ⟨rfl,rfl⟩) (by rw[hx];rfl) hy hm,h⟩
    · exact⟨_,_,Sound.nilM (neg:=true) (b:=false) (.inr ⟨rfl,rfl⟩) (by rw[hx];rfl) hy hm,h⟩
    · exact h.elim
  · exact h.elim
theorem ziv{t:TypeId}{x:Operand}{lo hi:Option Operand}(h:vSlice P t S (S.ev x) lo hi K):∃r e,Sound P (.slice t x lo hi none) S r e∧K r e:=by
  unfold vSlice at h
  split at h<;>try exact h.elim
  · rename_i s hx
    obtain⟨ht,h⟩:=h
    split at h<;>try exact h.elim
    rename_i l hh hl hr
    exact⟨_,_,Sound.sliceStr hx ht hl hr h.1 h.2.1 h.2.2.1,h.2.2.2⟩
  · rename_i sz ls hx
    split at h<;>try exact h.elim
    rename_i e he
    obtain⟨hs,h⟩:=h
    split at h<;>try exact h.elim
    rename_i l hh hl hr
    exact⟨_,_,Sound.sliceS hx he hs hl hr h.1 h.2.1 h.2.2.1,h.2.2.2⟩
  · rename_i i sz off len hx
    split at h<;>try exact h.elim
    rename_i e he
    obtain⟨hs,h⟩:=h
    split at h<;>try exact h.elim
    rename_i l hh hl hr
    obtain⟨h0,h1,h2,h3,h4⟩:=h
    by_cases hz:l=0
    · subst hz
      exact⟨_,_,Sound.sliceO0 hx he hs hl hr h1 h2,h3 rfl⟩
    · rcases Int.lt_or_eq_of_le h1 with hlt|heq
      · exact⟨_,_,Sound.sliceO hx he hs hl hr h0 hlt h2,(h4 hz).1 hlt⟩
      · subst heq
        exact⟨_,_,Sound.sliceOE hx he hs hl hr h0 h2,(h4 hz).2 rfl⟩
  · rename_i hx
    split at h<;>try exact h.elim
    rename_i e he
    split at h<;>try exact h.elim
    rename_i sz l hh hs hl hr
    obtain⟨h0,h1,h2⟩:=h
    subst h0 h1
    exact⟨_,_,Sound.sliceNil hx he hs hl hr,h2⟩
theorem zki{sz:Nat}{a:PV}{K:List PV→List Nat→Prop}(h:vBase S sz a K):∃olds del,Base S a sz olds del∧K olds del:=by
  unfold vBase at h
  split at h<;>try exact h.elim
  · exact⟨_,_,.nil,h⟩
  · split at h<;>try exact h.elim
    rename_i o ho
    obtain⟨rfl,h1,h2,h3⟩:=h
    refine⟨_,_,.ob ho h1 h2,?_⟩
    split at h3
    · rename_i he;rw[he,List.take_length];exact h3
    · exact h3
theorem zhh{sz:Nat}{a:PV}{K:List PV→List Nat→Prop}(h:vSrc S sz a K):∃els rd,Src S a sz els rd∧K els rd:=by
  unfold vSrc at h
  split at h<;>try exact h.elim
  · exact⟨_,_,.nil,h⟩
  · obtain⟨rfl,h⟩:=h;exact⟨_,_,.sl,h⟩
  · split at h<;>try exact h.elim
    rename_i o ho
    obtain⟨rfl,h1,h2,h3⟩:=h
    refine⟨_,_,.ob ho h1 h2,?_⟩
    split at h3
    · rename_i he;rw[he.1,he.2,List.drop_zero,List.take_length];exact h3
    · exact h3
theorem zhU{t:TypeId}{x y:Operand}(h:vAppend P t S (S.ev x) (S.ev y) K):∃r e,Sound P (.call ⟨.builtin .append,#[x,y],#[t,t]⟩) S r e∧K r e:=by
  unfold vAppend at h
  split at h<;>try exact h.elim
  rename_i e he
  split at h<;>try exact h.elim
  rename_i z by_ hz hby
  obtain⟨h0,h⟩:=h
  obtain⟨olds,del,hb,h⟩:=zki h
  obtain⟨els,rd,hs,h1,h2,h3⟩:=zhh h
  exact⟨_,_,Sound.append hb hs he (zc5 hz) rfl hby h0 (fun q hq=>List.all_eq_true.1 h1 q hq) h2,h3⟩
theorem zg5{t t':TypeId}{x:Operand}(h:vConvert P t t' S (S.ev x) K):∃r e,Sound P (.convert t t' x) S r e∧K r e:=by
  unfold vConvert at h
  split at h
  · rename_i k n hx
    obtain⟨ht,h⟩:=h
    split at h
    · rename_i k' hk
      exact⟨_,_,Sound.convInt hx ht hk,h⟩
    · exact⟨_,_,Sound.convRune hx ht h.1,h.2⟩
  · rename_i s hx
    obtain⟨ht,h⟩:=h
    rcases h with h|h
    · exact⟨_,_,Sound.convStr hx ht h.1,h.2⟩
    · split at h<;>try exact h.elim
      rename_i e he
      exact⟨_,_,Sound.convBytes hx ht he h.1 h.2.1,h.2.2⟩
  · obtain⟨ht,h⟩:=h
    split at h<;>try exact h.elim
    rename_i e he
    obtain⟨h8,h⟩:=h
    obtain⟨els,rd,hs,h1,h2⟩:=zhh h
    exact⟨_,_,Sound.convText hs he h8 ht h1,h2⟩
theorem zkf{t:TypeId}{x y:Operand}(h:vMake P t S (S.ev x) (S.ev y) K):∃r e,Sound P (.makeSlice t x y) S r e∧K r e:=by
  unfold vMake at h
  split at h<;>try exact h.elim
  rename_i k l k' c hx hy
  split at h<;>try exact h.elim
  rename_i e he
  split at h<;>try exact h.elim
  rename_i z by_ hz hby
  exact⟨_,_,Sound.makeSlice hx hy he (zc5 hz) hby h.1 h.2.1 h.2.2.1 h.2.2.2.1,h.2.2.2.2⟩
theorem zmL{x y:Operand}{ts:Array TypeId}(h:vMinMax false (S.ev x) (S.ev y) K):∃r e,Sound P (.call ⟨.builtin .min,#[x,y],ts⟩) S r e∧K r e:=by
  unfold vMinMax at h
  split at h<;>try exact h.elim
  rename_i k a k' b hx hy
  obtain⟨rfl,h⟩:=h
  exact⟨_,_,Sound.min2 hx hy,h⟩
theorem zmM{x y:Operand}{ts:Array TypeId}(h:vMinMax true (S.ev x) (S.ev y) K):∃r e,Sound P (.call ⟨.builtin .max,#[x,y],ts⟩) S r e∧K r e:=by
  unfold vMinMax at h
  split at h<;>try exact h.elim
  rename_i k a k' b hx hy
  obtain⟨rfl,h⟩:=h
  exact⟨_,_,Sound.max2 hx hy,h⟩
theorem zhT{t:TypeId}{x y:Operand}{c:Bool}(h:vLookup P t S (S.ev x) (S.ev y) c K):∃r e,Sound P (.lookup t x y c) S r e∧K r e:=by
  unfold vLookup at h
  split at h<;>try exact h.elim
  rename_i k e ht
  split at h<;>try exact h.elim
  rename_i z hz
  split at h<;>try exact h.elim
  · rename_i i hx
    split at h<;>try exact h.elim
    rename_i o ho
    obtain⟨res,h1,h2⟩:=h
    exact⟨_,_,Sound.lookup hx ho ht h1.keyed (zc5 hz) h1,h2⟩
  · rename_i l hx
    obtain⟨res,h1,h2⟩:=h
    exact⟨_,_,Sound.lookupF hx ht h1.keyed (zc5 hz) h1,h2⟩
  · rename_i hx
    exact⟨_,_,Sound.lookupN hx ht h.1 (zc5 hz) h.2.1,h.2.2⟩
theorem zhR{t:TypeId}{x y u:Operand}(h:vUpdate P t S (S.ev x) (S.ev y) (S.ev u) K):∃r e,Sound P (.mapUpdate t x y u) S r e∧K r e:=by
  unfold vUpdate at h
  split at h<;>try exact h.elim
  rename_i k e ht
  split at h<;>try exact h.elim
  rename_i i hx
  split at h<;>try exact h.elim
  rename_i o ho
  obtain⟨els',h1,h2⟩:=h
  exact⟨_,_,Sound.mapUpdate hx ho ht h1.keyed h1,h2⟩
theorem ziw{t:TypeId}{x:Operand}(h:vRange P t (S.ev x) S.nx K):∃v e,Sound P (.range t x) S v e∧K v e:=by
  unfold vRange at h
  split at h<;>try exact h.elim
  rename_i ke ht
  split at h<;>try exact h.elim
  · rename_i l hx;exact⟨_,_,Sound.rangeF hx ht,h⟩
  · rename_i hx;exact⟨_,_,Sound.rangeN hx ht,h⟩
theorem ziC{x:Operand}(h:vEntry S (S.ev x) K):∃v e,Sound P (.entry x) S v e∧K v e:=by
  unfold vEntry at h
  split at h<;>try exact h.elim
  rename_i i hx
  split at h<;>try exact h.elim
  rename_i o ho
  split at h<;>try exact h.elim
  rename_i q l he
  exact⟨_,_,Sound.entry hx ho he,h⟩
theorem zke{x:Operand}(h:vNext S (S.ev x) K):∃R:PV→Eff→Prop,SoundR P (.next x false) S R∧∀r e,R r e→K r e:=by
  unfold vNext at h
  split at h<;>try exact h.elim
  rename_i i hx
  split at h<;>try exact h.elim
  rename_i o ho
  split at h<;>try exact h.elim
  rename_i rem cur he
  refine⟨_,SoundR.next hx ho he,fun r e hR=>?_⟩
  rcases hR with ⟨h1,rfl,rfl⟩|⟨j,hj,rfl,rfl⟩
  · exact h.1 h1
  · exact h.2 j hj
theorem zg4{t:TypeId}{r:Option Operand}(h:vMakeMap r S.nx K):∃v e,Sound P (.makeMap t r) S v e∧K v e:=by
  unfold vMakeMap at h
  split at h<;>try exact h.elim
  exact⟨_,_,Sound.makeMap,h⟩
theorem ziD{t:TypeId}{x:Operand}(h:vClear P t S (S.ev x) K):∃r e,Sound P (.call ⟨.builtin .clear,#[x],#[t]⟩) S r e∧K r e:=by
  unfold vClear at h
  split at h<;>try exact h.elim
  rename_i i sz off len hx
  split at h<;>try exact h.elim
  rename_i e he
  split at h<;>try exact h.elim
  rename_i z hz
  split at h<;>try exact h.elim
  rename_i o ho
  exact⟨_,_,Sound.clear hx ho h.1 he (zc5 hz) h.2.1 h.2.2.1 h.2.2.2.1,h.2.2.2.2⟩
theorem zmN{t:TypeId}{x:Operand}(h:vLen P t S (S.ev x) K):∃r e,Sound P (.call ⟨.builtin .len,#[x],#[t]⟩) S r e∧K r e:=by
  unfold vLen at h
  split at h<;>try exact h.elim
  · rename_i i hx
    split at h<;>try exact h.elim
    rename_i o ht ho
    exact⟨_,_,Sound.lenMap hx ho ht,h⟩
  · rename_i l hx
    split at h<;>try exact h.elim
    rename_i ht
    exact⟨_,_,Sound.lenMapF hx ht,h⟩
  · rename_i hx
    split at h<;>try exact h.elim
    rename_i ht
    exact⟨_,_,Sound.lenMapN hx ht,h⟩
  · rename_i s hx;exact⟨_,_,Sound.len (by rw[hx];rfl) (.inl h.1) ⟨fun _=>⟨s,hx⟩,fun _=>h.1⟩,h.2⟩
  · rename_i ad n c hx;exact⟨_,_,Sound.len (n:=n) (by rw[hx];rfl) (.inr h.2.1) ⟨fun h'=>(by rw[h.1] at h';cases h'),fun⟨s,hs⟩=>(by rw[hx] at hs;cases hs)⟩,h.2.2⟩
  · rename_i sz l hx;exact⟨_,_,Sound.len (n:=l.length) (by rw[hx];rfl) (.inr h.2.1) ⟨fun h'=>(by rw[h.1] at h';cases h'),fun⟨s,hs⟩=>(by rw[hx] at hs;cases hs)⟩,h.2.2⟩
  · rename_i i sz off n hx;exact⟨_,_,Sound.len (n:=n) (by rw[hx];rfl) (.inr h.2.1) ⟨fun h'=>(by rw[h.1] at h';cases h'),fun⟨s,hs⟩=>(by rw[hx] at hs;cases hs)⟩,h.2.2⟩
theorem ziA{g:Operand}{xs:Array Operand}{ts:Array TypeId}(h:vFn P S (S.ev g) xs.toList K):∃r e,Sound P (.call ⟨.value g,xs,ts⟩) S r e∧K r e:=by
  unfold vFn at h
  split at h<;>try exact h.elim
  rename_i f cap hf
  obtain⟨r,os,⟨hen,hc⟩,hfl,hK⟩:=h
  simp only[Bool.or_eq_true,Bool.and_eq_true] at hfl
  exact⟨_,_,Sound.callPure hf hen hc hfl (fun p hp i hi=>List.mem_flatMap.2 ⟨p,hp,hi⟩),hK⟩
theorem zmP{g:Operand}{xs:Array Operand}{ts:Array TypeId}(h:vFnD P S (S.ev g) xs.toList K):∃r e,Sound P (.call ⟨.value g,xs,ts⟩) S r e∧K r e:=by
  unfold vFnD at h
  split at h<;>try exact h.elim
  rename_i f cap hf
  rcases h with h|⟨L,args,hp,r,hp',os,set',⟨hen,hc⟩,hl,hst,hlo,hK⟩
  · rw[←hf] at h
    exact ziA (ts:=ts) h
  · exact⟨_,_,(Sound.callProcD (fun _ h=>h) hlo.1 hlo.2 hf hen hc hl).weakSet hst,hK⟩
theorem zmO{g:Operand}{xs:Array Operand}{ts:Array TypeId}(h:vFnI P S (S.ev g) xs.toList K):∃r e,SoundI P (.call ⟨.value g,xs,ts⟩) S r e∧K r e:=by
  unfold vFnI at h
  split at h<;>try exact h.elim
  rename_i f cap hf
  rcases h with h|⟨L,n,args,hp,r,hp',os,⟨hen,hc⟩,hl,hfl,hK⟩
  · rw[←hf] at h
    obtain⟨r,e,h1,h2⟩:=ziA (ts:=ts) h
    exact⟨r,e,h1.toI,h2⟩
  · exact⟨_,_,Sound.callProc hf hen hc hl hfl,hK⟩
theorem zkh{op:BinOp}{t t':TypeId}{x y:Operand}(h:vBinO P op t S x y K):∃r e,Sound P (.binOp op t x y t') S r e∧K r e:=by
  unfold vBinO at h
  split at h
  · rename_i hy
    rw[zjw hy]
    split at h<;>try exact h.elim
    rename_i b e hx he;exact⟨_,_,Sound.nilS hx he,h⟩
  · rename_i hy
    rw[zjw hy]
    split at h<;>try exact h.elim
    rename_i b e hx he;exact⟨_,_,Sound.nilSN hx he,h⟩
  · exact zmQ h
theorem zos{op:UnOp}{t:TypeId}{x:Operand}(h:vUn op (S.ev x) K):∃r e,Sound P (.unOp op t x) S r e∧K r e:=by
  unfold vUn at h
  split at h<;>try exact h.elim
  · rename_i b hx;exact⟨_,_,Sound.not hx,h⟩
  · rename_i k n hx;exact⟨_,_,Sound.neg hx,h⟩
theorem ziE{c:Call}(h:vCallO P S c.callee c.args.toList c.argTypes.toList K):∃r e,Sound P (.call c) S r e∧K r e:=by
  obtain⟨callee,⟨xs⟩,⟨ts⟩⟩:=c
  simp only at h
  unfold vCallO at h
  split at h<;>try exact h.elim
  · exact zmN h
  · obtain⟨rfl,h⟩:=h;exact zhU h
  · exact zmL h
  · exact zmM h
  · exact ziD h
  · exact zmP (xs:=⟨_⟩) h
theorem ziy{fn:Fn}{first cap:Array Operand}(h:vMakeF S fn first.toList cap.toList K):∃r e,Sound P (.makeFunc fn first cap) S r e∧K r e:=by
  obtain⟨first⟩:=first
  unfold vMakeF at h
  split at h<;>try exact h.elim
  rename_i f hf
  simp only at hf
  subst hf
  exact⟨_,_,Sound.makeFunc,h⟩
theorem zom{op:Op}(h:vop P op S K):∃r e,Sound P op S r e∧K r e:=by
  unfold vop at h
  split at h<;>try exact h.elim
  · exact⟨_,_,Sound.move,h⟩
  · exact⟨_,_,Sound.assign,h⟩
  · split at h<;>try exact h.elim
    rename_i t hc;exact⟨_,_,Sound.pick hc,h⟩
  · exact⟨_,_,Sound.box rfl h.1,h.2⟩
  · split at h<;>try exact h.elim
    rename_i z hz;exact⟨_,_,Sound.alloc (zc5 hz),h⟩
  · split at h<;>try exact h.elim
    rename_i z hz
    obtain⟨hk,h⟩:=h
    split at h<;>try exact h.elim
    rename_i L hL;exact⟨_,_,Sound.build (zc5 hz) hk hL,h⟩
  · split at h<;>try exact h.elim
    rename_i e he
    split at h<;>try exact h.elim
    rename_i z hz
    exact⟨_,_,Sound.buildSlice he (zc5 hz) h.1 h.2.1 h.2.2.1,h.2.2.2⟩
  · exact zkg h
  · exact ziu h
  · split at h<;>try exact h.elim
    · rename_i i sz k c hx;exact⟨_,_,Sound.nilCheckP hx,h⟩
    · rename_i sz l k c hx;exact⟨_,_,Sound.nilCheckR hx,h⟩
    · rename_i f l hx;exact⟨_,_,Sound.nilCheckF hx,h⟩
  · exact zkh h
  · exact zos h
  · exact zg5 h
  · exact ziy h
  · exact zkf h
  · exact ziv h
  · exact zf4 h
  · exact ziB h
  · exact zf3 h
  · exact ziz h
  · split at h<;>try exact h.elim
    rename_i l hx;exact⟨_,_,Sound.extract hx h.1,h.2⟩
  · exact ziE h
  · exact zhT h
  · exact zhR h
  · exact zg4 h
  · exact ziw h
  · exact ziC h
end
def vopI (P:Program) (op:Op) (S:St) (K:PV→Eff→Prop):Prop:=
  match op with
  | .call c=>match c.callee with
    | .value g=>vFnI P S (S.ev g) c.args.toList K
    | _=>vop P op S K
  | .next x false=>vNext S (S.ev x) K
  | _=>vop P op S K
theorem one_R{P:Program}{S:St}{K:PV→Eff→Prop}{op:Op}(h:∃r e,SoundI P op S r e∧K r e):∃R:PV→Eff→Prop,SoundR P op S R∧∀r e,R r e→K r e:=by
  obtain⟨r,e,h1,h2⟩:=h
  exact⟨_,h1.toR,fun _ _ ⟨e1,e2⟩=>by rw[e1,e2];exact h2⟩
theorem SEq.ev{S S':St}(h:SEq S S') (x:Operand):S.ev x=S'.ev x:=by
  cases x<;>simp[St.ev,h.get]
theorem SEq.fin{S S':St}(h:SEq S S') (d:Option Tmp) (r:PV) (e:Eff):SEq (S.fin d r e) (S'.fin d r e):=by
  refine⟨?_,?_,?_,h.gh⟩
  · funext s;rw[St.get_fin,St.get_fin,h.get]
  · rw[St.obj_fin,St.obj_fin,h.obj,h.nx]
  · show S.nx+_=S'.nx+_;rw[h.nx]
theorem SoundI.seq{P:Program}{op:Op}{S S':St}{r:PV}{e:Eff}(hs:SoundI P op S' r e) (h:SEq S S'):SoundI P op S r e:=by
  intro o a w0 F0 D μ F w ho hH hx hD next Q hn
  refine hs o a w0 F0 D μ F w ho (by rw[←h.obj];exact hH) (fun x hxm=>by rw[←h.ev];exact hx x hxm) (fun i hi=>by rw[←h.nx];exact hD i hi) next Q fun v w' D' μ' F' h1 h2 h3 h4 h5 h6=>hn v w' D' μ' F' h1 (by rw[h.nx,h.obj];exact h2) h3 h4 h5 (by rw[h.nx];exact h6)
theorem SoundR.seq{P:Program}{op:Op}{S S':St}{R:PV→Eff→Prop}(hs:SoundR P op S' R) (h:SEq S S'):SoundR P op S R:=by
  intro o a w0 F0 D μ F w ho hH hx hD next Q hn
  refine hs o a w0 F0 D μ F w ho (by rw[←h.obj];exact hH) (fun x hxm=>by rw[←h.ev];exact hx x hxm) (fun i hi=>by rw[←h.nx];exact hD i hi) next Q fun r e v w' D' μ' F' hR h1 h2 h3 h4 h5 h6=>hn r e v w' D' μ' F' hR h1 (by rw[h.nx,h.obj];exact h2) h3 h4 h5 (by rw[h.nx];exact h6)
theorem Sound.seq{P:Program}{op:Op}{S S':St}{r:PV}{e:Eff}(hs:Sound P op S' r e) (h:SEq S S'):Sound P op S r e:=by
  intro o a w0 F0 D μ F H w ho hH hx hr hD next Q hn
  refine hs o a w0 F0 D μ F H w ho hH (fun x hxm=>by rw[←h.ev];exact hx x hxm) (fun i hi=>by rw[←h.obj];exact hr i hi) (fun k hk=>by rw[←h.nx];exact hD k hk) next Q fun v w' D' μ' F' h1 h2 h3 h4 h5 h6=>hn v w' D' μ' F' h1 (by rw[h.nx];exact h2) h3 h4 h5 (by rw[h.nx];exact h6)
def St.known (S:St) (d:Nat) (p:PV):St:=⟨(d,p) :: S.env,S.hp,S.nx,S.gh⟩
theorem SEq.known{S:St}{d:Nat}{p:PV}(h:S.get d=p):SEq S (S.known d p):=by
  refine⟨?_,rfl,rfl,rfl⟩
  funext s
  show S.get s=(lk ((d,p) :: S.env) s).getD .junk
  unfold lk
  split
  · rename_i he;subst he;exact h
  · rfl
theorem SEq.trans{a b c:St}(h:SEq a b) (k:SEq b c):SEq a c:=⟨h.get.trans k.get,h.obj.trans k.obj,h.nx.trans k.nx,h.gh.trans k.gh⟩
def xG (b want:Bool) (run skip:Prop):Prop:=(b=want→run)∧(b=(!want)→skip)
@[congr] theorem xG.cong {b b' want:Bool} {run skip:Prop} {tq:Unit→Prop} (hq:∀u:Unit,(True,u).1=tq u) (h:b=b'):xG b want run skip=xG b' want run skip:=by rw[h]
theorem xG_tt{run skip:Prop}:xG true true run skip=run:=by simp[xG]
theorem xG_ff{run skip:Prop}:xG false false run skip=run:=by simp[xG]
theorem xG_tf{run skip:Prop}:xG true false run skip=skip:=by simp[xG]
theorem xG_ft{run skip:Prop}:xG false true run skip=skip:=by simp[xG]
theorem zav{b want:Bool}{run skip:Prop}(h:b=want→run) (h2:b=(!want)→skip):xG b want run skip:=⟨h,h2⟩
def xGuard (ops:Array Oper) (S:St) (o:Oper) (run skip:St→Prop):Prop:=
  match o.guard with
  | none=>run S
  | some (j,want)=>match (ops[j]?).bind (·.dst) with
    | some d=>match S.get d with
      | .atom (.bool b)=>xG b want (run (S.known d (.atom (.bool want)))) (skip (S.known d (.atom (.bool (!want)))))
      | .atom (.tuple _)=>skip S
      | _=>False
    | none=>False
theorem zgm{ops:Array Oper}{S:St}{o:Oper}{run skip:Prop}(h:(zfu ops S o true∧run)∨(zfu ops S o false∧skip)):zhi ops S o run skip:=by
  unfold zhi
  rcases h with ⟨(hg|⟨j,want,d,hg,hd,hs⟩),h⟩|⟨⟨j,want,d,hg,hd,hs⟩,h⟩
  · rw[hg];exact h
  · rw[hg]
    simp only[hd,hs]
    exact⟨fun _=>h,fun e=>(by cases want<;>cases e)⟩
  · rw[hg]
    rcases hs with hs|⟨vs,hs⟩
    · simp only[hd,hs]
      exact⟨fun e=>(by cases want<;>cases e),fun _=>h⟩
    · simp only[hd,hs];exact h
def xOps (P:Program) (ops:Array Oper):List Oper→St→(St→Prop)→Prop
  | [],S,K=>K S
  | o :: rest,S,K=>xGuard ops S o (fun S=>vopI P o.op S fun r e=>xOps P ops rest (S.fin o.dst r e) K) (fun S=>xOps P ops rest (S.fin o.dst (.atom (.tuple #[])) e0) K)
def xOpsT (P:Program) (ops:Array Oper):List Oper→St→List Tr→(St→List Tr→Prop)→Prop
  | [],S,tr,K=>K S tr
  | o :: rest,S,tr,K=>xGuard ops S o (fun S=>vop P o.op S fun r e=>xOpsT P ops rest (S.fin o.dst r e) (tr++[e.tr S.nx]) K) (fun S=>xOpsT P ops rest (S.fin o.dst (.atom (.tuple #[])) e0) (tr++[e0.tr S.nx]) K)
section
variable {P:Program} {n:Nat} {S:St} {Q:Exit→St→Prop}
theorem Tri.cut{α:Type}{x y:Code}(S0:α→St) (h:Tri P n x S (thenQ (fun S'=>∃z L,Leq L S' (S0 z)) Q)) (h2:∀z,Tri P n y (S0 z) Q):Tri P n (.seq x y) S Q:=
  Tri.seq (Tri.mono h fun e S' hq=>by
    cases e with
    | normal=>obtain⟨z,L,hle⟩:=hq;exact Tri.weak hle (h2 z)
    | _=>exact hq)
end
mutual
theorem za8 (ρ:Nat→Nat):∀p:PV,p.pure=true→p.ren ρ=p
  | .junk,_=>rfl
  | .atom _,_=>rfl
  | .agg l,h=>by simp only[PV.pure] at h;simp only[PV.ren,zbo ρ l h]
  | .tup l,h=>by simp only[PV.pure] at h;simp only[PV.ren,zbo ρ l h]
  | .sl _ l,h=>by simp only[PV.pure] at h;simp only[PV.ren,zbo ρ l h]
  | .own _ _,h=>by cases h
  | .ob _ _ _ _,h=>by cases h
  | .ptr _ _ _ _,h=>by cases h
  | .mp _,h=>by cases h
  | .it _,h=>by cases h
  | .mark _,h=>by cases h
  | .is _ _,h=>by cases h
  | .amp,_=>rfl
  | .fmp l,h=>by simp only[PV.pure] at h;simp only[PV.ren,zbo ρ l h]
  | .fptr _ l _ _,h=>by simp only[PV.pure] at h;simp only[PV.ren,zbo ρ l h]
  | .fn _ l,h=>by simp only[PV.pure] at h;simp only[PV.ren,zbo ρ l h]
theorem zbo (ρ:Nat→Nat):∀l:List PV,zaw l=true→renL ρ l=l
  | [],_=>rfl
  | p :: l,h=>by simp only[zaw,Bool.and_eq_true] at h;simp only[renL,za8 ρ p h.1,zbo ρ l h.2]
end
theorem ResOk.val{S:St}{ts:List Nat}{r:PV}(h:retV S ts=r) (hp:r.pure=true):ResOk S ts r []:=
  ⟨[],0,rfl,List.nodup_nil,by rw[za8 _ r hp];exact h,fun i o hi=>by simp at hi⟩
theorem Pure.intro {P : Program} {n : Nat} {f : FuncId} {fn : Func} {c : Code} {args : List PV} {r : PV} {os : List AO} {ts : List Nat} (hf : P.funcs[f]? = some fn) (hname : (fn.name == "runtime.NumGoroutine") = false) (hb : fn.body = some c) (hr : fn.results = (ts.map ResultVar.tmp).toArray) (hn : fn.ntmps = n) (hla : args.length ≤ n) (hpure : args.all PV.pure = true)
    (h:Tri P n c ⟨zbO 0 args,[],0,[]⟩ (retQ ts r os)):Pure P f args r os:=⟨Go.Proofs.enters_of hf hname hb,PureCall.intro hf hb hr hn hla hpure h⟩
theorem Proc.intro {P : Program} {n : Nat} {f : FuncId} {fn : Func} {c : Code} {args : List PV} {hp : List AO} {r : PV} {hp' : List (Option AO)} {os : List AO} {ts : List Nat} (hf : P.funcs[f]? = some fn) (hname : (fn.name == "runtime.NumGoroutine") = false) (hb : fn.body = some c) (hr : fn.results = (ts.map ResultVar.tmp).toArray) (hn : fn.ntmps = n) (hla : args.length ≤ n)
    (hlen:hp'.length=hp.length) (h:Tri P n c ⟨zbO 0 args,za9 0 (hp.map some),hp.length,zbw 0 hp⟩ (retP ts r hp hp' os)):Proc P f args hp r hp' os:=⟨Go.Proofs.enters_of hf hname hb,ProcCall.intro hf hb hr hn hla hlen h⟩
end Go.Proofs.Ytehoglapajkabaa
