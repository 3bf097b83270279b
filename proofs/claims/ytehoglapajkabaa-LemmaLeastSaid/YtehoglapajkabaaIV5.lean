/-
  The clean machine: stores,addresses,parts,lengths,slices.
-/
import Derived.Test.YtehoglapajkabaaIV2
import Derived.Laws.Tables
import Derived.Great.BuildSlice
set_option linter.all false
namespace Go.Proofs.Ytehoglapajkabaa
open Go Go.RowKit
theorem cell_row{sz k k' c c' n:Nat}(h1:c'<sz) (h2:c+n≤sz) (h3:k * sz+c≤k' * sz+c') (h4:k' * sz+c'<k * sz+c+n):k'=k:=by
  rcases Nat.lt_trichotomy k' k with h|h|h
  · have:(k'+1) * sz≤k * sz:=Nat.mul_le_mul_right _ h
    rw[Nat.add_mul] at this;omega
  · exact h
  · have:(k+1) * sz≤k' * sz:=Nat.mul_le_mul_right _ h
    rw[Nat.add_mul] at this;omega
def PV.putPart (old:PV) (c:Nat) (v:PV):PV:=if c=0∧v.cells.length=old.cells.length then v else .agg (old.cells.take c++v.cells++old.cells.drop (c+v.cells.length))
theorem zeb (old:PV) (c:Nat) (v:PV) (h:c+v.cells.length≤old.cells.length):(old.putPart c v).cells=old.cells.take c++v.cells++old.cells.drop (c+v.cells.length):=by
  unfold PV.putPart
  split
  · rename_i hc
    obtain⟨rfl,hl⟩:=hc
    simp[hl]
  · rfl
theorem zdI (old:PV) (c:Nat) (v:PV) (h:c+v.cells.length≤old.cells.length):(old.putPart c v).cells.length=old.cells.length:=by
  rw[zeb _ _ _ h];simp;omega
theorem Eff.app_set (n i:Nat) (o:AO) (H:Nat→Option AO) (rd:List Nat):(⟨[],[],[(i,o)],rd⟩:Eff).app n H=upd H i (some o):=by
  funext j;unfold Eff.app upd;simp only[lk,List.length_nil,Nat.add_zero]
  rw[if_neg (by omega)]
  by_cases h:j=i
  · subst h;simp
  · rw[if_neg (Ne.symm h),if_neg h];simp
section
variable {P:Program}
theorem Sound.store{t:TypeId}{x y:Operand}{S:St}{i sz k c:Nat}{o:AO}(hx:S.ev x=.ptr i sz k c) (ho:S.obj i=some o) (hsz:o.sz=sz) (hk:k<o.els.length) (hn:zaP P t=some (S.ev y).cells.length)
    (h1:(S.ev y).cells.all PV.one=true) (hin:c+(S.ev y).cells.length≤(o.els.getD k .junk).cells.length):
    Sound P (.store t x y) S .junk ⟨[],[],[(i,⟨sz,o.els.set k ((o.els.getD k .junk).putPart c (S.ev y))⟩)],[i]⟩:=by
  intro op a w0 F0 D μ F H w hop hH hxs hr _ next Q hnx
  have hp:=hxs x (by simp[Op.operands])
  rw[hx] at hp
  have hi:H i=some o:=(hr i (by simp)).trans ho
  obtain⟨c1,c2,c3⟩:=(hxs y (by simp[Op.operands])).cells h1
  generalize S.ev y=q at *
  generalize hev:a.eval y=v at *
  generalize he:a.eval x=u at hp
  simp only[ze9 _ _ hk] at hin hnx
  cases hp with
  | ptr _ _ _ _ b hD hb hkd=>
    obtain⟨A,e,g1,g2,g3,g4⟩:=hH.cellsOk hi hb hkd
    have hszk:=g3 k hk
    have hvl:v.cells.toList.length=q.cells.length:=by simpa using c1
    have hrow:∀j,j<v.cells.toList.length→k * sz+c+j<A.size:=fun j hj=>by
      have:=zcy (c:=c+j) (sz:=o.sz) hk (by omega)
      rw[hsz] at this g2
      omega
    have hst:=run_storeCells_cells (P:=P) b (k * sz+c) v.cells.toList 0 w (fun j hj=>by simp[World.cell?,g1,hrow j hj]) (fun j hj=>by simp[World.frozen?,g1])
      (fun x hx=>(Array.all_eq_true_iff_forall_mem.1 c3) x (by simpa using hx))
    obtain ⟨hS,hstay⟩:=hH.store i o ⟨sz,o.els.set k (o.els[k].putPart c q)⟩ b hi hb hkd (k * sz+c) v.cells.toList hsz.symm (by simp)
      (fun k' hk'=>by
        simp only[List.length_set] at hk'
        simp only[List.getElem_set]
        split
        · rename_i hkk;subst hkk;rw[zdI _ _ _ hin,hszk,hsz]
        · rw[g3 k' hk',hsz])
      (fun k' hk' c' hc' hl1 hl2=>by
        simp only[List.length_set] at hk'
        simp only[List.getElem_set] at hc' ⊢
        have hc'':c'<sz:=by
          split at hc'
          · rw[zdI _ _ _ hin,hszk,hsz] at hc';exact hc'
          · rw[g3 k' hk',hsz] at hc';exact hc'
        have hkk:k'=k:=cell_row hc'' (by rw[hszk,hsz] at hin;exact hin) hl1 (by rw[hvl] at hl2;exact hl2)
        subst hkk
        have hl1':k' * sz+c≤k' * sz+c':=hl1
        have hl2':k' * sz+c'<k' * sz+c+v.cells.toList.length:=hl2
        rw[hvl] at hl2'
        have hcl:c≤c':=by omega
        have hcu:c'<c+q.cells.length:=by omega
        have e1:(if k'=k' then o.els[k'].putPart c q else o.els[k']).cells[c']? = q.cells[c' - c]? := by
          rw[if_pos rfl,zeb _ _ _ hin,List.getElem?_append_left (by simp;omega),List.getElem?_append_right (by simp;omega)]
          congr 1;simp;omega
        have e2:q.cells[c' - c]? = some (q.cells[c' - c]'(by omega)):=List.getElem?_eq_getElem (by omega)
        have e3:=List.getElem?_eq_getElem hc'
        rw[e1,e2] at e3
        rw[←Option.some.inj e3]
        have:=c2 (c' - c) (by omega)
        rw[show k' * sz+c' - (k' * sz+c)=c' - c by omega]
        simpa[Array.getD_eq_getD_getElem?,List.getD_eq_getElem?_getD] using this)
      (fun k' hk' c' hc' hno=>by
        simp only[List.length_set] at hk'
        refine⟨hk',?_⟩
        simp only[List.getElem_set] at hc' ⊢
        by_cases hkk:k=k'
        · subst hkk
          simp only[if_true] at hc' ⊢
          have hc3:c'<o.els[k].cells.length:=by rw[zdI _ _ _ hin] at hc';exact hc'
          refine⟨hc3,?_⟩
          have e0:=List.getElem?_eq_getElem hc'
          have e4:=List.getElem?_eq_getElem hc3
          have hno2:¬ (k * sz+c≤k * sz+c'∧k * sz+c'<k * sz+c+v.cells.toList.length):=hno
          rw[hvl] at hno2
          have hno':c'<c∨c+q.cells.length≤c':=by omega
          have e1:(o.els[k].putPart c q).cells[c']? = o.els[k].cells[c']? := by
            rw[zeb _ _ _ hin]
            rcases hno' with h|h
            · rw[List.getElem?_append_left (by simp;omega),List.getElem?_append_left (by simp;omega)];simp[h]
            · rw[List.getElem?_append_right (by simp;omega)]
              simp only[List.length_append,List.length_take,List.getElem?_drop]
              congr 1;omega
          rw[e0,e4] at e1
          exact Option.some.inj e1
        · simp only[if_neg hkk] at hc' ⊢
          exact⟨hc',trivial⟩)
    have hrun:(Instr.storeAt t (.pointer (some ⟨b,k * sz+c,none⟩)) v).run P w=.ok () (w.setCells b (k * sz+c) v.cells.toList):=by
      simp only[Instr.storeAt,Instr.sureAddr,storeVar,Sem.run_bind,Sem.run_pure,Result.andThen_ok,zb6 hn,c1,ne_eq,not_true_eq_false,if_false]
      simpa using hst
    unfold Oper.wp execOp
    simp only[hop,he,hev,Sem.run_bind,hrun,Result.andThen_ok,Sem.run_pure,Oper.upon]
    exact hnx undef _ D μ F (.junk _) (by rw[Eff.app_set];exact hS) hstay (fun _ h=>⟨h,rfl⟩) (fun _ h=>h) (fun _ h=>.inl h)
theorem zgt{t e:TypeId}{f off n:Nat}(hf:tFld P t f=some (off,e)) (hs:zaP P e=some n) (hn:n≠0) (w:World) (b o:Nat):
    (Instr.fieldAt t (.pointer (some ⟨b,o,none⟩)) f).run P w=.ok (.pointer (some ⟨b,o+off,none⟩)) w:=by
  unfold tFld at hf
  split at hf<;>try (cases hf;done)
  rename_i fs hu
  cases hfs:fs[f]? with
  | none=>simp[hfs] at hf
  | some x=>
    simp[hfs] at hf
    obtain⟨rfl,rfl⟩:=hf
    simp[Instr.fieldAt,run_underlying hu,hfs,Instr.sureAddr,fieldPlace,zb6 hs,hn,Addr.add_lit]
theorem Sound.fieldAddr{t e:TypeId}{x:Operand}{f off n:Nat}{S:St}{i sz k c:Nat}(hx:S.ev x=.ptr i sz k c) (hf:tFld P t f=some (off,e)) (hs:zaP P e=some n) (hn:n≠0):
    Sound P (.fieldAddr t x f) S (.ptr i sz k (c+off)) e0:=Sound.quiet fun op a w0 F0 D μ F H w hop hH hxs hr=>by
  have hp:=hxs x (by simp[Op.operands])
  rw[hx] at hp
  generalize he:a.eval x=u at hp
  cases hp with
  | ptr _ _ _ _ b hD hb hkd=>
    exact⟨.pointer (some ⟨b,k * sz+c+off,none⟩),by unfold execOp;simp[hop,he,zgt hf hs hn],by rw[Nat.add_assoc];exact .ptr _ _ _ _ b hD hb hkd⟩
theorem Sound.fieldAddrF{t e:TypeId}{x:Operand}{f off n:Nat}{S:St}{sz k c:Nat}{l:List PV}(hx:S.ev x=.fptr sz l k c) (hf:tFld P t f=some (off,e)) (hs:zaP P e=some n) (hn:n≠0):
    Sound P (.fieldAddr t x f) S (.fptr sz l k (c+off)) e0:=Sound.quiet fun op a w0 F0 D μ F H w hop hH hxs hr=>by
  have hp:=hxs x (by simp[Op.operands])
  rw[hx] at hp
  generalize he:a.eval x=u at hp
  cases hp with
  | fptr _ _ _ _ b o g hF hg hcl hrep=>
    exact⟨.pointer (some ⟨b,o+(k * sz+c)+off,none⟩),by unfold execOp;simp[hop,he,zgt hf hs hn],by rw[show o+(k * sz+c)+off=o+(k * sz+(c+off)) by omega];exact .fptr _ _ _ _ b o g hF hg hcl hrep⟩
theorem zlN{D:Nat→Prop}{μ:Nat→Option Nat}{F:Nat→Prop}{w:World}{t:TypeId}{ag:Bool}{n c:Nat}{l:List PV}{vs:Array Value}(ha:tAgg P t=some ag) (hn:zaP P t=some n)
    (hin:bif ag then c+n≤l.length else c<l.length) (h:Rep D μ F w (.agg l) (.agg vs)):∃v,(part t vs c).run P w=.ok v w∧Rep D μ F w ((PV.agg l).part ag c n) v:=by
  cases h with
  | agg _ _ hs hr=>
    unfold part
    simp only[Sem.run_bind,zlM ha,Result.andThen_ok]
    cases ag
    · have hin':c<l.length:=hin
      have hcs:c<vs.size:=by omega
      refine⟨vs[c],by simp[hcs],?_⟩
      unfold PV.part;simp only[cond_false];rw[ze9 _ _ (show c<(PV.agg l).cells.length from hin')]
      have:=hr c hin'
      rwa [show vs.getD c undef=vs[c] by simp[hcs]] at this
    · have hin':c+n≤l.length:=hin
      refine⟨.agg (vs.extract c (c+n)),by simp[zb6 hn],?_⟩
      have key:Rep D μ F w (.agg ((l.drop c).take n)) (.agg (vs.extract c (c+n))):=by
        refine .agg _ _ (by simp;omega) fun j hj=>?_
        have hj':j<n:=by simp at hj;omega
        simp only[List.getElem_take,List.getElem_drop]
        have e:(vs.extract c (c+n)).getD j undef=vs.getD (c+j) undef:=by
          have h1:j<(vs.extract c (c+n)).size:=by simp;omega
          have h2:c+j<vs.size:=by omega
          unfold Array.getD;rw[dif_pos h1,dif_pos h2];exact Array.getElem_extract ..
        rw[e];exact hr (c+j) (by omega)
      unfold PV.part
      simp only[cond_true]
      split
      · rename_i hc
        obtain⟨rfl,rfl⟩:=hc
        simpa[PV.cells] using key
      · exact key
theorem Sound.field{t e:TypeId}{x:Operand}{f off n:Nat}{ag:Bool}{S:St}{l:List PV}(hx:S.ev x=.agg l) (hf:tFld P t f=some (off,e)) (ha:tAgg P e=some ag) (hn:zaP P e=some n)
    (hin:bif ag then off+n≤l.length else off<l.length):Sound P (.field t x f) S ((PV.agg l).part ag off n) e0:=Sound.quiet fun op a w0 F0 D μ F H w hop hH hxs hr=>by
  have hp:=hxs x (by simp[Op.operands])
  rw[hx] at hp
  generalize he:a.eval x=u at hp
  cases hp with
  | agg _ vs hs hrr=>
    obtain⟨v,h1,h2⟩:=zlN ha hn hin (Rep.agg l vs hs hrr)
    unfold tFld at hf
    split at hf<;>try (cases hf;done)
    rename_i fs hu
    cases hfs:fs[f]? with
    | none=>simp[hfs] at hf
    | some y=>
      simp[hfs] at hf
      obtain⟨rfl,rfl⟩:=hf
      exact⟨v,by unfold execOp;simp[hop,he,Instr.field,run_underlying hu,hfs,asAgg,h1],h2⟩
theorem Sound.extract{x:Operand}{k:Nat}{S:St}{l:List PV}(hx:S.ev x=.tup l) (hk:k<l.length):Sound P (.extract x k) S (l.getD k .junk) e0:=Sound.quiet fun op a w0 F0 D μ F H w hop hH hxs hr=>by
  have hp:=hxs x (by simp[Op.operands])
  rw[hx] at hp
  generalize he:a.eval x=u at hp
  cases hp with
  | tup _ vs hs hrr=>
    rw[ze9 _ _ hk]
    have hks:k<vs.size:=by omega
    refine⟨vs[k],by unfold execOp;simp[hop,he,Instr.extract,hks],?_⟩
    have:=hrr k hk
    rwa [show vs.getD k undef=vs[k] by simp[hks]] at this
theorem Sound.indexAddr{t e:TypeId}{x y:Operand}{S:St}{i sz off len:Nat}{kk:IntKind}{n:Int}(hx:S.ev x=.ob i sz off len) (hy:S.ev y=.atom (.int kk n)) (he:zaN P t=some e) (hs:zaP P e=some sz) (h0:0≤n) (hl:n<len):
    Sound P (.indexAddr t x y) S (.ptr i sz (off+n.toNat) 0) e0:=Sound.quiet fun op a w0 F0 D μ F H w hop hH hxs hr=>by
  have hp:=hxs x (by simp[Op.operands])
  have hq:=zaS (hxs y (by simp[Op.operands])) hy
  rw[hx] at hp
  generalize hev:a.eval x=u at hp
  cases hp with
  | ob _ _ _ _ cap b hD hb hkd h1 h2 h3=>
    refine⟨.pointer (some ⟨b,off * sz+n.toNat * sz,none⟩),?_,?_⟩
    · unfold execOp;simp[hop,hev,hq,Instr.indexAt,asIntOf,run_underlying (zb1 he),h0,hl,zb6 hs,Addr.add_lit]
    · have:=Rep.ptr (D:=D) (μ:=μ) (F:=F) (w:=w) i sz (off+n.toNat) 0 b hD hb hkd
      rw[Nat.add_mul] at this
      exact this
  | obn _ _ hD hb=>simp at hl;omega
theorem Sound.indexAddrS{t e:TypeId}{x y:Operand}{S:St}{sz:Nat}{l:List PV}{kk:IntKind}{n:Int}(hx:S.ev x=.sl sz l) (hy:S.ev y=.atom (.int kk n)) (he:zaN P t=some e) (hs:zaP P e=some sz) (h0:0≤n) (hl:n<l.length):
    Sound P (.indexAddr t x y) S (.fptr sz l n.toNat 0) e0:=Sound.quiet fun op a w0 F0 D μ F H w hop hH hxs hr=>by
  have hp:=hxs x (by simp[Op.operands])
  have hq:=zaS (hxs y (by simp[Op.operands])) hy
  rw[hx] at hp
  generalize hev:a.eval x=u at hp
  cases hp with
  | sl0=>simp at hl;omega
  | sl _ _ b o cap g hF h1 h2 h3 h4 h5=>
    refine⟨.pointer (some ⟨b,o+n.toNat * sz,none⟩),?_,?_⟩
    · unfold execOp;simp[hop,hev,hq,Instr.indexAt,asIntOf,run_underlying (zb1 he),h0,hl,zb6 hs,Addr.add_lit]
    · exact Rep.fptr (D:=D) (μ:=μ) (F:=F) (w:=w) sz l n.toNat 0 b o g hF h3 h4 h5
theorem Sound.indexAddrA{t e:TypeId}{x y:Operand}{S:St}{i sz k c m es:Nat}{kk:IntKind}{n:Int}(hx:S.ev x=.ptr i sz k c) (hy:S.ev y=.atom (.int kk n)) (he:tArr P t=some (m,e)) (hs:zaP P e=some es) (h0:0≤n) (hl:n<m):
    Sound P (.indexAddr t x y) S (.ptr i sz k (c+n.toNat * es)) e0:=Sound.quiet fun op a w0 F0 D μ F H w hop hH hxs hr=>by
  have hp:=hxs x (by simp[Op.operands])
  have hq:=zaS (hxs y (by simp[Op.operands])) hy
  rw[hx] at hp
  generalize hev:a.eval x=u at hp
  cases hp with
  | ptr _ _ _ _ b hD hb hkd=>
    refine⟨.pointer (some ⟨b,k * sz+c+n.toNat * es,none⟩),?_,?_⟩
    · unfold execOp;simp[hop,hev,hq,Instr.indexAt,asIntOf,run_underlying (zkk he),Instr.sureAddr,h0,hl,zb6 hs,Addr.add_lit]
    · rw[Nat.add_assoc];exact .ptr _ _ _ _ b hD hb hkd
theorem Sound.indexAddrAF{t e:TypeId}{x y:Operand}{S:St}{sz k c m es:Nat}{l:List PV}{kk:IntKind}{n:Int}(hx:S.ev x=.fptr sz l k c) (hy:S.ev y=.atom (.int kk n)) (he:tArr P t=some (m,e)) (hs:zaP P e=some es) (h0:0≤n) (hl:n<m):
    Sound P (.indexAddr t x y) S (.fptr sz l k (c+n.toNat * es)) e0:=Sound.quiet fun op a w0 F0 D μ F H w hop hH hxs hr=>by
  have hp:=hxs x (by simp[Op.operands])
  have hq:=zaS (hxs y (by simp[Op.operands])) hy
  rw[hx] at hp
  generalize hev:a.eval x=u at hp
  cases hp with
  | fptr _ _ _ _ b o g hF hg hcl hrep=>
    refine⟨.pointer (some ⟨b,o+(k * sz+c)+n.toNat * es,none⟩),?_,?_⟩
    · unfold execOp;simp[hop,hev,hq,Instr.indexAt,asIntOf,run_underlying (zkk he),Instr.sureAddr,h0,hl,zb6 hs,Addr.add_lit]
    · rw[show o+(k * sz+c)+n.toNat * es=o+(k * sz+(c+n.toNat * es)) by omega];exact .fptr _ _ _ _ b o g hF hg hcl hrep
def zbA (s:ByteArray) (i:Nat):UInt8:=s.data.toList.getD i 0
theorem zn3{s:ByteArray}{i:Nat}(h:i<s.size):s[i]? = some (zbA s i):=by
  have h':i<s.data.toList.length:=by simpa using h
  have:zbA s i=s.data.toList[i]:=by unfold zbA;exact(List.getElem_eq_getD _).symm
  rw[this]
  simp only[Array.getElem_toList]
  exact getElem?_pos s i h
theorem Sound.indexStr{t:TypeId}{x y:Operand}{S:St}{s:ByteArray}{kk:IntKind}{n:Int}(hx:S.ev x=.atom (.string s)) (hy:S.ev y=.atom (.int kk n)) (ht:tStr P t=true) (h0:0≤n) (hl:n<s.size):
    Sound P (.index t x y) S (.atom (.int .u8 ((zbA s n.toNat).toNat:Nat))) e0:=Sound.quiet fun op a w0 F0 D μ F H w hop hH hxs hr=>by
  have hp:=zaS (hxs x (by simp[Op.operands])) hx
  have hq:=zaS (hxs y (by simp[Op.operands])) hy
  have hb:=zn3 (s:=s) (i:=n.toNat) (by omega)
  refine⟨_,?_,.atom _⟩
  unfold execOp
  simp only[hop,hp,hq,Instr.index,asIntOf,Sem.run_bind,Sem.run_pure,Result.andThen_ok,run_underlying (zen ht),h0,if_true,hb]
theorem Sound.indexArr{t e:TypeId}{x y:Operand}{S:St}{l:List PV}{m es:Nat}{ag:Bool}{kk:IntKind}{n:Int}(hx:S.ev x=.agg l) (hy:S.ev y=.atom (.int kk n)) (he:tArr P t=some (m,e)) (hs:zaP P e=some es) (ha:tAgg P e=some ag) (h0:0≤n) (hl:n<m)
    (hin:bif ag then n.toNat * es+es≤l.length else n.toNat * es<l.length):Sound P (.index t x y) S ((PV.agg l).part ag (n.toNat * es) es) e0:=Sound.quiet fun op a w0 F0 D μ F H w hop hH hxs hr=>by
  have hp:=hxs x (by simp[Op.operands])
  have hq:=zaS (hxs y (by simp[Op.operands])) hy
  rw[hx] at hp
  generalize hev:a.eval x=u at hp
  cases hp with
  | agg _ vs hsz hrr=>
    obtain⟨v,h1,h2⟩:=zlN ha hs hin (Rep.agg l vs hsz hrr)
    refine⟨v,?_,h2⟩
    unfold execOp;simp[hop,hev,hq,Instr.index,asIntOf,run_underlying (zkk he),h0,hl,zb6 hs,h1]
theorem Sound.not{t:TypeId}{x:Operand}{S:St}{b:Bool}(hx:S.ev x=.atom (.bool b)):Sound P (.unOp .not t x) S (.atom (.bool (!b))) e0:=Sound.quiet fun op a w0 F0 D μ F H w hop hH hxs hr=>by
  have hp:=zaS (hxs x (by simp[Op.operands])) hx
  exact⟨_,by unfold execOp;simp[hop,hp,Op.unary],.atom _⟩
theorem Sound.neg{t:TypeId}{x:Operand}{S:St}{k:IntKind}{n:Int}(hx:S.ev x=.atom (.int k n)):Sound P (.unOp .neg t x) S (.atom (.int k (k.wrap (-n)))) e0:=Sound.quiet fun op a w0 F0 D μ F H w hop hH hxs hr=>by
  have hp:=zaS (hxs x (by simp[Op.operands])) hx
  exact⟨_,by unfold execOp;simp[hop,hp,Op.unary,Op.intArith],.atom _⟩
theorem Sound.nilCheckP{x:Operand}{S:St}{i sz k c:Nat}(hx:S.ev x=.ptr i sz k c):Sound P (.nilCheck x) S (.ptr i sz k c) e0:=Sound.quiet fun op a w0 F0 D μ F H w hop hH hxs hr=>by
  have hp:=hxs x (by simp[Op.operands])
  rw[hx] at hp
  generalize hev:a.eval x=u at hp
  cases hp with
  | ptr _ _ _ _ b hD hb hkd=>exact⟨_,by unfold execOp;simp[hop,hev],.ptr _ _ _ _ b hD hb hkd⟩
theorem Sound.nilCheckR{x:Operand}{S:St}{sz k c:Nat}{l:List PV}(hx:S.ev x=.fptr sz l k c):Sound P (.nilCheck x) S (.fptr sz l k c) e0:=Sound.quiet fun op a w0 F0 D μ F H w hop hH hxs hr=>by
  have hp:=hxs x (by simp[Op.operands])
  rw[hx] at hp
  generalize hev:a.eval x=u at hp
  cases hp with
  | fptr _ _ _ _ b off g h1 h2 h3 h4=>exact⟨_,by unfold execOp;simp[hop,hev],.fptr _ _ _ _ b off g h1 h2 h3 h4⟩
theorem Sound.nilCheckF{x:Operand}{S:St}{f:FuncId}{l:List PV}(hx:S.ev x=.fn f l):Sound P (.nilCheck x) S (.fn f l) e0:=Sound.quiet fun op a w0 F0 D μ F H w hop hH hxs hr=>by
  have hp:=hxs x (by simp[Op.operands])
  rw[hx] at hp
  generalize hev:a.eval x=u at hp
  cases hp with
  | fn _ _ vs h1 h2=>exact⟨_,by unfold execOp;simp[hop,hev],.fn _ _ vs h1 h2⟩
theorem Sound.makeFunc{f:FuncId}{cap:Array Operand}{S:St}:Sound P (.makeFunc (.func f) #[] cap) S (.fn f (cap.toList.map S.ev)) e0:=Sound.quiet fun op a w0 F0 D μ F H w hop hH hxs hr=>by
  refine⟨.func (.func f) #[] (cap.map a.eval),by unfold execOp;simp[hop,Instr.makeFunc],.fn _ _ _ (by simp) fun i hi=>?_⟩
  have hi':i<cap.size:=by simpa using hi
  have e:(cap.map a.eval).getD i undef=a.eval cap[i]:=by simp[hi']
  rw[e]
  simp only[List.getElem_map,Array.getElem_toList]
  exact hxs _ (by simp[Op.operands])
def lenOf:PV→Option Nat
  | .sl _ l=>some l.length
  | .ob _ _ _ n=>some n
  | .atom (.string s)=>some s.size
  | .atom (.slice _ n _)=>some n
  | _=>none
theorem Sound.len{t:TypeId}{x:Operand}{S:St}{n:Nat}(hx:lenOf (S.ev x)=some n) (ht:tStr P t=true∨(zaN P t).isSome=true) (hm:tStr P t=true↔∃s,S.ev x=.atom (.string s)):
    Sound P (.call ⟨.builtin .len,#[x],#[t]⟩) S (.atom (.int .i64 n)) e0:=Sound.quiet fun op a w0 F0 D μ F H w hop hH hxs hr=>by
  have hp:=hxs x (by simp[Op.operands,Call.operands])
  refine⟨_,?_,.atom _⟩
  unfold execOp
  generalize hev:a.eval x=u at hp
  generalize S.ev x=q at hp hx hm
  have slice:∀(ad:Option Addr) (cap:Nat),u=.slice ad n cap→(¬ ∃s,q=.atom (.string s))→(do let d ←resolve a.eval ⟨.builtin .len,#[x],#[t]⟩ op.type;invoke d.target d.args).run P w=.ok (.value (.int .i64 n)) w:=fun ad cap e hns=>by
    have hte:(zaN P t).isSome=true:=ht.resolve_left (fun h=>hns (hm.1 h))
    obtain⟨e',he'⟩:=Option.isSome_iff_exists.1 hte
    simp[resolve,invoke,builtin,hev,e,Builtin.len_,run_underlying (zb1 he'),goInt]
  simp only[hop]
  cases hp with
  | sl0 sz ad cap h1 h2=>cases hx;exact slice _ _ rfl (by rintro⟨s,hs⟩;cases hs)
  | sl sz l b off cap g=>cases hx;exact slice _ _ rfl (by rintro⟨s,hs⟩;cases hs)
  | ob i sz off len cap b=>cases hx;exact slice _ _ rfl (by rintro⟨s,hs⟩;cases hs)
  | obn i sz=>cases hx;exact slice _ _ rfl (by rintro⟨s,hs⟩;cases hs)
  | atom=>
    cases u<;>simp only[lenOf] at hx<;>try (cases hx;done)
    · cases hx
      have hts:tStr P t=true:=hm.2 ⟨_,rfl⟩
      simp[resolve,invoke,builtin,hev,Builtin.len_,run_underlying (zen hts),goInt]
    · cases hx
      exact slice _ _ rfl (by rintro⟨s,hs⟩;cases hs)
  | junk=>cases hx
  | agg=>cases hx
  | tup=>cases hx
  | ptr=>cases hx
  | mp=>cases hx
  | mark=>cases hx
  | is=>cases hx
  | amp=>cases hx
  | ampN=>cases hx
  | it=>cases hx
  | fmp=>cases hx
  | fptr=>cases hx
  | fn=>cases hx
end
def bnd (S:St) (d:Nat):Option Operand→Option Int
  | none=>some d
  | some y=>match S.ev y with | .atom (.int _ n)=>some n|_=>none
section
variable {P:Program}
theorem zc0{D:Nat→Prop}{μ:Nat→Option Nat}{F:Nat→Prop}{w:World}{S:St}{a:Act}{d:Nat}{lo:Option Operand}{l:Int}(h:bnd S d lo=some l) (hx:∀y,lo=some y→Rep D μ F w (S.ev y) (a.eval y)):
    (lo.map a.eval=none∧l=d)∨∃k,lo.map a.eval=some (.int k l):=by
  cases lo with
  | none=>simp[bnd] at h;exact .inl ⟨rfl,h.symm⟩
  | some y=>
    simp only[bnd] at h
    split at h<;>try (cases h;done)
    rename_i k n hn
    cases h
    exact .inr ⟨k,by simp[zaS (hx y rfl) hn]⟩
theorem zhn{w:World}{isS:Bool}{len cap:Nat}{lo hi:Option Value}{l h:Int}(hl:(lo=none∧l=(0:Nat))∨∃k,lo=some (.int k l)) (hh:(hi=none∧h=len)∨∃k,hi=some (.int k h)) (h0:0≤l) (h1:l≤h) (h2:h≤cap):
    (Instr.sliceBounds isS len cap lo hi none).run P w=.ok (l.toNat,h.toNat,cap) w:=by
  have hhn:0≤h:=by omega
  rcases hl with ⟨rfl,rfl⟩|⟨k,rfl⟩
  · rcases hh with ⟨rfl,rfl⟩|⟨k2,rfl⟩
    · simp[Instr.sliceBounds]
    · simp[Instr.sliceBounds,run_sliceBound w k2 h cap _ hhn h2]
  · rcases hh with ⟨rfl,rfl⟩|⟨k2,rfl⟩
    · simp[Instr.sliceBounds,run_sliceBound w k l len _ h0 h1]
    · have:=run_sliceBound (P:=P) w k l h.toNat .sliceB h0 (by omega)
      simp[Instr.sliceBounds,run_sliceBound w k2 h cap _ hhn h2,this]
theorem Sound.sliceStr{t:TypeId}{x:Operand}{lo hi:Option Operand}{S:St}{s:ByteArray}{l h:Int}(hx:S.ev x=.atom (.string s)) (ht:tStr P t=true) (hlo:bnd S 0 lo=some l) (hhi:bnd S s.size hi=some h) (h0:0≤l) (h1:l≤h) (h2:h≤s.size):
    Sound P (.slice t x lo hi none) S (.atom (.string (s.extract l.toNat h.toNat))) e0:=Sound.quiet fun op a w0 F0 D μ F H w hop hH hxs hr=>by
  have hp:=zaS (hxs x (by simp[Op.operands])) hx
  have hl:=zc0 hlo (fun y hy=>hxs y (by simp[Op.operands,hy]))
  have hh:=zc0 hhi (fun y hy=>hxs y (by simp[Op.operands,hy]))
  have hb:=zhn (P:=P) (w:=w) (isS:=false) (cap:=s.size) hl hh h0 h1 h2
  refine⟨_,?_,.atom _⟩
  unfold execOp
  simp[hop,hp,Instr.sliceAt,Instr.slice,run_underlying (zen ht),hb]
theorem zcg{w:World}{t e:TypeId}{sz:Nat}(he:zaN P t=some e) (hs:zaP P e=some sz) (ad:Option Addr) (len cap:Nat) {lo hi:Option Value}{l h:Int}(hl:(lo=none∧l=(0:Nat))∨∃k,lo=some (.int k l)) (hh:(hi=none∧h=len)∨∃k,hi=some (.int k h)) (h0:0≤l) (h1:l≤h) (h2:h≤cap):
    (Instr.sliceAt t (.slice ad len cap) lo hi none).run P w=.ok (.slice (if cap=l.toNat then ad else ad.map (·.add (l.toNat * sz))) (h.toNat - l.toNat) (cap - l.toNat)) w:=by
  simp[Instr.sliceAt,Instr.slice,run_underlying (zb1 he),zhn hl hh h0 h1 h2,zb6 hs]
theorem Sound.sliceS{t e:TypeId}{x:Operand}{lo hi:Option Operand}{S:St}{sz:Nat}{ls:List PV}{l h:Int}(hx:S.ev x=.sl sz ls) (he:zaN P t=some e) (hs:zaP P e=some sz) (hlo:bnd S 0 lo=some l) (hhi:bnd S ls.length hi=some h) (h0:0≤l) (h1:l≤h) (h2:h≤ls.length):
    Sound P (.slice t x lo hi none) S (.sl sz ((ls.drop l.toNat).take (h.toNat - l.toNat))) e0:=Sound.quiet fun op a w0 F0 D μ F H w hop hH hxs hr=>by
  have hp:=hxs x (by simp[Op.operands])
  rw[hx] at hp
  have hl:=zc0 hlo (fun y hy=>hxs y (by simp[Op.operands,hy]))
  have hh:=zc0 hhi (fun y hy=>hxs y (by simp[Op.operands,hy]))
  generalize hev:a.eval x=u at hp
  have fin:∀(ad:Option Addr) (cap:Nat),u=.slice ad ls.length cap→ls.length≤cap→Rep D μ F w (.sl sz ((ls.drop l.toNat).take (h.toNat - l.toNat))) (.slice (if cap=l.toNat then ad else ad.map (·.add (l.toNat * sz))) (h.toNat - l.toNat) (cap - l.toNat))→
      ∃v,(execOp a.eval op).run P w=.ok (.value v) w∧Rep D μ F w (.sl sz ((ls.drop l.toNat).take (h.toNat - l.toNat))) v:=fun ad cap hu hc hrep=>by
    refine⟨_,?_,hrep⟩
    unfold execOp
    simp[hop,hev,hu,zcg he hs ad ls.length cap hl hh h0 h1 (by omega)]
  cases hp with
  | sl0 _ ad cap g1 g2 g3=>
    simp at h2
    have hl0:l=0:=by omega
    have hh0:h=0:=by omega
    subst hl0;subst hh0
    refine fin ad cap rfl (by simp) ?_
    have e1:(if cap=(0:Int).toNat then ad else ad.map (·.add ((0:Int).toNat * sz)))=ad:=by
      split
      · rfl
      · cases ad<;>simp[Addr.add]
    rw[e1]
    simpa using Rep.sl0 sz ad cap g1 g2 g3
  | sl _ _ b o cap g hF g1 g2 g3 g4 g5=>
    refine fin _ cap rfl g1 ?_
    by_cases hlh:l<h
    · rw[if_neg (by omega)]
      simp only[Option.map_some,Addr.add_lit]
      have hlen:((ls.drop l.toNat).take (h.toNat - l.toNat)).length=h.toNat - l.toNat:=by simp;omega
      have:=Rep.sl (D:=D) (μ:=μ) (F:=F) (w:=w) sz ((ls.drop l.toNat).take (h.toNat - l.toNat)) b (o+l.toNat * sz) (cap - l.toNat) (fun j=>g (l.toNat * sz+j)) hF (by rw[hlen];omega) (by omega)
        (fun j hj=>by
          rw[hlen] at hj
          have:l.toNat * sz+j<ls.length * sz:=by
            have:(l.toNat+(h.toNat - l.toNat)) * sz≤ls.length * sz:=Nat.mul_le_mul_right _ (by omega)
            rw[Nat.add_mul] at this;omega
          rw[Nat.add_assoc];exact g3 _ this)
        (fun k hk=>by simp only[List.getElem_take,List.getElem_drop];exact g4 _ (by simp at hk;omega))
        (fun k hk c hc=>by
          simp only[List.getElem_take,List.getElem_drop] at hc ⊢
          rw[show l.toNat * sz+(k * sz+c)=(l.toNat+k) * sz+c by rw[Nat.add_mul];omega]
          exact g5 _ (by simp at hk;omega) c hc)
      rw[hlen] at this
      exact this
    · have hlh':h.toNat - l.toNat=0:=by omega
      rw[hlh',List.take_zero]
      refine Rep.sl0 sz _ _ (by omega) (fun hn=>?_) (fun x hx=>?_)
      · split at hn<;>simp at hn
      · split at hx<;>simp at hx<;>subst hx<;>simp[Addr.add_lit]
theorem Sound.sliceO0{t e:TypeId}{x:Operand}{lo hi:Option Operand}{S:St}{i sz off len:Nat}{h:Int}(hx:S.ev x=.ob i sz off len) (he:zaN P t=some e) (hs:zaP P e=some sz) (hlo:bnd S 0 lo=some 0) (hhi:bnd S len hi=some h) (h0:0≤h) (h2:h≤len):
    Sound P (.slice t x lo hi none) S (.ob i sz off h.toNat) e0:=Sound.quiet fun op a w0 F0 D μ F H w hop hH hxs hr=>by
  have hp:=hxs x (by simp[Op.operands])
  rw[hx] at hp
  have hl:=zc0 hlo (fun y hy=>hxs y (by simp[Op.operands,hy]))
  have hh:=zc0 hhi (fun y hy=>hxs y (by simp[Op.operands,hy]))
  generalize hev:a.eval x=u at hp
  cases hp with
  | ob _ _ _ _ cap b hD hb hkd g1 g2 g3=>
    refine⟨.slice (some ⟨b,off * sz,none⟩) h.toNat cap,?_,.ob _ _ _ _ cap b hD hb hkd (by omega) g2 g3⟩
    unfold execOp
    simp[hop,hev,zcg he hs _ len cap hl hh (by omega) h0 (by omega),Addr.add]
  | obn _ _ hD hb=>
    have hh0:h=0:=by simp at h2;omega
    subst hh0
    refine⟨.slice none 0 0,?_,.obn _ _ hD hb⟩
    unfold execOp
    simp[hop,hev,zcg he hs _ 0 0 hl hh (by omega) (by omega) (by omega)]
theorem Sound.sliceO{t e:TypeId}{x:Operand}{lo hi:Option Operand}{S:St}{i sz off len:Nat}{l h:Int}(hx:S.ev x=.ob i sz off len) (he:zaN P t=some e) (hs:zaP P e=some sz) (hlo:bnd S 0 lo=some l) (hhi:bnd S len hi=some h) (h0:0≤l) (h1:l<h) (h2:h≤len):
    Sound P (.slice t x lo hi none) S (.ob i sz (off+l.toNat) (h.toNat - l.toNat)) e0:=Sound.quiet fun op a w0 F0 D μ F H w hop hH hxs hr=>by
  have hp:=hxs x (by simp[Op.operands])
  rw[hx] at hp
  have hl:=zc0 hlo (fun y hy=>hxs y (by simp[Op.operands,hy]))
  have hh:=zc0 hhi (fun y hy=>hxs y (by simp[Op.operands,hy]))
  generalize hev:a.eval x=u at hp
  cases hp with
  | ob _ _ _ _ cap b hD hb hkd g1 g2 g3=>
    refine⟨.slice (some ⟨b,(off+l.toNat) * sz,none⟩) (h.toNat - l.toNat) (cap - l.toNat),?_,.ob _ _ _ _ _ b hD hb hkd (by omega) (by omega) (by rw[show off+l.toNat+(cap - l.toNat)=off+cap by omega];exact g3)⟩
    unfold execOp
    have hne:¬cap=l.toNat:=by omega
    simp[hop,hev,zcg he hs _ len cap hl hh (by omega) (by omega) (by omega),Addr.add_lit,hne,Nat.add_mul]
  | obn _ _ hD hb=>simp at h2;omega
theorem Sound.sliceOE{t e:TypeId}{x:Operand}{lo hi:Option Operand}{S:St}{i sz off len:Nat}{l:Int}(hx:S.ev x=.ob i sz off len) (he:zaN P t=some e) (hs:zaP P e=some sz) (hlo:bnd S 0 lo=some l) (hhi:bnd S len hi=some l) (h0:0≤l) (h2:l≤len):
    Sound P (.slice t x lo hi none) S (.sl sz []) e0:=Sound.quiet fun op a w0 F0 D μ F H w hop hH hxs hr=>by
  have hp:=hxs x (by simp[Op.operands])
  rw[hx] at hp
  have hl:=zc0 hlo (fun y hy=>hxs y (by simp[Op.operands,hy]))
  have hh:=zc0 hhi (fun y hy=>hxs y (by simp[Op.operands,hy]))
  generalize hev:a.eval x=u at hp
  cases hp with
  | ob _ _ _ _ cap b hD hb hkd g1 g2 g3=>
    refine⟨.slice (if cap=l.toNat then some ⟨b,off * sz,none⟩ else some ⟨b,off * sz+l.toNat * sz,none⟩) 0 (cap - l.toNat),?_,.sl0 _ _ _ (by omega) (fun hn=>by split at hn<;>cases hn) (fun x hx=>by split at hx<;>cases hx<;>rfl)⟩
    unfold execOp
    simp[hop,hev,zcg he hs _ len cap hl hh (by omega) (by omega) (by omega),Addr.add_lit]
  | obn _ _ hD hb=>
    have hh0:l=0:=by simp at h2;omega
    subst hh0
    refine⟨.slice none 0 0,?_,.sl0 _ _ _ (by unfold maxLen;omega) (fun _=>rfl) (fun x hx=>by cases hx)⟩
    unfold execOp
    simp[hop,hev,zcg he hs _ 0 0 hl hh (by omega) (by omega) (by omega)]
theorem Sound.sliceNil{t e:TypeId}{x:Operand}{lo hi:Option Operand}{S:St}{sz:Nat}(hx:S.ev x=.atom (.slice none 0 0)) (he:zaN P t=some e) (hs:zaP P e=some sz) (hlo:bnd S 0 lo=some 0) (hhi:bnd S 0 hi=some 0):
    Sound P (.slice t x lo hi none) S (.atom (.slice none 0 0)) e0:=Sound.quiet fun op a w0 F0 D μ F H w hop hH hxs hr=>by
  have hp:=hxs x (by simp[Op.operands])
  rw[hx] at hp
  have hl:=zc0 hlo (fun y hy=>hxs y (by simp[Op.operands,hy]))
  have hh:=zc0 hhi (fun y hy=>hxs y (by simp[Op.operands,hy]))
  generalize hev:a.eval x=u at hp
  cases hp
  refine⟨.slice none 0 0,?_,.atom _⟩
  unfold execOp
  simp[hop,hev,zcg he hs none 0 0 hl hh (by omega) (by omega) (by omega)]
theorem Sound.makeSlice{t e:TypeId}{x y:Operand}{S:St}{kl kc:IntKind}{l c:Int}{z:PV}{by_:Nat}(hx:S.ev x=.atom (.int kl l)) (hy:S.ev y=.atom (.int kc c)) (he:zaN P t=some e) (hz:zgn P e z) (hby:zaV P e=some by_) (h0:0≤l) (h1:l≤c) (hb:(by_:Int) * c≤281474976710656) (hc:c≤9223372036854775807):
    Sound P (.makeSlice t x y) S (.ob S.nx z.cells.length 0 l.toNat) ⟨[⟨z.cells.length,List.replicate l.toNat z⟩],[],[],[]⟩:=
  Sound.makes fun o a w0 F0 D μ F H w ho hH hxs _ hD=>by
    have hp:=zaS (hxs x (by simp[Op.operands])) hx
    have hq:=zaS (hxs y (by simp[Op.operands])) hy
    obtain⟨i,v,hi,hv,rfl,hsz,hone⟩:=hz
    have hcl:=zdc v hone
    have hlen:(pvOf v).cells.length=i.size:=by rw[hcl];simpa using hsz
    have hib:i.bytes=by_:=by simpa[zaV,hi] using hby
    have hrun:=run_make (P:=P) w t e i v (zb1 he) hi hv kl kc l c h0 h1 (by rw[hib];exact hb) hc
    have hms:(madeCells v.cells (c.toNat * i.size)).size=c.toNat * i.size:=size_madeCells _ _
    rw[hlen]
    have hS:=hH.alloc S.nx hD (madeCells v.cells (c.toNat * i.size)) e ⟨i.size,List.replicate l.toNat (pvOf v)⟩ (by rw[hms];simp;exact Nat.mul_le_mul_right _ (by omega)) (fun k hk=>by simp[hlen]) (fun k hk cc hcc=>by
      simp only[List.getElem_replicate] at hcc ⊢
      have hk':k<l.toNat:=by simpa using hk
      have hcc':cc<i.size:=by rw[←hlen];exact hcc
      have hlt:k * i.size+cc<c.toNat * i.size:=zcy (by omega) hcc'
      have e1:(madeCells v.cells (c.toNat * i.size)).getD (k * i.size+cc) undef=v.cells[cc]'(by omega):=by
        unfold Array.getD
        rw[dif_pos (by rw[hms];exact hlt)]
        simp only[madeCells,Array.getInternal_eq_getElem,Array.getElem_map,Array.getElem_range]
        have:(k * i.size+cc) % v.cells.size=cc:=by rw[hsz,Nat.mul_comm,Nat.mul_add_mod,Nat.mod_eq_of_lt hcc']
        rw[this]
        exact getElem!_pos v.cells cc (by omega)
      rw[e1]
      have:(pvOf v).cells[cc]=.atom (v.cells[cc]'(by omega)):=by simp[hcl]
      rw[this]
      exact .atom _)
    refine⟨.slice (some ⟨w.heap.size,0,none⟩) l.toNat c.toNat,w.alloc (.cells (madeCells v.cells (c.toNat * i.size)) e),some w.heap.size,?_,?_,hS,Stay.below ((Below.refl _ _).alloc (Nat.le_refl _) _)⟩
    · unfold execOp;simp[ho,hp,hq,hrun]
    · have:=Rep.ob (D:=also D S.nx) (μ:=upd μ S.nx (some w.heap.size)) (F:=F) (w:=w.alloc (.cells (madeCells v.cells (c.toNat * i.size)) e)) S.nx i.size 0 l.toNat c.toNat w.heap.size (.inr rfl) (zbg _ _ _) (isCells.new _ _ _) (by omega) (by unfold maxLen;omega)
        (by simp only[zbS,heap_alloc_new,hms];simp)
      simpa using this
theorem gl0{a b:List PV}(h:a=b) {c:Nat}(hc:c<a.length):a[c]=b[c]'(by rw[←h];exact hc):=by subst h;rfl
theorem row_ge{sz k c off:Nat}(hc:c<sz) (h:off * sz≤k * sz+c):off≤k:=by
  apply Nat.le_of_not_lt
  intro hlt
  have:(k+1) * sz≤off * sz:=Nat.mul_le_mul_right _ hlt
  rw[Nat.add_mul] at this;omega
theorem row_lt{sz k c off:Nat}(h:k * sz+c<off * sz):k<off:=by
  apply Nat.lt_of_not_le
  intro hle
  have:off * sz≤k * sz:=Nat.mul_le_mul_right _ hle
  omega
theorem zqq{sz k off:Nat}(h:k<off) {c:Nat}(hc:c<sz):k * sz+c<off * sz:=zcy h hc
theorem Sound.clear{t e:TypeId}{x:Operand}{S:St}{i sz off len:Nat}{o:AO}{z:PV}(hx:S.ev x=.ob i sz off len) (ho:S.obj i=some o) (hsz:o.sz=sz) (he:zaN P t=some e) (hz:zgn P e z) (hzs:z.cells.length=sz) (hin:off+len≤o.els.length) (hl:0<len):
    Sound P (.call ⟨.builtin .clear,#[x],#[t]⟩) S .junk ⟨[],[],[(i,⟨sz,o.els.take off++(List.replicate len z++o.els.drop (off+len))⟩)],[i]⟩:=by
  intro op a w0 F0 D μ F H w hop hH hxs hr _ next Q hnx
  have hp:=hxs x (by simp[Op.operands,Call.operands])
  rw[hx] at hp
  have hi:H i=some o:=(hr i (by simp)).trans ho
  obtain⟨ti,v,hti,htv,rfl,hvsz,hone⟩:=hz
  have hcl:=zdc v hone
  have hvl:v.cells.size=sz:=by rw[←hzs,hcl];simp
  generalize hev:a.eval x=u at hp
  cases hp with
  | obn _ _ _ _=>omega
  | ob _ _ _ _ cap b hD hb hkd h1 h2 h3=>
    obtain⟨A,et,g1,g2,g3,g4⟩:=hH.cellsOk hi hb hkd
    rw[hsz] at g2 g3
    have hzl:(Builtin.zeroCells v.cells len).toList.length=len * sz:=by simp[Builtin.zeroCells,hvl]
    have hzg:∀k c,k<len→c<sz→(Builtin.zeroCells v.cells len).toList.getD (k * sz+c) undef=v.cells.getD c undef:=fun k c hk hc=>by
      have hlt:=zqq hk hc
      rw[List.getD_eq_getElem?_getD,List.getElem?_eq_getElem (by rw[hzl];exact hlt)]
      simp only[Builtin.zeroCells,Option.getD_some,Array.getElem_toList,Array.getElem_map,Array.getElem_range]
      rw[show(k * sz+c) % v.cells.size=c by rw[hvl,Nat.mul_comm,Nat.mul_add_mod,Nat.mod_eq_of_lt hc]]
      rw[getElem!_pos v.cells c (by omega)]
      simp[Array.getD,show c<v.cells.size by omega]
    have hAl:(off+len) * sz≤A.size:=Nat.le_trans (Nat.mul_le_mul_right _ hin) g2
    have hst:=run_storeCells_cells (P:=P) b (off * sz) (Builtin.zeroCells v.cells len).toList 0 w (fun j hj=>by
        rw[hzl] at hj
        have:off * sz+j<A.size:=by rw[Nat.add_mul] at hAl;omega
        simp[World.cell?,g1,this]) (fun j hj=>by simp[World.frozen?,g1])
      (fun y hy=>by
        simp only[Builtin.zeroCells,Array.toList_map,List.mem_map,Array.toList_range,List.mem_range] at hy
        obtain⟨j,hj,rfl⟩:=hy
        rw[hvl] at hj
        have hs0:0<sz:=by rcases Nat.eq_zero_or_pos sz with h|h;(subst h;simp at hj);exact h
        have hm:j % v.cells.size<v.cells.size:=Nat.mod_lt _ (by omega)
        rw[getElem!_pos v.cells _ hm]
        exact(Array.all_eq_true_iff_forall_mem.1 hone) _ (Array.getElem_mem hm))
    have hlen:(o.els.take off++(List.replicate len (pvOf v)++o.els.drop (off+len))).length=o.els.length:=by simp;omega
    have hget:∀k (hk:k<(o.els.take off++(List.replicate len (pvOf v)++o.els.drop (off+len))).length),(o.els.take off++(List.replicate len (pvOf v)++o.els.drop (off+len)))[k]=if off≤k∧k<off+len then pvOf v else o.els[k]'(by rw[←hlen];exact hk):=fun k hk=>by
      rw[List.getElem_append]
      split
      · rename_i h;rw[List.length_take] at h;rw[if_neg (by omega),List.getElem_take]
      · rename_i h
        rw[List.length_take] at h
        rw[List.getElem_append]
        split
        · rename_i h4;rw[List.length_replicate,List.length_take] at h4
          rw[if_pos (by omega),List.getElem_replicate]
        · rename_i h4;rw[List.length_replicate,List.length_take] at h4
          rw[if_neg (by omega),List.getElem_drop]
          congr 1
          rw[List.length_take,List.length_replicate];omega
    have hsl:∀k (hk:k<(o.els.take off++(List.replicate len (pvOf v)++o.els.drop (off+len))).length),((o.els.take off++(List.replicate len (pvOf v)++o.els.drop (off+len)))[k]).cells.length=sz:=fun k hk=>by
      rw[hget k hk]
      split
      · exact hzs
      · exact g3 _ _
    obtain⟨hS,hstay⟩:=hH.store i o ⟨sz,o.els.take off++(List.replicate len (pvOf v)++o.els.drop (off+len))⟩ b hi hb hkd (off * sz) (Builtin.zeroCells v.cells len).toList hsz.symm hlen hsl
      (fun k hk c hc hl1 hl2=>by
        have hcs:c<sz:=by have:=hsl k hk;simp only at hc;omega
        have hl2':k * sz+c<off * sz+(Builtin.zeroCells v.cells len).toList.length:=hl2
        rw[hzl,←Nat.add_mul] at hl2'
        have hl1':off * sz≤k * sz+c:=hl1
        have hk1:=row_ge hcs hl1'
        have hk2:=row_lt hl2'
        have e:=(hget k hk).trans (if_pos ⟨hk1,hk2⟩)
        rw[gl0 (congrArg PV.cells e) hc]
        have e2:k * sz+c - off * sz=(k - off) * sz+c:=by
          rw[Nat.sub_mul]
          have:off * sz≤k * sz:=Nat.mul_le_mul_right _ hk1
          omega
        show Rep D μ F w _ ((Builtin.zeroCells v.cells len).toList.getD (k * sz+c - off * sz) undef)
        rw[e2,hzg _ _ (by omega) hcs]
        have hcv:c<v.cells.size:=by omega
        have e3:(pvOf v).cells[c]'(by rw[hzs];exact hcs)=.atom (v.cells[c]):=by
          rw[gl0 hcl _];simp
        rw[e3,show v.cells.getD c undef=v.cells[c] by simp[Array.getD,hcv]]
        exact .atom _)
      (fun k hk c hc hno=>by
        have hcs:c<sz:=by have:=hsl k hk;simp only at hc;omega
        have hno':¬ (off * sz≤k * sz+c∧k * sz+c<off * sz+(Builtin.zeroCells v.cells len).toList.length):=hno
        rw[hzl,←Nat.add_mul] at hno'
        have hkn:¬ (off≤k∧k<off+len):=fun⟨a1,a2⟩=>hno' ⟨by have:off * sz≤k * sz:=Nat.mul_le_mul_right _ a1;omega,zqq a2 hcs⟩
        have e:=(hget k hk).trans (if_neg hkn)
        have hk':k<o.els.length:=by rw[←hlen];exact hk
        exact⟨hk',by rw[←congrArg List.length (congrArg PV.cells e)];exact hc,gl0 (congrArg PV.cells e) hc⟩)
    have hzv:(zeroValue e).run P w=.ok v w:=by simp[zeroValue,typeInfo,hti,htv]
    have hcl2:(Builtin.clear_ #[t] op.type #[.slice (some ⟨b,off * sz,none⟩) len cap]).run P w=.ok (.tuple #[]) (w.setCells b (off * sz) (Builtin.zeroCells v.cells len).toList):=by
      obtain⟨n,rfl⟩:∃n,len=n+1:=⟨len - 1,by omega⟩
      have hst':(storeCells ⟨b,off * sz,none⟩ (Builtin.zeroCells v.cells (n+1)).toList).run P w=.ok () (w.setCells b (off * sz) (Builtin.zeroCells v.cells (n+1)).toList):=by simpa using hst
      simp[Builtin.clear_,run_underlying (zb1 he),hzv,hst']
    have hrun:(execOp a.eval op).run P w=.ok (.value (.tuple #[])) (w.setCells b (off * sz) (Builtin.zeroCells v.cells len).toList):=by
      unfold execOp
      simp[hop,resolve,invoke,builtin,hev,hcl2]
    unfold Oper.wp
    rw[hrun]
    exact hnx _ _ D μ F (.junk _) (by rw[Eff.app_set];exact hS) hstay (fun _ h=>⟨h,rfl⟩) (fun _ h=>h) (fun _ h=>.inl h)
end
def spl (l:List PV) (off:Nat) (cs:List PV):List PV:=l.take off++cs++l.drop (off+cs.length)
theorem znn{l:List PV}{off:Nat}{cs:List PV}(h:off+cs.length≤l.length):(spl l off cs).length=l.length:=by unfold spl;simp;omega
theorem spl_get{l:List PV}{off:Nat}{cs:List PV}(h:off+cs.length≤l.length) (j:Nat):(spl l off cs)[j]? = if off≤j∧j<off+cs.length then cs[j - off]? else l[j]? := by
  unfold spl
  by_cases h1:j<off
  · rw[if_neg (by omega),List.getElem?_append_left (by simp;omega),List.getElem?_append_left (by simp;omega)];simp[h1]
  · by_cases h2:j<off+cs.length
    · rw[if_pos (by omega),List.getElem?_append_left (by simp;omega),List.getElem?_append_right (by simp;omega)]
      congr 1;simp;omega
    · rw[if_neg (by omega),List.getElem?_append_right (by simp;omega)]
      simp only[List.length_append,List.length_take,List.getElem?_drop]
      congr 1;omega
def CellsRep (D:Nat→Prop) (μ:Nat→Option Nat) (F:Nat→Prop) (w:World) (L:List PV) (A:Array Value):Prop:=A.size=L.length∧∀j x,L[j]? = some x→Rep D μ F w x (A.getD j undef)
theorem zq9 (off:Nat):∀(l:List Value) (k:Nat) (A:Array Value),((l.zipIdx k).foldl (fun cs (x:Value×Nat)=>cs.setIfInBounds (off+x.2) x.1) A).size=A.size∧
    ∀j,((l.zipIdx k).foldl (fun cs (x:Value×Nat)=>cs.setIfInBounds (off+x.2) x.1) A).getD j undef=if off+k≤j∧j<off+k+l.length∧j<A.size then l.getD (j - (off+k)) undef else A.getD j undef
  | [],k,A=>⟨rfl,fun j=>by rw[if_neg (by simp;omega)];rfl⟩
  | v :: r,k,A=>by
    obtain⟨h1,h2⟩:=zq9 off r (k+1) (A.setIfInBounds (off+k) v)
    simp only[List.zipIdx_cons,List.foldl_cons]
    refine⟨by rw[h1];simp,fun j=>?_⟩
    rw[h2 j]
    simp only[Array.size_setIfInBounds,List.length_cons]
    by_cases hj:j=off+k
    · subst hj
      rw[if_neg (by omega)]
      by_cases hlt:off+k<A.size
      · rw[if_pos ⟨Nat.le_refl _,by omega,hlt⟩];simp[Array.getD_eq_getD_getElem?,hlt]
      · rw[if_neg (by omega)];simp[Array.getD_eq_getD_getElem?,hlt]
    · have hg:(A.setIfInBounds (off+k) v).getD j undef=A.getD j undef:=by
        simp only[Array.getD_eq_getD_getElem?,Array.getElem?_setIfInBounds_ne (Ne.symm hj)]
      rw[hg]
      by_cases hc:off+(k+1)≤j∧j<off+(k+1)+r.length∧j<A.size
      · rw[if_pos hc,if_pos ⟨by omega,by omega,hc.2.2⟩]
        rw[show j - (off+k)=(j - (off+(k+1)))+1 by omega,List.getD_cons_succ]
      · rw[if_neg hc,if_neg (by omega)]
def zeZ (place:Nat→Option (Nat×Nat)):List PV→List (Nat×PV)→Option (List PV)
  | L,[]=>some L
  | L,(i,v) :: r=>match place i with
    | some (off,size)=>if v.cells.length=size∧off+size≤L.length∧v.cells.all PV.one=true then zeZ place (spl L off v.cells) r else none
    | none=>none
theorem zii {D:Nat→Prop}{μ:Nat→Option Nat}{F:Nat→Prop}{w:World}{place:Nat→Option (Nat×Nat)}:∀(ps:List (Nat×PV)) (vs:List (Nat×Value)) (L L':List PV) (A:Array Value),CellsRep D μ F w L A→
    vs.length=ps.length→(∀(j:Nat) (p:Nat×PV) (u:Nat×Value),ps[j]? = some p→vs[j]? = some u→p.1=u.1∧Rep D μ F w p.2 u.2)→zeZ place L ps=some L'→
    ∃A',Instr.fill place A vs=some A'∧CellsRep D μ F w L' A'
  | [],[],L,L',A,h,_,_,hp=>by simp[zeZ] at hp;subst hp;exact⟨A,rfl,h⟩
  | (i, v) :: r,(i',u) :: us,L,L',A,h,hl,hr,hp=>by
    obtain⟨h0,h0r⟩:=hr 0 (i,v) (i',u) rfl rfl
    simp only at h0 h0r
    subst h0
    unfold zeZ at hp
    cases hpl:place i with
    | none=>simp[hpl] at hp
    | some os=>
      obtain⟨off,size⟩:=os
      simp only[hpl] at hp
      split at hp
      · rename_i hc
        obtain⟨c1,c2,c3⟩:=hc
        subst c1
        obtain⟨q1,q2,q3⟩:=h0r.cells c3
        have hf:=zq9 off u.cells.toList 0 A
        have e:u.cells.zipIdx.foldl (fun cs (x:Value×Nat)=>cs.setIfInBounds (off+x.2) x.1) A=(u.cells.toList.zipIdx 0).foldl (fun cs (x:Value×Nat)=>cs.setIfInBounds (off+x.2) x.1) A:=by
          rw[←Array.foldl_toList,Array.toList_zipIdx]
        rw[←e] at hf
        obtain⟨f1,f2⟩:=hf
        have hstep:CellsRep D μ F w (spl L off v.cells) (u.cells.zipIdx.foldl (fun cs (x:Value×Nat)=>cs.setIfInBounds (off+x.2) x.1) A):=by
          refine⟨by rw[f1,h.1,znn c2],fun j x hx=>?_⟩
          rw[spl_get c2] at hx
          rw[f2 j]
          simp only[Nat.add_zero,Array.length_toList,q1]
          by_cases hj:off≤j∧j<off+v.cells.length
          · rw[if_pos hj] at hx
            rw[if_pos ⟨hj.1,hj.2,by rw[h.1];omega⟩]
            have hlt:j - off<v.cells.length:=by omega
            rw[List.getElem?_eq_getElem hlt] at hx
            cases hx
            have:=q2 (j - off) hlt
            simpa[Array.getD_eq_getD_getElem?,List.getD_eq_getElem?_getD] using this
          · rw[if_neg hj] at hx
            rw[if_neg (fun hh=>hj ⟨hh.1,hh.2.1⟩)]
            exact h.2 j x hx
        obtain⟨A',g1,g2⟩:=zii r us (spl L off v.cells) L' _ hstep (by simpa using hl) (fun j p u' hp hu=>hr (j+1) p u' (by simpa using hp) (by simpa using hu)) hp
        refine⟨A',?_,g2⟩
        unfold Instr.fill
        rw[hpl]
        have hno:¬ (u.cells.size≠v.cells.length || off+u.cells.size>A.size)=true:=by
          rw[q1,h.1];simp;omega
        simp only[hno,Bool.false_eq_true,if_false]
        exact g1
      · cases hp
  | [],_ :: _,_,_,_,_,hl,_,_=>by simp at hl
  | _ :: _,[],_,_,_,_,hl,_,_=>by simp at hl
theorem CellsRep.zero{D:Nat→Prop}{μ:Nat→Option Nat}{F:Nat→Prop}{w:World}(v:Value) (h:v.cells.all (·.oneCell')=true):CellsRep D μ F w (pvOf v).cells v.cells:=by
  rw[zdc v h]
  refine⟨by simp,fun j x hx=>?_⟩
  rw[List.getElem?_map] at hx
  cases hv:v.cells.toList[j]? with
  | none=>rw[hv] at hx;cases hx
  | some u=>
    rw[hv] at hx
    cases hx
    have:v.cells.getD j undef=u:=by
      rw[Array.getElem?_toList] at hv
      simp[Array.getD_eq_getD_getElem?,hv]
    rw[this];exact .atom _
theorem flat_set (els:List PV) (sz:Nat) (h:∀k (h:k<els.length),els[k].cells.length=sz):∀(i:Nat) (v:PV),i<els.length→v.cells.length=sz→flat (els.set i v)=spl (flat els) (i * sz) v.cells:=by
  induction els with
  | nil=>intro i v hi;simp at hi
  | cons a l ih=>
    have h0:a.cells.length=sz:=h 0 (by simp)
    have ih':=ih (fun k hk=>by have:=h (k+1) (by simp;omega);simpa using this)
    intro i v hi hv
    cases i with
    | zero=>
      simp only[List.set_cons_zero,flat,List.flatMap_cons,Nat.zero_mul,spl,List.take_zero,List.nil_append,Nat.zero_add,hv]
      rw[←h0,List.drop_left]
    | succ i=>
      have:=ih' i v (by simpa using hi) hv
      simp only[List.set_cons_succ,flat,List.flatMap_cons,spl] at this ⊢
      rw[this]
      have e1:(i+1) * sz=a.cells.length+i * sz:=by rw[Nat.add_mul,h0];omega
      have e2:a.cells.length+i * sz+v.cells.length=a.cells.length+(i * sz+v.cells.length):=by omega
      rw[e1,e2,List.take_length_add_append,List.drop_length_add_append]
      simp[List.append_assoc]
theorem zi0{D:Nat→Prop}{μ:Nat→Option Nat}{F:Nat→Prop}{w:World}{els:List PV}{sz:Nat}{A:Array Value}(h:∀k (h:k<els.length),els[k].cells.length=sz) (hc:CellsRep D μ F w (flat els) A):
    ∀k (hk:k<els.length) c (hc:c<els[k].cells.length),Rep D μ F w (els[k].cells[c]) (A.getD (k * sz+c) undef):=fun k hk c hc'=>hc.2 _ _ (zmq els sz h k hk c hc')
section
variable {P:Program}
def za7 (P:Program) (t:TypeId) (i:Nat):Option (Nat×Nat):=
  match P.underlying t with
  | some (.array _ e)=>(P.info? e).map fun ie=>(i * ie.size,ie.size)
  | some (.struct fs)=>(fs[i]?).bind fun f=>(P.info? f.type).map fun x=>(f.offset,x.size)
  | _=>none
theorem zma{α β:Type}(f:α→Option β):∀(l:List α) (r:List β),l.mapM f=some r→∀(i:Nat),r[i]? = (l[i]?).bind f
  | [],r,h,i=>by simp at h;subst h;simp
  | a :: l,r,h,i=>by
    simp only[List.mapM_cons,Option.bind_eq_bind,Option.pure_def] at h
    cases ha:f a with
    | none=>simp[ha] at h
    | some b=>
      cases hl:l.mapM f with
      | none=>simp[ha,hl] at h
      | some r'=>
        simp[ha,hl] at h
        subst h
        cases i with
        | zero=>simp[ha]
        | succ i=>simpa using zma f l r' hl i
def zct (P:Program) (t:TypeId):Bool:=
  match P.underlying t with
  | some (.array _ e)=>(P.info? e).isSome
  | some (.struct fs)=>(fs.toList.mapM (fun f=>(P.info? f.type).map fun i=>(f.offset,i.size))).isSome
  | _=>false
def zcC (S:St) (ps:Array (Nat×Operand)):List (Nat×PV):=ps.toList.map fun p=>(p.1,S.ev p.2)
theorem zjd{D:Nat→Prop}{μ:Nat→Option Nat}{F:Nat→Prop}{w:World}{S:St}{a:Act}{ps:Array (Nat×Operand)}(hx:∀x,x∈(ps.toList.map (·.2))→Rep D μ F w (S.ev x) (a.eval x)):
    (ps.map fun(i,x)=>(i,a.eval x)).toList.length=(zcC S ps).length∧∀(j:Nat) (p:Nat×PV) (u:Nat×Value),(zcC S ps)[j]? = some p→(ps.map fun(i,x)=>(i,a.eval x)).toList[j]? = some u→p.1=u.1∧Rep D μ F w p.2 u.2:=by
  refine⟨by simp[zcC],fun j p u hp hu=>?_⟩
  simp only[zcC,List.getElem?_map,Array.toList_map] at hp hu
  cases hj:ps.toList[j]? with
  | none=>rw[hj] at hp;cases hp
  | some q=>
    rw[hj] at hp hu
    cases hp;cases hu
    exact⟨rfl,hx q.2 (List.mem_map.2 ⟨q,List.mem_of_getElem? hj,rfl⟩)⟩
theorem Sound.build{t:TypeId}{ps:Array (Nat×Operand)}{S:St}{z:PV}{L:List PV}(hz:zgn P t z) (hk:zct P t=true) (hL:zeZ (za7 P t) z.cells (zcC S ps)=some L):Sound P (.build t ps) S (.agg L) e0:=
  Sound.quiet fun op a w0 F0 D μ F H w hop hH hxs hr=>by
    obtain⟨i,v,hi,hv,rfl,hsz,h1⟩:=hz
    obtain⟨p1,p2⟩:=zjd (D:=D) (μ:=μ) (F:=F) (w:=w) (S:=S) (a:=a) (ps:=ps) (fun x hx=>hxs x (by simpa[Op.operands] using hx))
    obtain⟨A,hA,hrep⟩:=zii (D:=D) (μ:=μ) (F:=F) (w:=w) (place:=za7 P t) _ _ _ _ _ (CellsRep.zero v h1) p1 p2 hL
    have hb : P.built t (ps.map fun(i,x)=>(i,a.eval x)).toList=some A:=by
      unfold Program.built
      unfold zct at hk
      cases hu:P.underlying t with
      | none=>rw[hu] at hk;cases hk
      | some d=>
        cases d<;>try (rw[hu] at hk;cases hk;done)
        case array n e=>
          rw[hu] at hk
          obtain⟨ie,hie⟩:=Option.isSome_iff_exists.1 hk
          have:za7 P t=fun i=>some (i * ie.size,ie.size):=by funext i;simp[za7,hu,hie]
          rw[this] at hA
          simp only[hi,hv,hie];exact hA
        case struct fs=>
          rw[hu] at hk
          obtain⟨pl,hpl⟩:=Option.isSome_iff_exists.1 hk
          have:za7 P t=fun i=>pl.toArray[i]? := by
            funext i
            have:=zma _ _ _ hpl i
            simp only[za7,hu,List.getElem?_toArray,this,Array.getElem?_toList]
          rw[this] at hA
          simp only[hi,hv,hpl];exact hA
    refine⟨.agg A,by unfold execOp;simp[hop,run_build w t _ A hb],.agg _ _ hrep.1 fun j hj=>hrep.2 j _ (List.getElem?_eq_getElem hj)⟩
def zce (els:List PV) (ps:List (Nat×PV)):List PV:=ps.foldl (fun l p=>l.set p.1 p.2) els
theorem zhs (sz:Nat):∀(ps:List (Nat×PV)) (els:List PV),(∀k (h:k<els.length),els[k].cells.length=sz)→(∀p,p∈ps→p.1<els.length∧p.2.cells.length=sz∧p.2.cells.all PV.one=true)→
    zeZ (fun i=>some (i * sz,sz)) (flat els) ps=some (flat (zce els ps))∧(zce els ps).length=els.length∧∀k (h:k<(zce els ps).length),(zce els ps)[k].cells.length=sz
  | [],els,h,_=>⟨rfl,rfl,h⟩
  | (i,v) :: r,els,h,hp=>by
    obtain⟨h1,h2,h3⟩:=hp (i,v) (by simp)
    simp only at h1 h2 h3
    have hfl:=zeh els sz h
    have hi:i * sz+sz≤els.length * sz:=by have:(i+1) * sz≤els.length * sz:=Nat.mul_le_mul_right _ h1;rw[Nat.add_mul] at this;omega
    have hs:=flat_set els sz h i v h1 h2
    have h':∀k (hk:k<(els.set i v).length),(els.set i v)[k].cells.length=sz:=fun k hk=>by
      simp only[List.getElem_set];split
      · exact h2
      · exact h k (by simpa using hk)
    obtain⟨g1,g2,g3⟩:=zhs sz r (els.set i v) h' (fun p hpm=>by rw[List.length_set];exact hp p (by simp[hpm]))
    refine⟨?_,by simpa[zce] using g2,by simpa[zce] using g3⟩
    unfold zeZ
    simp only
    rw[if_pos ⟨h2,by rw[hfl];exact hi,h3⟩,←hs,g1]
    rfl
theorem Sound.buildSlice{t e:TypeId}{n:Nat}{ps:Array (Nat×Operand)}{S:St}{z:PV}(he:zaN P t=some e) (hz:zgn P e z) (hn:n * z.cells.length≤16777216) (hn2:n≤16777216) (hps:∀p,p∈zcC S ps→p.1<n∧p.2.cells.length=z.cells.length∧p.2.cells.all PV.one=true):
    Sound P (.buildSlice t n ps) S (.ob S.nx z.cells.length 0 n) ⟨[⟨z.cells.length,zce (List.replicate n z) (zcC S ps)⟩],[],[],[]⟩:=
  Sound.makes fun op a w0 F0 D μ F H w hop hH hxs _ hD=>by
    obtain⟨i,v,hi,hv,rfl,hsz,h1⟩:=hz
    have hcl:=zdc v h1
    have hlen:(pvOf v).cells.length=i.size:=by rw[hcl];simpa using hsz
    rw[hlen] at hn hps ⊢
    obtain⟨p1,p2⟩:=zjd (D:=D) (μ:=μ) (F:=F) (w:=w) (S:=S) (a:=a) (ps:=ps) (fun x hx=>hxs x (by simpa[Op.operands] using hx))
    have hrl:∀k (h:k<(List.replicate n (pvOf v)).length),(List.replicate n (pvOf v))[k].cells.length=i.size:=fun k hk=>by simp[hlen]
    obtain⟨g1,g2,g3⟩:=zhs i.size (zcC S ps) (List.replicate n (pvOf v)) hrl (fun p hp=>by simpa using hps p hp)
    have hms:(madeCells v.cells (n * i.size)).size=n * i.size:=size_madeCells _ _
    have hzero:CellsRep D μ F w (flat (List.replicate n (pvOf v))) (madeCells v.cells (n * i.size)):=by
      refine⟨by rw[hms,zeh _ i.size hrl];simp,fun j x hx=>?_⟩
      have hj:j<n * i.size:=by
        have:=(List.getElem?_eq_some_iff.1 hx).1
        rw[zeh _ i.size hrl] at this;simpa using this
      obtain⟨k,hk,c,hc,rfl⟩:=zhI (List.replicate n (pvOf v)) i.size hrl (by simpa using hj)
      rw[zmq _ i.size hrl k hk c hc] at hx
      have hk':k<n:=by simpa using hk
      simp only[List.getElem_replicate] at hx hc
      have hcc:c<i.size:=by rw[←hlen];exact hc
      have e1:(madeCells v.cells (n * i.size)).getD (k * i.size+c) undef=v.cells[c]'(by omega):=by
        unfold Array.getD
        rw[dif_pos (by rw[hms];exact hj)]
        simp only[madeCells,Array.getInternal_eq_getElem,Array.getElem_map,Array.getElem_range]
        have:(k * i.size+c) % v.cells.size=c:=by rw[hsz,Nat.mul_comm,Nat.mul_add_mod,Nat.mod_eq_of_lt hcc]
        rw[this]
        exact getElem!_pos v.cells c (by omega)
      rw[e1]
      cases hx
      have:(pvOf v).cells[c]=.atom (v.cells[c]'(by omega)):=by simp[hcl]
      rw[this]
      exact .atom _
    obtain⟨A,hA,hrep⟩:=zii (D:=D) (μ:=μ) (F:=F) (w:=w) _ _ _ _ _ hzero p1 p2 g1
    have hrun:(Instr.buildSlice t n (ps.map fun(i,x)=>(i,a.eval x))).run P w=.ok (.slice (some ⟨w.heap.size,0,none⟩) n n) (w.alloc (.cells A e)):=by
      by_cases h0:n * i.size=0
      · have hA':Instr.fill (fun x=>some (x * i.size,i.size)) ((Array.range 0).map ((#[]:Array Value)[· % (#[]:Array Value).size]!)) (ps.map fun(i,x)=>(i,a.eval x)).toList=some A:=by
          have e2:madeCells v.cells (n * i.size)=(Array.range 0).map ((#[]:Array Value)[· % (#[]:Array Value).size]!):=by
            rw[h0];simp[madeCells,Array.range_zero']
          rw[←e2];exact hA
        simp only[Array.range_zero',List.map_toArray] at hA'
        simp[Instr.buildSlice,run_underlying (zb1 he),sizeOf,typeInfo,hi,h0,newRow,Array.range_zero'] at hA' ⊢
        simp[hA']
      · exact run_buildSlice w t e n _ A i v (zb1 he) hi hv (by omega) h0 hA
    have hsl:(zce (List.replicate n (pvOf v)) (zcC S ps)).length=n:=by rw[g2];simp
    have hAs:A.size=n * i.size:=by rw[hrep.1,zeh _ i.size g3,hsl]
    have hS:=hH.alloc S.nx hD A e ⟨i.size,zce (List.replicate n (pvOf v)) (zcC S ps)⟩ (by simp only[hsl,hAs];exact Nat.le_refl _) g3 (zi0 g3 hrep)
    refine⟨.slice (some ⟨w.heap.size,0,none⟩) n n,w.alloc (.cells A e),some w.heap.size,?_,?_,hS,Stay.below ((Below.refl _ _).alloc (Nat.le_refl _) _)⟩
    · unfold execOp;simp only[hop,Sem.run_bind,hrun,Result.andThen_ok,Sem.run_pure]
    · have:=Rep.ob (D:=also D S.nx) (μ:=upd μ S.nx (some w.heap.size)) (F:=F) (w:=w.alloc (.cells A e)) S.nx i.size 0 n n w.heap.size (.inr rfl) (zbg _ _ _) (isCells.new _ _ _) (Nat.le_refl _) (by unfold maxLen;omega)
        (by simp only[zbS,heap_alloc_new,hAs];simp)
      simpa using this
end
end Go.Proofs.Ytehoglapajkabaa
