/-
  The clean machine: other numbers for own objects;own objects looked at as frozen ones;calls of functions that only compute.
-/
import Derived.Test.YtehoglapajkabaaIV7
set_option linter.all false
namespace Go.Proofs.Ytehoglapajkabaa
open Go Go.RowKit
mutual
def PV.ren (ρ:Nat→Nat):PV→PV
  | .junk=>.junk
  | .atom v=>.atom v
  | .agg l=>.agg (renL ρ l)
  | .tup l=>.tup (renL ρ l)
  | .sl sz l=>.sl sz (renL ρ l)
  | .own sz l=>.own sz (renL ρ l)
  | .ob i sz off len=>.ob (ρ i) sz off len
  | .ptr i sz k c=>.ptr (ρ i) sz k c
  | .mp i=>.mp (ρ i)
  | .it i=>.it (ρ i)
  | .mark i=>.mark (ρ i)
  | .is b i=>.is b (ρ i)
  | .amp=>.amp
  | .fmp l=>.fmp (renL ρ l)
  | .fptr sz l k c=>.fptr sz (renL ρ l) k c
  | .fn f l=>.fn f (renL ρ l)
def renL (ρ:Nat→Nat):List PV→List PV
  | []=>[]
  | p :: l=>p.ren ρ :: renL ρ l
end
theorem za4 (ρ:Nat→Nat):∀l:List PV,renL ρ l=l.map (PV.ren ρ)
  | []=>rfl
  | p :: l=>by rw[renL,za4 ρ l];rfl
theorem zcv (ρ:Nat→Nat) (ks:List ByteArray):(ks.map setE).map (PV.ren ρ)=ks.map setE:=by
  rw[List.map_map];rfl
theorem zaX (ρ:Nat→Nat) (p:PV):(p.ren ρ).cells=p.cells.map (PV.ren ρ):=by
  cases p<;>simp[PV.ren,PV.cells,za4]
mutual
def PV.pure:PV→Bool
  | .junk | .atom _ | .amp=>true
  | .agg l | .tup l | .sl _ l | .fptr _ l _ _ | .fn _ l | .fmp l=>zaw l
  | .own _ _ | .ob _ _ _ _ | .ptr _ _ _ _ | .mp _ | .it _ | .mark _ | .is _ _=>false
def zaw:List PV→Bool
  | []=>true
  | p :: l=>p.pure && zaw l
end
theorem zbr:∀l:List PV,zaw l=l.all PV.pure
  | []=>rfl
  | p :: l=>by rw[zaw,zbr l];rfl
theorem zhu{p:PV}(h:p.pure=true):p.cells.all PV.pure=true:=by
  cases p<;>simp_all[PV.cells,PV.pure,zbr]
mutual
def PV.flatB:PV→Bool
  | .junk | .atom _ | .ob _ _ _ _ | .ptr _ _ _ _ | .mp _ | .it _ | .mark _ | .is _ _=>true
  | .agg l | .tup l | .fn _ l=>zha l
  | .sl _ []=>true
  | .sl _ (_ :: _) | .fptr _ _ _ _ | .own _ _ | .fmp _ | .amp=>false
def zha:List PV→Bool
  | []=>true
  | p :: l=>p.flatB && zha l
end
theorem zeC:∀l:List PV,zha l=l.all PV.flatB
  | []=>rfl
  | p :: l=>by rw[zha,zeC l];rfl
mutual
def PV.noOb:PV→Bool
  | .junk | .atom _ | .sl _ _ | .fptr _ _ _ _ | .fmp _ | .amp=>true
  | .agg l | .tup l | .fn _ l=>zf6 l
  | .ob _ _ _ _ | .ptr _ _ _ _ | .own _ _ | .mp _ | .it _ | .mark _ | .is _ _=>false
def zf6:List PV→Bool
  | []=>true
  | p :: l=>p.noOb && zf6 l
end
theorem zji:∀l:List PV,zf6 l=l.all PV.noOb
  | []=>rfl
  | p :: l=>by rw[zf6,zji l];rfl
section
variable {P:Program} {w0:Home} {F0 D D':Nat→Prop} {μ μ':Nat→Option Nat} {F F':Nat→Prop} {H:Nat→Option AO} {w w':World}
theorem getElem_map' (f:PV→PV) (l:List PV) (k:Nat) (h:k<(l.map f).length):(l.map f)[k]=f (l[k]'(by simpa using h)):=by simp
theorem Rep.ren{p:PV}{v:Value}{ρ:Nat→Nat}(h:Rep D μ F w p v) (hD:∀i,D i→D' (ρ i)∧μ' (ρ i)=μ i):Rep D' μ' F w (p.ren ρ) v:=by
  induction h with
  | junk v=>exact .junk v
  | atom v=>exact .atom v
  | agg l vs h1 _ ih=>simp only[PV.ren,za4];exact .agg _ vs (by simpa using h1) (fun i hi=>by rw[getElem_map'];exact ih i (by simpa using hi))
  | tup l vs h1 _ ih=>simp only[PV.ren,za4];exact .tup _ vs (by simpa using h1) (fun i hi=>by rw[getElem_map'];exact ih i (by simpa using hi))
  | sl0 sz a cap h1 h2 h3=>simp only[PV.ren,za4,List.map_nil];exact .sl0 sz a cap h1 h2 h3
  | sl sz l b off cap g h1 h2 h3 h4 h5 _ ih=>
    simp only[PV.ren,za4]
    have:=Rep.sl (D:=D') (μ:=μ') (F:=F) (w:=w) sz (l.map (PV.ren ρ)) b off cap g h1 (by simpa using h2) h3 (by simpa using h4) (fun k hk=>by rw[getElem_map',zaX,List.length_map];exact h5 k (by simpa using hk))
      (fun k hk c hc=>by
        have hk':k<l.length:=by simpa using hk
        have hc':c<l[k].cells.length:=by rw[getElem_map',zaX,List.length_map] at hc;exact hc
        have e:(l.map (PV.ren ρ))[k].cells[c]=(l[k].cells[c]).ren ρ:=by simp[zaX]
        rw[e];exact ih k hk' c hc')
    simpa using this
  | ob i sz off len cap b h1 hb hk h2 h3 h4=>exact .ob _ sz off len cap b (hD i h1).1 ((hD i h1).2.trans hb) hk h2 h3 h4
  | obn i sz h1 hb=>exact .obn _ sz (hD i h1).1 ((hD i h1).2.trans hb)
  | ptr i sz k c b h1 hb hk=>exact .ptr _ sz k c b (hD i h1).1 ((hD i h1).2.trans hb) hk
  | mp i b h1 hb hk=>exact .mp _ b (hD i h1).1 ((hD i h1).2.trans hb) hk
  | it i b h1 hb hk=>exact .it _ b (hD i h1).1 ((hD i h1).2.trans hb) hk
  | mark i v h1 hb=>exact .mark _ v (hD i h1).1 (by rw[(hD i h1).2];exact hb)
  | fmp l b es ck h1 h2 h3 h4 _ ih=>simp only[PV.ren,za4];exact .fmp _ b es ck h1 h2 h3 (by simpa using h4) (fun j hj=>by rw[getElem_map'];exact ih j (by simpa using hj))
  | is b i v h1 hb=>exact .is b _ v (hD i h1).1 ((hD i h1).2.trans hb)
  | amp ks v _ ih=>exact .amp ks v (by simpa only[PV.ren,za4,zcv] using ih)
  | ampN=>exact .ampN
  | fptr sz l k c b off g h1 h2 h3 _ ih=>
    simp only[PV.ren,za4]
    exact .fptr sz (l.map (PV.ren ρ)) k c b off g h1 (by simpa using h2) (fun k hk=>by rw[getElem_map',zaX,List.length_map];exact h3 k (by simpa using hk))
      (fun k hk c hc=>by
        have hk':k<l.length:=by simpa using hk
        have hc':c<l[k].cells.length:=by rw[getElem_map',zaX,List.length_map] at hc;exact hc
        have e:(l.map (PV.ren ρ))[k].cells[c]=(l[k].cells[c]).ren ρ:=by simp[zaX]
        rw[e];exact ih k hk' c hc')
  | fn f cap vs h1 _ ih=>simp only[PV.ren,za4];exact .fn f _ vs (by simpa using h1) (fun i hi=>by rw[getElem_map'];exact ih i (by simpa using hi))
theorem Rep.ren_inv{q:PV}{v:Value}{ρ:Nat→Nat}(h:Rep D μ F w q v) (hD:∀i,D (ρ i)→D' i∧μ' i=μ (ρ i)):∀p:PV,p.ren ρ=q→Rep D' μ' F w p v:=by
  induction h with
  | junk v=>intro p hp;cases p<;>simp only[PV.ren] at hp<;>cases hp;exact .junk v
  | atom v=>intro p hp;cases p<;>simp only[PV.ren] at hp<;>cases hp;exact .atom v
  | agg l vs h1 _ ih=>
    intro p hp;cases p<;>simp only[PV.ren,za4] at hp<;>cases hp
    exact .agg _ vs (by simpa using h1) (fun i hi=>ih i (by simpa using hi) _ (by rw[getElem_map']))
  | tup l vs h1 _ ih=>
    intro p hp;cases p<;>simp only[PV.ren,za4] at hp<;>cases hp
    exact .tup _ vs (by simpa using h1) (fun i hi=>ih i (by simpa using hi) _ (by rw[getElem_map']))
  | sl0 sz a cap h1 h2 h3=>
    intro p hp
    cases p<;>simp only[PV.ren,za4] at hp<;>try (cases hp;done)
    simp only[PV.sl.injEq,List.map_eq_nil_iff] at hp
    obtain⟨rfl,rfl⟩:=hp
    exact .sl0 _ a cap h1 h2 h3
  | sl sz l b off cap g h1 h2 h3 h4 h5 _ ih=>
    intro p hp;cases p<;>simp only[PV.ren,za4] at hp<;>try (cases hp;done)
    rename_i sz' l'
    simp only[PV.sl.injEq] at hp
    obtain⟨rfl,rfl⟩:=hp
    have:=Rep.sl (D:=D') (μ:=μ') (F:=F) (w:=w) sz' l' b off cap g h1 (by simpa using h2) h3 (by simpa using h4)
      (fun k hk=>by have:=h5 k (by simpa using hk);rwa [getElem_map',zaX,List.length_map] at this)
      (fun k hk c hc=>ih k (by simpa using hk) c (by rw[getElem_map',zaX,List.length_map];exact hc) _ (by simp[zaX]))
    simpa using this
  | ob i sz off len cap b h1 hb hk h2 h3 h4=>
    intro p hp;cases p<;>simp only[PV.ren] at hp<;>cases hp
    exact .ob _ sz off len cap b (hD _ h1).1 ((hD _ h1).2.trans hb) hk h2 h3 h4
  | obn i sz h1 hb=>
    intro p hp;cases p<;>simp only[PV.ren] at hp<;>cases hp
    exact .obn _ sz (hD _ h1).1 ((hD _ h1).2.trans hb)
  | ptr i sz k c b h1 hb hk=>
    intro p hp;cases p<;>simp only[PV.ren] at hp<;>cases hp
    exact .ptr _ sz k c b (hD _ h1).1 ((hD _ h1).2.trans hb) hk
  | mp i b h1 hb hk=>
    intro p hp;cases p<;>simp only[PV.ren] at hp<;>cases hp
    exact .mp _ b (hD _ h1).1 ((hD _ h1).2.trans hb) hk
  | it i b h1 hb hk=>
    intro p hp;cases p<;>simp only[PV.ren] at hp<;>cases hp
    exact .it _ b (hD _ h1).1 ((hD _ h1).2.trans hb) hk
  | mark i v h1 hb=>
    intro p hp;cases p<;>simp only[PV.ren] at hp<;>cases hp
    exact .mark _ v (hD _ h1).1 (by rw[(hD _ h1).2];exact hb)
  | fmp l b es ck h1 h2 h3 h4 _ ih=>
    intro p hp;cases p<;>simp only[PV.ren,za4] at hp<;>cases hp
    exact .fmp _ b es ck h1 h2 h3 (by simpa using h4) (fun j hj=>ih j (by simpa using hj) _ (by rw[getElem_map']))
  | is b i v h1 hb=>
    intro p hp;cases p<;>simp only[PV.ren] at hp<;>cases hp
    exact .is b _ v (hD _ h1).1 ((hD _ h1).2.trans hb)
  | amp ks v _ ih=>
    intro p hp;cases p<;>simp only[PV.ren] at hp<;>try (cases hp;done)
    exact .amp ks v (ih (.fmp (ks.map setE)) (by simp only[PV.ren,za4,zcv]))
  | ampN => intro p hp;cases p<;>simp only[PV.ren] at hp<;>try (cases hp;done)
            exact .ampN
  | fptr sz l k c b off g h1 h2 h3 _ ih=>
    intro p hp;cases p<;>simp only[PV.ren,za4] at hp<;>try (cases hp;done)
    rename_i sz' l' k' c'
    simp only[PV.fptr.injEq] at hp
    obtain⟨rfl,rfl,rfl,rfl⟩:=hp
    exact .fptr sz' l' k' c' b off g h1 (by simpa using h2) (fun k hk=>by have:=h3 k (by simpa using hk);rwa [getElem_map',zaX,List.length_map] at this)
      (fun k hk c hc=>ih k (by simpa using hk) c (by rw[getElem_map',zaX,List.length_map];exact hc) _ (by simp[zaX]))
  | fn f cap vs h1 _ ih=>
    intro p hp;cases p<;>simp only[PV.ren,za4] at hp<;>cases hp
    exact .fn f _ vs (by simpa using h1) (fun i hi=>ih i (by simpa using hi) _ (by rw[getElem_map']))
theorem zbj{f:PV→Bool}{l:List PV}(h:l.all f=true) (i:Nat) (hi:i<l.length):f l[i]=true:=List.all_eq_true.1 h _ (List.getElem_mem hi)
theorem Rep.pureAny{p:PV}{v:Value}(h:Rep D μ F w p v) (hp:p.pure=true):Rep D' μ' F w p v:=by
  induction h with
  | junk v=>exact .junk v
  | atom v=>exact .atom v
  | agg l vs h1 _ ih=>simp only[PV.pure,zbr] at hp;exact .agg _ vs h1 (fun i hi=>ih i hi (zbj hp i hi))
  | tup l vs h1 _ ih=>simp only[PV.pure,zbr] at hp;exact .tup _ vs h1 (fun i hi=>ih i hi (zbj hp i hi))
  | sl0 sz a cap h1 h2 h3=>exact .sl0 sz a cap h1 h2 h3
  | sl sz l b off cap g h1 h2 h3 h4 h5 _ ih=>simp only[PV.pure,zbr] at hp;exact .sl sz l b off cap g h1 h2 h3 h4 h5 (fun k hk c hc=>ih k hk c hc (zbj (zhu (zbj hp k hk)) c hc))
  | ob i sz off len cap b h1 hb hk h2 h3 h4=>cases hp
  | obn i sz h1 hb=>cases hp
  | ptr i sz k c b h1 hb hk=>cases hp
  | mp i b h1 hb hk=>cases hp
  | it i b h1 hb hk=>cases hp
  | mark i v h1 hb=>cases hp
  | fmp l b es ck h1 h2 h3 h4 _ ih=>simp only[PV.pure,zbr] at hp;exact .fmp l b es ck h1 h2 h3 h4 (fun j hj=>ih j hj (zbj hp j hj))
  | is b i v h1 hb=>cases hp
  | amp ks v _ ih=>exact .amp ks v (ih (by simp only[PV.pure,zbr,List.all_map];exact List.all_eq_true.2 (fun _ _=>rfl)))
  | ampN=>exact .ampN
  | fptr sz l k c b off g h1 h2 h3 _ ih=>simp only[PV.pure,zbr] at hp;exact .fptr sz l k c b off g h1 h2 h3 (fun k hk c hc=>ih k hk c hc (zbj (zhu (zbj hp k hk)) c hc))
  | fn f cap vs h1 _ ih=>simp only[PV.pure,zbr] at hp;exact .fn f _ vs h1 (fun i hi=>ih i hi (zbj hp i hi))
theorem Rep.flatAny{p:PV}{v:Value}(h:Rep D μ F w p v) (hp:p.flatB=true):Rep D μ F' w p v:=by
  induction h with
  | junk v=>exact .junk v
  | atom v=>exact .atom v
  | agg l vs h1 _ ih=>simp only[PV.flatB,zeC] at hp;exact .agg _ vs h1 (fun i hi=>ih i hi (zbj hp i hi))
  | tup l vs h1 _ ih=>simp only[PV.flatB,zeC] at hp;exact .tup _ vs h1 (fun i hi=>ih i hi (zbj hp i hi))
  | sl0 sz a cap h1 h2 h3=>exact .sl0 sz a cap h1 h2 h3
  | sl sz l b off cap g h1 h2 h3 h4 h5 _ ih=>
    cases l with
    | nil=>exact .sl0 sz _ cap h3 (fun e=>by cases e) (fun x hx=>by cases hx;rfl)
    | cons a l=>cases hp
  | ob i sz off len cap b h1 hb hk h2 h3 h4=>exact .ob i sz off len cap b h1 hb hk h2 h3 h4
  | obn i sz h1 hb=>exact .obn i sz h1 hb
  | ptr i sz k c b h1 hb hk=>exact .ptr i sz k c b h1 hb hk
  | mp i b h1 hb hk=>exact .mp i b h1 hb hk
  | it i b h1 hb hk=>exact .it i b h1 hb hk
  | mark i v h1 hb=>exact .mark i v h1 hb
  | fmp l b es ck h1 h2 h3 h4 _ ih=>cases hp
  | is b i v h1 hb=>exact .is b i v h1 hb
  | amp ks v _ ih=>cases hp
  | ampN=>cases hp
  | fptr sz l k c b off g h1 h2 h3 _ ih=>cases hp
  | fn f cap vs h1 _ ih=>simp only[PV.flatB,zeC] at hp;exact .fn f _ vs h1 (fun i hi=>ih i hi (zbj hp i hi))
theorem znT{p:PV}(h:p.flatB=true):p.cells.all PV.flatB=true:=by
  cases p with
  | agg l=>simpa[PV.cells,PV.flatB,zeC] using h
  | _=>simpa[PV.cells] using h
theorem gl{a b:List PV}(h:a=b) {c:Nat}(hc:c<a.length):a[c]=b[c]'(by rw[←h];exact hc):=by subst h;rfl
def sealed (H:Nat→Option AO) (keep:Nat→Bool):Nat→PV→PV
  | 0,p=>p
  | n+1,.agg l=>.agg (l.map (sealed H keep n))
  | n+1,.tup l=>.tup (l.map (sealed H keep n))
  | n+1,.fn f l=>.fn f (l.map (sealed H keep n))
  | n+1,.ob i sz off len=>if keep i then .ob i sz off len else match H i with
    | some o=>if o.sz=sz∧off+len≤o.els.length then .sl sz (((o.els.drop off).take len).map (sealed H keep n)) else .junk
    | none=>.junk
  | n+1,.ptr i sz k c=>if keep i then .ptr i sz k c else match H i with
    | some o=>if o.sz=sz then .fptr sz (o.els.map (sealed H keep n)) k c else .junk
    | none=>.junk
  | n+1,.mp i=>if keep i then .mp i else match H i with
    | some o=>.fmp (o.els.map (sealed H keep n))
    | none=>.junk
  | _+1,.it i=>if keep i then .it i else .junk
  | _+1,.mark i=>if keep i then .mark i else .junk
  | _+1,.is b i=>if keep i then .is b i else .junk
  | _+1,p=>p
theorem zdw (H:Nat→Option AO) (keep:Nat→Bool) (n:Nat) (p:PV):(∃l,p=.agg l∧n≠0)∨(sealed H keep n p).cells=p.cells∧n=0∨(p.cells=[p]∧(sealed H keep n p).cells=[sealed H keep n p]):=by
  cases n with
  | zero=>exact .inr (.inl ⟨rfl,rfl⟩)
  | succ n=>
    cases p<;>first
      | exact .inl ⟨_,rfl,by omega⟩
      | exact .inr (.inr ⟨rfl,rfl⟩)
      | (refine .inr (.inr ⟨rfl,?_⟩);simp only[sealed];split<;>first|rfl|(split<;>first|rfl|(split<;>rfl)))
theorem zcm (H:Nat→Option AO) (keep:Nat→Bool) (n:Nat) (p:PV):(sealed H keep n p).cells.length=p.cells.length:=by
  rcases zdw H keep n p with ⟨l,rfl,hn⟩|⟨h,_⟩|⟨h1,h2⟩
  · obtain⟨m,rfl⟩:∃m,n=m+1:=⟨n - 1,by omega⟩
    simp[sealed,PV.cells]
  · rw[h]
  · rw[h1,h2];rfl
theorem Rep.sealed (hH:HeapSim w0 F0 D μ F H w) (keep:Nat→Bool) (F2:Nat→Prop) (hF:∀b,F b→F2 b) (hO:∀i o b,keep i=false→H i=some o→μ i=some b→F2 b):
    ∀(n:Nat) (p:PV) (v:Value),Rep D μ F w p v→Rep D μ F2 w (sealed H keep n p) v:=by
  intro n
  induction n using Nat.strongRecOn with
  | _ n ih=>
    intro p v h
    have same:Rep D μ F2 w p v:=h.stay (Stay.refl _ _) (fun _ h=>⟨h,rfl⟩) hF
    cases n with
    | zero=>exact same
    | succ n=>
      cases h with
      | junk=>exact same
      | atom=>exact same
      | agg l vs h1 h2=>exact .agg _ vs (by simpa using h1) (fun i hi=>by rw[getElem_map'];exact ih n (by omega) _ _ (h2 i (by simpa using hi)))
      | tup l vs h1 h2=>exact .tup _ vs (by simpa using h1) (fun i hi=>by rw[getElem_map'];exact ih n (by omega) _ _ (h2 i (by simpa using hi)))
      | fn f l vs h1 h2=>exact .fn f _ vs (by simpa using h1) (fun i hi=>by rw[getElem_map'];exact ih n (by omega) _ _ (h2 i (by simpa using hi)))
      | sl0=>exact same
      | sl=>exact same
      | fptr=>exact same
      | fmp=>exact same
      | amp=>exact same
      | ampN=>exact same
      | is b i v h1 hb=>
        simp only[Go.Proofs.Ytehoglapajkabaa.sealed]
        split
        · exact same
        · exact .junk _
      | mp i b h1 hb hkd=>
        simp only[Go.Proofs.Ytehoglapajkabaa.sealed]
        split
        · exact same
        · rename_i hk
          have hk':keep i=false:=by simpa using hk
          split
          · rename_i o ho
            obtain⟨es,ck,a1,a2,a3,a4⟩:=hH.mapOk ho hb hkd
            exact .fmp _ b es ck (hO i o b hk' ho hb) a1 a2 (by simpa using a3) (fun j hj=>by rw[getElem_map'];exact ih n (by omega) _ _ (a4 j (by simpa using hj)))
          · exact .junk _
      | it i b h1 hb hkd=>
        simp only[Go.Proofs.Ytehoglapajkabaa.sealed]
        split
        · exact same
        · exact .junk _
      | mark i v h1 hb=>
        simp only[Go.Proofs.Ytehoglapajkabaa.sealed]
        split
        · exact same
        · exact .junk _
      | ptr i sz k c b h1 hb hkd=>
        simp only[Go.Proofs.Ytehoglapajkabaa.sealed]
        split
        · exact same
        · rename_i hk
          have hk':keep i=false:=by simpa using hk
          split
          · rename_i o ho
            split
            · rename_i hsz
              obtain⟨A,e,a1,a2,a3,a4⟩:=hH.cellsOk ho hb hkd
              rw[hsz] at a2 a3
              have hgk:∀k (hk:k<(o.els.map (Go.Proofs.Ytehoglapajkabaa.sealed H keep n)).length),(o.els.map (Go.Proofs.Ytehoglapajkabaa.sealed H keep n))[k]=Go.Proofs.Ytehoglapajkabaa.sealed H keep n (o.els[k]'(by simpa using hk)):=fun k hk=>by simp
              have := Rep.fptr (D:=D) (μ:=μ) (F:=F2) (w:=w) sz (o.els.map (Go.Proofs.Ytehoglapajkabaa.sealed H keep n)) k c b 0 (fun j=>A.getD j undef) (hO i o b hk' ho hb)
                (fun j hj=>by
                  simp only[World.cell?,a1,Nat.zero_add]
                  exact zgQ (by simp at hj;omega))
                (fun k hk=>by rw[hgk k hk,zcm];exact a3 _ _)
                (fun k hk c hc=>by
                  have hk2:k<o.els.length:=by simpa using hk
                  have hc2:c<(o.els[k]).cells.length:=by rw[hgk k hk,zcm] at hc;exact hc
                  have hr:=a4 k hk2 c hc2
                  rw[hsz] at hr
                  rcases zdw H keep n (o.els[k]) with ⟨l,hl,hn⟩|⟨hs,hn⟩|⟨g1,g2⟩
                  · obtain⟨m,rfl⟩:∃m,n=m+1:=⟨n - 1,by omega⟩
                    have e2:(o.els.map (Go.Proofs.Ytehoglapajkabaa.sealed H keep (m+1)))[k].cells[c]=Go.Proofs.Ytehoglapajkabaa.sealed H keep m ((o.els[k]).cells[c]):=by
                      have e3:(o.els.map (Go.Proofs.Ytehoglapajkabaa.sealed H keep (m+1)))[k].cells=(l.map (Go.Proofs.Ytehoglapajkabaa.sealed H keep m)):=by rw[hgk k hk,hl];rfl
                      have e4:(o.els[k]).cells=l:=by rw[hl];rfl
                      exact(gl e3 hc).trans (by rw[List.getElem_map];congr 1;exact(gl e4 hc2).symm)
                    rw[e2]
                    exact ih m (by omega) _ _ hr
                  · subst hn
                    have e2:(o.els.map (Go.Proofs.Ytehoglapajkabaa.sealed H keep 0))[k].cells[c]=(o.els[k]).cells[c]:=by
                      have:(o.els.map (Go.Proofs.Ytehoglapajkabaa.sealed H keep 0))[k]=o.els[k]:=by rw[hgk k hk];rfl
                      simp only[this]
                    rw[e2]
                    exact hr.stay (Stay.refl _ _) (fun _ h=>⟨h,rfl⟩) hF
                  · have hc0:c=0:=by rw[g1] at hc2;simpa using hc2
                    subst hc0
                    have e2:(o.els.map (Go.Proofs.Ytehoglapajkabaa.sealed H keep n))[k].cells[0]=Go.Proofs.Ytehoglapajkabaa.sealed H keep n (o.els[k]):=by
                      have e3:(o.els.map (Go.Proofs.Ytehoglapajkabaa.sealed H keep n))[k].cells=[Go.Proofs.Ytehoglapajkabaa.sealed H keep n (o.els[k])]:=by rw[hgk k hk,g2]
                      simp only[e3,List.getElem_cons_zero]
                    have e5:(o.els[k]).cells[0]=o.els[k]:=by simp only[g1,List.getElem_cons_zero]
                    rw[e2]
                    rw[e5] at hr
                    exact ih n (by omega) _ _ hr)
              simpa using this
            · exact .junk _
          · exact .junk _
      | obn i sz h1 h2=>
        simp only[Go.Proofs.Ytehoglapajkabaa.sealed]
        split
        · exact same
        · split
          · split
            · simp only[List.take_zero,List.map_nil]
              exact .sl0 sz none 0 (by unfold maxLen;omega) (fun _=>rfl) (fun x hx=>by cases hx)
            · exact .junk _
          · exact .junk _
      | ob i sz off len cap b h1 hb hkd h2 h3 h4=>
        simp only[Go.Proofs.Ytehoglapajkabaa.sealed]
        split
        · exact same
        · rename_i hk
          have hk':keep i=false:=by simpa using hk
          split
          · rename_i o ho
            split
            · rename_i hc
              obtain⟨hsz,hle⟩:=hc
              obtain⟨A,e,a1,a2,a3,a4⟩:=hH.cellsOk ho hb hkd
              rw[hsz] at a2 a3
              have hlen:(((o.els.drop off).take len).map (Go.Proofs.Ytehoglapajkabaa.sealed H keep n)).length=len:=by simp;omega
              have hgk:∀k (hk:k<(((o.els.drop off).take len).map (Go.Proofs.Ytehoglapajkabaa.sealed H keep n)).length),(((o.els.drop off).take len).map (Go.Proofs.Ytehoglapajkabaa.sealed H keep n))[k]=Go.Proofs.Ytehoglapajkabaa.sealed H keep n (o.els[off+k]'(by simp at hk;omega)):=fun k hk=>by simp
              have hz:∀k (hk:k<(((o.els.drop off).take len).map (Go.Proofs.Ytehoglapajkabaa.sealed H keep n)).length),(((o.els.drop off).take len).map (Go.Proofs.Ytehoglapajkabaa.sealed H keep n))[k].cells.length=sz:=fun k hk=>by rw[hgk k hk,zcm];exact a3 _ _
              have := Rep.sl (D:=D) (μ:=μ) (F:=F2) (w:=w) sz (((o.els.drop off).take len).map (Go.Proofs.Ytehoglapajkabaa.sealed H keep n)) b (off * sz) cap (fun j=>A.getD (off * sz+j) undef) (hO i o b hk' ho hb) (by rw[hlen];exact h2) h3
                (fun j hj=>by
                  rw[hlen] at hj
                  have:(off+len) * sz≤A.size:=Nat.le_trans (Nat.mul_le_mul_right _ hle) a2
                  rw[Nat.add_mul] at this
                  simp only[World.cell?,a1]
                  exact zgQ (by omega)) hz
                (fun k hk c hc=>by
                  have hk2:k<len:=by rw[hlen] at hk;exact hk
                  have hc2:c<(o.els[off+k]'(by omega)).cells.length:=by rw[hgk k hk,zcm] at hc;exact hc
                  have hr:=a4 (off+k) (by omega) c hc2
                  rw[hsz] at hr
                  have e1:off * sz+(k * sz+c)=(off+k) * sz+c:=by rw[Nat.add_mul];omega
                  simp only[e1]
                  rcases zdw H keep n (o.els[off+k]'(by omega)) with ⟨l,hl,hn⟩|⟨hs,hn⟩|⟨g1,g2⟩
                  · obtain⟨m,rfl⟩:∃m,n=m+1:=⟨n - 1,by omega⟩
                    have e2:(((o.els.drop off).take len).map (Go.Proofs.Ytehoglapajkabaa.sealed H keep (m+1)))[k].cells[c]=Go.Proofs.Ytehoglapajkabaa.sealed H keep m ((o.els[off+k]'(by omega)).cells[c]):=by
                      have e3:(((o.els.drop off).take len).map (Go.Proofs.Ytehoglapajkabaa.sealed H keep (m+1)))[k].cells=(l.map (Go.Proofs.Ytehoglapajkabaa.sealed H keep m)):=by rw[hgk k hk,hl];rfl
                      have e4:(o.els[off+k]'(by omega)).cells=l:=by rw[hl];rfl
                      exact(gl e3 hc).trans (by rw[List.getElem_map];congr 1;exact(gl e4 hc2).symm)
                    rw[e2]
                    exact ih m (by omega) _ _ hr
                  · subst hn
                    have e2:(((o.els.drop off).take len).map (Go.Proofs.Ytehoglapajkabaa.sealed H keep 0))[k].cells[c]=(o.els[off+k]'(by omega)).cells[c]:=by
                      have:(((o.els.drop off).take len).map (Go.Proofs.Ytehoglapajkabaa.sealed H keep 0))[k]=o.els[off+k]'(by omega):=by rw[hgk k hk];rfl
                      simp only[this]
                    rw[e2]
                    exact hr.stay (Stay.refl _ _) (fun _ h=>⟨h,rfl⟩) hF
                  · have hc0:c=0:=by rw[g1] at hc2;simpa using hc2
                    subst hc0
                    have e2:(((o.els.drop off).take len).map (Go.Proofs.Ytehoglapajkabaa.sealed H keep n))[k].cells[0]=Go.Proofs.Ytehoglapajkabaa.sealed H keep n (o.els[off+k]'(by omega)):=by
                      have e3:(((o.els.drop off).take len).map (Go.Proofs.Ytehoglapajkabaa.sealed H keep n))[k].cells=[Go.Proofs.Ytehoglapajkabaa.sealed H keep n (o.els[off+k]'(by omega))]:=by rw[hgk k hk,g2]
                      simp only[e3,List.getElem_cons_zero]
                    have e5:(o.els[off+k]'(by omega)).cells[0]=o.els[off+k]'(by omega):=by simp only[g1,List.getElem_cons_zero]
                    rw[e2]
                    rw[e5] at hr
                    exact ih n (by omega) _ _ hr)
              rw[hlen] at this
              exact this
            · exact .junk _
          · exact .junk _
mutual
theorem ze6 (H:Nat→Option AO) (keep:Nat→Bool):∀(n:Nat) (p:PV),p.noOb=true→sealed H keep n p=p
  | 0,p,_=>rfl
  | n+1,.agg l,h=>by simp only[PV.noOb] at h;simp only[sealed];rw[zcM H keep n l h]
  | n+1,.tup l,h=>by simp only[PV.noOb] at h;simp only[sealed];rw[zcM H keep n l h]
  | n+1,.fn f l,h=>by simp only[PV.noOb] at h;simp only[sealed];rw[zcM H keep n l h]
  | _+1,.ob _ _ _ _,h=>by cases h
  | _+1,.ptr _ _ _ _,h=>by cases h
  | _+1,.junk,_=>rfl
  | _+1,.atom _,_=>rfl
  | _+1,.sl _ _,_=>rfl
  | _+1,.own _ _,_=>rfl
  | _+1,.fptr _ _ _ _,_=>rfl
  | _+1,.fmp _,_=>rfl
  | _+1,.mp _,h=>by cases h
  | _+1,.it _,h=>by cases h
  | _+1,.mark _,h=>by cases h
  | _+1,.is _ _,h=>by cases h
  | _+1,.amp,_=>rfl
theorem zcM (H:Nat→Option AO) (keep:Nat→Bool):∀(n:Nat) (l:List PV),zf6 l=true→l.map (sealed H keep n)=l
  | _,[],_=>rfl
  | n,p :: l,h=>by
    simp only[zf6,Bool.and_eq_true] at h
    rw[List.map_cons,ze6 H keep n p h.1,zcM H keep n l h.2]
end
end
def zg2 (P:Program) (f:FuncId):Prop:=∀args w,(callFunc f args).run P w=.ok (.enter f args) w
def ResIs (F:Nat→Prop) (w w':World) (r:PV) (os:List AO) (v:Value):Prop:=
  ∃ (ν:Nat→Option Nat) (F':Nat→Prop),Rep (· < os.length) ν F' w' r v∧(∀i o,os[i]? = some o→Stands (· < os.length) ν F' w' o (ν i))∧
    (∀i b,i<os.length→ν i=some b→w.heap.size≤b∧¬F' b)∧(∀i j b,i<os.length→j<os.length→ν i=some b→ν j=some b→i=j)∧(∀b,F' b→(F b∨w.heap.size≤b)∧b<w'.heap.size)
def PureCall (P:Program) (f:FuncId) (args:List PV) (r:PV) (os:List AO):Prop:=
  ∀ (D:Nat→Prop) (μ:Nat→Option Nat) (F:Nat→Prop) (w:World) (vs:Array Value),vs.size=args.length→(∀i (h:i<args.length),Rep D μ F w args[i] (vs.getD i undef))→(∀b,F b→b<w.heap.size)→
    Calls P f vs w fun e w'=>∃v,e=.returned v∧Bel w w'∧ResIs F w w' r os v
def AO.ren (ρ:Nat→Nat) (o:AO):AO:=⟨o.sz,o.els.map (PV.ren ρ)⟩
theorem Stands.ren{D D':Nat→Prop}{μ μ':Nat→Option Nat}{F:Nat→Prop}{w:World}{o:AO}{m:Option Nat}{ρ:Nat→Nat}(h:Stands D μ F w o m) (hD:∀i,D i→D' (ρ i)∧μ' (ρ i)=μ i):Stands D' μ' F w (o.ren ρ) m:=by
  cases m with
  | none=>have h':o.els=[]:=h;show(o.ren ρ).els=[];simp[AO.ren,h']
  | some b=>
    rcases h with ⟨A,e,h1,h2,h3,h4⟩|⟨es,ck,h1,h2,h3,h4⟩|⟨rem,cur,h6,h7⟩
    rotate_left
    · exact .inr (.inl ⟨es,ck,h1,h2,by simpa[AO.ren] using h3,fun j hj=>by simp only[AO.ren,getElem_map'];exact(h4 j (by simpa[AO.ren] using hj)).ren hD⟩)
    · exact .inr (.inr ⟨rem.map (PV.ren ρ),cur.ren ρ,by simp[AO.ren,h6,PV.ren,za4],h7.to rfl (fun m hm=>⟨hm,fun _ _ g=>g⟩) (by simp) (fun j _ _ v g=>by rw[getElem_map'];exact g.ren hD) (fun v g=>g.ren hD) (fun e=>by subst e;rfl)⟩)
    refine .inl ⟨A,e,h1,by simpa[AO.ren] using h2,fun k hk=>?_,fun k hk c hc=>?_⟩
    · have hk':k<o.els.length:=by simpa[AO.ren] using hk
      have:=h3 k hk'
      simp only[AO.ren,getElem_map',zaX,List.length_map];exact this
    · have hk':k<o.els.length:=by simpa[AO.ren] using hk
      have hc':c<o.els[k].cells.length:=by simpa[AO.ren,zaX] using hc
      have e:(o.ren ρ).els[k].cells[c]=(o.els[k].cells[c]).ren ρ:=by simp[AO.ren,zaX]
      rw[e];exact(h4 k hk' c hc').ren hD
theorem Stands.flat{D:Nat→Prop}{μ:Nat→Option Nat}{F F':Nat→Prop}{w:World}{o:AO}{m:Option Nat}(h:Stands D μ F w o m) (hf:o.els.all PV.flatB=true):Stands D μ F' w o m:=by
  cases m with
  | none=>exact h
  | some b=>
    rcases h with ⟨A,e,h1,h2,h3,h4⟩|⟨es,ck,h1,h2,h3,h4⟩|⟨rem,cur,h6,h7⟩
    · exact .inl ⟨A,e,h1,h2,h3,fun k hk c hc=>(h4 k hk c hc).flatAny (zbj (znT (zbj hf k hk)) c hc)⟩
    · exact .inr (.inl ⟨es,ck,h1,h2,h3,fun j hj=>(h4 j hj).flatAny (zbj hf j hj)⟩)
    · rw[h6] at hf;simp[PV.flatB] at hf
theorem ObjOk.sealed{w0:Home}{F0 D:Nat→Prop}{μ:Nat→Option Nat}{F:Nat→Prop}{H:Nat→Option AO}{w:World}(hH:HeapSim w0 F0 D μ F H w) (keep:Nat→Bool) (F2:Nat→Prop) (hF:∀b,F b→F2 b) (hO:∀i o b,keep i=false→H i=some o→μ i=some b→F2 b)
    (n:Nat) {b:Nat} {o o':AO} {ρ:Nat→Nat} (hst:ObjOk D μ F w b o') (h3:o'.els.map (sealed H keep n)=o.els.map (PV.ren ρ)) (hc:CellsOk D μ F w b o'→CellsOk D μ F2 w b (o.ren ρ)):ObjOk D μ F2 w b (o.ren ρ):=by
  have e0:(o.ren ρ).els=o'.els.map (Go.Proofs.Ytehoglapajkabaa.sealed H keep n):=h3.symm
  have hlen:(o.ren ρ).els.length=o'.els.length:=by rw[e0,List.length_map]
  rcases hst with h|⟨es,ck,a1,a2,a3,a4⟩|⟨rem,cur,a1,a2⟩
  · exact .inl (hc h)
  · refine .inr (.inl ⟨es,ck,a1,a2,by rw[hlen];exact a3,fun j hj=>?_⟩)
    rw[gl e0 hj,List.getElem_map]
    exact Rep.sealed hH keep F2 hF hO n _ _ (a4 j (by omega))
  · have hs0:Go.Proofs.Ytehoglapajkabaa.sealed H keep n (.fmp rem)=.fmp rem:=by cases n<;>rfl
    have e1:(o.ren ρ).els=[.fmp rem,Go.Proofs.Ytehoglapajkabaa.sealed H keep n cur]:=by rw[e0,a1,List.map_cons,List.map_cons,List.map_nil,hs0]
    exact .inr (.inr ⟨rem,_,e1,a2.to rfl (fun m hm=>⟨hF m hm,fun _ _ g=>g⟩) rfl (fun j _ _ v g=>g.stay (Stay.refl _ _) (fun _ h=>⟨h,rfl⟩) hF) (fun v g=>Rep.sealed hH keep F2 hF hO n _ _ g) (fun e=>by subst e;cases n<;>rfl)⟩)
theorem Stands.stay{D D':Nat→Prop}{μ μ':Nat→Option Nat}{F F':Nat→Prop}{w w':World}{o:AO}{m:Option Nat}(h:Stands D μ F w o m) (hs:Stay F w w') (hD:∀i,D i→D' i∧μ' i=μ i) (hF:∀b,F b→F' b)
    (hb:∀b,m=some b→w'.heap[b]? = w.heap[b]?):Stands D' μ' F' w' o m:=by
  cases m with
  | none=>exact h
  | some b=>exact ObjOk.stay h hs hD hF (hb b rfl)
section
variable {P:Program}
def reach (H:Nat→Option AO):Nat→PV→List Nat
  | 0,_=>[]
  | n+1,.agg l=>l.flatMap (reach H n)
  | n+1,.tup l=>l.flatMap (reach H n)
  | n+1,.fn _ l=>l.flatMap (reach H n)
  | n+1,.ob i _ _ _=>i :: (match H i with|some o=>o.els.flatMap (reach H n)|none=>[])
  | n+1,.ptr i _ _ _=>i :: (match H i with|some o=>o.els.flatMap (reach H n)|none=>[])
  | n+1,.mp i=>i :: (match H i with|some o=>o.els.flatMap (reach H n)|none=>[])
  | _+1,_=>[]
theorem ziS {H H':Nat→Option AO}(keep:Nat→Bool):∀(n:Nat) (p:PV),(∀i,i∈reach H n p→H' i=H i)→sealed H' keep n p=sealed H keep n p:=by
  intro n
  induction n with
  | zero=>intro p _;rfl
  | succ n ih=>
    intro p h
    cases p with
    | agg l=>simp only[sealed,reach] at h ⊢;congr 1;exact List.map_congr_left fun q hq=>ih q (fun i hi=>h i (List.mem_flatMap.2 ⟨q,hq,hi⟩))
    | tup l=>simp only[sealed,reach] at h ⊢;congr 1;exact List.map_congr_left fun q hq=>ih q (fun i hi=>h i (List.mem_flatMap.2 ⟨q,hq,hi⟩))
    | fn f l=>simp only[sealed,reach] at h ⊢;congr 1;exact List.map_congr_left fun q hq=>ih q (fun i hi=>h i (List.mem_flatMap.2 ⟨q,hq,hi⟩))
    | ob i sz off len=>
      simp only[sealed,reach] at h ⊢
      rw[h i (List.mem_cons_self ..)]
      cases hi:H i with
      | none=>rfl
      | some o=>
        simp only[hi] at h ⊢
        split
        · rfl
        · split
          · congr 1
            exact List.map_congr_left fun q hq=>ih q (fun j hj=>h j (List.mem_cons_of_mem _ (List.mem_flatMap.2 ⟨q,List.mem_of_mem_drop (List.mem_of_mem_take hq),hj⟩)))
          · rfl
    | ptr i sz k c=>
      simp only[sealed,reach] at h ⊢
      rw[h i (List.mem_cons_self ..)]
      cases hi:H i with
      | none=>rfl
      | some o=>
        simp only[hi] at h ⊢
        split
        · rfl
        · split
          · congr 1
            exact List.map_congr_left fun q hq=>ih q (fun j hj=>h j (List.mem_cons_of_mem _ (List.mem_flatMap.2 ⟨q,hq,hj⟩)))
          · rfl
    | mp i=>
      simp only[sealed,reach] at h ⊢
      rw[h i (List.mem_cons_self ..)]
      cases hi:H i with
      | none=>rfl
      | some o=>
        simp only[hi] at h ⊢
        split
        · rfl
        · congr 1
          exact List.map_congr_left fun q hq=>ih q (fun j hj=>h j (List.mem_cons_of_mem _ (List.mem_flatMap.2 ⟨q,hq,hj⟩)))
    | _=>rfl
end
def rmap (L:List Nat) (nx:Nat) (i:Nat):Nat:=(L[i]?).getD (nx+i)
theorem zjp{α:Type}:∀ {l:List (Nat×α)}{i:Nat}{x:α},lk l i=some x→(i,x)∈l
  | [],_,_,h=>by cases h
  | (j,y) :: t,i,x,h=>by
    unfold lk at h
    split at h
    · rename_i hj;subst hj;cases h;exact List.mem_cons_self ..
    · exact List.mem_cons_of_mem _ (zjp h)
theorem Stands.ren_inv{D D':Nat→Prop}{μ μ':Nat→Option Nat}{F:Nat→Prop}{w:World}{o:AO}{m:Option Nat}{ρ:Nat→Nat}(h:Stands D μ F w (o.ren ρ) m) (hD:∀i,D (ρ i)→D' i∧μ' i=μ (ρ i)):Stands D' μ' F w o m:=by
  cases m with
  | none=>
    have h':(o.ren ρ).els=[]:=h
    show o.els=[]
    simpa[AO.ren] using h'
  | some b=>
    rcases h with ⟨A,e,h1,h2,h3,h4⟩|⟨es,ck,h1,h2,h3,h4⟩|⟨rem,cur,h6,h7⟩
    rotate_left
    · exact .inr (.inl ⟨es,ck,h1,h2,by simpa[AO.ren] using h3,fun j hj=>(h4 j (by simpa[AO.ren] using hj)).ren_inv hD _ (by simp[AO.ren])⟩)
    · have h9:∃q c,o.els=[q,c]∧q.ren ρ=.fmp rem∧c.ren ρ=cur:=by
        have h6':o.els.map (PV.ren ρ)=[.fmp rem,cur]:=h6
        rcases ho:o.els with _|⟨q,_|⟨q2,_|⟨q3,r⟩⟩⟩
        · rw[ho] at h6';simp at h6'
        · rw[ho] at h6';simp at h6'
        · rw[ho] at h6';simp at h6';exact⟨q,q2,rfl,h6'.1,h6'.2⟩
        · rw[ho] at h6';simp at h6'
      obtain⟨q,c,hq,hr,hc⟩:=h9
      obtain⟨rem',rfl⟩:∃l,q=.fmp l:=by cases q<;>simp only[PV.ren] at hr<;>first|(cases hr;done)|exact⟨_,rfl⟩
      simp only[PV.ren,za4,PV.fmp.injEq] at hr
      subst hr
      subst hc
      exact .inr (.inr ⟨rem',c,hq,h7.to rfl (fun m hm=>⟨hm,fun _ _ g=>g⟩) (by simp) (fun j _ _ v g=>g.ren_inv hD _ (by rw[getElem_map'])) (fun v g=>g.ren_inv hD _ rfl) (fun e=>by cases c<;>simp only[PV.ren] at e<;>first|rfl|cases e)⟩)
    refine .inl ⟨A,e,h1,by simpa[AO.ren] using h2,fun k hk=>?_,fun k hk c hc=>?_⟩
    · have:=h3 k (by simpa[AO.ren] using hk)
      simpa[AO.ren,zaX] using this
    · have:=h4 k (by simpa[AO.ren] using hk) c (by simpa[AO.ren,zaX] using hc)
      exact this.ren_inv hD _ (by simp[AO.ren,zaX])
theorem zh2{L:List Nat}{nx i:Nat}{D:Nat→Prop}(hD:∀i,D i→i<nx) (h:D (rmap L nx i)):∃hi:i<L.length,rmap L nx i=L[i]:=by
  by_cases hi:i<L.length
  · exact⟨hi,by simp[rmap,hi]⟩
  · have:rmap L nx i=nx+i:=by simp[rmap,hi]
    rw[this] at h
    have:=hD _ h
    omega
theorem zet{L:List Nat}(h:L.Nodup) {i j:Nat}(hi:i<L.length) (hj:j<L.length) (he:L[i]=L[j]):i=j:=by
  rcases Nat.lt_trichotomy i j with hlt|heq|hgt
  · exact absurd he (List.pairwise_iff_getElem.1 h i j hi hj hlt)
  · exact heq
  · exact absurd he.symm (List.pairwise_iff_getElem.1 h j i hj hi hgt)
theorem zeF{w0:Home}{F0 D:Nat→Prop}{μ:Nat→Option Nat}{F:Nat→Prop}{H:Nat→Option AO}{w:World}(hH:HeapSim w0 F0 D μ F H w) (keep:Nat→Bool) (F2:Nat→Prop) (hF:∀b,F b→F2 b) (hO:∀i o b,keep i=false→H i=some o→μ i=some b→F2 b)
    (k:Nat) (p:PV) (val:Nat→Value) (h:∀c (hc:c<p.cells.length),Rep D μ F w p.cells[c] (val c)):∀c (hc:c<(sealed H keep k p).cells.length),Rep D μ F2 w (sealed H keep k p).cells[c] (val c):=fun c hc=>by
  have hc':c<p.cells.length:=by rw[zcm] at hc;exact hc
  rcases zdw H keep k p with ⟨l,rfl,hn⟩|⟨hs,hn⟩|⟨g1,g2⟩
  · obtain⟨m,rfl⟩:∃m,k=m+1:=⟨k - 1,by omega⟩
    have e3:(sealed H keep (m+1) (.agg l)).cells=l.map (sealed H keep m):=rfl
    rw[gl e3 hc,List.getElem_map]
    exact Rep.sealed hH keep F2 hF hO m _ _ (h c hc')
  · rw[gl hs hc]
    exact(h c hc').stay (Stay.refl _ _) (fun _ h=>⟨h,rfl⟩) hF
  · have hc0:c=0:=by rw[g1] at hc';simpa using hc'
    subst hc0
    rw[gl g2 hc,List.getElem_cons_zero]
    have:=h 0 hc'
    rw[gl g1 hc',List.getElem_cons_zero] at this
    exact Rep.sealed hH keep F2 hF hO k _ _ this
section
variable {P:Program}
def zeu (n k:Nat) (D:Nat→Prop):Nat→Prop:=fun i=>D i∨(n≤i∧i<n+k)
def zb4 (n k:Nat) (μ ν:Nat→Option Nat):Nat→Option Nat:=fun i=>if n≤i∧i<n+k then ν (i - n) else μ i
theorem Sound.callPure{fo:Operand}{xs:Array Operand}{ts:Array TypeId}{S:St}{f:FuncId}{n:Nat}{r:PV}{os:List AO}{rd:List Nat}{cap:List PV}(hfo:S.ev fo=.fn f cap) (hen:zg2 P f)
    (hc:PureCall P f ((xs.toList.map S.ev++cap).map (sealed S.obj (fun _=>false) n)) r os)
    (hfl:zf6 (xs.toList.map S.ev++cap)=true∨(r.flatB=true∧os.all (fun o=>o.els.all PV.flatB)=true))
    (hrd:∀p,p∈xs.toList.map S.ev++cap→∀i,i∈reach S.obj n p→i∈rd):
    Sound P (.call ⟨.value fo,xs,ts⟩) S (r.ren (·+S.nx)) ⟨os.map (AO.ren (·+S.nx)),[],[],rd⟩:=by
  intro o a w0 F0 D μ F H w ho hH hxs hr hD next Q hn
  have hpf:=hxs fo (by simp[Op.operands,Call.operands])
  rw[hfo] at hpf
  have hxa:∀x,x∈xs.toList→Rep D μ F w (S.ev x) (a.eval x):=fun x hx=>hxs x (by simp only[Op.operands,Call.operands];simp at hx ⊢;exact .inr hx)
  generalize hef:a.eval fo=u at hpf
  cases hpf with
  | fn _ _ cvs hcs hcr=>
    have hval:∀i (h:i<(xs.toList.map S.ev++cap).length),Rep D μ F w ((xs.toList.map S.ev++cap)[i]) ((xs.map a.eval++cvs).getD i undef):=fun i h=>by
      by_cases hi:i<xs.size
      · have e1:(xs.toList.map S.ev++cap)[i]=S.ev xs[i]:=by rw[List.getElem_append_left (by simpa using hi)];simp
        have e2:(xs.map a.eval++cvs).getD i undef=a.eval xs[i]:=by simp[Array.getD_eq_getD_getElem?,Array.getElem?_append,hi]
        rw[e1,e2]
        exact hxa _ (by simp)
      · have hi2:i - xs.size<cap.length:=by simp at h;omega
        have e1:(xs.toList.map S.ev++cap)[i]=cap[i - xs.size]:=by rw[List.getElem_append_right (by simpa using hi)];simp
        have e2:(xs.map a.eval++cvs).getD i undef=cvs.getD (i - xs.size) undef:=by simp[Array.getD_eq_getD_getElem?,Array.getElem?_append,hi]
        rw[e1,e2]
        exact hcr _ hi2
    have hex:(execOp a.eval o).run P w=.ok (.enter f (xs.map a.eval++cvs)) w:=by
      have:=hen (xs.map a.eval++cvs) w
      unfold execOp
      simp only[ho,resolve,hef,Deferred.ofValue,Sem.run_bind,Sem.run_pure,Result.andThen_ok,invoke]
      simpa using this
    unfold Oper.wp
    rw[hex]
    simp only[Oper.upon]
    -- the frozen blocks that the call may look at
    have hsame:∀p,p∈xs.toList.map S.ev++cap→sealed H (fun _=>false) n p=sealed S.obj (fun _=>false) n p:=fun p hp=>ziS _ n _ (fun i hi=>hr i (hrd p hp i hi))
    have main:∀(F2:Nat→Prop),(∀b,F b→F2 b)→(∀b,F2 b→b<w.heap.size)→(∀i (h:i<((xs.toList.map S.ev++cap).map (sealed S.obj (fun _=>false) n)).length),Rep D μ F2 w (((xs.toList.map S.ev++cap).map (sealed S.obj (fun _=>false) n))[i]) ((xs.map a.eval++cvs).getD i undef))→
        ((∀b,F2 b→F b)∨(r.flatB=true∧os.all (fun o=>o.els.all PV.flatB)=true))→Calls P f (xs.map a.eval++cvs) w fun | .returned v,w''=>next (a.put o.dst v) w'' | .panicked chain,w''=>Q (.panic chain) a w'' | .outgrown,_=>LetsOut Q:=by
      intro F2 hF2 hF2s hargs hwhich
      refine(hc D μ F2 w (xs.map a.eval++cvs) (by simp[hcs]) hargs hF2s).mono fun e w' he=>?_
      obtain⟨v,rfl,hb,ν,F',h1,h2,h3,h4,h5⟩:=he
      show next (a.put o.dst v) w'
      -- the frozen blocks behind the call
      obtain⟨F3,hF3,h1',h2',h5',h3'⟩:∃F3:Nat→Prop,(∀b,F b→F3 b)∧Rep (· < os.length) ν F3 w' r v∧(∀i o,os[i]? = some o→Stands (· < os.length) ν F3 w' o (ν i))∧(∀b,F3 b→(F b∨w.heap.size≤b)∧b<w'.heap.size)∧
          (∀i b,i<os.length→ν i=some b→w.heap.size≤b∧¬F3 b):=by
        rcases hwhich with hw|⟨hw1,hw2⟩
        · refine⟨fun b=>F b∨F' b,fun b h=>.inl h,h1.stay (Stay.refl _ _) (fun _ h=>⟨h,rfl⟩) (fun _ h=>.inr h),fun i o hi=>(h2 i o hi).stay (Stay.refl _ _) (fun _ h=>⟨h,rfl⟩) (fun _ h=>.inr h) (fun _ _=>rfl),fun b hbF=>?_,fun i b hi hib=>?_⟩
          · rcases hbF with hbF|hbF
            · exact⟨.inl hbF,Nat.lt_of_lt_of_le (hH.fsz b hbF) hb.size⟩
            · exact⟨(h5 b hbF).1.imp (hw b) id,(h5 b hbF).2⟩
          · refine⟨(h3 i b hi hib).1,fun hbF=>hbF.elim (fun h=>?_) (h3 i b hi hib).2⟩
            have:=hH.fsz b h
            have:=(h3 i b hi hib).1
            omega
        · refine⟨F,fun b h=>h,h1.flatAny hw1,fun i o hi=>(h2 i o hi).flat (List.all_eq_true.1 hw2 _ (List.mem_of_getElem? hi)),fun b hbF=>⟨.inl hbF,Nat.lt_of_lt_of_le (hH.fsz b hbF) hb.size⟩,fun i b hi hib=>⟨(h3 i b hi hib).1,fun h=>?_⟩⟩
          have:=hH.fsz b h
          have:=(h3 i b hi hib).1
          omega
      have hlen:(os.map (AO.ren (·+S.nx))).length=os.length:=by simp
      have hDn:∀k,k<os.length→¬D (S.nx+k):=fun k hk=>hD k (by rw[hlen];exact hk)
      have hold:∀i,D i→zeu S.nx os.length D i∧zb4 S.nx os.length μ ν i=μ i:=fun i hi=>⟨.inl hi,by
        unfold zb4
        rw[if_neg]
        rintro⟨g1,g2⟩
        have:=hDn (i - S.nx) (by omega)
        rw[show S.nx+(i - S.nx)=i by omega] at this
        exact this hi⟩
      have hnew:∀i,i<os.length→zeu S.nx os.length D (i+S.nx)∧zb4 S.nx os.length μ ν (i+S.nx)=ν i:=fun i hi=>⟨.inr ⟨by omega,by omega⟩,by unfold zb4;rw[if_pos ⟨by omega,by omega⟩];congr 1;omega⟩
      have hst:Stay F w w':=Stay.below hb.1
      refine hn v w' (zeu S.nx os.length D) (zb4 S.nx os.length μ ν) F3 (h1'.ren hnew) ?_ hst hold hF3 (fun i hi=>by rw[hlen];exact hi)
      refine hH.step hst hold hF3 (hH.ext.trans hb) (fun b hbF=>(h5' b hbF).1.elim (hH.f0 b) (fun h=>.inr (hH.ext.own_lt _ h))) (fun b hbF=>(h5' b hbF).2) fun i ob hi=>?_
      unfold Eff.app at hi
      simp only[lk,List.not_mem_nil,if_false] at hi
      by_cases hin:S.nx≤i∧i<S.nx+(os.map (AO.ren (·+S.nx))).length
      · rw[if_pos hin] at hi
        rw[hlen] at hin
        obtain⟨j,rfl⟩:∃j,i=j+S.nx:=⟨i - S.nx,by omega⟩
        have hj:j<os.length:=by omega
        rw[show j+S.nx - S.nx=j by omega,List.getElem?_map,List.getElem?_eq_getElem hj] at hi
        cases hi
        right
        obtain⟨g1,g2⟩:=hnew j hj
        rw[g2]
        refine⟨g1,(h2' j _ (List.getElem?_eq_getElem hj)).ren hnew,fun b hjb=>⟨hH.ext.own_lt _ (h3' j b hj hjb).1,(h3' j b hj hjb).2,fun k o2 hk hk2 hkb=>?_⟩⟩
        unfold Eff.app at hk2
        simp only[lk,List.not_mem_nil,if_false] at hk2
        by_cases hkin:S.nx≤k∧k<S.nx+(os.map (AO.ren (·+S.nx))).length
        · rw[hlen] at hkin
          obtain⟨m,rfl⟩:∃m,k=m+S.nx:=⟨k - S.nx,by omega⟩
          rw[(hnew m (by omega)).2] at hkb
          exact hk (by rw[h4 m j b (by omega) hj hkb hjb])
        · rw[if_neg hkin] at hk2
          rw[(hold k (hH.objs k o2 hk2).1).2] at hkb
          have:=(hH.ok hk2 hkb).lt
          have:=(h3' j b hj hjb).1
          omega
      · rw[if_neg hin] at hi
        refine .inl ⟨hi,fun b hib=>⟨hb.block _ (hH.ok hi hib).lt,fun hbF=>?_⟩⟩
        rcases(h5' b hbF).1 with h|h
        · exact(hH.own i ob b hi hib).2 h
        · have:=(hH.ok hi hib).lt
          omega
    have argget:∀i (h:i<((xs.toList.map S.ev++cap).map (sealed S.obj (fun _=>false) n)).length),∃p,p∈xs.toList.map S.ev++cap∧((xs.toList.map S.ev++cap).map (sealed S.obj (fun _=>false) n))[i]=sealed S.obj (fun _=>false) n p∧Rep D μ F w p ((xs.map a.eval++cvs).getD i undef):=fun i h=>by
      have hi:i<(xs.toList.map S.ev++cap).length:=by simpa using h
      exact⟨(xs.toList.map S.ev++cap)[i],List.getElem_mem hi,by rw[List.getElem_map],hval i hi⟩
    rcases hfl with hno|hfl
    · refine main F (fun _ h=>h) hH.fsz (fun i h=>?_) (.inl (fun _ h=>h))
      obtain⟨p,hp,e1,e2⟩:=argget i h
      rw[e1,ze6 _ _ _ _ (by rw[zji] at hno;exact List.all_eq_true.1 hno _ hp)]
      exact e2
    · refine main (fun b=>F b∨∃i o,H i=some o∧μ i=some b) (fun _ h=>.inl h) (fun b hbF=>hbF.elim (hH.fsz b) (fun⟨i,o,hi,hib⟩=>(hH.ok hi hib).lt)) (fun i h=>?_) (.inr hfl)
      obtain⟨p,hp,e1,e2⟩:=argget i h
      rw[e1,←hsame p hp]
      exact Rep.sealed hH (fun _=>false) _ (fun _ h=>.inl h) (fun i o b _ hi hib=>.inr ⟨i,o,hi,hib⟩) n _ _ e2
end
end Go.Proofs.Ytehoglapajkabaa
