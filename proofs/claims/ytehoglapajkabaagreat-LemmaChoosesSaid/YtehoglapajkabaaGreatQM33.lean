/-
  From the row's reading of the arguments to plain values,and back from a contract to the row's post.
-/
import Derived.Test.YtehoglapajkabaaGreatQM0
import Derived.ProofKit
import Derived.SliceStrings
import Derived.Deep.Slices
import Derived.OpenShut
import Derived.Lib.SmallJoins
import Derived.SizedLaws
import Derived.Test.YtehoglapajkabaaGreatQM30
import Derived.Test.YtehoglapajkabaaGreatQM20
set_option linter.all false
namespace Go.Proofs.YtehoglapajkabaaGreat
open Go Go.RowKit Go.ChangeShapes Go.WideShapes Go.ChangeAt Go.Deep
section
variable {H:Type} {enc:TypeId×Value→H} {P:Program} {W:World} {sp:Nat→Bool} {held:Bool}
def oldF (W:World):Nat→Prop:=fun b=>b<W.heap.size
def IsPv (W:World) (p:PV) (v:Value):Prop:=∀(D:Nat→Prop) (μ:Nat→Option Nat),Rep D μ (oldF W) W p v
theorem IsPv.atom (W:World) (v:Value):IsPv W (.atom v) v:=fun _ _=>.atom v
theorem zqx{t e:TypeId}{base len cap:Nat}{a:Addr}(ht:P.underlying t=some (.slice e)) (h:Value.okWide P W .any base t (.slice (some a) len cap)):a.spot=none:=by
  simp only[Value.okWide,ht,Cell.okWide,Cell.ok] at h
  exact h.2.2.2.1
theorem zmx (W:World) (sz:Nat):IsPv W (.sl sz []) (.slice none 0 0):=fun _ _=>.sl0 sz none 0 (Nat.zero_le _) (fun _=>rfl) (fun x hx=>by cases hx)
theorem zmw{W:World}{sz:Nat}{l:List PV}{a:Addr}{len cap:Nat}(hs:a.spot=none) (hl:l.length=len) (hlc:len≤cap) (hc:cap≤maxLen) (hsz:0<sz) (g:Nat→Value) (hg:∀j,j<len * sz→W.cell? ⟨a.block,a.off+j,none⟩=some (g j))
    (h1:∀k (h:k<l.length),l[k].cells.length=sz) (h2:∀k (h:k<l.length) c (hc:c<l[k].cells.length),l[k].cells[c]=.atom (g (k * sz+c))):IsPv W (.sl sz l) (.slice (some a) len cap):=fun D μ=>by
  subst hl
  obtain⟨b,off,spot⟩:=a
  simp only at hs hg
  subst hs
  by_cases h0:l=[]
  · subst h0
    exact .sl0 sz _ cap hc (fun h=>by cases h) (fun x hx=>by cases hx;rfl)
  · have hpos:0<l.length:=List.length_pos_iff.2 h0
    have hlt:b<W.heap.size:=World.block_lt_of_cell? W _ (hg 0 (Nat.mul_pos hpos hsz))
    exact .sl sz l b off cap g hlt hlc hc hg h1 (fun k h c hc=>by rw[h2 k h c hc];exact .atom _)
theorem zmW{a:Addr}(hs:a.spot=none) (n:Nat):a.add n=⟨a.block,a.off+n,none⟩:=by
  obtain⟨b,off,spot⟩:=a
  simp only at hs
  subst hs
  unfold Addr.add
  split<;>simp_all
theorem zf0{t e:TypeId}{v:Value}{d:DataW H}{ps:List MemPlace}(ht:P.underlying t=some (.slice e)) (he:P.underlying e=some (.int .i64)) (hc:P.cellsOf e=1)
    {b0:Nat} (hv:Value.okWide P W .any b0 t v) (h:DataW.Trod enc P W 0 sp held t v d ps):∃l:List Int,Fits l∧IsPv W (ints l) v:=by
  obtain⟨a0,len,cap,rfl⟩:=okWide_slice ht hv
  obtain⟨fuel,hf⟩:=h
  rcases open_ints ht he hc hf with ⟨hcs,hx⟩|⟨a,len',cap',zs,hcs,_,hl,hm,hz,hx,hcell,hwf⟩
  · simp[Value.cells] at hcs
    obtain⟨rfl,rfl,rfl⟩:=hcs
    exact⟨[],⟨fun x hx=>(by cases hx),by simp⟩,zmx W 1⟩
  · simp[Value.cells] at hcs
    obtain⟨rfl,rfl,rfl⟩:=hcs
    have hzl:len≤zs.length:=by rw[hz];split<;>omega
    have hs:=zqx ht hv
    refine⟨zs.take len,⟨fun x hx=>?_,?_⟩,?_⟩
    · have:=hwf x (List.mem_of_mem_take hx)
      simpa[Lit.wf,IntKind.min,IntKind.max,IntKind.signed,IntKind.bits,I64] using this
    · have:maxLen=9223372036854775807:=by decide
      simp only[List.length_take];omega
    · refine zmw (sz:=1) hs (by simp;omega) hl hm Nat.one_pos (fun j=>.int .i64 (zs.getD j 0)) (fun j hj=>?_) (fun k hk=>by simp[encI,PV.cells]) (fun k hk c hcc=>?_)
      · have:=hcell j (by omega)
        rw[zmW hs] at this;exact this
      · have hk':k<len∧k<zs.length:=by have:=hk;simp at this;omega
        have e0:((zs.take len).map encI)[k]=encI (zs.getD k 0):=by simp[List.getD_eq_getElem?_getD,hk'.2]
        have e1:((zs.take len).map encI)[k].cells=[encI (zs.getD k 0)]:=by rw[e0];rfl
        have hc0:c=0:=by rw[e1] at hcc;simpa using hcc
        subst hc0
        rw[gl e1 hcc]
        simp[encI]
theorem zjC{t e:TypeId}{v:Value}{d:DataW H}{ps:List MemPlace}(ht:P.underlying t=some (.slice e)) (he:P.underlying e=some .string) (hc:P.cellsOf e=1)
    {b0:Nat} (hv:Value.okWide P W .any b0 t v) (h:DataW.Trod enc P W 0 sp held t v d ps):∃l:List ByteArray,l.length≤9223372036854775807∧(∀x,x∈l→x.size≤9223372036854775807)∧IsPv W (strs l) v:=by
  obtain⟨a0,len,cap,rfl⟩:=okWide_slice ht hv
  obtain⟨fuel,hf⟩:=h
  have hmx:maxLen=9223372036854775807:=by decide
  rcases open_strings ht he hc hf with ⟨hcs,hx⟩|⟨a,len',cap',zs,hcs,_,hl,hm,hz,hx,hcell,hwf⟩
  · simp[Value.cells] at hcs
    obtain⟨rfl,rfl,rfl⟩:=hcs
    exact⟨[],by simp,fun x hx=>(by cases hx),zmx W 1⟩
  · simp[Value.cells] at hcs
    obtain⟨rfl,rfl,rfl⟩:=hcs
    have hzl:len≤zs.length:=by rw[hz];split<;>omega
    have hs:=zqx ht hv
    refine⟨zs.take len,by simp only[List.length_take];omega,fun x hx=>?_,?_⟩
    · have:=hwf x (List.mem_of_mem_take hx)
      omega
    · refine zmw (sz:=1) hs (by simp;omega) hl hm Nat.one_pos (fun j=>.string (zs.getD j ByteArray.empty)) (fun j hj=>?_) (fun k hk=>by simp[encS,PV.cells]) (fun k hk c hcc=>?_)
      · have:=hcell j (by omega)
        rw[zmW hs] at this;exact this
      · have hk':k<len∧k<zs.length:=by have:=hk;simp at this;omega
        have e0:((zs.take len).map encS)[k]=encS (zs.getD k ByteArray.empty):=by simp[List.getD_eq_getElem?_getD,hk'.2]
        have e1:((zs.take len).map encS)[k].cells=[encS (zs.getD k ByteArray.empty)]:=by rw[e0];rfl
        have hc0:c=0:=by rw[e1] at hcc;simpa using hcc
        subst hc0
        rw[gl e1 hcc]
        simp[encS]
theorem Pure.calls{f:FuncId}{args:List PV}(h:Pure P f args (.atom (.bool true)) []) {vs:Array Value}(hl:vs.size=args.length) (hv:∀i (h:i<args.length),IsPv W args[i] (vs.getD i undef)):
    Calls P f vs W fun e W'=>e=.returned (.bool true)∧Below W.heap.size W W':=by
  refine(h.2 (fun _=>False) (fun _=>none) (oldF W) W vs hl (fun i hi=>hv i hi _ _) (fun b hb=>hb)).mono fun e W' ⟨v,he,hb,ν,F',hr,_⟩=>?_
  refine⟨?_,hb.toBelow⟩
  cases hr
  exact he
theorem Below.trods (hl:laidOutB P=true) {W':World}(hb:Below W.heap.size W W'):∀(ts:List TypeId) (vs:List Value) (ds:List (DataW H)) (ps:List MemPlace),(∀t,t∈ts→P.readableRec t=true∧t<P.types.size)→(∀x,x∈ps→x.block<W.heap.size)→
    DataW.TrodAll enc P W 0 (fun _=>true) true ts vs ds ps→DataW.TrodAll enc P W' 0 (fun b=>decide (b<W.heap.size)) true ts vs ds ps
  | [],[],[],ps,_,_,h=>h
  | t :: ts,v :: vs,d :: ds,ps,ht,hp,⟨p,q,h1,h2,e⟩=>by
    subst e
    exact⟨p,q,Below.trod hl (ht t (List.mem_cons_self ..)).1 (ht t (List.mem_cons_self ..)).2 h1 hb (fun x hx=>hp x (List.mem_append_left _ hx)),
      Below.trods hl hb ts vs ds q (fun t h=>ht t (List.mem_cons_of_mem _ h)) (fun x hx=>hp x (List.mem_append_right _ hx)) h2,rfl⟩
  | [],_ :: _,_,_,_,_,h=>h.elim
  | [],[],_ :: _,_,_,_,h=>h.elim
  | _ :: _,[],_,_,_,_,h=>h.elim
  | _ :: _,_ :: _,[],_,_,_,h=>h.elim
end
structure RawX (x:LexD):Prop where
  nforms:x.forms.length≤140737488355328
  nrules:x.rules.length≤140737488355328
  nprefs:x.prefs.length≤140737488355328
  forms:∀f,f∈x.forms→HeldF f
  rules:∀r,r∈x.rules→HeldR r
  prefs:∀p,p∈x.prefs→HeldA p
theorem RawX.held{x:LexD}(h:RawX x) (hn:(x.forms.length:Int)+x.rules.length+x.prefs.length≤70):HeldX x:=⟨by omega,by omega,by omega,h.forms,h.rules,h.prefs⟩
section
variable {H:Type} {enc:TypeId×Value→H} {P:Program} {W:World} {sp:Nat→Bool} {held:Bool}
instance:Inhabited FormD:=⟨noF⟩
instance:Inhabited RuleD:=⟨noR⟩
instance:Inhabited PrefD:=⟨noA⟩
end
end Go.Proofs.YtehoglapajkabaaGreat
namespace Go.Proofs.YtehoglapajkabaaGreat
open Go Go.RowKit
set_option maxRecDepth 20000
set_option maxHeartbeats 1000000
def noX:LexD:=⟨[],[],[]⟩
def fX (l:List LexD) (k:Nat):LexD:=l.getD k noX
theorem zc8 (l:List LexD):zan (l.map encX)=true:=zbk encX zay l
theorem zjk (ρ:Nat→Nat) (l:List LexD):renL ρ (l.map encX)=l.map encX:=zbf ρ _ (zc8 l)
theorem zbu{l:List LexD}{k:Nat}(h:k<l.length):(l.map encX).getD k .junk=encX (fX l k):=by
  simp[fX,List.getD_eq_getElem?_getD,h]
theorem fX_mem{l:List LexD}{k:Nat}(h:k<l.length):fX l k∈l:=by simp[fX,List.getD_eq_getElem?_getD,h]
theorem zhm (m:List Int):(zbM m).length≤7:=by unfold zbM;simp;omega
theorem zd7{p:Prop}(h:p:=by(refine⟨4,?_,?_,rfl,by simp,rfl,fun _ h _=>absurd h (Nat.not_lt_zero _)⟩<;>(simp only[List.forall_mem_cons];repeat' (first|refine And.intro ?_ ?_|(intro p hp;exact absurd hp List.not_mem_nil)|rfl|exact sp (zay _)|exact sp (zaI _)|exact(zaw _ _ _ (zaj _)).trans (zcd _ _).symm|exact(zaw _ _ _ (zag _)).trans (zcb _ _).symm|exact sp (by assumption)|(intro o ho;cases ho;refine⟨by decide,?_⟩;first|(refine LeqS.row rfl ?_ ?_;(next=>(first|rfl|(simp only[List.map_append,List.map_cons,List.map_nil,List.append_nil,List.nil_append,List.append_assoc,List.cons_append,encI,encS,ints,strs];done)|(simp[encI,encS,ints,strs,encF,encR,encA,encX,x9B];done)));(next=>(first|rfl|exact zam _|exact zat _|exact zav _|exact zau _|exact zaC _|exact zaO _|exact zaP _|exact zal _|exact zc8 _|exact zcH _|(simp[zal,zam,zat,zav,zau,zan,PV.pure,zaj,zag,zay,zaC,zaO,zaP,zaI,zal,encF,encS,zc8,zcH];done)));done)|refine⟨_,rfl,rfl,?_⟩)|(simp[St.born,St.known,retV,St.get,St.obj,lk,sealed,PV.ren,renL,rmap,AO.ren,ints,strs,encI,encS,zas,zar,zaq,zao,zaH,zaG,zaF,zaE,za5,za4,za3,za2,zch,zaa,zac,zad,zab,zah,zai,zax,zaU,zaz,za7,zaA,za8,zaN,encF,encR,encA,zbE,zjk,encX,zhB,ziZ,x9B]<;>omega))));first|done|fail):p:=h
theorem lelM33{p:Prop}(h:p:=by(first|rfl|(simp only[List.map_append,List.map_cons,List.map_nil,List.append_nil,List.nil_append,List.append_assoc,List.cons_append,encI,encS,ints,strs];done)|(simp[encI,encS,ints,strs,encF,encR,encA,encX,x9B];done));first|done|fail):p:=h
theorem lpuM33{p:Prop}(h:p:=by(first|rfl|exact zam _|exact zat _|exact zav _|exact zau _|exact zaC _|exact zaO _|exact zaP _|exact zal _|exact zc8 _|exact zcH _|(simp[zal,zam,zat,zav,zau,zan,PV.pure,zaj,zag,zay,zaC,zaO,zaP,zaI,zal,encF,encS,zc8,zcH];done));first|done|fail):p:=h
theorem lsrM33{p:Prop}(h:p:=by(first|rfl|(simp[St.born,St.known,retV,St.get,St.obj,lk,sealed,PV.ren,renL,rmap,AO.ren,ints,strs,encI,encS,zas,zar,zaq,zao,zaH,zaG,zaF,zaE,za5,za4,za3,za2,zch,zaa,zac,zad,zab,zah,zai,zax,zaU,zaz,za7,zaA,za8,zaN,encF,encR,encA,zbE,zjk,encX,zhB,ziZ,x9B];done));first|done|fail):p:=h
theorem lpvM33{p:Prop}(h:p:=by(first|rfl|(simp[zaj,zag,PV.pure,zan,zam,zat,zav,zau,zay,zaC,zaO,zaP,zaI,zal,encF,encS,zc8,zcH];done));first|done|fail):p:=h
theorem ziZ{α:Type}(f:α→PV) (a b:List α):(a.map f++b.map f).take (a.length+b.length)=a.map f++b.map f:=List.take_of_length_le (by simp)
theorem zcH (l:List (List ByteArray)):zan (l.map strs)=true:=zbk strs zag l
theorem zhB (ρ:Nat→Nat) (l:List (List ByteArray)):renL ρ (l.map strs)=l.map strs:=zbf ρ _ (zcH l)
def tX (l:List (List ByteArray)) (k:Nat):List ByteArray:=l.getD k []
theorem zbc{l:List (List ByteArray)}{k:Nat}(h:k<l.length):(l.map strs).getD k .junk=strs (tX l k):=by
  simp[tX,List.getD_eq_getElem?_getD,h]
theorem tX_mem{l:List (List ByteArray)}{k:Nat}(h:k<l.length):tX l k∈l:=by simp[tX,List.getD_eq_getElem?_getD,h]
theorem zoT (x:LexD) (ws:List ByteArray) (n:Nat):(zgr x ws n).length=n:=by simp[zgr]
theorem zoS (x:LexD) (ws:List ByteArray):(zdv x ws).1.length≤ws.length:=by
  unfold zdv;split
  · exact Nat.zero_le _
  · split
    · rw[zoT];exact Nat.le_refl _
    · exact Nat.zero_le _
theorem zqQ (x:LexD) (ws:List ByteArray):(zdk x ws).length≤ws.length:=by
  unfold zdk;split
  · exact Nat.zero_le _
  · exact zqR x ws _
theorem znT{x:LexD}{ws:List ByteArray}(h:errX x ws=0):decide ((0:Int)<((zdk x ws).length:Int))=decide ((zdv x ws).2=14):=by
  unfold zdk zdv
  rw[if_neg (by omega),if_neg (by omega)]
  cases hs:sureX x ws with
  | true=>
    have:zeY x ws ws.length=[]:=by
      unfold zeY
      rw[List.filter_eq_nil_iff.2 fun k hk=>by
        have:=List.all_eq_true.1 hs k hk
        rw[this];decide]
      rfl
    rw[this];rfl
  | false=>
    obtain⟨k,hk,h2⟩:∃k,k∈List.range ws.length∧¬ (choT x ws k).2=true:=by
      have:¬ (List.range ws.length).all (fun k=>(choT x ws k).2)=true:=by
        show ¬sureX x ws=true
        rw[hs];decide
      rw[List.all_eq_true] at this
      exact Classical.byContradiction fun g=>this fun k hk=>Classical.byContradiction fun g2=>g ⟨k,hk,g2⟩
    have hm:(k:Int)∈zeY x ws ws.length:=List.mem_map.2 ⟨k,List.mem_filter.2 ⟨hk,by cases hc:(choT x ws k).2 with|true=>exact absurd hc h2|false=>rfl⟩,rfl⟩
    have hp:0<(zeY x ws ws.length).length:=List.length_pos_of_mem hm
    rw[decide_eq_true (show(0:Int)<((zeY x ws ws.length).length:Int) by omega)];rfl
theorem zm5 (x:LexD) (ws:List ByteArray):(decide (errX x ws=0)=false∧∃b c:Bool,decide ((0:Int)<((zdk x ws).length:Int))=b∧decide ((zdv x ws).2=14)=c)∨(decide (errX x ws=0)=true∧∃b:Bool,decide ((0:Int)<((zdk x ws).length:Int))=b∧decide ((zdv x ws).2=14)=b):=by
  by_cases h:errX x ws=0
  · exact .inr ⟨decide_eq_true h,_,znT h,rfl⟩
  · exact .inl ⟨decide_eq_false h,_,_,rfl,rfl⟩
def x9B:ByteArray:=⟨#[120,57]⟩
def txtsC (m:List Int):List (List ByteArray):=[zbM m,zbM m++zbM m,[],zbM m++[x9B]]
def zr5 (t:List ByteArray):Prop:=t.length≤20∧∀w,w∈t→w.size≤9223372036854775807
theorem words_ok (m:List Int):∀w,w∈zbM m→w.size≤9223372036854775807:=fun w h=>by have:=zhJ (zmY m) w h;omega
theorem zkx (m:List Int):∀t,t∈txtsC m→zr5 t:=fun t ht=>by
  have hl:=zhm m
  have hw:=words_ok m
  rcases List.mem_cons.1 ht with rfl|ht
  · exact⟨by omega,hw⟩
  · rcases List.mem_cons.1 ht with rfl|ht
    · exact⟨by simp;omega,fun w h=>(List.mem_append.1 h).elim (hw w) (hw w)⟩
    · rcases List.mem_cons.1 ht with rfl|ht
      · exact⟨by simp,fun w h=>by cases h⟩
      · rw[List.mem_singleton.1 ht]
        exact⟨by simp;omega,fun w h=>(List.mem_append.1 h).elim (hw w) fun h=>by rw[List.mem_singleton.1 h];decide⟩
theorem zlY{m:List Int}{raw:List ByteArray}(hl:raw.length≤12) (hw:∀w,w∈raw→w.size≤9223372036854775807):∀t,t∈txtsC m++[raw]→zr5 t:=fun t ht=>by
  rcases List.mem_append.1 ht with ht|ht
  · exact zkx m t ht
  · rw[List.mem_singleton.1 ht];exact⟨by omega,hw⟩
theorem all2{P:LexD→Prop}{a b:LexD}(h1:P a) (h2:P b):∀x,x∈[a,b]→P x:=fun x hx=>by
  rcases List.mem_cons.1 hx with rfl|hx
  · exact h1
  · rw[List.mem_singleton.1 hx];exact h2
def idxsC (at_:Int) (n:Nat):List Int:=[at_,zaJ at_ 8,0,-1,n]
theorem idxs_I64{at_:Int}{n:Nat}(h:I64 at_) (hn:n≤20):∀j,j∈idxsC at_ n→I64 j:=fun j hj=>by
  have h0:=zbH (n:=at_) (most:=8) (by decide)
  have h1:=zbI (n:=at_) (most:=8) (by decide)
  rcases List.mem_cons.1 hj with rfl|hj
  · exact h
  · rcases List.mem_cons.1 hj with rfl|hj
    · unfold I64;omega
    · rcases List.mem_cons.1 hj with rfl|hj
      · unfold I64;omega
      · rcases List.mem_cons.1 hj with rfl|hj
        · unfold I64;omega
        · rw[List.mem_singleton.1 hj];unfold I64;omega
theorem zqM (l:List FormD) (hl:l.length≤1000000):Pure Tryz.prog 18 [zaa l] (.ob 0 3 0 l.length) [⟨3,l.map encF⟩]:=by
  refine Pure.intro (ts:=[2]) Tryz.func18 (by kernel_rfl) rfl rfl rfl (Nat.le_of_ble_eq_true rfl) ?_ ?_
  · simp[zaI,PV.pure,zan]
  refine sZ [0] (fun P S K=>K ⟨[(0,S.get 0)],S.hp,S.nx,S.gh⟩) fun K hK=>?_
  repeat' (first|(refine hK _ ?_;clear hK K)|refine And.intro ?_ ?_|exact cl|(refine st ?_;try simp only[zaa,encF])|fail)
  all_goals
  refine sZ [0,3] (fun P S K=>K ⟨[(0,S.get 0),(3,(.atom (.slice none 0 0)))],S.hp,S.nx,S.gh⟩) fun K hK=>?_
  repeat' (first|(refine hK _ ?_;clear hK K)|refine And.intro ?_ ?_|exact cl|(refine st ?_;try simp only[zaa,encF])|fail)
  refine Tri.born 3 3 rfl ?_
  all_goals
  refine Tri.seq ?_
  refine sZ [0,3,4] (fun P S K=>K ⟨[(0,S.get 0),(3,S.get 3),(4,(.atom (.int .i64 0)))],S.hp,S.nx,S.gh⟩) fun K hK=>?_
  repeat' (first|(refine hK _ ?_;clear hK K)|refine And.intro ?_ ?_|exact cl|(refine st ?_;try simp only[zaa,encF])|fail)
  all_goals
  refine Tri.block ?_
  refine Tri.loop (α:=(o:List FormD) ×' (i:Nat) ×' (i≤l.length∧o.length=i∧o=l.take i)) (fun z=>(fun(o:List FormD) (i:Nat)=>(⟨[(0,zaa l),(3,.ob 0 3 0 o.length),(4,encI i)],[(0,some ⟨3,o.map encF⟩)],1,[]⟩:St)) z.1 z.2.1) (fun z=>(fun(o:List FormD) (i:Nat)=>l.length - i) z.1 z.2.1) ⟨[],0,⟨Nat.zero_le _,rfl,rfl⟩⟩ [0] ?_ ?_
  ·exact zd7
  rintro⟨o,i,⟨hi,hol,ho⟩⟩
  refine Tri.seq ?_
  refine sZ [0,3,4,8] (fun P S K=>XvLen P 23 (M S.hp S.nx) (S.get 0) (fun r2 _=>XvBinOV P .lss 3 (.tmp 7) (S.get 4) r2 (fun r3 _=>K ⟨[(0,S.get 0),(3,S.get 3),(4,S.get 4),(8,r3)],S.hp,S.nx,S.gh⟩))) fun K hK=>?_
  repeat' (first|(refine hK _ ?_;clear hK K)|refine And.intro ?_ ?_|exact cl|(refine st ?_;try simp only[zaa,encF])|fail)
  all_goals
  refine Tri.cond rfl (fun h8=>?_) (fun h8=>?_)
  ·try (cases h8;done)
   all_goals (try simp only[CQ] at h8)
   all_goals
   refine Tri.skip ?_
   refine Tri.seq ?_
   refine Tri.block ?_
   have hil:i<l.length:=by omega
   refine rD 20 [0,3,4] (fun P GD S K=>XvIndexAddr P 23 (S.get 0) (S.get 4) (fun r3 ef3=>XvFieldAddr P 73 0 r3 (fun r4 ef4=>XvLoad P 9 (M S.hp S.nx) r4 (fun r5 ef5=>XvIndexAddr P 23 (S.get 0) (S.get 4) (fun r8 ef8=>XvFieldAddr P 73 1 r8 (fun r9 ef9=>XvLoad P 9 (M S.hp S.nx) r9 (fun r10 ef10=>XvIndexAddr P 23 (S.get 0) (S.get 4) (fun r13 ef13=>XvFieldAddr P 73 2 r13 (fun r14 ef14=>XvLoad P 9 (M S.hp S.nx) r14 (fun r15 ef15=>XvBuild P 76 [(0,r5),(1,r10),(2,r15)] (fun r16 ef16=>XvBuildS P 28 1 S.nx [(0,r16)] (fun r17 ef17=>(28=28∧XvAppend P 28 (M (Eff.hp ef17 S.nx S.hp) (S.nx+ef17.add.length)) (S.get 3) r17 (fun r18 ef18=>(trOk S.nx GD [⟨S.nx,0,[],[],[]⟩,⟨S.nx,0,[],[],[]⟩,⟨S.nx,0,[],[],[]⟩,⟨S.nx,0,ef3.rd,[],[]⟩,⟨S.nx,0,ef4.rd,[],[]⟩,⟨S.nx,0,ef5.rd,[],[]⟩,⟨S.nx,0,[],[],[]⟩,⟨S.nx,0,[],[],[]⟩,⟨S.nx,0,ef8.rd,[],[]⟩,⟨S.nx,0,ef9.rd,[],[]⟩,⟨S.nx,0,ef10.rd,[],[]⟩,⟨S.nx,0,[],[],[]⟩,⟨S.nx,0,[],[],[]⟩,⟨S.nx,0,ef13.rd,[],[]⟩,⟨S.nx,0,ef14.rd,[],[]⟩,⟨S.nx,0,ef15.rd,[],[]⟩,⟨S.nx,0,ef16.rd,[],[]⟩,(Eff.tr ef17 S.nx),(Eff.tr ef18 (S.nx+ef17.add.length)),⟨((S.nx+ef17.add.length)+ef18.add.length),0,[],[],[]⟩]=true∧K ⟨[(0,S.get 0),(3,r18),(4,S.get 4)],(Eff.hp ef18 (S.nx+ef17.add.length) (Eff.hp ef17 S.nx S.hp)),((S.nx+ef17.add.length)+ef18.add.length),S.gh⟩))))))))))))))) fun K hK=>?_
   repeat' (first|(refine hK _ ?_;clear hK K)|(refine(?_:trOk _ _ _=true);(try simp only[zaB hil]);kernel_rfl)|((first|refine zak (fun hg=>?_) (fun hg=>?_)|refine fun(hg:(_:Prop))=>?_)<;>((try simp only[BQ] at hg);try (exfalso;omega)))|refine And.intro ?_ ?_|exact cl|(refine st ?_;try simp only[zaa,encF,zaB hil])|fail)
   all_goals
   refine rZ [0,3,4] (fun P S K=>XvBinOV P .add 3 (.const (.int .i64 1)) (S.get 4) (.atom (.int .i64 1)) (fun r1 _=>K ⟨[(0,S.get 0),(3,S.get 3),(4,r1)],S.hp,S.nx,S.gh⟩)) fun K hK=>?_
   repeat' (first|(refine hK _ ?_;clear hK K)|refine And.intro ?_ ?_|exact cl|(refine st ?_;try simp only[zaa,encF])|fail)
   all_goals try simp (disch:=omega) only[zaf,zae]
   all_goals
   refine⟨⟨o++[fF l i],i+1,by omega,by simp[hol],by rw[zdU hil,←ho]⟩,[2],by dsimp only;omega,?_⟩
   exact zd7
  try (cases h8;done)
  all_goals (try simp only[CQ] at h8)
  all_goals
  refine Tri.exit ?_
  refine sZ [2] (fun P S K=>K ⟨[(2,(S.get 3))],S.hp,S.nx,S.gh⟩) fun K hK=>?_
  repeat' (first|(refine hK _ ?_;clear hK K)|refine And.intro ?_ ?_|exact cl|(refine st ?_;try simp only[zaa,encF])|fail)
  all_goals
  refine Tri.ret ?_
  show ResOk _ _ _ _
  rw[show l=o by rw[ho,List.take_of_length_le (by omega)]]
  exact ResOk.row 0 rfl lelM33 lpuM33 lsrM33
theorem zj5 (l m:List Int) (how by_ at_:Int) (raw:List ByteArray) (hl:Fits l) (hm:Fits m) (hh:I64 how) (hb:I64 by_) (ha:I64 at_) (hrl:raw.length≤9223372036854775807) (hrw:∀w,w∈raw→w.size≤9223372036854775807) (hlv:Pure Tryz.prog 20 [] (.atom (.bool true)) []):
    Pure Tryz.prog 5 [ints l,ints m,encI how,encI by_,encI at_,strs raw] (.atom (.bool true)) []:=by
  have hml:=zgM l
  have hmh:=zq0 l
  have hsh:=znD (how:=how) (b:=by_) hmh (by omega) (by omega) (by omega)
  have hwn:=zhm m
  refine Pure.intro (ts:=[12]) Tryz.func5 (by kernel_rfl) rfl rfl rfl (Nat.le_of_ble_eq_true rfl) ?_ ?_
  · simp[zaj,zag,encI,encS,PV.pure,zan]
  refine sY [0,1,2,3,4,5] (fun P S K=>K ⟨[(0,S.get 0),(1,S.get 1),(2,S.get 2),(3,S.get 3),(4,S.get 4),(5,S.get 5)],S.hp,S.nx,S.gh⟩) ?_
  all_goals
  refine sZ [1,2,3,4,5,13] (fun P S K=>XvFnIV P (M S.hp S.nx) (.fn 7 []) [(S.get 0)] (fun r1 ef1=>XvAlloc P 32 (S.nx+ef1.add.length) (fun r2 ef2=>XvStore P 32 (M (Eff.hp ef2 (S.nx+ef1.add.length) (Eff.hp ef1 S.nx S.hp)) ((S.nx+ef1.add.length)+ef2.add.length)) r2 r1 (fun r3 ef3=>K ⟨[(1,S.get 1),(2,S.get 2),(3,S.get 3),(4,S.get 4),(5,S.get 5),(13,r2)],(Eff.hp ef3 ((S.nx+ef1.add.length)+ef2.add.length) (Eff.hp ef2 (S.nx+ef1.add.length) (Eff.hp ef1 S.nx S.hp))),(((S.nx+ef1.add.length)+ef2.add.length)+ef3.add.length),S.gh⟩)))) fun K hK=>?_
  repeat' (first|(refine hK _ ?_;clear hK K)|refine And.intro ?_ ?_|exact cl|refine .inl ⟨_,_,zr6 l hl,?_⟩|(refine st ?_;try simp only[encX,zaa,zac,zad,encF,zab,zah,zai])|refine sx ?_ (by simp only[encX,zaa,zac,zad,encF,zab,zah,zai];exact rfl)|fail)
  all_goals
  refine Tri.cut (α:=(xs:List LexD) ×' (xs.length=2∧∀x,x∈xs→HeldX x)) (fun⟨xs,hx2,hxh⟩=>⟨[(1,ints m),(4,encI at_),(5,strs raw),(14,.sl 3 (xs.map encX))],[],0,[]⟩) ?_ ?_
  ·skip
   refine rD 7 [1,4,5,14] (fun P GD S K=>XvLoad P 32 (M S.hp S.nx) (S.get 13) (fun r0 ef0=>XvLoad P 32 (M S.hp S.nx) (S.get 13) (fun r1 ef1=>XvFnDV P (M S.hp S.nx) (.fn 8 []) [r1,(S.get 2),(S.get 3)] (fun r4 ef4=>XvBuildS P 35 2 (S.nx+ef4.add.length) [(0,r0),(1,r4)] (fun r5 ef5=>(trOk S.nx GD [⟨S.nx,0,ef0.rd,[],[]⟩,⟨S.nx,0,ef1.rd,[],[]⟩,⟨S.nx,0,[],[],[]⟩,⟨S.nx,0,[],[],[]⟩,(Eff.tr ef4 S.nx),(Eff.tr ef5 (S.nx+ef4.add.length)),⟨((S.nx+ef4.add.length)+ef5.add.length),0,[],[],[]⟩]=true∧K ⟨[(1,S.get 1),(4,S.get 4),(5,S.get 5),(14,r5)],(Eff.hp ef5 (S.nx+ef4.add.length) (Eff.hp ef4 S.nx S.hp)),((S.nx+ef4.add.length)+ef5.add.length),S.gh⟩)))))) fun K hK=>?_
   repeat' (first|(refine hK _ ?_;clear hK K)|(refine(?_:trOk _ _ _=true);kernel_rfl)|refine And.intro ?_ ?_|exact cl|refine .inl ⟨_,_,zlR (zfK l) how by_ hmh (by omega) (by omega) (by omega) hh hb,?_⟩|(refine st ?_;try simp only[encX,zaa,zac,zad,encF,zab,zah,zai])|fail)
   all_goals
   refine⟨⟨[zfK l,zcE (zfK l) how by_],rfl,all2 hmh hsh⟩,[],?_⟩
   exact zd7
  rintro⟨xs,hx2,hxh⟩
  refine sZ [4,5,14,15] (fun P S K=>XvFnIV P (M S.hp S.nx) (.fn 10 []) [(S.get 1)] (fun r1 ef1=>K ⟨[(4,S.get 4),(5,S.get 5),(14,S.get 14),(15,r1)],(Eff.hp ef1 S.nx S.hp),(S.nx+ef1.add.length),S.gh⟩)) fun K hK=>?_
  repeat' (first|(refine hK _ ?_;clear hK K)|refine .inl ⟨_,_,zla m hm,?_⟩|(refine st ?_;try simp only[encX,zaa,zac,zad,encF,zab,zah,zai])|fail)
  all_goals
  refine sZ [4,5,14,16] (fun P S K=>XvBuildS P 37 0 S.nx [] (fun r1 ef1=>(37=37∧XvAppend P 37 (M (Eff.hp ef1 S.nx S.hp) (S.nx+ef1.add.length)) r1 (S.get 15) (fun r3 ef3=>(37=37∧XvAppend P 37 (M (Eff.hp ef3 (S.nx+ef1.add.length) (Eff.hp ef1 S.nx S.hp)) ((S.nx+ef1.add.length)+ef3.add.length)) r3 (S.get 15) (fun r5 ef5=>XvBuildS P 37 0 (((S.nx+ef1.add.length)+ef3.add.length)+ef5.add.length) [] (fun r6 ef6=>(37=37∧XvAppend P 37 (M (Eff.hp ef6 (((S.nx+ef1.add.length)+ef3.add.length)+ef5.add.length) (Eff.hp ef5 ((S.nx+ef1.add.length)+ef3.add.length) (Eff.hp ef3 (S.nx+ef1.add.length) (Eff.hp ef1 S.nx S.hp)))) ((((S.nx+ef1.add.length)+ef3.add.length)+ef5.add.length)+ef6.add.length)) r6 (S.get 15) (fun r8 ef8=>XvBuildS P 37 1 (((((S.nx+ef1.add.length)+ef3.add.length)+ef5.add.length)+ef6.add.length)+ef8.add.length) [(0,(.atom (.string { data := #[120,57] })))] (fun r9 ef9=>(37=37∧XvAppend P 37 (M (Eff.hp ef9 (((((S.nx+ef1.add.length)+ef3.add.length)+ef5.add.length)+ef6.add.length)+ef8.add.length) (Eff.hp ef8 ((((S.nx+ef1.add.length)+ef3.add.length)+ef5.add.length)+ef6.add.length) (Eff.hp ef6 (((S.nx+ef1.add.length)+ef3.add.length)+ef5.add.length) (Eff.hp ef5 ((S.nx+ef1.add.length)+ef3.add.length) (Eff.hp ef3 (S.nx+ef1.add.length) (Eff.hp ef1 S.nx S.hp)))))) ((((((S.nx+ef1.add.length)+ef3.add.length)+ef5.add.length)+ef6.add.length)+ef8.add.length)+ef9.add.length)) r8 r9 (fun r10 ef10=>XvBuildS P 63 4 (((((((S.nx+ef1.add.length)+ef3.add.length)+ef5.add.length)+ef6.add.length)+ef8.add.length)+ef9.add.length)+ef10.add.length) [(0,(S.get 15)),(1,r5),(2,(.atom (.slice none 0 0))),(3,r10)] (fun r11 ef11=>K ⟨[(4,S.get 4),(5,S.get 5),(14,S.get 14),(16,r11)],(Eff.hp ef11 (((((((S.nx+ef1.add.length)+ef3.add.length)+ef5.add.length)+ef6.add.length)+ef8.add.length)+ef9.add.length)+ef10.add.length) (Eff.hp ef10 ((((((S.nx+ef1.add.length)+ef3.add.length)+ef5.add.length)+ef6.add.length)+ef8.add.length)+ef9.add.length) (Eff.hp ef9 (((((S.nx+ef1.add.length)+ef3.add.length)+ef5.add.length)+ef6.add.length)+ef8.add.length) (Eff.hp ef8 ((((S.nx+ef1.add.length)+ef3.add.length)+ef5.add.length)+ef6.add.length) (Eff.hp ef6 (((S.nx+ef1.add.length)+ef3.add.length)+ef5.add.length) (Eff.hp ef5 ((S.nx+ef1.add.length)+ef3.add.length) (Eff.hp ef3 (S.nx+ef1.add.length) (Eff.hp ef1 S.nx S.hp)))))))),((((((((S.nx+ef1.add.length)+ef3.add.length)+ef5.add.length)+ef6.add.length)+ef8.add.length)+ef9.add.length)+ef10.add.length)+ef11.add.length),S.gh⟩))))))))))))) fun K hK=>?_
  repeat' (first|(refine hK _ ?_;clear hK K)|refine And.intro ?_ ?_|exact cl|(refine st ?_;try simp only[encX,zaa,zac,zad,encF,zab,zah,zai])|fail)
  refine Tri.nilE 7 2 1 1 _ rfl rfl ?_
  obtain⟨w2,hw2⟩:∃w2,zbM m++zbM m=w2:=⟨_,rfl⟩
  obtain⟨w9,hw9⟩:∃w9,zbM m++[x9B]=w9:=⟨_,rfl⟩
  rw[show List.map encS (zbM m)++List.map encS (zbM m)=w2.map encS by rw[←hw2,List.map_append],show List.map encS (zbM m)++[PV.atom (.string ⟨#[120,57]⟩)]=w9.map encS by rw[←hw9,List.map_append];rfl,show(zbM m).length+(zbM m).length=w2.length by rw[←hw2,List.length_append],show(zbM m).length+1=w9.length by rw[←hw9,List.length_append];rfl]
  all_goals
  refine Tri.cut (α:=(Ts:List (List ByteArray)) ×' (Ts.length≤5∧∀t,t∈Ts→zr5 t)) (fun⟨Ts,hT5,hTs⟩=>⟨[(4,encI at_),(14,.sl 3 (xs.map encX)),(16,.sl 1 (Ts.map strs))],[],0,[]⟩) ?_ ?_
  ·skip
   refine sZ [4,5,14,16,57] (fun P S K=>XvLen P 37 (M S.hp S.nx) (S.get 5) (fun r1 _=>XvBinOV P .leq 3 (.const (.int .i64 12)) r1 (.atom (.int .i64 12)) (fun r2 _=>K ⟨[(4,S.get 4),(5,S.get 5),(14,S.get 14),(16,S.get 16),(57,r2)],S.hp,S.nx,S.gh⟩))) fun K hK=>?_
   repeat' (first|(refine hK _ ?_;clear hK K)|refine And.intro ?_ ?_|exact cl|(refine st ?_;try simp only[encX,zaa,zac,zad,encF,zab,zah,zai])|fail)
   all_goals
   refine Tri.cond rfl (fun h57=>?_) (fun h57=>?_)
   ·try (cases h57;done)
    all_goals (try simp only[CQ] at h57)
    all_goals
    refine rZ [4,14,16] (fun P S K=>XvBuildS P 63 1 S.nx [(0,(S.get 5))] (fun r2 ef2=>(63=63∧XvAppend P 63 (M (Eff.hp ef2 S.nx S.hp) (S.nx+ef2.add.length)) (S.get 16) r2 (fun r3 ef3=>K ⟨[(4,S.get 4),(14,S.get 14),(16,r3)],(Eff.hp ef3 (S.nx+ef2.add.length) (Eff.hp ef2 S.nx S.hp)),((S.nx+ef2.add.length)+ef3.add.length),S.gh⟩)))) fun K hK=>?_
    repeat' (first|(refine hK _ ?_;clear hK K)|refine And.intro ?_ ?_|exact cl|(refine st ?_;try simp only[encX,zaa,zac,zad,encF,zab,zah,zai])|fail)
    all_goals
    refine⟨(by first|exact⟨[zbM m,w2,[],w9,raw],by simp,by rw[←hw2,←hw9];exact zlY (by omega) hrw⟩|exact⟨[zbM m,w2,[],w9],by simp,by rw[←hw2,←hw9];exact zkx m⟩),[],?_⟩
    exact zd7
   try (cases h57;done)
   all_goals (try simp only[CQ] at h57)
   all_goals
   refine Tri.skip ?_
   refine⟨(by first|exact⟨[zbM m,w2,[],w9,raw],by simp,by rw[←hw2,←hw9];exact zlY (by omega) hrw⟩|exact⟨[zbM m,w2,[],w9],by simp,by rw[←hw2,←hw9];exact zkx m⟩),[],?_⟩
   exact zd7
  rintro⟨Ts,hT5,hTs⟩
  refine Tri.seq ?_
  refine sY [4,14,16,17] (fun P S K=>K ⟨[(4,S.get 4),(14,S.get 14),(16,S.get 16),(17,(.atom (.int .i64 0)))],S.hp,S.nx,S.gh⟩) ?_
  all_goals
  refine Tri.block ?_
  refine Tri.loop (α:=(i:Nat) ×' (i≤xs.length)) (fun z=>(fun(i:Nat)=>(⟨[(4,encI at_),(14,.sl 3 (xs.map encX)),(16,.sl 1 (Ts.map strs)),(17,encI i)],[],0,[]⟩:St)) z.1) (fun z=>(fun(i:Nat)=>xs.length - i) z.1) ⟨0,Nat.zero_le _⟩ [] ?_ ?_
  ·exact zd7
  rintro⟨i,hi⟩
  refine Tri.seq ?_
  refine sZ [4,14,16,17,65] (fun P S K=>XvLen P 35 (M S.hp S.nx) (S.get 14) (fun r2 _=>XvBinOV P .lss 3 (.tmp 64) (S.get 17) r2 (fun r3 _=>K ⟨[(4,S.get 4),(14,S.get 14),(16,S.get 16),(17,S.get 17),(65,r3)],S.hp,S.nx,S.gh⟩))) fun K hK=>?_
  repeat' (first|(refine hK _ ?_;clear hK K)|refine And.intro ?_ ?_|exact cl|(refine st ?_;try simp only[encX,zaa,zac,zad,encF,zab,zah,zai])|fail)
  all_goals
  refine Tri.cond rfl (fun h65=>?_) (fun h65=>?_)
  ·try (cases h65;done)
   all_goals (try simp only[CQ] at h65)
   all_goals
   refine Tri.skip ?_
   refine Tri.seq ?_
   refine Tri.block ?_
   refine sY [4,14,16,17,18] (fun P S K=>K ⟨[(4,S.get 4),(14,S.get 14),(16,S.get 16),(17,S.get 17),(18,(.atom (.int .i64 0)))],S.hp,S.nx,S.gh⟩) ?_
   all_goals
   refine Tri.block ?_
   refine Tri.loop (α:=(k:Nat) ×' (k≤Ts.length)) (fun z=>(fun(k:Nat)=>(⟨[(4,encI at_),(14,.sl 3 (xs.map encX)),(16,.sl 1 (Ts.map strs)),(17,encI i),(18,encI k)],[],0,[]⟩:St)) z.1) (fun z=>(fun(k:Nat)=>Ts.length - k) z.1) ⟨0,Nat.zero_le _⟩ [] ?_ ?_
   ·exact zd7
   rintro⟨k,hk⟩
   refine Tri.seq ?_
   refine sZ [4,14,16,17,18,71] (fun P S K=>XvLen P 63 (M S.hp S.nx) (S.get 16) (fun r2 _=>XvBinOV P .lss 3 (.tmp 70) (S.get 18) r2 (fun r3 _=>K ⟨[(4,S.get 4),(14,S.get 14),(16,S.get 16),(17,S.get 17),(18,S.get 18),(71,r3)],S.hp,S.nx,S.gh⟩))) fun K hK=>?_
   repeat' (first|(refine hK _ ?_;clear hK K)|refine And.intro ?_ ?_|exact cl|(refine st ?_;try simp only[encX,zaa,zac,zad,encF,zab,zah,zai])|fail)
   all_goals
   refine Tri.cond rfl (fun h71=>?_) (fun h71=>?_)
   ·try (cases h71;done)
    all_goals (try simp only[CQ] at h71)
    all_goals
    refine Tri.skip ?_
    refine Tri.seq ?_
    refine Tri.block ?_
    have hix:i<xs.length:=by omega
    have hxi:=hxh _ (fX_mem hix)
    have hkT:k<Ts.length:=by omega
    have htok:=hTs _ (tX_mem hkT)
    have htn:(tX Ts k).length≤1000000:=by have:=htok.1;omega
    have ht20:=htok.1
    have htw:=htok.2
    obtain⟨fs,fe,htx⟩:∃fs fe,zdv (fX xs i) (tX Ts k)=(fs,fe):=⟨_,_,rfl⟩
    obtain⟨os,hop⟩:∃os,zdk (fX xs i) (tX Ts k)=os:=⟨_,rfl⟩
    obtain⟨e,her⟩:∃e,errX (fX xs i) (tX Ts k)=e:=⟨_,rfl⟩
    have hfl:=zoS (fX xs i) (tX Ts k)
    have hol:=zqQ (fX xs i) (tX Ts k)
    rw[htx] at hfl
    rw[hop] at hol
    dsimp only at hfl
    refine sD 15 [4,14,16,17,18,19,20] (fun P GD S K=>XvIndexAddr P 35 (S.get 14) (S.get 17) (fun r2 ef2=>XvLoad P 32 (M S.hp S.nx) r2 (fun r3 ef3=>XvFnDV P (M S.hp S.nx) (.fn 14 []) [r3] (fun r4 ef4=>XvIndexAddr P 63 (S.get 16) (S.get 18) (fun r7 ef7=>XvLoad P 37 (M (Eff.hp ef4 S.nx S.hp) (S.nx+ef4.add.length)) r7 (fun r8 ef8=>XvFnDV P (M (Eff.hp ef4 S.nx S.hp) (S.nx+ef4.add.length)) (.fn 26 []) [r4,r8] (fun r9 ef9=>XvExtract r9 0 (fun r11 ef11=>XvExtract r9 1 (fun r12 ef12=>(trOk S.nx GD [⟨S.nx,0,[],[],[]⟩,⟨S.nx,0,[],[],[]⟩,⟨S.nx,0,ef2.rd,[],[]⟩,⟨S.nx,0,ef3.rd,[],[]⟩,(Eff.tr ef4 S.nx),⟨(S.nx+ef4.add.length),0,[],[],[]⟩,⟨(S.nx+ef4.add.length),0,[],[],[]⟩,⟨(S.nx+ef4.add.length),0,ef7.rd,[],[]⟩,⟨(S.nx+ef4.add.length),0,ef8.rd,[],[]⟩,(Eff.tr ef9 (S.nx+ef4.add.length)),⟨((S.nx+ef4.add.length)+ef9.add.length),0,[],[],[]⟩,⟨((S.nx+ef4.add.length)+ef9.add.length),0,ef11.rd,[],[]⟩,⟨((S.nx+ef4.add.length)+ef9.add.length),0,ef12.rd,[],[]⟩,⟨((S.nx+ef4.add.length)+ef9.add.length),0,[],[],[]⟩,⟨((S.nx+ef4.add.length)+ef9.add.length),0,[],[],[]⟩]=true∧K ⟨[(4,S.get 4),(14,S.get 14),(16,S.get 16),(17,S.get 17),(18,S.get 18),(19,r11),(20,r12)],(Eff.hp ef9 (S.nx+ef4.add.length) (Eff.hp ef4 S.nx S.hp)),((S.nx+ef4.add.length)+ef9.add.length),S.gh⟩)))))))))) fun K hK=>?_
    repeat' (first|(refine hK _ ?_;clear hK K)|(refine(?_:trOk _ _ _=true);(try simp only[zbu hix,zbc hkT,htx]);kernel_rfl)|refine And.intro ?_ ?_|exact cl|refine .inl ⟨_,_,zii (fX xs i) hxi,?_⟩|refine .inl ⟨_,_,zhM (fX xs i) (tX Ts k) hxi htn htw,?_⟩|(refine st ?_;try simp only[encX,zaa,zac,zad,encF,zab,zah,zai,zbu hix,zbc hkT,htx])|refine sx ?_ (by simp only[encX,zaa,zac,zad,encF,zab,zah,zai,zbu hix,zbc hkT,htx];exact rfl)|fail)
    all_goals
    refine sD 14 [4,14,16,17,18,19,20,21,22] (fun P GD S K=>XvIndexAddr P 35 (S.get 14) (S.get 17) (fun r2 ef2=>XvLoad P 32 (M S.hp S.nx) r2 (fun r3 ef3=>XvIndexAddr P 63 (S.get 16) (S.get 18) (fun r6 ef6=>XvLoad P 37 (M S.hp S.nx) r6 (fun r7 ef7=>XvFnDV P (M S.hp S.nx) (.fn 27 []) [r3,r7] (fun r8 ef8=>XvExtract r8 0 (fun r10 ef10=>XvExtract r8 1 (fun r11 ef11=>(trOk S.nx GD [⟨S.nx,0,[],[],[]⟩,⟨S.nx,0,[],[],[]⟩,⟨S.nx,0,ef2.rd,[],[]⟩,⟨S.nx,0,ef3.rd,[],[]⟩,⟨S.nx,0,[],[],[]⟩,⟨S.nx,0,[],[],[]⟩,⟨S.nx,0,ef6.rd,[],[]⟩,⟨S.nx,0,ef7.rd,[],[]⟩,(Eff.tr ef8 S.nx),⟨(S.nx+ef8.add.length),0,[],[],[]⟩,⟨(S.nx+ef8.add.length),0,ef10.rd,[],[]⟩,⟨(S.nx+ef8.add.length),0,ef11.rd,[],[]⟩,⟨(S.nx+ef8.add.length),0,[],[],[]⟩,⟨(S.nx+ef8.add.length),0,[],[],[]⟩]=true∧K ⟨[(4,S.get 4),(14,S.get 14),(16,S.get 16),(17,S.get 17),(18,S.get 18),(19,S.get 19),(20,S.get 20),(21,r10),(22,r11)],(Eff.hp ef8 S.nx S.hp),(S.nx+ef8.add.length),S.gh⟩))))))))) fun K hK=>?_
    repeat' (first|(refine hK _ ?_;clear hK K)|(refine(?_:trOk _ _ _=true);(try simp only[zbu hix,zbc hkT,htx]);kernel_rfl)|refine And.intro ?_ ?_|exact cl|refine .inl ⟨_,_,znM (fX xs i) (tX Ts k) hxi htn htw,?_⟩|(refine st ?_;try simp only[encX,zaa,zac,zad,encF,zab,zah,zai,zbu hix,zbc hkT,htx])|fail)
    all_goals
    refine sD 15 [4,14,16,17,18,19,20,21,22,23,24] (fun P GD S K=>XvIndexAddr P 35 (S.get 14) (S.get 17) (fun r2 ef2=>XvLoad P 32 (M S.hp S.nx) r2 (fun r3 ef3=>XvFnDV P (M S.hp S.nx) (.fn 14 []) [r3] (fun r4 ef4=>XvIndexAddr P 63 (S.get 16) (S.get 18) (fun r7 ef7=>XvLoad P 37 (M (Eff.hp ef4 S.nx S.hp) (S.nx+ef4.add.length)) r7 (fun r8 ef8=>XvFnDV P (M (Eff.hp ef4 S.nx S.hp) (S.nx+ef4.add.length)) (.fn 28 []) [r4,r8] (fun r9 ef9=>XvExtract r9 0 (fun r11 ef11=>XvExtract r9 1 (fun r12 ef12=>(trOk S.nx GD [⟨S.nx,0,[],[],[]⟩,⟨S.nx,0,[],[],[]⟩,⟨S.nx,0,ef2.rd,[],[]⟩,⟨S.nx,0,ef3.rd,[],[]⟩,(Eff.tr ef4 S.nx),⟨(S.nx+ef4.add.length),0,[],[],[]⟩,⟨(S.nx+ef4.add.length),0,[],[],[]⟩,⟨(S.nx+ef4.add.length),0,ef7.rd,[],[]⟩,⟨(S.nx+ef4.add.length),0,ef8.rd,[],[]⟩,(Eff.tr ef9 (S.nx+ef4.add.length)),⟨((S.nx+ef4.add.length)+ef9.add.length),0,[],[],[]⟩,⟨((S.nx+ef4.add.length)+ef9.add.length),0,ef11.rd,[],[]⟩,⟨((S.nx+ef4.add.length)+ef9.add.length),0,ef12.rd,[],[]⟩,⟨((S.nx+ef4.add.length)+ef9.add.length),0,[],[],[]⟩,⟨((S.nx+ef4.add.length)+ef9.add.length),0,[],[],[]⟩]=true∧K ⟨[(4,S.get 4),(14,S.get 14),(16,S.get 16),(17,S.get 17),(18,S.get 18),(19,S.get 19),(20,S.get 20),(21,S.get 21),(22,S.get 22),(23,r11),(24,r12)],(Eff.hp ef9 (S.nx+ef4.add.length) (Eff.hp ef4 S.nx S.hp)),((S.nx+ef4.add.length)+ef9.add.length),S.gh⟩)))))))))) fun K hK=>?_
    repeat' (first|(refine hK _ ?_;clear hK K)|(refine(?_:trOk _ _ _=true);(try simp only[zbu hix,zbc hkT,hop,her]);kernel_rfl)|refine And.intro ?_ ?_|exact cl|refine .inl ⟨_,_,zii (fX xs i) hxi,?_⟩|refine .inl ⟨_,_,zn2 (fX xs i) (tX Ts k) hxi htn htw,?_⟩|(refine st ?_;try simp only[encX,zaa,zac,zad,encF,zab,zah,zai,zbu hix,zbc hkT,hop,her])|refine sx ?_ (by simp only[encX,zaa,zac,zad,encF,zab,zah,zai,zbu hix,zbc hkT,hop,her];exact rfl)|fail)
    all_goals
    refine sD 14 [4,14,16,17,18,19,20,21,22,23,24,25,26] (fun P GD S K=>XvIndexAddr P 35 (S.get 14) (S.get 17) (fun r2 ef2=>XvLoad P 32 (M S.hp S.nx) r2 (fun r3 ef3=>XvIndexAddr P 63 (S.get 16) (S.get 18) (fun r6 ef6=>XvLoad P 37 (M S.hp S.nx) r6 (fun r7 ef7=>XvFnDV P (M S.hp S.nx) (.fn 29 []) [r3,r7] (fun r8 ef8=>XvExtract r8 0 (fun r10 ef10=>XvExtract r8 1 (fun r11 ef11=>(trOk S.nx GD [⟨S.nx,0,[],[],[]⟩,⟨S.nx,0,[],[],[]⟩,⟨S.nx,0,ef2.rd,[],[]⟩,⟨S.nx,0,ef3.rd,[],[]⟩,⟨S.nx,0,[],[],[]⟩,⟨S.nx,0,[],[],[]⟩,⟨S.nx,0,ef6.rd,[],[]⟩,⟨S.nx,0,ef7.rd,[],[]⟩,(Eff.tr ef8 S.nx),⟨(S.nx+ef8.add.length),0,[],[],[]⟩,⟨(S.nx+ef8.add.length),0,ef10.rd,[],[]⟩,⟨(S.nx+ef8.add.length),0,ef11.rd,[],[]⟩,⟨(S.nx+ef8.add.length),0,[],[],[]⟩,⟨(S.nx+ef8.add.length),0,[],[],[]⟩]=true∧K ⟨[(4,S.get 4),(14,S.get 14),(16,S.get 16),(17,S.get 17),(18,S.get 18),(19,S.get 19),(20,S.get 20),(21,S.get 21),(22,S.get 22),(23,S.get 23),(24,S.get 24),(25,r10),(26,r11)],(Eff.hp ef8 S.nx S.hp),(S.nx+ef8.add.length),S.gh⟩))))))))) fun K hK=>?_
    repeat' (first|(refine hK _ ?_;clear hK K)|(refine(?_:trOk _ _ _=true);(try simp only[zbu hix,zbc hkT,hop,her]);kernel_rfl)|refine And.intro ?_ ?_|exact cl|refine .inl ⟨_,_,znO (fX xs i) (tX Ts k) hxi htn htw,?_⟩|(refine st ?_;try simp only[encX,zaa,zac,zad,encF,zab,zah,zai,zbu hix,zbc hkT,hop,her])|fail)
    all_goals
    refine Tri.seq ?_
    have hcs:=zm5 (fX xs i) (tX Ts k)
    rw[htx,hop,her] at hcs
    dsimp only at hcs
    rcases hcs with ⟨hd,b,c,hb1,hb2⟩|⟨hd,b,hb1,hb2⟩
    all_goals
    refine sZ [4,14,16,17,18,156] (fun P S K=>XvBinOV P .neq 40 (.tmp 125) (S.get 20) (S.get 22) (fun r2 _=>Xgq r2 false (fun k=>k (S.get 24)) (fun g4 r4=>Xgq g4 false (fun k=>k (S.get 26)) (fun g5 r5=>Xgq g5 false (fun k=>XvBinOV P .neq 40 (.tmp 129) r4 r5 (fun r6 _=>k r6)) (fun g6 r6=>XvPick g6 (.atom (.bool true)) r6 (fun r7 _=>Xgq r7 false (fun k=>k (S.get 19)) (fun g9 r9=>Xge g9 false (fun k=>XvFnIV P (M S.hp S.nx) (.fn 18 []) [r9] k) (fun g10 r10 ef10=>Xgq g10 false (fun k=>k (S.get 21)) (fun g11 r11=>Xge g11 false (fun k=>XvFnIV P (M (Eff.hp ef10 S.nx S.hp) (S.nx+ef10.add.length)) (.fn 17 []) [r10,r11] k) (fun g12 r12 ef12=>Xgq g12 false (fun k=>XvUn .not r12 (fun r13 _=>k r13)) (fun g13 r13=>XvPick g13 (.atom (.bool true)) r13 (fun r14 _=>Xgq r14 false (fun k=>k (S.get 23)) (fun g16 r16=>Xgq g16 false (fun k=>k (S.get 25)) (fun g17 r17=>Xge g17 false (fun k=>XvFnIV P (M (Eff.hp ef12 (S.nx+ef10.add.length) (Eff.hp ef10 S.nx S.hp)) ((S.nx+ef10.add.length)+ef12.add.length)) (.fn 30 []) [r16,r17] k) (fun g18 r18 ef18=>Xgq g18 false (fun k=>XvUn .not r18 (fun r19 _=>k r19)) (fun g19 r19=>XvPick g19 (.atom (.bool true)) r19 (fun r20 _=>Xgq r20 false (fun k=>k (S.get 26)) (fun g22 r22=>Xgq g22 false (fun k=>XvBinOV P .eql 40 (.const (.int .i64 0)) r22 (.atom (.int .i64 0)) (fun r23 _=>k r23)) (fun g23 r23=>Xgq g23 false (fun k=>k r23) (fun g24 r24=>Xgq r24 true (fun k=>k (S.get 25)) (fun g25 r25=>Xgq g25 true (fun k=>XvLen P 22 (M (Eff.hp ef18 ((S.nx+ef10.add.length)+ef12.add.length) (Eff.hp ef12 (S.nx+ef10.add.length) (Eff.hp ef10 S.nx S.hp))) (((S.nx+ef10.add.length)+ef12.add.length)+ef18.add.length)) r25 (fun r26 _=>k r26)) (fun g26 r26=>Xgq g26 true (fun k=>XvBinOV P .gtr 3 (.const (.int .i64 0)) r26 (.atom (.int .i64 0)) (fun r27 _=>k r27)) (fun g27 r27=>Xgq g27 true (fun k=>k (S.get 20)) (fun g28 r28=>Xgq g28 true (fun k=>XvBinOV P .eql 40 (.const (.int .i64 14)) r28 (.atom (.int .i64 14)) (fun r29 _=>k r29)) (fun g29 r29=>Xgq g29 true (fun k=>XvBinOV P .neq 4 (.tmp 153) r27 r29 (fun r30 _=>k r30)) (fun g30 r30=>Xgq g24 false (fun k=>XvPick g30 r30 (.atom (.bool false)) (fun r31 _=>k r31)) (fun g31 r31=>XvPick g31 (.atom (.bool true)) r31 (fun r32 _=>K ⟨[(4,S.get 4),(14,S.get 14),(16,S.get 16),(17,S.get 17),(18,S.get 18),(156,r32)],(Eff.hp ef18 ((S.nx+ef10.add.length)+ef12.add.length) (Eff.hp ef12 (S.nx+ef10.add.length) (Eff.hp ef10 S.nx S.hp))),(((S.nx+ef10.add.length)+ef12.add.length)+ef18.add.length),S.gh⟩)))))))))))))))))))))))))))) fun K hK=>?_
    repeat' (first|(refine hK _ ?_;clear hK K)|refine And.intro ?_ ?_|exact cl|refine .inl ⟨_,_,znS fs (by omega),?_⟩|refine .inl ⟨_,_,znN fs fs (by omega) (by omega),?_⟩|refine .inl ⟨_,_,zfA os os (by omega) (by omega),?_⟩|(refine st ?_;try simp only[encX,zaa,zac,zad,encF,zab,zah,zai,↓SE,hd,hb1,hb2,beq_self_eq_true])|fail)
    all_goals try simp (disch:=omega) only[zaf,zae]
    all_goals
    refine Tri.cond rfl (fun h156=>?_) (fun h156=>?_)
    ·try (cases h156;done)
     all_goals (try simp only[CQ] at h156)
     all_goals
     refine sY [12] (fun P S K=>K ⟨[(12,(.atom (.bool false)))],S.hp,S.nx,S.gh⟩) ?_
     all_goals
     refine Tri.ret ?_
     show ResOk _ _ _ _
     done
    try (cases h156;done)
    all_goals (try simp only[CQ] at h156)
    all_goals
    refine Tri.skip ?_
    refine Tri.cut (α:=(js:List Int) ×' (js.length=5∧∀j,j∈js→I64 j)) (fun⟨js,hj5,hjs⟩=>⟨[(4,encI at_),(14,.sl 3 (xs.map encX)),(16,.sl 1 (Ts.map strs)),(17,encI i),(18,encI k),(27,ints js)],[],0,[]⟩) ?_ ?_
    ·skip
     refine rD 10 [4,14,16,17,18,27] (fun P GD S K=>XvFnDV P (M S.hp S.nx) (.fn 31 []) [(S.get 4),(.atom (.int .i64 8))] (fun r2 ef2=>XvIndexAddr P 63 (S.get 16) (S.get 18) (fun r5 ef5=>XvLoad P 37 (M (Eff.hp ef2 S.nx S.hp) (S.nx+ef2.add.length)) r5 (fun r6 ef6=>XvLen P 37 (M (Eff.hp ef2 S.nx S.hp) (S.nx+ef2.add.length)) r6 (fun r7 ef7=>XvBuildS P 22 5 (S.nx+ef2.add.length) [(0,(S.get 4)),(1,r2),(2,(.atom (.int .i64 0))),(3,(.atom (.int .i64 (-1)))),(4,r7)] (fun r8 ef8=>(trOk S.nx GD [⟨S.nx,0,[],[],[]⟩,⟨S.nx,0,[],[],[]⟩,(Eff.tr ef2 S.nx),⟨(S.nx+ef2.add.length),0,[],[],[]⟩,⟨(S.nx+ef2.add.length),0,[],[],[]⟩,⟨(S.nx+ef2.add.length),0,ef5.rd,[],[]⟩,⟨(S.nx+ef2.add.length),0,ef6.rd,[],[]⟩,⟨(S.nx+ef2.add.length),0,ef7.rd,[],[]⟩,(Eff.tr ef8 (S.nx+ef2.add.length)),⟨((S.nx+ef2.add.length)+ef8.add.length),0,[],[],[]⟩]=true∧K ⟨[(4,S.get 4),(14,S.get 14),(16,S.get 16),(17,S.get 17),(18,S.get 18),(27,r8)],(Eff.hp ef8 (S.nx+ef2.add.length) (Eff.hp ef2 S.nx S.hp)),((S.nx+ef2.add.length)+ef8.add.length),S.gh⟩))))))) fun K hK=>?_
     repeat' (first|(refine hK _ ?_;clear hK K)|(refine(?_:trOk _ _ _=true);(try simp only[zbc hkT]);kernel_rfl)|refine And.intro ?_ ?_|exact cl|refine .inl ⟨_,_,zaY at_ 8 ha (by decide),?_⟩|(refine st ?_;try simp only[encX,zaa,zac,zad,encF,zab,zah,zai,zbc hkT])|refine sx ?_ (by simp only[encX,zaa,zac,zad,encF,zab,zah,zai,zbc hkT];exact rfl)|fail)
     all_goals
     refine⟨⟨idxsC at_ (tX Ts k).length,rfl,idxs_I64 ha (by omega)⟩,[],?_⟩
     exact zd7
    rintro⟨js,hj5,hjs⟩
    refine sY [4,14,16,17,18,27,28] (fun P S K=>K ⟨[(4,S.get 4),(14,S.get 14),(16,S.get 16),(17,S.get 17),(18,S.get 18),(27,S.get 27),(28,(.atom (.int .i64 0)))],S.hp,S.nx,S.gh⟩) ?_
    all_goals
    refine Tri.block ?_
    refine Tri.loop (α:=(j:Nat) ×' (j≤js.length)) (fun z=>(fun(j:Nat)=>(⟨[(4,encI at_),(14,.sl 3 (xs.map encX)),(16,.sl 1 (Ts.map strs)),(17,encI i),(18,encI k),(27,ints js),(28,encI j)],[],0,[]⟩:St)) z.1) (fun z=>(fun(j:Nat)=>js.length - j) z.1) ⟨0,Nat.zero_le _⟩ [] ?_ ?_
    ·exact zd7
    rintro⟨j,hj⟩
    refine Tri.seq ?_
    refine sZ [4,14,16,17,18,27,28,169] (fun P S K=>XvLen P 22 (M S.hp S.nx) (S.get 27) (fun r2 _=>XvBinOV P .lss 3 (.tmp 168) (S.get 28) r2 (fun r3 _=>K ⟨[(4,S.get 4),(14,S.get 14),(16,S.get 16),(17,S.get 17),(18,S.get 18),(27,S.get 27),(28,S.get 28),(169,r3)],S.hp,S.nx,S.gh⟩))) fun K hK=>?_
    repeat' (first|(refine hK _ ?_;clear hK K)|refine And.intro ?_ ?_|exact cl|(refine st ?_;try simp only[encX,zaa,zac,zad,encF,zab,zah,zai])|fail)
    all_goals
    refine Tri.cond rfl (fun h169=>?_) (fun h169=>?_)
    ·try (cases h169;done)
     all_goals (try simp only[CQ] at h169)
     all_goals
     refine Tri.skip ?_
     refine Tri.seq ?_
     refine Tri.block ?_
     have hjj:j<js.length:=by omega
     have hj64:=hjs _ (zf1 hjj)
     obtain⟨c,ce,hce⟩:∃c ce,zbY (fX xs i) (tX Ts k) (li js j)=(c,ce):=⟨_,_,rfl⟩
     refine sD 20 [4,14,16,17,18,27,28,29,30] (fun P GD S K=>XvIndexAddr P 35 (S.get 14) (S.get 17) (fun r2 ef2=>XvLoad P 32 (M S.hp S.nx) r2 (fun r3 ef3=>XvFnDV P (M S.hp S.nx) (.fn 14 []) [r3] (fun r4 ef4=>XvIndexAddr P 63 (S.get 16) (S.get 18) (fun r7 ef7=>XvLoad P 37 (M (Eff.hp ef4 S.nx S.hp) (S.nx+ef4.add.length)) r7 (fun r8 ef8=>XvIndexAddr P 22 (S.get 27) (S.get 28) (fun r11 ef11=>XvLoad P 3 (M (Eff.hp ef4 S.nx S.hp) (S.nx+ef4.add.length)) r11 (fun r12 ef12=>XvFnDV P (M (Eff.hp ef4 S.nx S.hp) (S.nx+ef4.add.length)) (.fn 32 []) [r4,r8,r12] (fun r13 ef13=>XvExtract r13 0 (fun r15 ef15=>XvExtract r13 1 (fun r16 ef16=>XvAlloc P 73 ((S.nx+ef4.add.length)+ef13.add.length) (fun r17 ef17=>XvStore P 73 (M (Eff.hp ef17 ((S.nx+ef4.add.length)+ef13.add.length) (Eff.hp ef13 (S.nx+ef4.add.length) (Eff.hp ef4 S.nx S.hp))) (((S.nx+ef4.add.length)+ef13.add.length)+ef17.add.length)) r17 r15 (fun r18 ef18=>(trOk S.nx GD [⟨S.nx,0,[],[],[]⟩,⟨S.nx,0,[],[],[]⟩,⟨S.nx,0,ef2.rd,[],[]⟩,⟨S.nx,0,ef3.rd,[],[]⟩,(Eff.tr ef4 S.nx),⟨(S.nx+ef4.add.length),0,[],[],[]⟩,⟨(S.nx+ef4.add.length),0,[],[],[]⟩,⟨(S.nx+ef4.add.length),0,ef7.rd,[],[]⟩,⟨(S.nx+ef4.add.length),0,ef8.rd,[],[]⟩,⟨(S.nx+ef4.add.length),0,[],[],[]⟩,⟨(S.nx+ef4.add.length),0,[],[],[]⟩,⟨(S.nx+ef4.add.length),0,ef11.rd,[],[]⟩,⟨(S.nx+ef4.add.length),0,ef12.rd,[],[]⟩,(Eff.tr ef13 (S.nx+ef4.add.length)),⟨((S.nx+ef4.add.length)+ef13.add.length),0,[],[],[]⟩,⟨((S.nx+ef4.add.length)+ef13.add.length),0,ef15.rd,[],[]⟩,⟨((S.nx+ef4.add.length)+ef13.add.length),0,ef16.rd,[],[]⟩,(Eff.tr ef17 ((S.nx+ef4.add.length)+ef13.add.length)),(Eff.tr ef18 (((S.nx+ef4.add.length)+ef13.add.length)+ef17.add.length)),⟨((((S.nx+ef4.add.length)+ef13.add.length)+ef17.add.length)+ef18.add.length),0,[],[],[]⟩]=true∧K ⟨[(4,S.get 4),(14,S.get 14),(16,S.get 16),(17,S.get 17),(18,S.get 18),(27,S.get 27),(28,S.get 28),(29,r17),(30,r16)],(Eff.hp ef18 (((S.nx+ef4.add.length)+ef13.add.length)+ef17.add.length) (Eff.hp ef17 ((S.nx+ef4.add.length)+ef13.add.length) (Eff.hp ef13 (S.nx+ef4.add.length) (Eff.hp ef4 S.nx S.hp)))),((((S.nx+ef4.add.length)+ef13.add.length)+ef17.add.length)+ef18.add.length),S.gh⟩)))))))))))))) fun K hK=>?_
     repeat' (first|(refine hK _ ?_;clear hK K)|(refine(?_:trOk _ _ _=true);(try simp only[zbu hix,zbc hkT,za9 hjj,hce]);kernel_rfl)|refine And.intro ?_ ?_|exact cl|refine .inl ⟨_,_,zii (fX xs i) hxi,?_⟩|refine .inl ⟨_,_,zf2 (fX xs i) (tX Ts k) (li js j) hxi htn htw hj64,?_⟩|(refine st ?_;try simp only[encX,zaa,zac,zad,encF,zab,zah,zai,zbu hix,zbc hkT,za9 hjj,hce])|refine sx ?_ (by simp only[encX,zaa,zac,zad,encF,zab,zah,zai,zbu hix,zbc hkT,za9 hjj,hce];exact rfl)|fail)
     all_goals
     refine sD 19 [4,14,16,17,18,27,28,29,30,31,32] (fun P GD S K=>XvIndexAddr P 35 (S.get 14) (S.get 17) (fun r2 ef2=>XvLoad P 32 (M S.hp S.nx) r2 (fun r3 ef3=>XvIndexAddr P 63 (S.get 16) (S.get 18) (fun r6 ef6=>XvLoad P 37 (M S.hp S.nx) r6 (fun r7 ef7=>XvIndexAddr P 22 (S.get 27) (S.get 28) (fun r10 ef10=>XvLoad P 3 (M S.hp S.nx) r10 (fun r11 ef11=>XvFnDV P (M S.hp S.nx) (.fn 33 []) [r3,r7,r11] (fun r12 ef12=>XvExtract r12 0 (fun r14 ef14=>XvExtract r12 1 (fun r15 ef15=>XvAlloc P 76 (S.nx+ef12.add.length) (fun r16 ef16=>XvStore P 76 (M (Eff.hp ef16 (S.nx+ef12.add.length) (Eff.hp ef12 S.nx S.hp)) ((S.nx+ef12.add.length)+ef16.add.length)) r16 r14 (fun r17 ef17=>(trOk S.nx GD [⟨S.nx,0,[],[],[]⟩,⟨S.nx,0,[],[],[]⟩,⟨S.nx,0,ef2.rd,[],[]⟩,⟨S.nx,0,ef3.rd,[],[]⟩,⟨S.nx,0,[],[],[]⟩,⟨S.nx,0,[],[],[]⟩,⟨S.nx,0,ef6.rd,[],[]⟩,⟨S.nx,0,ef7.rd,[],[]⟩,⟨S.nx,0,[],[],[]⟩,⟨S.nx,0,[],[],[]⟩,⟨S.nx,0,ef10.rd,[],[]⟩,⟨S.nx,0,ef11.rd,[],[]⟩,(Eff.tr ef12 S.nx),⟨(S.nx+ef12.add.length),0,[],[],[]⟩,⟨(S.nx+ef12.add.length),0,ef14.rd,[],[]⟩,⟨(S.nx+ef12.add.length),0,ef15.rd,[],[]⟩,(Eff.tr ef16 (S.nx+ef12.add.length)),(Eff.tr ef17 ((S.nx+ef12.add.length)+ef16.add.length)),⟨(((S.nx+ef12.add.length)+ef16.add.length)+ef17.add.length),0,[],[],[]⟩]=true∧K ⟨[(4,S.get 4),(14,S.get 14),(16,S.get 16),(17,S.get 17),(18,S.get 18),(27,S.get 27),(28,S.get 28),(29,S.get 29),(30,S.get 30),(31,r16),(32,r15)],(Eff.hp ef17 ((S.nx+ef12.add.length)+ef16.add.length) (Eff.hp ef16 (S.nx+ef12.add.length) (Eff.hp ef12 S.nx S.hp))),(((S.nx+ef12.add.length)+ef16.add.length)+ef17.add.length),S.gh⟩))))))))))))) fun K hK=>?_
     repeat' (first|(refine hK _ ?_;clear hK K)|(refine(?_:trOk _ _ _=true);(try simp only[zbu hix,zbc hkT,za9 hjj,hce]);kernel_rfl)|refine And.intro ?_ ?_|exact cl|refine .inl ⟨_,_,zjr (fX xs i) (tX Ts k) (li js j) hxi htn htw hj64,?_⟩|(refine st ?_;try simp only[encX,zaa,zac,zad,encF,zab,zah,zai,zbu hix,zbc hkT,za9 hjj,hce])|fail)
     all_goals
     refine sD 12 [4,14,16,17,18,27,28,216] (fun P GD S K=>XvBinOV P .neq 40 (.tmp 206) (S.get 30) (S.get 32) (fun r2 ef2=>Xge r2 false (fun k=>XvLoad P 73 (M S.hp S.nx) (S.get 29) k) (fun g4 r4 ef4=>Xge g4 false (fun k=>XvBuildS P 23 1 S.nx [(0,r4)] k) (fun g5 r5 ef5=>Xge g5 false (fun k=>XvFnDV P (M (Eff.hp ef5 S.nx S.hp) (S.nx+ef5.add.length)) (.fn 18 []) [r5] k) (fun g6 r6 ef6=>Xge g6 false (fun k=>XvIndexAddr P 28 r6 (.atom (.int .i64 0)) k) (fun g7 r7 ef7=>Xge g7 false (fun k=>XvLoad P 76 (M (Eff.hp ef6 (S.nx+ef5.add.length) (Eff.hp ef5 S.nx S.hp)) ((S.nx+ef5.add.length)+ef6.add.length)) r7 k) (fun g8 r8 ef8=>Xge g8 false (fun k=>XvLoad P 76 (M (Eff.hp ef6 (S.nx+ef5.add.length) (Eff.hp ef5 S.nx S.hp)) ((S.nx+ef5.add.length)+ef6.add.length)) (S.get 31) k) (fun g9 r9 ef9=>Xge g9 false (fun k=>XvBinOV P .neq 76 (.tmp 214) r8 r9 k) (fun g10 r10 ef10=>XvPick g10 (.atom (.bool true)) r10 (fun r11 ef11=>(trOk S.nx GD [⟨S.nx,0,[],[],[]⟩,⟨S.nx,0,[],[],[]⟩,⟨S.nx,0,ef2.rd,[],[]⟩,⟨S.nx,0,[],[],[]⟩,⟨S.nx,0,ef4.rd,[],[]⟩,(Eff.tr ef5 S.nx),(Eff.tr ef6 (S.nx+ef5.add.length)),⟨((S.nx+ef5.add.length)+ef6.add.length),0,ef7.rd,[],[]⟩,⟨((S.nx+ef5.add.length)+ef6.add.length),0,ef8.rd,[],[]⟩,⟨((S.nx+ef5.add.length)+ef6.add.length),0,ef9.rd,[],[]⟩,⟨((S.nx+ef5.add.length)+ef6.add.length),0,ef10.rd,[],[]⟩,⟨((S.nx+ef5.add.length)+ef6.add.length),0,ef11.rd,[],[]⟩]=true∧K ⟨[(4,S.get 4),(14,S.get 14),(16,S.get 16),(17,S.get 17),(18,S.get 18),(27,S.get 27),(28,S.get 28),(216,r11)],(Eff.hp ef6 (S.nx+ef5.add.length) (Eff.hp ef5 S.nx S.hp)),((S.nx+ef5.add.length)+ef6.add.length),S.gh⟩))))))))))) fun K hK=>?_
     repeat' (first|(refine hK _ ?_;clear hK K)|(refine(?_:trOk _ _ _=true);(try simp only[↓SE]);kernel_rfl)|refine And.intro ?_ ?_|exact cl|refine .inl ⟨_,_,zqM [c] (by simp),?_⟩|(refine st ?_;try simp only[encX,zaa,zac,zad,encF,zab,zah,zai,↓SE])|fail)
     all_goals
     refine Tri.cond rfl (fun h216=>?_) (fun h216=>?_)
     ·try (cases h216;done)
      all_goals (try simp only[CQ] at h216)
      all_goals
      refine sY [12] (fun P S K=>K ⟨[(12,(.atom (.bool false)))],S.hp,S.nx,S.gh⟩) ?_
      all_goals
      refine Tri.ret ?_
      show ResOk _ _ _ _
      done
     try (cases h216;done)
     all_goals (try simp only[CQ] at h216)
     all_goals
     refine Tri.skip ?_
     refine rY [4,14,16,17,18,27,28] (fun P S K=>XvBinOV P .add 3 (.const (.int .i64 1)) (S.get 28) (.atom (.int .i64 1)) (fun r1 _=>K ⟨[(4,S.get 4),(14,S.get 14),(16,S.get 16),(17,S.get 17),(18,S.get 18),(27,S.get 27),(28,r1)],S.hp,S.nx,S.gh⟩)) ?_
     all_goals try simp (disch:=omega) only[zaf,zae]
     all_goals
     refine⟨⟨j+1,by omega⟩,[],by dsimp only;omega,?_⟩
     exact zd7
    try (cases h169;done)
    all_goals (try simp only[CQ] at h169)
    all_goals
    refine Tri.exit ?_
    refine rY [4,14,16,17,18] (fun P S K=>XvBinOV P .add 3 (.const (.int .i64 1)) (S.get 18) (.atom (.int .i64 1)) (fun r1 _=>K ⟨[(4,S.get 4),(14,S.get 14),(16,S.get 16),(17,S.get 17),(18,r1)],S.hp,S.nx,S.gh⟩)) ?_
    all_goals try simp (disch:=omega) only[zaf,zae]
    all_goals
    refine⟨⟨k+1,by omega⟩,[],by dsimp only;omega,?_⟩
    exact zd7
   try (cases h71;done)
   all_goals (try simp only[CQ] at h71)
   all_goals
   refine Tri.exit ?_
   refine rY [4,14,16,17] (fun P S K=>XvBinOV P .add 3 (.const (.int .i64 1)) (S.get 17) (.atom (.int .i64 1)) (fun r1 _=>K ⟨[(4,S.get 4),(14,S.get 14),(16,S.get 16),(17,r1)],S.hp,S.nx,S.gh⟩)) ?_
   all_goals try simp (disch:=omega) only[zaf,zae]
   all_goals
   refine⟨⟨i+1,by omega⟩,[],by dsimp only;omega,?_⟩
   exact zd7
  try (cases h65;done)
  all_goals (try simp only[CQ] at h65)
  all_goals
  refine Tri.exit ?_
  refine sZ [12] (fun P S K=>XvFnIV P (M S.hp S.nx) (.fn 20 []) [] (fun r0 ef0=>K ⟨[(12,r0)],(Eff.hp ef0 S.nx S.hp),(S.nx+ef0.add.length),S.gh⟩)) fun K hK=>?_
  repeat' (first|(refine hK _ ?_;clear hK K)|refine And.intro ?_ ?_|exact cl|refine .inl ⟨_,_,hlv,?_⟩|(refine st ?_;try simp only[encX,zaa,zac,zad,encF,zab,zah,zai])|fail)
  all_goals
  refine Tri.ret ?_
  show ResOk _ _ _ _
  exact ResOk.val lsrM33 lpvM33
end Go.Proofs.YtehoglapajkabaaGreat
