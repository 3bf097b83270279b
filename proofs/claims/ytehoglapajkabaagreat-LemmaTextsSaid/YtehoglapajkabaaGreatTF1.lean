/-
  Walk: token.Fold,over a strings.Builder.
-/
import Derived.Test.YtehoglapajkabaaGreatRows
import Derived.Test.YtehoglapajkabaaGreatTShelfB
import Derived.WalkKit
import Derived.WalkSpells
import Derived.WalkLawsBesides
import Derived.WalkSmall
import Derived.Outline
import Derived.Deep.QuietTactic
import Derived.BigQuiet
import Derived.Lib.Hide
import Derived.Below
import Derived.Handy
import Derived.Laws.IdiomStrings
import Derived.StillTail
import Derived.Lib.Builder
import Derived.Lib.AppendStr
import Derived.Lib.UnsafeStr
import Derived.Laws.Externs
import Derived.Laws.AppendOwn
import Derived.OwnWalk
set_option linter.all false
namespace Go.Proofs.YtehoglapajkabaaGreat.Elder
open Go Go.RowKit Go.Shelf
def Ext (w w':World):Prop:=Below w.heap.size w w'
theorem Ext.alloc (w:World) (o:Obj):Ext w (w.alloc o):=(Below.refl _ _).alloc (Nat.le_refl _) o
theorem Ext.size{w w':World}(h:Ext w w'):w.heap.size≤w'.heap.size:=Below.size h
def bt (s:ByteArray) (i:Nat):UInt8:=s.data.toList.getD i 0
theorem bt_get{s:ByteArray}{i:Nat}(h:i<s.size):s[i]=bt s i:=by
  have h':i<s.data.toList.length:=by simpa using h
  have:bt s i=s.data.toList[i]:=by unfold bt;exact(List.getElem_eq_getD _).symm
  rw[this];rfl
theorem bt_lt (s:ByteArray) (i:Nat):((bt s i).toNat:Int)<256:=by have:=UInt8.toNat_lt (bt s i);omega
theorem zsr:(Tryz.prog.info? 5).map (fun i=>(i.zero,i.size,i.bytes))=some (some (.int .u8 0),1,1):=by kernel_rfl
theorem zfY:(Tryz.prog.info? 160).map (·.size)=some 2:=by kernel_rfl
set_option maxRecDepth 100000 in
theorem zhy (b:Nat) (w:World) (h0:w.cell? ⟨b,0,none⟩=some (.pointer (some ⟨b,0,none⟩))):
    Calls Tryz.prog 110 #[.pointer (some ⟨b,0,none⟩)] w fun e w'=>e=.returned (.tuple #[])∧w'=w:=by
  obtain⟨j,hj,_⟩:=Option.map_eq_some_iff.1 zfY
  go_enter Tryz.func110,Tryz.ntmps110
  go_wp2
  rw[Lib.run_neq_ptr_same w _ Tryz.underlying157 hj]
  go_wp2
  go_end0
  exact⟨rfl,rfl⟩
set_option maxRecDepth 100000 in
theorem zhg (b:Nat) (w:World) (h0:w.cell? ⟨b,0,none⟩=some (.pointer none)) (hsh:w.shape? b=some (160,2)) (hfz:w.frozen? ⟨b,0,none⟩=false):
    Calls Tryz.prog 110 #[.pointer (some ⟨b,0,none⟩)] w fun e w'=>e=.returned (.tuple #[])∧w'=w.setCell ⟨b,0,none⟩ (.pointer (some ⟨b,0,none⟩)):=by
  obtain⟨j,hj,hjs⟩:=Option.map_eq_some_iff.1 zfY
  go_enter Tryz.func110,Tryz.ntmps110
  go_wp2
  rw[Lib.run_to_unsafe w ⟨b,0,none⟩ Tryz.underlying157 Tryz.underlying197 hj (by rw[hjs];decide) hsh (Nat.zero_lt_succ 1)]
  simp only[Result.andThen]
  rw[Oper.upon_value]
  go_wp2
  rw[run_callFunc_extern Tryz.func127 (by kernel_rfl) (by kernel_rfl) (by kernel_rfl) (e:=Extern.AbiNoEscape.same) (by kernel_rfl)]
  rw[Lib.run_noEscape]
  simp only[Result.andThen]
  rw[Oper.upon_value]
  go_wp2
  rw[Lib.run_from_unsafe w ⟨b,0,none⟩ Tryz.underlying197 Tryz.underlying157 hj hsh (by kernel_rfl)]
  simp only[Result.andThen]
  rw[Oper.upon_value]
  go_wp2
  go_end0
  exact⟨rfl,rfl⟩
theorem zjb (B b:Nat) (bs:List Value) (w:World) (h:Lib.IsBuilder 160 5 B b bs w):
    Calls Tryz.prog 110 #[.pointer (some ⟨b,0,none⟩)] w fun e w'=>e=.returned (.tuple #[])∧(Lib.BuilderAt 160 5 B b (.pointer (some ⟨b,0,none⟩)) bs w'∧Below B w w'):=by
  rcases h with h|h
  · refine(zhg b w h.cell0 h.shape h.frozen0).mono ?_
    rintro e w' ⟨rfl,rfl⟩
    exact⟨rfl,h.used _,(Below.refl B w).setCell (p:=⟨b,0,none⟩) h.1 _⟩
  · refine(zhy b w h.cell0).mono ?_
    rintro e w' ⟨rfl,rfl⟩
    exact⟨rfl,h,Below.refl B _⟩
set_option maxRecDepth 100000 in
theorem zd3 (B b:Nat) (bs:List Value) (c:Int) (w:World) (h:Lib.IsBuilder 160 5 B b bs w) (hlen:bs.length+1≤140737488355328) (hBw:B≤w.heap.size):
    Calls Tryz.prog 89 #[.pointer (some ⟨b,0,none⟩),.int .u8 c] w fun e w'=>e=.returned .nilIface∧(Lib.BuilderAt 160 5 B b (.pointer (some ⟨b,0,none⟩)) (bs++[.int .u8 c]) w'∧Below B w w'):=by
  obtain⟨i0,hi,hz0,hz1,hz2⟩:=info_parts zsr
  go_enter Tryz.func89,Tryz.ntmps89
  go_wp2_with (go_at_call 110;refine(zjb B b bs _ h).mono ?_)
  rintro e w1 ⟨rfl,h1,hb1⟩
  obtain⟨hB,v,hbk,hown,hne⟩:=h1
  have c0:w1.cell? ⟨b,0,none⟩=some (.pointer (some ⟨b,0,none⟩)):=by rw[Lib.cell_of_heap hbk];rfl
  have c1:w1.cell? ⟨b,1,none⟩=some v:=by rw[Lib.cell_of_heap hbk];rfl
  go_wp2_with (at_builtin;refine wpList_append_own _ rfl _ _ 158 rfl B 5 i0 (.int .u8 0) 1 1 Tryz.underlying158 hi hz0 hz1 hz2 rfl (by decide) _ _ _ rfl (hown.alloc _) ⟨w1.heap.size,0,none⟩ 1 1 [.int .u8 c] rfl rfl ?c1 ?c2 ?c3 ?c4 ?c5 ?_)
  case c1=>
    intro j u hj
    match j,hj with
    | 0,hj=>simp at hj;subst hj;simp[Addr.add]
  case c2=>intro u hu;simp at hu;subst hu;rfl
  case c3=>unfold maxLen;omega
  case c4=>omega
  case c5=>have:=hb1.size;simp;omega
  intro v' w2 hown' hgrow _
  have hlt:b<w1.heap.size:=by
    rcases Nat.lt_or_ge b w1.heap.size with h'|h'
    · exact h'
    · simp[Array.getElem?_eq_none h'] at hbk
  have hb2:w2.heap[b]? = some (.cells #[.pointer (some ⟨b,0,none⟩),v] 160 (0,0)):=by
    rw[hgrow.block b (by simp;omega) (fun e=>hne e.symm),Lib.alloc_old w1 _ b hlt]
    exact hbk
  have d0:w2.cell? ⟨b,0,none⟩=some (.pointer (some ⟨b,0,none⟩)):=by rw[Lib.cell_of_heap hb2];rfl
  have d1:w2.cell? ⟨b,1,none⟩=some v:=by rw[Lib.cell_of_heap hb2];rfl
  have f1:w2.frozen? ⟨b,1,none⟩=false:=Lib.frozen_of_heap hb2 1
  obtain⟨g,cap,rfl⟩:∃g cap,v'=.slice (some ⟨g,0,none⟩) (bs.length+1) cap:=by
    rcases hown'.2 with ⟨_,h0⟩|⟨g,cap,cur,hv,_⟩
    · omega
    · exact⟨g,cap,hv⟩
  go_wp2
  go_ret
  refine⟨rfl,?_,?_⟩
  · exact Lib.BuilderAt.put (T:=160) (e:=5) hB hb2 (bs':=bs++[.int .u8 c]) (by simpa using hown') (by decide)
  · exact((hb1.alloc (by have:=hb1.size;omega) _).grown hgrow (by have:=hb1.size;simp;omega) (fun k hk=>(hown.lt k hk).1)).setCell (p:=⟨b,1,none⟩) hB _
def foldC (c:UInt8):UInt8:=if 65≤c.toNat∧c.toNat≤90 then c+32 else c
def foldS (s:ByteArray):ByteArray:=⟨(s.data.toList.map foldC).toArray⟩
theorem foldC_up{c:UInt8}(h1:65≤(c.toNat:Int)) (h2:(c.toNat:Int)≤90):((foldC c).toNat:Int)=(c.toNat:Int)+32:=by
  unfold foldC;rw[if_pos (by omega),UInt8.toNat_add]
  have:(32:UInt8).toNat=32:=rfl
  rw[this]
  omega
theorem foldC_same{c:UInt8}(h:¬ (65≤(c.toNat:Int)∧(c.toNat:Int)≤90)):foldC c=c:=by
  unfold foldC;rw[if_neg (by omega)]
theorem take_bt{s:ByteArray}{k:Nat}(h:k<s.size):s.data.toList.take (k+1)=s.data.toList.take k++[bt s k]:=by
  have h':k<s.data.toList.length:=by simpa using h
  have:bt s k=s.data.toList[k]:=by unfold bt;exact(List.getElem_eq_getD _).symm
  rw[List.take_succ_eq_append_getElem h',this]
theorem zdw (l:List UInt8) (c:UInt8):Lib.byteCells (l++[c])=Lib.byteCells l++[.int .u8 (c.toNat:Nat)]:=by simp[Lib.byteCells]
set_option maxRecDepth 100000 in
theorem Fold_any (s:ByteArray) (w:World) (hs:s.size≤4294967296):
    Calls Tryz.prog 69 #[.string s] w fun e w'=>e=.returned (.string (foldS s))∧Ext w w':=by
  go_enter Tryz.func69,Tryz.ntmps69
  go_wp2_with fail
  have hB0:Lib.IsBuilder 160 5 w.heap.size w.heap.size (Lib.byteCells (([]:List UInt8).map foldC)) (w.alloc (Obj.cells #[Value.pointer none,Value.slice none 0 0] 160)):=
    .inl ⟨Nat.le_refl _,_,heap_alloc_new w _,World.ownsRow_nil _ _ _ _,by simp[Value.ownBlock]⟩
  have hE0:Ext w (w.alloc (Obj.cells #[Value.pointer none,Value.slice none 0 0] 160)):=Ext.alloc _ _
  generalize w.alloc (Obj.cells #[Value.pointer none,Value.slice none 0 0] 160)=W1 at *
  go_loopw [8] (fun i wr=>∃k:Nat,k≤s.size∧i=.int .i64 k∧Lib.IsBuilder 160 5 w.heap.size w.heap.size (Lib.byteCells ((s.data.toList.take k).map foldC)) wr∧Ext w wr) (fun i _=>s.size - (intOf i).toNat)
  case atStart=>exact⟨0,Nat.zero_le _,rfl,hB0,hE0⟩
  case round=>
    obtain⟨k,hk,rfl,hB,hE⟩:=hrel
    have hlen:(Lib.byteCells ((s.data.toList.take k).map foldC)).length≤k:=by rw[Lib.byteCells_length,List.length_map];exact List.length_take_le _ _
    by_cases hlt:k<s.size
    · have hnext:(s.data.toList.take (k+1)).map foldC=(s.data.toList.take k).map foldC++[foldC (bt s k)]:=by rw[take_bt hlt];simp
      have hnext':=Lib.hid hnext
      have hbg:s[k]=bt s k:=bt_get hlt
      have hlt256:=bt_lt s k
      have hB':=Lib.hid hB
      have hE':=Lib.hid hE
      have hsz:=hE.size
      clear hnext hB hE hB0 hE0
      by_cases hup:65≤((bt s k).toNat:Int)∧((bt s k).toNat:Int)≤90
      · obtain⟨h1,h2⟩:=hup
        have hc:=Lib.hid (foldC_up h1 h2)
        go_wp2_with fail
        rw[←hc.out]
        refine(zd3 w.heap.size w.heap.size _ _ _ hB'.out (by omega) hsz).mono ?_
        rintro e w2 ⟨rfl,hb1,hb2⟩
        have hB2:Hid (Lib.IsBuilder 160 5 w.heap.size w.heap.size (Lib.byteCells ((s.data.toList.take (k+1)).map foldC)) w2):=by
          rw[hnext'.out,zdw];exact .inr hb1
        have hE2:Hid (Ext w w2):=Below.trans hE'.out hb2
        clear hb1 hb2
        go_wp2_with fail
        go_roundw
        case rel=>exact⟨k+1,by omega,by go_num,hB2.out,hE2.out⟩
        case measure=>simp[intOf];omega
      · have hc:=Lib.hid (foldC_same hup)
        by_cases h1:65≤((bt s k).toNat:Int)
        · have h2:90<((bt s k).toNat:Int):=by omega
          go_wp2_with fail
          rw[←hc.out]
          refine(zd3 w.heap.size w.heap.size _ _ _ hB'.out (by omega) hsz).mono ?_
          rintro e w2 ⟨rfl,hb1,hb2⟩
          have hB2:Hid (Lib.IsBuilder 160 5 w.heap.size w.heap.size (Lib.byteCells ((s.data.toList.take (k+1)).map foldC)) w2):=by
            rw[hnext'.out,zdw];exact .inr hb1
          have hE2:Hid (Ext w w2):=Below.trans hE'.out hb2
          clear hb1 hb2
          go_wp2_with fail
          go_roundw
          case rel=>exact⟨k+1,by omega,by go_num,hB2.out,hE2.out⟩
          case measure=>simp[intOf];omega
        · go_wp2_with fail
          rw[←hc.out]
          refine(zd3 w.heap.size w.heap.size _ _ _ hB'.out (by omega) hsz).mono ?_
          rintro e w2 ⟨rfl,hb1,hb2⟩
          have hB2:Hid (Lib.IsBuilder 160 5 w.heap.size w.heap.size (Lib.byteCells ((s.data.toList.take (k+1)).map foldC)) w2):=by
            rw[hnext'.out,zdw];exact .inr hb1
          have hE2:Hid (Ext w w2):=Below.trans hE'.out hb2
          clear hb1 hb2
          go_wp2_with fail
          go_roundw
          case rel=>exact⟨k+1,by omega,by go_num,hB2.out,hE2.out⟩
          case measure=>simp[intOf];omega
    · have hk2:k=s.size:=by omega
      have hall:s.data.toList.take k=s.data.toList:=List.take_of_length_le (by simp[hk2])
      rw[hall] at hB
      have hB':=Lib.hid hB
      have hE':=Lib.hid hE
      have hsz:=hE.size
      clear hB hE hB0 hE0 hall
      go_wp2_with fail
      refine(Tryz.Builder_String_any w.heap.size w.heap.size _ _ hB'.out hsz).mono ?_
      rintro e w2 ⟨rfl,hb⟩
      have hE2:Hid (Ext w w2):=Below.trans hE'.out hb
      clear hb
      go_wp2_with fail
      go_ret
      exact⟨rfl,hE2.out⟩
end Go.Proofs.YtehoglapajkabaaGreat.Elder
