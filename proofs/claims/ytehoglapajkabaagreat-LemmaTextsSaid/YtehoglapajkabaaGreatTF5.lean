/-
  Walk: passimref06.capital,a text as bytes.
-/
import Derived.Test.YtehoglapajkabaaGreatTF3
import Derived.ChangeSame
import Derived.RowKit3
set_option linter.all false
namespace Go.Proofs.YtehoglapajkabaaGreat.Elder
open Go Go.RowKit Go.Shelf
set_option maxRecDepth 1000000 in
theorem cap_nil (s r:ByteArray) (cap:Nat) (C:Array Value) (w:World) (hz:¬ (0:Int)<(s.size:Int))
    (hconv:(convert 9 158 (.string s)).run Tryz.prog w=.ok (.slice (some ⟨w.heap.size,0,none⟩) s.size cap) (w.drew.alloc (.cells C 5 (C.size,C.size+1))))
    (hback:(convert 158 9 (.slice (some ⟨w.heap.size,0,none⟩) s.size cap)).run Tryz.prog (w.alloc (.cells C 5 (C.size,C.size+1))).drew=.ok (.string r) (w.alloc (.cells C 5 (C.size,C.size+1))).drew):
    Calls Tryz.prog 86 #[.string s] w fun e w'=>e=.returned (.string r)∧w'=(w.alloc (.cells C 5 (C.size,C.size+1))).drew:=by
  go_enter Tryz.func86,Tryz.ntmps86
  go_wp2
  go_ret
  exact⟨rfl,rfl⟩
set_option maxRecDepth 1000000 in
theorem cap_low (s r:ByteArray) (cap:Nat) (C:Array Value) (w:World) (hpos:0<s.size) (c:Int) (hc0:(w.alloc (.cells C 5 (C.size,C.size+1))).cell? ⟨w.heap.size,0,none⟩=some (.int .u8 c)) (hc:c<97)
    (hconv:(convert 9 158 (.string s)).run Tryz.prog w=.ok (.slice (some ⟨w.heap.size,0,none⟩) s.size cap) (w.drew.alloc (.cells C 5 (C.size,C.size+1))))
    (hback:(convert 158 9 (.slice (some ⟨w.heap.size,0,none⟩) s.size cap)).run Tryz.prog (w.alloc (.cells C 5 (C.size,C.size+1))).drew=.ok (.string r) (w.alloc (.cells C 5 (C.size,C.size+1))).drew):
    Calls Tryz.prog 86 #[.string s] w fun e w'=>e=.returned (.string r)∧w'=(w.alloc (.cells C 5 (C.size,C.size+1))).drew:=by
  go_enter Tryz.func86,Tryz.ntmps86
  go_wp2
  go_ret
  exact⟨rfl,rfl⟩
set_option maxRecDepth 1000000 in
theorem cap_high (s r:ByteArray) (cap:Nat) (C:Array Value) (w:World) (hpos:0<s.size) (c:Int) (hc0:(w.alloc (.cells C 5 (C.size,C.size+1))).cell? ⟨w.heap.size,0,none⟩=some (.int .u8 c)) (hc1:97≤c) (hc:122<c)
    (hconv:(convert 9 158 (.string s)).run Tryz.prog w=.ok (.slice (some ⟨w.heap.size,0,none⟩) s.size cap) (w.drew.alloc (.cells C 5 (C.size,C.size+1))))
    (hback:(convert 158 9 (.slice (some ⟨w.heap.size,0,none⟩) s.size cap)).run Tryz.prog (w.alloc (.cells C 5 (C.size,C.size+1))).drew=.ok (.string r) (w.alloc (.cells C 5 (C.size,C.size+1))).drew):
    Calls Tryz.prog 86 #[.string s] w fun e w'=>e=.returned (.string r)∧w'=(w.alloc (.cells C 5 (C.size,C.size+1))).drew:=by
  go_enter Tryz.func86,Tryz.ntmps86
  go_wp2
  go_ret
  exact⟨rfl,rfl⟩
set_option maxRecDepth 1000000 in
theorem cap_mid (s r:ByteArray) (cap:Nat) (C:Array Value) (w:World) (hpos:0<s.size) (c:Int) (hc0:(w.alloc (.cells C 5 (C.size,C.size+1))).cell? ⟨w.heap.size,0,none⟩=some (.int .u8 c)) (hz0:(w.alloc (.cells C 5 (C.size,C.size+1))).frozen? ⟨w.heap.size,0,none⟩=false) (hc1:97≤c) (hc:c≤122)
    (hconv:(convert 9 158 (.string s)).run Tryz.prog w=.ok (.slice (some ⟨w.heap.size,0,none⟩) s.size cap) (w.drew.alloc (.cells C 5 (C.size,C.size+1))))
    (hback:(convert 158 9 (.slice (some ⟨w.heap.size,0,none⟩) s.size cap)).run Tryz.prog ((w.alloc (.cells C 5 (C.size,C.size+1))).setCell ⟨w.heap.size,0,none⟩ (.int .u8 (c - 97+65))).drew=.ok (.string r) ((w.alloc (.cells C 5 (C.size,C.size+1))).setCell ⟨w.heap.size,0,none⟩ (.int .u8 (c - 97+65))).drew):
    Calls Tryz.prog 86 #[.string s] w fun e w'=>e=.returned (.string r)∧w'=((w.alloc (.cells C 5 (C.size,C.size+1))).setCell ⟨w.heap.size,0,none⟩ (.int .u8 (c - 97+65))).drew:=by
  go_enter Tryz.func86,Tryz.ntmps86
  go_wp2
  go_ret
  exact⟨rfl,rfl⟩
theorem zio (b o i:Nat):(⟨b,o,none⟩:Addr).add i=⟨b,o+i,none⟩:=by unfold Addr.add;split<;>simp_all
def capB (c:UInt8):UInt8:=if 97≤c.toNat∧c.toNat≤122 then c - 32 else c
def capL:List UInt8→List UInt8
  | []=>[]
  | c :: r=>capB c :: r
def capS (s:ByteArray):ByteArray:=⟨(capL s.data.toList).toArray⟩
theorem capB_mid {c : UInt8} (h1 : 97 ≤ (c.toNat:Int)) (h2:(c.toNat:Int)≤122):((capB c).toNat:Int)=(c.toNat:Int) - 97+65:=by
  unfold capB
  rw[if_pos (by omega),UInt8.toNat_sub_of_le]
  · have:(32:UInt8).toNat=32:=rfl
    rw[this];omega
  · exact UInt8.le_iff_toNat_le.2 (by have:(32:UInt8).toNat=32:=rfl
                                      omega)
theorem capital_any (s:ByteArray) (w:World) (hs:s.size≤9223372036854775807):
    Calls Tryz.prog 86 #[.string s] w fun e w'=>e=.returned (.string (capS s))∧Below w.heap.size w w':=by
  have hconv:=run_bytes_of_string (P:=Tryz.prog) w 9 158 5 s Tryz.underlying9 Tryz.underlying158 Tryz.underlying5
  have hbw:Below w.heap.size w (w.alloc (.cells (bytesRow s (grownCap w s.size 0 5)) 5 ((bytesRow s (grownCap w s.size 0 5)).size,(bytesRow s (grownCap w s.size 0 5)).size+1))):=(Below.refl _ _).alloc (Nat.le_refl _) _
  obtain⟨⟨l⟩⟩:=s
  cases l with
  | nil=>
    refine(cap_nil _ ⟨#[]⟩ _ _ w (by decide) hconv ?_).mono fun e w' h=>⟨h.1,h.2▸Below.drew hbw⟩
    exact run_convert_bytes_back (P:=Tryz.prog) _ 158 9 5 ⟨w.heap.size,0,none⟩ _ [] Tryz.underlying158 Tryz.underlying5 Tryz.underlying9 (fun j hj=>by simp at hj)
  | cons b r=>
    have hsz:(ByteArray.mk (b :: r).toArray).size=r.length+1:=rfl
    have hpos:0<(ByteArray.mk (b :: r).toArray).size:=by omega
    generalize hcap:grownCap w (ByteArray.mk (b :: r).toArray).size 0 5=cap at *
    have hat:∀j (hj:j<(b :: r).length),(bytesRow (ByteArray.mk (b :: r).toArray) cap)[j]? = some (.int .u8 ((b :: r)[j].toNat:Int)):=fun j hj=>by
      have:=bytesRow_at (ByteArray.mk (b :: r).toArray) cap j (by simpa using hj)
      simpa using this
    have hbs:0<(bytesRow (ByteArray.mk (b :: r).toArray) cap).size:=by
      simp[bytesRow]
      omega
    generalize bytesRow (ByteArray.mk (b :: r).toArray) cap=C at *
    have hcell:∀j (hj:j<(b :: r).length),(w.alloc (.cells C 5 (C.size,C.size+1))).cell? ⟨w.heap.size,j,none⟩=some (.int .u8 ((b :: r)[j].toNat:Int)):=fun j hj=>by
      rw[World.cell?_alloc_mark,hat j hj]
    have hc0:=hcell 0 (by simp)
    have hz0:(w.alloc (.cells C 5 (C.size,C.size+1))).frozen? ⟨w.heap.size,0,none⟩=false:=by
      rw[World.frozen?_alloc_mark]
      have:∀n:Nat,0<n→(decide (n≤0) && decide (0<n+1))=false:=fun n hn=>by simp;omega
      exact this _ hbs
    have same:capB b=b→(convert 158 9 (.slice (some ⟨w.heap.size,0,none⟩) (ByteArray.mk (b :: r).toArray).size cap)).run Tryz.prog (w.alloc (.cells C 5 (C.size,C.size+1))).drew=.ok (.string (capS (ByteArray.mk (b :: r).toArray))) (w.alloc (.cells C 5 (C.size,C.size+1))).drew:=fun e=>by
      have hr:capS (ByteArray.mk (b :: r).toArray)=⟨(b :: r).toArray⟩:=by
        show(⟨(capB b :: r).toArray⟩:ByteArray)=_
        rw[e]
      rw[hr]
      exact run_convert_bytes_back (P:=Tryz.prog) _ 158 9 5 ⟨w.heap.size,0,none⟩ cap (b :: r) Tryz.underlying158 Tryz.underlying5 Tryz.underlying9 (fun j hj=>by
        show(w.alloc (.cells C 5 (C.size,C.size+1))).cell? ((⟨w.heap.size,0,none⟩:Addr).add j)=_
        rw[zio,Nat.zero_add]
        exact hcell j hj)
    have hbn:(b :: r)[0]=b:=rfl
    by_cases h1:97≤(b.toNat:Int)
    · by_cases h2:(b.toNat:Int)≤122
      · refine(cap_mid _ (capS (ByteArray.mk (b :: r).toArray)) cap C w hpos (b.toNat:Int) hc0 hz0 h1 h2 hconv ?_).mono fun e w' h=>⟨h.1,h.2▸Below.drew (hbw.setCell (p:=⟨w.heap.size,0,none⟩) (Nat.le_refl _) _)⟩
        have:=run_convert_bytes_back (P:=Tryz.prog) ((w.alloc (.cells C 5 (C.size,C.size+1))).setCell ⟨w.heap.size,0,none⟩ (.int .u8 ((b.toNat:Int) - 97+65))).drew 158 9 5 ⟨w.heap.size,0,none⟩ cap (capB b :: r) Tryz.underlying158 Tryz.underlying5 Tryz.underlying9 (fun j hj=>by
          show((w.alloc (.cells C 5 (C.size,C.size+1))).setCell ⟨w.heap.size,0,none⟩ (.int .u8 ((b.toNat:Int) - 97+65))).cell? ((⟨w.heap.size,0,none⟩:Addr).add j)=_
          rw[zio]
          cases j with
          | zero=>
            rw[show(capB b :: r)[0]=capB b from rfl,capB_mid h1 h2]
            simpa using World.cell?_setCell_same _ _ _ hc0
          | succ j=>
            rw[World.cell?_setCell_other _ _ _ _ (by simp),Nat.zero_add]
            exact hcell (j+1) (by simpa using hj))
        exact this
      · exact(cap_high _ _ cap C w hpos (b.toNat:Int) hc0 h1 (by omega) hconv (same (by unfold capB;rw[if_neg (by omega)]))).mono fun e w' h=>⟨h.1,h.2▸Below.drew hbw⟩
    · exact(cap_low _ _ cap C w hpos (b.toNat:Int) hc0 (by omega) hconv (same (by unfold capB;rw[if_neg (by omega)]))).mono fun e w' h=>⟨h.1,h.2▸Below.drew hbw⟩
end Go.Proofs.YtehoglapajkabaaGreat.Elder
