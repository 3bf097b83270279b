/-
  Plain: the words of two texts with a blank between them;they are zbp.
-/
import Derived.Test.YtehoglapajkabaaGreatTF3
import Derived.Test.YtehoglapajkabaaGreatTM0
set_option linter.all false
namespace Go.Proofs.YtehoglapajkabaaGreat
open Go Go.RowKit
theorem zhZ{α:Type}(l:List (Int×Int×Int)) (k:Int) (f:Int×Int×Int→α):∀n,n≤l.length→(ofT l k n).map (fun i=>f (lt3 l i.toNat))=((l.take n).filter fun x=>decide (x.2.2=k)).map f
  | 0,_=>by simp[ofT]
  | n+1,h=>by
    have ih:=zhZ l k f n (by omega)
    have hn:n<l.length:=by omega
    have e:l[n]=lt3 l n:=by simp[lt3,List.getD_eq_getElem?_getD,hn]
    rw[ofT,List.take_succ_eq_append_getElem hn,List.filter_append,List.map_append,e,←ih]
    by_cases hk:(lt3 l n).2.2=k
    · rw[if_pos hk];simp[hk]
    · rw[if_neg hk];simp[hk]
theorem zd7 (s:ByteArray):zbZ s=((tokL s).filter fun x=>decide (x.2.2=0)).map (tokW s):=by
  have:=zhZ (tokL s) 0 (tokW s) (tokL s).length (Nat.le_refl _)
  rw[List.take_length] at this
  exact this
theorem zeb{s:ByteArray}:∀ {f g i:Nat},s.size - i≤f→s.size - i≤g→tokF s f i=tokF s g i
  | 0,g,i,hf,hg=>by rw[ze7 (f:=0) (by omega),ze7 (f:=g) (by omega)]
  | f+1,0,i,hf,hg=>by rw[ze7 (f:=f+1) (by omega),ze7 (f:=0) (by omega)]
  | f + 1,g+1,i,hf,hg=>by
    rw[tokF,tokF]
    by_cases hi:i<s.size
    · rw[if_pos hi,if_pos hi]
      have hr:=zfx hi
      rw[zeb (f:=f) (g:=g) (i:=i+1) (by omega) (by omega),zeb (f:=f) (g:=g) (i:=endN s i) (by omega) (by omega)]
    · rw[if_neg hi,if_neg hi]
structure Two (u s t:ByteArray):Prop where
  size:u.size=s.size+1+t.size
  left:∀i,i<s.size→zaJ u i=zaJ s i
  mid:zaJ u s.size=32
  right:∀j,j<t.size→zaJ u (s.size+1+j)=zaJ t j
section
variable {u s t:ByteArray}
theorem zrQ (h:Two u s t) (k:Int):∀m q,s.size - q=m→q≤s.size→runE u k (u.size - q) q=runE s k (s.size - q) q
  | 0,q,hm,hq=>by
    have e:q=s.size:=by omega
    subst e
    have hz:=h.size
    have h2:zde 32=2:=by decide
    rw[zjU (s:=u) (by rw[h.mid,h2];intro g;omega),Nat.sub_self]
    rfl
  | m+1,q,hm,hq=>by
    have hz:=h.size
    have hq2:q<s.size:=by omega
    rw[zfc (s:=u) (by omega),zfc (s:=s) hq2,h.left q hq2,zrQ h k m (q+1) (by omega) (by omega)]
theorem end_pre (h:Two u s t) {i:Nat}(hi:i<s.size):endN u i=endN s i:=by
  unfold endN
  rw[h.left i hi]
  exact zrQ h _ _ _ rfl (by omega)
theorem zrP (h:Two u s t) (k:Int):∀n q,q+n=t.size→runE u k n (s.size+1+q)=s.size+1+runE t k n q
  | 0,q,hq=>rfl
  | n+1,q,hq=>by
    rw[runE,runE,h.right q (by omega)]
    have:=zrP h k n (q+1) (by omega)
    split
    · exact this
    · rfl
theorem end_suf (h:Two u s t) {j:Nat}(hj:j<t.size):endN u (s.size+1+j)=s.size+1+endN t j:=by
  have hz:=h.size
  unfold endN
  rw[h.right j hj,show u.size - (s.size+1+j+1)=t.size - (j+1) by omega]
  exact zrP h _ _ (j+1) (by omega)
def shT (d:Nat) (x:Int×Int×Int):Int×Int×Int:=(x.1+d,x.2.1+d,x.2.2)
theorem zlc (h:Two u s t):∀f j,tokF u f (s.size+1+j)=(tokF t f j).map (shT (s.size+1))
  | 0,j=>rfl
  | f + 1,j=>by
    have hz:=h.size
    rw[tokF,tokF]
    by_cases hj:j<t.size
    · rw[if_pos hj,if_pos (by omega),h.right j hj,end_suf h hj,show s.size+1+j+1=s.size+1+(j+1) by omega,zlc h f (j+1),zlc h f (endN t j)]
      split
      · rfl
      · rw[List.map_cons]
        congr 1
        unfold shT
        refine Prod.ext ?_ (Prod.ext ?_ rfl)
        · simp only;omega
        · simp only;omega
    · rw[if_neg hj,if_neg (by omega)];rfl
theorem zld (h:Two u s t):∀m i f,s.size - i≤m→i≤s.size→u.size - i≤f→tokF u f i=tokF s (s.size - i) i++(tokF t t.size 0).map (shT (s.size+1))
  | m,i,f,hm,hi,hf=>by
    have hz:=h.size
    obtain⟨f,rfl⟩:∃g,f=g+1:=⟨f - 1,by omega⟩
    rcases Nat.lt_or_ge i s.size with hlt|hge
    · obtain⟨m,rfl⟩:∃g,m=g+1:=⟨m - 1,by omega⟩
      obtain⟨k,hk⟩:∃k,s.size - i=k+1:=⟨s.size - i - 1,by omega⟩
      have hr:=zfx hlt
      rw[hk,tokF,tokF,if_pos hlt,if_pos (by omega),h.left i hlt,end_pre h hlt,zld h m (i+1) f (by omega) (by omega) (by omega),zld h m (endN s i) f (by omega) (by omega) (by omega)]
      rw[zeb (s:=s) (f:=s.size - (i+1)) (g:=k) (by omega) (by omega),zeb (s:=s) (f:=s.size - endN s i) (g:=k) (by omega) (by omega)]
      split<;>rfl
    · have e:i=s.size:=by omega
      subst e
      rw[tokF,if_pos (by omega),if_pos h.mid,Nat.sub_self]
      have:=zlc h f 0
      rw[Nat.add_zero] at this
      rw[this,zeb (s:=t) (f:=f) (g:=t.size) (i:=0) (by omega) (by omega)]
      rfl
termination_by m=>m
theorem tokL_two (h:Two u s t):tokL u=tokL s++(tokL t).map (shT (s.size+1)):=zld h s.size 0 u.size (by omega) (by omega) (by omega)
end
theorem ze4{a b:ByteArray}{i:Nat}(h:i<a.size):zaJ (a++b) i=zaJ a i:=by
  unfold zaJ
  rw[ByteArray.data_append,Array.toList_append,List.getD_eq_getElem?_getD,List.getD_eq_getElem?_getD,List.getElem?_append_left (by simpa using h)]
theorem zhj{a b:ByteArray}{i:Nat}:zaJ (a++b) (a.size+i)=zaJ b i:=by
  unfold zaJ
  rw[ByteArray.data_append,Array.toList_append,List.getD_eq_getElem?_getD,List.getD_eq_getElem?_getD,List.getElem?_append_right (by simp)]
  congr 2
  simp
def blankB:ByteArray:=⟨#[32]⟩
theorem two_app (s t:ByteArray):Two (s++blankB++t) s t:=by
  have h1:(s++blankB).size=s.size+1:=by rw[ByteArray.size_append];rfl
  refine⟨by rw[ByteArray.size_append,h1],fun i hi=>?_,?_,fun j hj=>?_⟩
  · rw[ze4 (by omega),ze4 hi]
  · rw[ze4 (by omega)]
    have:=zhj (a:=s) (b:=blankB) (i:=0)
    rw[Nat.add_zero] at this
    rw[this];rfl
  · have:=zhj (a:=s++blankB) (b:=t) (i:=j)
    rw[h1] at this
    exact this
theorem ext_left{s t:ByteArray}{a b:Nat}(hb:b≤s.size):(s++blankB++t).extract a b=s.extract a b:=by
  rw[ByteArray.extract_append,ByteArray.extract_append]
  have h1:(s++blankB).size=s.size+1:=by rw[ByteArray.size_append];rfl
  have e1:t.extract (a - (s++blankB).size) (b - (s++blankB).size)=ByteArray.empty:=by
    rw[←ByteArray.size_eq_zero_iff,ByteArray.size_extract];omega
  have e2:blankB.extract (a - s.size) (b - s.size)=ByteArray.empty:=by
    rw[←ByteArray.size_eq_zero_iff,ByteArray.size_extract];omega
  rw[e1,e2,ByteArray.append_empty,ByteArray.append_empty]
theorem zsU{s t:ByteArray}{a b:Nat}:(s++blankB++t).extract (s.size+1+a) (s.size+1+b)=t.extract a b:=by
  have h1:(s++blankB).size=s.size+1:=by rw[ByteArray.size_append];rfl
  rw[←h1,ByteArray.extract_append_size_add]
theorem zji (s t:ByteArray):zbZ (s++blankB++t)=zbZ s++zbZ t:=by
  rw[zd7,zd7,zd7,tokL_two (two_app s t),List.filter_append,List.map_append]
  congr 1
  · refine List.map_congr_left fun x hx=>?_
    have:=ze6 (List.mem_filter.1 hx).1
    unfold tokW
    rw[ext_left (by omega)]
  · rw[List.filter_map,List.map_map]
    refine List.map_congr_left fun x hx=>?_
    have:=ze6 (List.mem_filter.1 hx).1
    show foldS _=foldS _
    unfold shT
    rw[show((x.1+((s.size+1:Nat):Int)).toNat)=s.size+1+x.1.toNat by omega,show((x.2.1+((s.size+1:Nat):Int)).toNat)=s.size+1+x.2.1.toNat by omega,zsU]
theorem zmT (s:ByteArray) (k:Int):∀n q j,q≤j→j<runE s k n q→zde (zaJ s j)=k
  | 0,q,j,h1,h2=>by rw[runE] at h2;omega
  | n + 1,q,j,h1,h2=>by
    rw[runE] at h2
    split at h2
    · rename_i hk
      rcases Nat.eq_or_lt_of_le h1 with rfl|h1
      · exact hk.2
      · exact zmT s k n (q+1) j h1 h2
    · omega
theorem end_kind{s:ByteArray}{i j:Nat}(h1:i≤j) (h2:j<endN s i):zde (zaJ s j)=zde (zaJ s i):=by
  rcases Nat.eq_or_lt_of_le h1 with rfl|h1
  · rfl
  · exact zmT s _ _ _ j h1 h2
theorem ziz (s:ByteArray):∀f i x,x∈tokF s f i→∀j:Nat,x.1≤j→(j:Int)<x.2.1→zde (zaJ s j)=x.2.2
  | 0,i,x,h=>by cases h
  | f + 1,i,x,h=>by
    rw[tokF] at h
    split at h
    · rename_i hi
      split at h
      · exact ziz s f _ x h
      · rcases List.mem_cons.1 h with rfl|h
        · intro j h1 h2;exact end_kind (by simp only at h1;omega) (by simp only at h2;omega)
        · exact ziz s f _ x h
    · cases h
theorem zsm{c:UInt8}(h:zde c=0):(97≤c.toNat∧c.toNat≤122)∨(65≤c.toNat∧c.toNat≤90):=by
  unfold zde at h
  split at h
  · assumption
  · split at h
    · cases h
    · split at h<;>cases h
theorem zma{c:UInt8}(h:zde c=0):97≤(Elder.foldC c).toNat∧(Elder.foldC c).toNat≤122:=by
  rcases zsm h with h|h
  · rw[Elder.foldC_same (by omega)];exact h
  · have:=Elder.foldC_up (c:=c) (by omega) (by omega)
    omega
theorem zfQ (s:ByteArray):(foldS s).size=s.size:=by
  show((s.data.toList.map Elder.foldC).toArray).size=s.data.size
  simp
theorem zmp{s:ByteArray}{i:Nat}(h:i<s.size):zaJ (foldS s) i=Elder.foldC (zaJ s i):=by
  have h':i<s.data.toList.length:=by simpa using h
  show((s.data.toList.map Elder.foldC).toArray).toList.getD i 0=Elder.foldC (s.data.toList.getD i 0)
  simp only[List.getD_eq_getElem?_getD,List.getElem?_map,List.getElem?_eq_getElem h',Option.map_some,Option.getD_some]
theorem zhz{s:ByteArray}{a b i:Nat}(hb:b≤s.size) (h:a+i<b):zaJ (s.extract a b) i=zaJ s (a+i):=by
  have h1:i<(s.extract a b).size:=by rw[ByteArray.size_extract];omega
  have e1:zaJ (s.extract a b) i=(s.extract a b)[i]:=by
    have h':i<(s.extract a b).data.toList.length:=by rw[Array.length_toList];exact h1
    unfold zaJ;rw[←List.getElem_eq_getD (h:=h')];rfl
  have e2:zaJ s (a+i)=s[a+i]:=by
    have h':a+i<s.data.toList.length:=by simp;show _<s.size;omega
    unfold zaJ;rw[←List.getElem_eq_getD (h:=h')];rfl
  rw[e1,e2,ByteArray.getElem_extract]
theorem ziu{s w:ByteArray}(h:w∈zbZ s):(∀i,i<w.size→97≤(zaJ w i).toNat∧(zaJ w i).toNat≤122)∧1≤w.size∧w.size≤s.size:=by
  rw[zd7] at h
  obtain⟨x,hx,rfl⟩:=List.mem_map.1 h
  obtain⟨hm,hk⟩:=List.mem_filter.1 hx
  have hk0:x.2.2=0:=of_decide_eq_true hk
  have hr:=ze6 hm
  have hkd:=ziz s s.size 0 x hm
  have hz:(s.extract x.1.toNat x.2.1.toNat).size=x.2.1.toNat - x.1.toNat:=by rw[ByteArray.size_extract];omega
  unfold tokW
  refine⟨fun i hi=>?_,by rw[zfQ,hz];omega,by rw[zfQ,hz];omega⟩
  rw[zfQ,hz] at hi
  rw[zmp (by omega),zhz (by omega) (by omega)]
  exact zma (by rw[hkd _ (by omega) (by omega),hk0])
theorem words_ok{s:ByteArray}(hs:s.size≤4096):∀w∈zbZ s,zbp w=true:=fun w h=>by
  have:=ziu h
  exact letS_iff.2 ⟨this.1,by omega,by omega⟩
theorem words_qq:zbZ ⟨#[113,113]⟩=[⟨#[113,113]⟩]:=by kernel_rfl
end Go.Proofs.YtehoglapajkabaaGreat
