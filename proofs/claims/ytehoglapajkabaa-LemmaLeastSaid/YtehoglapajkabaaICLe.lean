/-
  The law LemmaLeast,whole.
-/
import Derived.Test.YtehoglapajkabaaIM46
import Derived.Test.YtehoglapajkabaaIM27
import Derived.Test.YtehoglapajkabaaIA16
import Derived.Test.YtehoglapajkabaaRows
import Derived.ProofKit
import Derived.SevenTiedAt
import Derived.ChangeMaps5
set_option linter.all false
namespace Go.Proofs.Ytehoglapajkabaa
open Go Go.RowKit
theorem zqU (l m:List Int) (hl:Fits l) (hm:Fits m):
    Pure Try.prog 5 [ints l,ints m] (.atom (.bool true)) []:=znK l m hl hm znG
end Go.Proofs.Ytehoglapajkabaa
namespace Go.Proofs.Ytehoglapajkabaa
open Go Go.RowKit Go.ChangeShapes Go.WideShapes Go.ChangeAt Go.ChangeMaps
theorem ownI:ownKnob Try.prog.godebug=none:=by kernel_rfl
theorem laidOutI:laidOutB Try.prog=true:=by kernel_rfl
set_option maxRecDepth 100000 in
theorem liftedI (os:Os) (started:os.Started) (H:Type) (enc:TypeId×Value→H):
    ReturnsInHanded {} Try.checked os 5 .any (Rows.lemmaLeastSpec.pre6 enc Try.prog Try.f5 Rows.lemmaLeastRow.domain false) (Rows.lemmaLeastSpec.post enc Try.prog Try.f5 false true false false):=by
  refine returnsInHanded_of_change (C:=Try.checked) ownI started (by kernel_rfl) Try.func5
    (ChangeSpec.witness6 (enc:=enc) (C:=Try.checked) false ⟨#[],#[.slice none 0 0,.slice none 0 0],[]⟩ 8 (by kernel_rfl) (by kernel_rfl) (by kernel_rfl) (by kernel_rfl)) ?_
  intro W base args ds gs before hval0 hW _ _
  have hval:∀(j:Nat) t v,Try.f5.params[j]? = some t→args[j]? = some v→Value.okWide Try.prog W .any base t v:=hval0
  have hW':=hW
  obtain⟨p,q,hA0,hV,rfl,hfz,hnd⟩:=hW
  have hA:DataW.TrodAll enc Try.prog W 0 (fun _=>true) true Try.f5.params.toList args.toList ds p:=hA0
  rw[Try.params5] at hA hval
  obtain⟨v0,w0,d0,e0,p0,q0,hargs0,rfl,rfl,h0,g0⟩:=trodAll_cons hA
  obtain⟨v1,w1,d1,e1,p1,q1,rfl,rfl,rfl,h1,g1⟩:=trodAll_cons g0
  obtain⟨rfl,rfl,rfl⟩:=trodAll_nil g1
  obtain rfl:args = #[v0,v1]:=Array.toList_inj.1 hargs0
  obtain⟨rfl,rfl⟩:=trodVars_none hV
  obtain⟨l,H0,hp0⟩:=zfU Try.underlying22 Try.underlying3 (by kernel_rfl) (hval 0 22 v0 rfl rfl) h0
  obtain⟨m,H1,hp1⟩:=zfU Try.underlying22 Try.underlying3 (by kernel_rfl) (hval 1 22 v1 rfl rfl) h1
  have i64:∀ {x:Int},(Lit.int .i64 x).wf=true→I64 x:=fun h=>by simpa[Lit.wf,IntKind.min,IntKind.max,IntKind.signed,IntKind.bits,I64] using h
  have hlt:=hW'.lt
  have hcall:=(zqU l m H0 H1).calls (W:=W) (vs := #[v0,v1]) rfl (fun i hi=>by
    match i,hi with
    | 0,_=>exact hp0
    | 1,_=>exact hp1)
  refine hcall.mono fun e W' ⟨he,hb⟩=>?_
  subst he
  have hargs:=Below.trods laidOutI hb _ _ _ _ (by
    have hall:(Try.f5.params.toList.all fun t=>Try.prog.readableRec t && decide (t<Try.prog.types.size))=true:=by kernel_rfl
    exact fun t ht=>by
      have:=List.all_eq_true.1 hall t ht
      rw[Bool.and_eq_true] at this
      exact⟨this.1,of_decide_eq_true this.2⟩) (fun x hx=>hlt x (List.mem_append_left _ hx)) hA0
  exact⟨_,rfl,_,_,_,[],_,[],hW',trodAll_mk1 (shut_bool Try.underlying4 _),hargs,rfl,hb.frame _,fun h=>by cases h⟩
theorem lemmaLeast_holds:Rows.LemmaLeastSaid:=
  OpenClaim.holds_of_wide 5 Try.f5 rfl rfl rfl rfl rfl rfl rfl ⟨rfl,rfl,rfl,rfl,rfl⟩ rfl rfl rfl rfl rfl (by kernel_rfl) Try.func5 (by kernel_rfl)
    (of_decide_eq_true (by kernel_rfl)) (by unfold Func.isWrapper;first|(rw[if_pos (by decide +kernel)];kernel_rfl)|(rw[if_neg (by decide +kernel)];exact⟨rfl,rfl⟩))
    (fun os started H enc _=>liftedI os started H enc)
end Go.Proofs.Ytehoglapajkabaa
