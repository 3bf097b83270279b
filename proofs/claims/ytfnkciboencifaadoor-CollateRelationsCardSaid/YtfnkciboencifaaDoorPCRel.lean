/-
  For every input the law CollateRelations (P31.6, P31.7) of package passimlaw31 returns true, never panics, and leaves its arguments as they read before; conditions: those of its tied card (unicode/utf8.first and acceptRanges as the program's text lays them).
-/
import Derived.Test.YtfnkciboencifaaDoorPW15
import Derived.Test.YtfnkciboencifaaDoorPW16
import Derived.Test.YtfnkciboencifaaDoorRows
import Derived.Test.YtfnkciboencifaaDoorCards
import Derived.Test.YtfnkciboencifaaDoorTie
import Derived.ProofKit
import Derived.Lay
import Derived.LaidOnce
import Derived.SevenTiedAt
set_option linter.all false
namespace Go.Proofs.YtfnkciboencifaaDoor
open Go Go.RowKit Go.ChangeShapes Go.WideShapes Go.ChangeAt
set_option linter.unusedVariables false
theorem own : ownKnob Tryd.prog.godebug = none := by kernel_rfl
theorem laidOutP : laidOutB Tryd.prog = true := by kernel_rfl
def laidL : List (String × DataW Unit) := [("unicode/utf8.acceptRanges", Rows.laid_unicode_utf8_acceptRanges), ("unicode/utf8.first", Rows.laid_unicode_utf8_first)]
set_option maxRecDepth 100000 in
theorem rel_lifted (os : Os) (started : os.Started) (H : Type) (enc : TypeId × Value → H) :
    ReturnsInHanded {} Tryd.checked os 6 .any (fun w args => (Rows.collateRelationsSpec.pre enc Tryd.prog Tryd.f6 [] false w args ∧ laidMetH Tryd.prog laidL w) ∧ sizedMet enc Tryd.prog Tryd.f6 (OpenSpec.ofChange Rows.collateRelationsSpec) false w args)
      (Rows.collateRelationsSpec.post enc Tryd.prog Tryd.f6 false true false false) := by
  refine returnsInHanded_of_change_and (C := Tryd.checked) (X := fun w _ => laidMetH Tryd.prog laidL w) (fun _ _ _ hh h => h.of_heap hh) own started (by kernel_rfl) Tryd.func6
    (ChangeSpec.witness_shaped (enc := enc) (C := Tryd.checked) (os := os) (X := fun w _ => laidMetH Tryd.prog laidL w) false (World.laidAll Tryd.prog os laidL) #[.int .i64 0, .slice none 0 0, .int .i64 0, .int .i64 0] 8 (World.laidAll_os _ _ _)
      (World.shaped_of_ZipB (by kernel_rfl) (by kernel_rfl)) (by kernel_rfl) (by kernel_rfl) (by kernel_rfl)
      (by rw [MakeChecks.laidMetH_plain _ _ _ (by kernel_rfl)]; exact laidMet_laidAll _ (by kernel_rfl) (by kernel_rfl))) ?_
  intro W base args ds gs before hval0 hW _ _ _ _
  have hval : ∀ (j : Nat) t v, Tryd.f6.params[j]? = some t → args[j]? = some v → Value.okWide Tryd.prog W .any base t v := hval0
  have hW' := hW
  obtain ⟨p, q, hA0, hV, rfl, hfz, hnd⟩ := hW
  have hA : DataW.TrodAll enc Tryd.prog W 0 (fun _ => true) true Tryd.f6.params.toList args.toList ds p := hA0
  rw [Tryd.params6] at hA hval
  obtain ⟨v0, v1, v2, v3, d0, d1, d2, d3, p0, p1, p2, p3, rfl, rfl, rfl, h0, h1, h2, h3⟩ := trodAll_four hA
  obtain ⟨rfl, rfl⟩ := trodVars_none hV
  obtain ⟨n, rfl, rfl, rfl, wn⟩ := open_int Tryd.underlying3 (hval 0 3 v0 rfl rfl) h0
  obtain ⟨raw, hl, hr, hpv⟩ := open_pv_pairs Tryd.underlying57 Tryd.underlying58 Tryd.underlying3 (by kernel_rfl) (by kernel_rfl) (hval 1 57 v1 rfl rfl) h1
  obtain ⟨more, rfl, rfl, rfl, wm⟩ := open_int Tryd.underlying3 (hval 2 3 v2 rfl rfl) h2
  obtain ⟨by_, rfl, rfl, rfl, wb⟩ := open_int Tryd.underlying3 (hval 3 3 v3 rfl rfl) h3
  have i64 : ∀ {x : Int}, (Lit.int .i64 x).wf = true → I64 x := fun h => by simpa [Lit.wf, IntKind.min, IntKind.max, IntKind.signed, IntKind.bits, I64] using h
  have hlt := hW'.lt
  have hcall := (relations_pure n raw more by_ (i64 wn) (i64 wm) (i64 wb) hl hr).calls (W := W) (vs := #[.int .i64 n, v1, .int .i64 more, .int .i64 by_]) rfl (fun i hi => by
    match i, hi with
    | 0, _ => exact IsPv.atom W _
    | 1, _ => exact hpv
    | 2, _ => exact IsPv.atom W _
    | 3, _ => exact IsPv.atom W _)
  refine hcall.mono fun e W' ⟨he, hb⟩ => ?_
  subst he
  have hargs := Below.trods laidOutP hb _ _ _ _ (by
    have hall : (Tryd.f6.params.toList.all fun t => Tryd.prog.readableRec t && decide (t < Tryd.prog.types.size)) = true := by kernel_rfl
    exact fun t ht => by
      have := List.all_eq_true.1 hall t ht
      rw [Bool.and_eq_true] at this
      exact ⟨this.1, of_decide_eq_true this.2⟩) (fun x hx => hlt x (List.mem_append_left _ hx)) hA0
  exact ⟨_, rfl, _, _, _, [], _, [], hW', trodAll_mk1 (shut_bool Tryd.underlying4 _), hargs, rfl, hb.frame _, fun h => by cases h⟩
theorem rel_holds : Rows.CollateRelationsSaid :=
  OpenClaim.holds_of_wide 6 Tryd.f6 rfl rfl rfl rfl rfl rfl rfl ⟨rfl, rfl, rfl, rfl, rfl⟩ rfl rfl rfl rfl rfl (by kernel_rfl) Tryd.func6 (by kernel_rfl)
    (of_decide_eq_true (by kernel_rfl)) (by unfold Func.isWrapper; first | (rw [if_pos (by decide +kernel)]; kernel_rfl) | (rw [if_neg (by decide +kernel)]; exact ⟨rfl, rfl⟩))
    (fun os started H enc _ => rel_lifted os started H enc)
theorem relations_holds : Rows.CollateRelationsCardSaid :=
  Claim7.holds_tied_plain_at .later [] [.data, .pinned] true (true, "3965c9e6ac3f1529059db2683e892d65f9a57f7a00f50c135e0df5281cfb1f35") false rel_holds (fun _ h => by cases h) (by kernel_rfl) (fun _ h => by cases h) collateRelations_row_tie rfl ⟨rfl, rfl⟩ (by kernel_rfl) rfl
    (fun f fn hf hfn => by
      obtain rfl : f = 6 := Option.some.inj ((show Tryd.prog.funcNamed "passim/passimlaw31.CollateRelations" = some 6 by kernel_rfl).symm.trans hf) |>.symm
      obtain rfl : fn = Tryd.f6 := (Option.some.inj (Tryd.func6.symm.trans hfn)).symm
      exact ⟨by kernel_rfl, fun j t ht => by
        rw [Tryd.params6] at ht
        have hm : t ∈ [3, 57, 3, 3] := by simpa using Array.mem_of_getElem? ht
        have hall : ([3, 57, 3, 3].all fun u => !Tryd.prog.wantsStandIn u) = true := by kernel_rfl
        exact (show Tryd.prog.wantsStandIn t = false by simpa using List.all_eq_true.1 hall t hm)⟩)
    (by kernel_rfl)
end Go.Proofs.YtfnkciboencifaaDoor

