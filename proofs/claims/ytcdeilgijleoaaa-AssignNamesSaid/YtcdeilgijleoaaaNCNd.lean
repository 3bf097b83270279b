/-
  lives of the group: its first call, run.
-/
import Derived.Test.YtcdeilgijleoaaaNB22
import Derived.Test.YtcdeilgijleoaaaNB63
import Derived.Test.YtcdeilgijleoaaaNA1
import Derived.ProofKit
import Derived.SliceStrings
import Derived.Deep.Slices
import Derived.OpenShut
import Derived.Test.YtcdeilgijleoaaaRows
import Derived.SevenTiedAt
import Derived.ChangeMaps5
set_option linter.all false
namespace Go.Proofs.Ytcdeilgijleoaaa
open Go Go.RowKit
set_option maxRecDepth 100000
def nilV : PV := .atom (.slice none 0 0)
def arg1 : List PV := [.agg [.ob 0 1 0 3, encI 3, nilV]]
def hp1 : List AO := [⟨1, [3, 2, 2].map encI⟩]
def res1 : CallR := (.tup [.ob 1 2 0 3, encI 5, .agg [.ob 2 1 0 3, .ob 3 1 0 3, encI 5], encI 0], hp1.map some, [⟨2, [(0, 1), (0, 2), (1, 2)].map encP⟩, ⟨1, [0, 1, 2].map encI⟩, ⟨1, [0, 1, 2].map encI⟩])
theorem run_find1 : sameR (gRun Try.prog tbl0 [] 60 22 arg1 hp1) res1 = true := by kernel_rfl
def arg2 : List PV := [.agg [.ob 0 1 0 2, encI 3, .atom (.slice none 0 0)]]
def hp2 : List AO := [⟨1, [5, 1].map encI⟩]
def res2 : CallR := (.tup [.ob 1 2 0 2, encI 6, .agg [.ob 2 1 0 1, .atom (.slice none 0 0), encI 5], encI 0], hp2.map some, [⟨2, [(0, 1), (0, 1)].map encP⟩, ⟨1, [0].map encI⟩])
theorem run_find2 : sameR (gRun Try.prog tbl0 [] 60 22 arg2 hp2) res2 = true := by kernel_rfl
def arg3 : List PV := [.agg [.ob 0 1 0 2, encI 3, .ob 1 2 0 2]]
def hp3 : List AO := [⟨1, [2, 2].map encI⟩, ⟨2, [(0, 2), (1, 2)].map encP⟩]
def res3 : CallR := (.tup [.ob 2 2 0 2, encI 4, .agg [.ob 3 1 0 2, .ob 4 1 0 1, encI 4], encI 0], hp3.map some, [⟨2, [(0, 1), (0, 1)].map encP⟩, ⟨1, [0, 1].map encI⟩, ⟨1, [0].map encI⟩])
theorem run_find3 : sameR (gRun Try.prog tbl0 [] 60 22 arg3 hp3) res3 = true := by kernel_rfl
def tb1 : CallT := tblAdd 22 arg1 hp1 res1 tbl0
def tb2 : CallT := tblAdd 22 arg2 hp2 res2 tb1
def tb3 : CallT := tblAdd 22 arg3 hp3 res3 tb2
theorem tb1_ok : CallOk Try.prog tb1 := callOk_put tbl0_ok (gRun_ok tbl0_ok mixed 60 _ _ _ _ _ _ (sameR_eq run_find1))
theorem tb2_ok : CallOk Try.prog tb2 := callOk_put tb1_ok (gRun_ok tbl0_ok mixed 60 _ _ _ _ _ _ (sameR_eq run_find2))
theorem tb3_ok : CallOk Try.prog tb3 := callOk_put tb2_ok (gRun_ok tbl0_ok mixed 60 _ _ _ _ _ _ (sameR_eq run_find3))
theorem run_lives : sameR (gRun Try.prog tb3 [] 60 21 [] []) (.atom (.bool true), [], []) = true := by kernel_rfl
theorem lives_pure : Pure Try.prog 21 [] (.atom (.bool true)) [] := run_pure (x := (.atom (.bool true), [], [])) tb3_ok mixed run_lives rfl
theorem names_law (l : List Int) (turn : Int) (back : Bool) (hl : Fits l) (ht : I64 turn) :
    Pure Try.prog 9 [ints l, encI turn, .atom (.bool back)] (.atom (.bool true)) [] := names_pure l turn back hl ht lives_pure
end Go.Proofs.Ytcdeilgijleoaaa
namespace Go.Proofs.Ytcdeilgijleoaaa
open Go Go.RowKit Go.ChangeShapes Go.WideShapes Go.ChangeAt Go.Deep
section
variable {H : Type} {enc : TypeId × Value → H} {P : Program} {W : World} {sp : Nat → Bool} {held : Bool}
def oldF (W : World) : Nat → Prop := fun b => b < W.heap.size
def IsPv (W : World) (p : PV) (v : Value) : Prop := ∀ (D : Nat → Prop) (μ : Nat → Option Nat), Rep D μ (oldF W) W p v
theorem IsPv.atom (W : World) (v : Value) : IsPv W (.atom v) v := fun _ _ => .atom v
theorem spot_of {t e : TypeId} {base len cap : Nat} {a : Addr} (ht : P.underlying t = some (.slice e)) (h : Value.okWide P W .any base t (.slice (some a) len cap)) : a.spot = none := by
  simp only [Value.okWide, ht, Cell.okWide, Cell.ok] at h
  exact h.2.2.2.1
theorem isPv_nil (W : World) (sz : Nat) : IsPv W (.sl sz []) (.slice none 0 0) := fun _ _ => .sl0 sz none 0 (Nat.zero_le _) (fun _ => rfl) (fun x hx => by cases hx)
theorem isPv_row {W : World} {sz : Nat} {l : List PV} {a : Addr} {len cap : Nat} (hs : a.spot = none) (hl : l.length = len) (hlc : len ≤ cap) (hc : cap ≤ maxLen) (hsz : 0 < sz) (g : Nat → Value) (hg : ∀ j, j < len * sz → W.cell? ⟨a.block, a.off + j, none⟩ = some (g j))
    (h1 : ∀ k (h : k < l.length), l[k].cells.length = sz) (h2 : ∀ k (h : k < l.length) c (hc : c < l[k].cells.length), l[k].cells[c] = .atom (g (k * sz + c))) : IsPv W (.sl sz l) (.slice (some a) len cap) := fun D μ => by
  subst hl
  obtain ⟨b, off, spot⟩ := a
  simp only at hs hg
  subst hs
  by_cases h0 : l = []
  · subst h0
    exact .sl0 sz _ cap hc (fun h => by cases h) (fun x hx => by cases hx; rfl)
  · have hpos : 0 < l.length := List.length_pos_iff.2 h0
    have hlt : b < W.heap.size := World.block_lt_of_cell? W _ (hg 0 (Nat.mul_pos hpos hsz))
    exact .sl sz l b off cap g hlt hlc hc hg h1 (fun k h c hc => by rw [h2 k h c hc]; exact .atom _)
theorem add_none {a : Addr} (hs : a.spot = none) (n : Nat) : a.add n = ⟨a.block, a.off + n, none⟩ := by
  obtain ⟨b, off, spot⟩ := a
  simp only at hs
  subst hs
  unfold Addr.add
  split <;> simp_all
theorem open_pv_ints {t e : TypeId} {v : Value} {d : DataW H} {ps : List MemPlace} (ht : P.underlying t = some (.slice e)) (he : P.underlying e = some (.int .i64)) (hc : P.cellsOf e = 1)
    {b0 : Nat} (hv : Value.okWide P W .any b0 t v) (h : DataW.Trod enc P W 0 sp held t v d ps) : ∃ l : List Int, Fits l ∧ IsPv W (ints l) v := by
  obtain ⟨a0, len, cap, rfl⟩ := okWide_slice ht hv
  obtain ⟨fuel, hf⟩ := h
  rcases open_ints ht he hc hf with ⟨hcs, hx⟩ | ⟨a, len', cap', zs, hcs, _, hl, hm, hz, hx, hcell, hwf⟩
  · simp [Value.cells] at hcs
    obtain ⟨rfl, rfl, rfl⟩ := hcs
    exact ⟨[], ⟨fun x hx => (by cases hx), by simp⟩, isPv_nil W 1⟩
  · simp [Value.cells] at hcs
    obtain ⟨rfl, rfl, rfl⟩ := hcs
    have hzl : len ≤ zs.length := by rw [hz]; split <;> omega
    have hs := spot_of ht hv
    refine ⟨zs.take len, ⟨fun x hx => ?_, ?_⟩, ?_⟩
    · have := hwf x (List.mem_of_mem_take hx)
      simpa [Lit.wf, IntKind.min, IntKind.max, IntKind.signed, IntKind.bits, I64] using this
    · have : maxLen = 9223372036854775807 := by decide
      simp only [List.length_take]; omega
    · refine isPv_row (sz := 1) hs (by simp; omega) hl hm Nat.one_pos (fun j => .int .i64 (zs.getD j 0)) (fun j hj => ?_) (fun k hk => by simp [encI, PV.cells]) (fun k hk c hcc => ?_)
      · have := hcell j (by omega)
        rw [add_none hs] at this; exact this
      · have hk' : k < len ∧ k < zs.length := by have := hk; simp at this; omega
        have e0 : ((zs.take len).map encI)[k] = encI (zs.getD k 0) := by simp [List.getD_eq_getElem?_getD, hk'.2]
        have e1 : ((zs.take len).map encI)[k].cells = [encI (zs.getD k 0)] := by rw [e0]; rfl
        have hc0 : c = 0 := by rw [e1] at hcc; simpa using hcc
        subst hc0
        rw [gl e1 hcc]
        simp [encI]
theorem Pure.calls {f : FuncId} {args : List PV} (h : Pure P f args (.atom (.bool true)) []) {vs : Array Value} (hl : vs.size = args.length) (hv : ∀ i (h : i < args.length), IsPv W args[i] (vs.getD i undef)) :
    Calls P f vs W fun e W' => e = .returned (.bool true) ∧ Below W.heap.size W W' := by
  refine (h.2 (fun _ => False) (fun _ => none) (oldF W) W vs hl (fun i hi => hv i hi _ _) (fun b hb => hb)).mono fun e W' ⟨v, he, hb, ν, F', hr, _⟩ => ?_
  refine ⟨?_, hb⟩
  cases hr
  exact he
theorem Below.trods (hl : laidOutB P = true) {W' : World} (hb : Below W.heap.size W W') : ∀ (ts : List TypeId) (vs : List Value) (ds : List (DataW H)) (ps : List MemPlace), (∀ t, t ∈ ts → P.readableRec t = true ∧ t < P.types.size) → (∀ x, x ∈ ps → x.block < W.heap.size) →
    DataW.TrodAll enc P W 0 (fun _ => true) true ts vs ds ps → DataW.TrodAll enc P W' 0 (fun b => decide (b < W.heap.size)) true ts vs ds ps
  | [], [], [], ps, _, _, h => h
  | t :: ts, v :: vs, d :: ds, ps, ht, hp, ⟨p, q, h1, h2, e⟩ => by
    subst e
    exact ⟨p, q, Below.trod hl (ht t (List.mem_cons_self ..)).1 (ht t (List.mem_cons_self ..)).2 h1 hb (fun x hx => hp x (List.mem_append_left _ hx)),
      Below.trods hl hb ts vs ds q (fun t h => ht t (List.mem_cons_of_mem _ h)) (fun x hx => hp x (List.mem_append_right _ hx)) h2, rfl⟩
  | [], _ :: _, _, _, _, _, h => h.elim
  | [], [], _ :: _, _, _, _, h => h.elim
  | _ :: _, [], _, _, _, _, h => h.elim
  | _ :: _, _ :: _, [], _, _, _, h => h.elim
end
end Go.Proofs.Ytcdeilgijleoaaa
namespace Go.Proofs.Ytcdeilgijleoaaa
open Go Go.RowKit Go.ChangeShapes Go.WideShapes Go.ChangeAt Go.ChangeMaps
theorem ownN : ownKnob Try.prog.godebug = none := by kernel_rfl
theorem laidOutN : laidOutB Try.prog = true := by kernel_rfl
set_option maxRecDepth 100000 in
theorem liftedN (os : Os) (started : os.Started) (H : Type) (enc : TypeId × Value → H) :
    ReturnsInHanded {} Try.checked os 9 .any (Rows.assignNamesSpec.pre6 enc Try.prog Try.f9 Rows.assignNamesRow.domain false) (Rows.assignNamesSpec.post enc Try.prog Try.f9 false true false false) := by
  refine returnsInHanded_of_change (C := Try.checked) ownN started (by kernel_rfl) Try.func9
    (ChangeSpec.witness6 (enc := enc) (C := Try.checked) false ⟨#[], #[.slice none 0 0, .int .i64 0, .bool false], []⟩ 8 (by kernel_rfl) (by kernel_rfl) (by kernel_rfl) (by kernel_rfl)) ?_
  intro W base args ds gs before hval0 hW _ _
  have hval : ∀ (j : Nat) t v, Try.f9.params[j]? = some t → args[j]? = some v → Value.okWide Try.prog W .any base t v := hval0
  have hW' := hW
  obtain ⟨p, q, hA0, hV, rfl, hfz, hnd⟩ := hW
  have hA : DataW.TrodAll enc Try.prog W 0 (fun _ => true) true Try.f9.params.toList args.toList ds p := hA0
  rw [Try.params9] at hA hval
  obtain ⟨v0, w0, d0, e0, p0, q0, hargs0, rfl, rfl, h0, g0⟩ := trodAll_cons hA
  obtain ⟨v1, w1, d1, e1, p1, q1, rfl, rfl, rfl, h1, g1⟩ := trodAll_cons g0
  obtain ⟨v2, w2, d2, e2, p2, q2, rfl, rfl, rfl, h2, g2⟩ := trodAll_cons g1
  obtain ⟨rfl, rfl, rfl⟩ := trodAll_nil g2
  obtain rfl : args = #[v0, v1, v2] := Array.toList_inj.1 hargs0
  obtain ⟨rfl, rfl⟩ := trodVars_none hV
  obtain ⟨l, H0, hp0⟩ := open_pv_ints Try.underlying22 Try.underlying3 (by kernel_rfl) (hval 0 22 v0 rfl rfl) h0
  obtain ⟨turn, rfl, rfl, rfl, H1⟩ := open_int Try.underlying3 (hval 1 3 v1 rfl rfl) h1
  obtain ⟨back, rfl, rfl, rfl⟩ := open_bool Try.underlying4 (hval 2 4 v2 rfl rfl) h2
  have i64 : ∀ {x : Int}, (Lit.int .i64 x).wf = true → I64 x := fun h => by simpa [Lit.wf, IntKind.min, IntKind.max, IntKind.signed, IntKind.bits, I64] using h
  have hlt := hW'.lt
  have hcall := (names_law l turn back H0 (i64 H1)).calls (W := W) (vs := #[v0, .int .i64 turn, .bool back]) rfl (fun i hi => by
    match i, hi with
    | 0, _ => exact hp0
    | 1, _ => exact IsPv.atom W _
    | 2, _ => exact IsPv.atom W _)
  refine hcall.mono fun e W' ⟨he, hb⟩ => ?_
  subst he
  have hargs := Below.trods laidOutN hb _ _ _ _ (by
    have hall : (Try.f9.params.toList.all fun t => Try.prog.readableRec t && decide (t < Try.prog.types.size)) = true := by kernel_rfl
    exact fun t ht => by
      have := List.all_eq_true.1 hall t ht
      rw [Bool.and_eq_true] at this
      exact ⟨this.1, of_decide_eq_true this.2⟩) (fun x hx => hlt x (List.mem_append_left _ hx)) hA0
  exact ⟨_, rfl, _, _, _, [], _, [], hW', trodAll_mk1 (shut_bool Try.underlying4 _), hargs, rfl, hb.frame _, fun h => by cases h⟩
theorem assignNames_holds : Rows.AssignNamesSaid :=
  OpenClaim.holds_of_wide 9 Try.f9 rfl rfl rfl rfl rfl rfl rfl ⟨rfl, rfl, rfl, rfl, rfl⟩ rfl rfl rfl rfl rfl (by kernel_rfl) Try.func9 (by kernel_rfl)
    (of_decide_eq_true (by kernel_rfl)) (by unfold Func.isWrapper; first | (rw [if_pos (by decide +kernel)]; kernel_rfl) | (rw [if_neg (by decide +kernel)]; exact ⟨rfl, rfl⟩))
    (fun os started H enc _ => liftedN os started H enc)
end Go.Proofs.Ytcdeilgijleoaaa
