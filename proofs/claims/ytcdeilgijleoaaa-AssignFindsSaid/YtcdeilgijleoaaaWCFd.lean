/-
  lives of the group: its first call, run.
-/
import Derived.Test.YtcdeilgijleoaaaWB22
import Derived.Test.YtcdeilgijleoaaaWB52
import Derived.Test.YtcdeilgijleoaaaWA1
import Derived.ProofKit
import Derived.SliceStrings
import Derived.Deep.Slices
import Derived.OpenShut
import Derived.Test.YtcdeilgijleoaaaRows
import Derived.SevenTiedAt
import Derived.ChangeMaps5
set_option linter.all false
namespace Go.Proofs.Ytcdeilgijleoaaa
open Go Go.RowKit
set_option maxRecDepth 100000
def nilV : PV := .atom (.slice none 0 0)
def arg1 : List PV := [.agg [.ob 0 1 0 3, encI 3, nilV]]
def hp1 : List AO := [⟨1, [3, 2, 2].map encI⟩]
def res1 : CallR := (.tup [.ob 1 2 0 3, encI 5, .agg [.ob 2 1 0 3, .ob 3 1 0 3, encI 5], encI 0], hp1.map some, [⟨2, [(0, 1), (0, 2), (1, 2)].map encP⟩, ⟨1, [0, 1, 2].map encI⟩, ⟨1, [0, 1, 2].map encI⟩])
theorem run_find1 : sameR (gRun Try.prog tbl0 [] 60 22 arg1 hp1) res1 = true := by kernel_rfl
def arg2 : List PV := [.agg [.ob 0 1 0 2, encI 3, .atom (.slice none 0 0)]]
def hp2 : List AO := [⟨1, [5, 1].map encI⟩]
def res2 : CallR := (.tup [.ob 1 2 0 2, encI 6, .agg [.ob 2 1 0 1, .atom (.slice none 0 0), encI 5], encI 0], hp2.map some, [⟨2, [(0, 1), (0, 1)].map encP⟩, ⟨1, [0].map encI⟩])
theorem run_find2 : sameR (gRun Try.prog tbl0 [] 60 22 arg2 hp2) res2 = true := by kernel_rfl
def arg3 : List PV := [.agg [.ob 0 1 0 2, encI 3, .ob 1 2 0 2]]
def hp3 : List AO := [⟨1, [2, 2].map encI⟩, ⟨2, [(0, 2), (1, 2)].map encP⟩]
def res3 : CallR := (.tup [.ob 2 2 0 2, encI 4, .agg [.ob 3 1 0 2, .ob 4 1 0 1, encI 4], encI 0], hp3.map some, [⟨2, [(0, 1), (0, 1)].map encP⟩, ⟨1, [0, 1].map encI⟩, ⟨1, [0].map encI⟩])
theorem run_find3 : sameR (gRun Try.prog tbl0 [] 60 22 arg3 hp3) res3 = true := by kernel_rfl
def tb1 : CallT := tblAdd 22 arg1 hp1 res1 tbl0
def tb2 : CallT := tblAdd 22 arg2 hp2 res2 tb1
def tb3 : CallT := tblAdd 22 arg3 hp3 res3 tb2
theorem tb1_ok : CallOk Try.prog tb1 := callOk_put tbl0_ok (gRun_ok tbl0_ok mixed 60 _ _ _ _ _ _ (sameR_eq run_find1))
theorem tb2_ok : CallOk Try.prog tb2 := callOk_put tb1_ok (gRun_ok tbl0_ok mixed 60 _ _ _ _ _ _ (sameR_eq run_find2))
theorem tb3_ok : CallOk Try.prog tb3 := callOk_put tb2_ok (gRun_ok tbl0_ok mixed 60 _ _ _ _ _ _ (sameR_eq run_find3))
theorem run_lives : sameR (gRun Try.prog tb3 [] 60 21 [] []) (.atom (.bool true), [], []) = true := by kernel_rfl
theorem lives_pure : Pure Try.prog 21 [] (.atom (.bool true)) [] := run_pure (x := (.atom (.bool true), [], [])) tb3_ok mixed run_lives rfl
theorem finds_law (l : List Int) (how by_ : Int) (sizes : List Int) (people : Int) (bars : List (Int × Int)) (hl : Fits l) (hh : I64 how) (hb : I64 by_) (hs : Fits sizes) (hp : I64 people) (h1 : bars.length ≤ 9223372036854775807) (h2 : ∀ p, p ∈ bars → I64 p.1 ∧ I64 p.2) :
    Pure Try.prog 4 [ints l, encI how, encI by_, ints sizes, encI people, pairs bars] (.atom (.bool true)) [] := finds_pure l how by_ sizes people bars hl hh hb hs hp ⟨h2, h1⟩ lives_pure
end Go.Proofs.Ytcdeilgijleoaaa
namespace Go.Proofs.Ytcdeilgijleoaaa
open Go Go.RowKit Go.ChangeShapes Go.WideShapes Go.ChangeAt Go.Deep
section
variable {H : Type} {enc : TypeId × Value → H} {P : Program} {W : World} {sp : Nat → Bool} {held : Bool}
def oldF (W : World) : Nat → Prop := fun b => b < W.heap.size
def IsPv (W : World) (p : PV) (v : Value) : Prop := ∀ (D : Nat → Prop) (μ : Nat → Option Nat), Rep D μ (oldF W) W p v
theorem IsPv.atom (W : World) (v : Value) : IsPv W (.atom v) v := fun _ _ => .atom v
theorem spot_of {t e : TypeId} {base len cap : Nat} {a : Addr} (ht : P.underlying t = some (.slice e)) (h : Value.okWide P W .any base t (.slice (some a) len cap)) : a.spot = none := by
  simp only [Value.okWide, ht, Cell.okWide, Cell.ok] at h
  exact h.2.2.2.1
theorem isPv_nil (W : World) (sz : Nat) : IsPv W (.sl sz []) (.slice none 0 0) := fun _ _ => .sl0 sz none 0 (Nat.zero_le _) (fun _ => rfl) (fun x hx => by cases hx)
theorem isPv_row {W : World} {sz : Nat} {l : List PV} {a : Addr} {len cap : Nat} (hs : a.spot = none) (hl : l.length = len) (hlc : len ≤ cap) (hc : cap ≤ maxLen) (hsz : 0 < sz) (g : Nat → Value) (hg : ∀ j, j < len * sz → W.cell? ⟨a.block, a.off + j, none⟩ = some (g j))
    (h1 : ∀ k (h : k < l.length), l[k].cells.length = sz) (h2 : ∀ k (h : k < l.length) c (hc : c < l[k].cells.length), l[k].cells[c] = .atom (g (k * sz + c))) : IsPv W (.sl sz l) (.slice (some a) len cap) := fun D μ => by
  subst hl
  obtain ⟨b, off, spot⟩ := a
  simp only at hs hg
  subst hs
  by_cases h0 : l = []
  · subst h0
    exact .sl0 sz _ cap hc (fun h => by cases h) (fun x hx => by cases hx; rfl)
  · have hpos : 0 < l.length := List.length_pos_iff.2 h0
    have hlt : b < W.heap.size := World.block_lt_of_cell? W _ (hg 0 (Nat.mul_pos hpos hsz))
    exact .sl sz l b off cap g hlt hlc hc hg h1 (fun k h c hc => by rw [h2 k h c hc]; exact .atom _)
theorem add_none {a : Addr} (hs : a.spot = none) (n : Nat) : a.add n = ⟨a.block, a.off + n, none⟩ := by
  obtain ⟨b, off, spot⟩ := a
  simp only at hs
  subst hs
  unfold Addr.add
  split <;> simp_all
theorem open_pv_ints {t e : TypeId} {v : Value} {d : DataW H} {ps : List MemPlace} (ht : P.underlying t = some (.slice e)) (he : P.underlying e = some (.int .i64)) (hc : P.cellsOf e = 1)
    {b0 : Nat} (hv : Value.okWide P W .any b0 t v) (h : DataW.Trod enc P W 0 sp held t v d ps) : ∃ l : List Int, Fits l ∧ IsPv W (ints l) v := by
  obtain ⟨a0, len, cap, rfl⟩ := okWide_slice ht hv
  obtain ⟨fuel, hf⟩ := h
  rcases open_ints ht he hc hf with ⟨hcs, hx⟩ | ⟨a, len', cap', zs, hcs, _, hl, hm, hz, hx, hcell, hwf⟩
  · simp [Value.cells] at hcs
    obtain ⟨rfl, rfl, rfl⟩ := hcs
    exact ⟨[], ⟨fun x hx => (by cases hx), by simp⟩, isPv_nil W 1⟩
  · simp [Value.cells] at hcs
    obtain ⟨rfl, rfl, rfl⟩ := hcs
    have hzl : len ≤ zs.length := by rw [hz]; split <;> omega
    have hs := spot_of ht hv
    refine ⟨zs.take len, ⟨fun x hx => ?_, ?_⟩, ?_⟩
    · have := hwf x (List.mem_of_mem_take hx)
      simpa [Lit.wf, IntKind.min, IntKind.max, IntKind.signed, IntKind.bits, I64] using this
    · have : maxLen = 9223372036854775807 := by decide
      simp only [List.length_take]; omega
    · refine isPv_row (sz := 1) hs (by simp; omega) hl hm Nat.one_pos (fun j => .int .i64 (zs.getD j 0)) (fun j hj => ?_) (fun k hk => by simp [encI, PV.cells]) (fun k hk c hcc => ?_)
      · have := hcell j (by omega)
        rw [add_none hs] at this; exact this
      · have hk' : k < len ∧ k < zs.length := by have := hk; simp at this; omega
        have e0 : ((zs.take len).map encI)[k] = encI (zs.getD k 0) := by simp [List.getD_eq_getElem?_getD, hk'.2]
        have e1 : ((zs.take len).map encI)[k].cells = [encI (zs.getD k 0)] := by rw [e0]; rfl
        have hc0 : c = 0 := by rw [e1] at hcc; simpa using hcc
        subst hc0
        rw [gl e1 hcc]
        simp [encI]
theorem open_pv_pairs {t e u : TypeId} {v : Value} {d : DataW H} {ps : List MemPlace} (ht : P.underlying t = some (.slice e)) (he : P.underlying e = some (.array 2 u)) (hu : P.underlying u = some (.int .i64)) (hc : P.cellsOf e = 2) (hcu : P.cellsOf u = 1)
    {b0 : Nat} (hv : Value.okWide P W .any b0 t v) (h : DataW.Trod enc P W 0 sp held t v d ps) : ∃ l : List (Int × Int), l.length ≤ 9223372036854775807 ∧ (∀ p, p ∈ l → I64 p.1 ∧ I64 p.2) ∧ IsPv W (pairs l) v := by
  obtain ⟨a0, len, cap, rfl⟩ := okWide_slice ht hv
  obtain ⟨fuel, hf⟩ := h
  have hmx : maxLen = 9223372036854775807 := by decide
  rcases open_slice ht hf with ⟨hcs, hx⟩ | ⟨a, len', cap', m, n, Dd, Pl, hcs, _, hl, hm, hz, hx, hel⟩
  · simp [Value.cells] at hcs
    obtain ⟨rfl, rfl, rfl⟩ := hcs
    exact ⟨[], by simp, fun x hx => (by cases hx), isPv_nil W 2⟩
  · simp [Value.cells] at hcs
    obtain ⟨rfl, rfl, rfl⟩ := hcs
    have hs := spot_of ht hv
    have hml : len ≤ m := by rw [hz]; split <;> omega
    have each : ∀ i, i < len → ∃ x y : Int, I64 x ∧ I64 y ∧ W.cell? ⟨a.block, a.off + i * 2, none⟩ = some (.int .i64 x) ∧ W.cell? ⟨a.block, a.off + (i * 2 + 1), none⟩ = some (.int .i64 y) := fun i hi => by
      obtain ⟨cs', h1, h2⟩ := hel i (by omega)
      rw [hc] at h1
      obtain ⟨_, hlen, hcell⟩ := World.cells?_some h1
      obtain ⟨xs, m1, rfl, hx1, hl1, hxl, hel1⟩ := DataW.trod_array he h2
      have g : ∀ j, j < 2 → ∃ z : Int, I64 z ∧ cs'[j]? = some (.int .i64 z) := fun j hj => by
        have h3 := hel1 j hj
        rw [hcu] at h3
        have hj2 : j < cs'.length := by omega
        have e : (cs'.drop (j * 1)).take 1 = [cs'[j]] := by
          rw [Nat.mul_one, List.drop_eq_getElem_cons hj2]; rfl
        rw [e, List.getElem?_eq_getElem (by omega)] at h3
        obtain ⟨k, e1, e2, hw⟩ := DataW.trod_int hu h3
        simp only [List.cons.injEq, and_true] at e1
        refine ⟨k, by simpa [Lit.wf, IntKind.min, IntKind.max, IntKind.signed, IntKind.bits, I64] using hw, ?_⟩
        rw [List.getElem?_eq_getElem hj2, e1]
      obtain ⟨x, hx64, hxc⟩ := g 0 (by omega)
      obtain ⟨y, hy64, hyc⟩ := g 1 (by omega)
      refine ⟨x, y, hx64, hy64, ?_, ?_⟩
      · have := hcell 0 (by omega)
        rw [hxc, add_none hs, add_none rfl] at this
        simpa using this
      · have := hcell 1 (by omega)
        rw [hyc, add_none hs, add_none rfl] at this
        rw [← this]
        congr 2
    let X : Nat → Int := fun i => if h : i < len then (each i h).choose else 0
    let Y : Nat → Int := fun i => if h : i < len then (each i h).choose_spec.choose else 0
    have hXY : ∀ i, i < len → I64 (X i) ∧ I64 (Y i) ∧ W.cell? ⟨a.block, a.off + i * 2, none⟩ = some (.int .i64 (X i)) ∧ W.cell? ⟨a.block, a.off + (i * 2 + 1), none⟩ = some (.int .i64 (Y i)) := fun i hi => by
      have hX : X i = (each i hi).choose := dif_pos hi
      have hY : Y i = (each i hi).choose_spec.choose := dif_pos hi
      rw [hX, hY]
      exact (each i hi).choose_spec.choose_spec
    refine ⟨(List.range len).map fun i => (X i, Y i), by simp; omega, fun p hp => ?_, ?_⟩
    · obtain ⟨i, hi, rfl⟩ := List.mem_map.1 hp
      have := hXY i (List.mem_range.1 hi)
      exact ⟨this.1, this.2.1⟩
    · refine isPv_row (sz := 2) hs (by simp) hl hm (by omega) (fun j => if j % 2 = 0 then .int .i64 (X (j / 2)) else .int .i64 (Y (j / 2))) (fun j hj => ?_) (fun k hk => by simp [encP, PV.cells]) (fun k hk c hcc => ?_)
      · have := hXY (j / 2) (by omega)
        by_cases h0 : j % 2 = 0
        · rw [if_pos h0, ← this.2.2.1]
          congr 3; omega
        · rw [if_neg h0, ← this.2.2.2]
          congr 3; omega
      · have hk' : k < len := by simpa using hk
        have e0 : (((List.range len).map fun i => (X i, Y i)).map encP)[k] = .agg [encI (X k), encI (Y k)] := by simp [encP]
        have e1 : (((List.range len).map fun i => (X i, Y i)).map encP)[k].cells = [encI (X k), encI (Y k)] := by rw [e0]; rfl
        have hc2 : c = 0 ∨ c = 1 := by rw [e1] at hcc; simp at hcc; omega
        rw [gl e1 hcc]
        rcases hc2 with rfl | rfl
        · simp only [List.getElem_cons_zero, encI]
          rw [if_pos (by omega), show (k * 2 + 0) / 2 = k by omega]
        · simp only [List.getElem_cons_succ, List.getElem_cons_zero, encI]
          rw [if_neg (by omega), show (k * 2 + 1) / 2 = k by omega]
theorem Pure.calls {f : FuncId} {args : List PV} (h : Pure P f args (.atom (.bool true)) []) {vs : Array Value} (hl : vs.size = args.length) (hv : ∀ i (h : i < args.length), IsPv W args[i] (vs.getD i undef)) :
    Calls P f vs W fun e W' => e = .returned (.bool true) ∧ Below W.heap.size W W' := by
  refine (h.2 (fun _ => False) (fun _ => none) (oldF W) W vs hl (fun i hi => hv i hi _ _) (fun b hb => hb)).mono fun e W' ⟨v, he, hb, ν, F', hr, _⟩ => ?_
  refine ⟨?_, hb⟩
  cases hr
  exact he
theorem Below.trods (hl : laidOutB P = true) {W' : World} (hb : Below W.heap.size W W') : ∀ (ts : List TypeId) (vs : List Value) (ds : List (DataW H)) (ps : List MemPlace), (∀ t, t ∈ ts → P.readableRec t = true ∧ t < P.types.size) → (∀ x, x ∈ ps → x.block < W.heap.size) →
    DataW.TrodAll enc P W 0 (fun _ => true) true ts vs ds ps → DataW.TrodAll enc P W' 0 (fun b => decide (b < W.heap.size)) true ts vs ds ps
  | [], [], [], ps, _, _, h => h
  | t :: ts, v :: vs, d :: ds, ps, ht, hp, ⟨p, q, h1, h2, e⟩ => by
    subst e
    exact ⟨p, q, Below.trod hl (ht t (List.mem_cons_self ..)).1 (ht t (List.mem_cons_self ..)).2 h1 hb (fun x hx => hp x (List.mem_append_left _ hx)),
      Below.trods hl hb ts vs ds q (fun t h => ht t (List.mem_cons_of_mem _ h)) (fun x hx => hp x (List.mem_append_right _ hx)) h2, rfl⟩
  | [], _ :: _, _, _, _, _, h => h.elim
  | [], [], _ :: _, _, _, _, h => h.elim
  | _ :: _, [], _, _, _, _, h => h.elim
  | _ :: _, _ :: _, [], _, _, _, h => h.elim
end
end Go.Proofs.Ytcdeilgijleoaaa
namespace Go.Proofs.Ytcdeilgijleoaaa
open Go Go.RowKit Go.ChangeShapes Go.WideShapes Go.ChangeAt Go.ChangeMaps
theorem ownW : ownKnob Try.prog.godebug = none := by kernel_rfl
theorem laidOutW : laidOutB Try.prog = true := by kernel_rfl
set_option maxRecDepth 100000 in
theorem liftedW (os : Os) (started : os.Started) (H : Type) (enc : TypeId × Value → H) :
    ReturnsInHanded {} Try.checked os 4 .any (Rows.assignFindsSpec.pre6 enc Try.prog Try.f4 Rows.assignFindsRow.domain false) (Rows.assignFindsSpec.post enc Try.prog Try.f4 false true false false) := by
  refine returnsInHanded_of_change (C := Try.checked) ownW started (by kernel_rfl) Try.func4
    (ChangeSpec.witness6 (enc := enc) (C := Try.checked) false ⟨#[], #[.slice none 0 0, .int .i64 0, .int .i64 0, .slice none 0 0, .int .i64 0, .slice none 0 0], []⟩ 8 (by kernel_rfl) (by kernel_rfl) (by kernel_rfl) (by kernel_rfl)) ?_
  intro W base args ds gs before hval0 hW _ _
  have hval : ∀ (j : Nat) t v, Try.f4.params[j]? = some t → args[j]? = some v → Value.okWide Try.prog W .any base t v := hval0
  have hW' := hW
  obtain ⟨p, q, hA0, hV, rfl, hfz, hnd⟩ := hW
  have hA : DataW.TrodAll enc Try.prog W 0 (fun _ => true) true Try.f4.params.toList args.toList ds p := hA0
  rw [Try.params4] at hA hval
  obtain ⟨v0, w0, d0, e0, p0, q0, hargs0, rfl, rfl, h0, g0⟩ := trodAll_cons hA
  obtain ⟨v1, w1, d1, e1, p1, q1, rfl, rfl, rfl, h1, g1⟩ := trodAll_cons g0
  obtain ⟨v2, w2, d2, e2, p2, q2, rfl, rfl, rfl, h2, g2⟩ := trodAll_cons g1
  obtain ⟨v3, w3, d3, e3, p3, q3, rfl, rfl, rfl, h3, g3⟩ := trodAll_cons g2
  obtain ⟨v4, w4, d4, e4, p4, q4, rfl, rfl, rfl, h4, g4⟩ := trodAll_cons g3
  obtain ⟨v5, w5, d5, e5, p5, q5, rfl, rfl, rfl, h5, g5⟩ := trodAll_cons g4
  obtain ⟨rfl, rfl, rfl⟩ := trodAll_nil g5
  obtain rfl : args = #[v0, v1, v2, v3, v4, v5] := Array.toList_inj.1 hargs0
  obtain ⟨rfl, rfl⟩ := trodVars_none hV
  obtain ⟨l, H0, hp0⟩ := open_pv_ints Try.underlying22 Try.underlying3 (by kernel_rfl) (hval 0 22 v0 rfl rfl) h0
  obtain ⟨how, rfl, rfl, rfl, H1⟩ := open_int Try.underlying3 (hval 1 3 v1 rfl rfl) h1
  obtain ⟨by_, rfl, rfl, rfl, H2⟩ := open_int Try.underlying3 (hval 2 3 v2 rfl rfl) h2
  obtain ⟨sizes, H3, hp3⟩ := open_pv_ints Try.underlying22 Try.underlying3 (by kernel_rfl) (hval 3 22 v3 rfl rfl) h3
  obtain ⟨people, rfl, rfl, rfl, H4⟩ := open_int Try.underlying3 (hval 4 3 v4 rfl rfl) h4
  obtain ⟨bars, H5, G5, hp5⟩ := open_pv_pairs Try.underlying23 (by rfl) Try.underlying3 (by kernel_rfl) (by kernel_rfl) (hval 5 23 v5 rfl rfl) h5
  have i64 : ∀ {x : Int}, (Lit.int .i64 x).wf = true → I64 x := fun h => by simpa [Lit.wf, IntKind.min, IntKind.max, IntKind.signed, IntKind.bits, I64] using h
  have hlt := hW'.lt
  have hcall := (finds_law l how by_ sizes people bars H0 (i64 H1) (i64 H2) H3 (i64 H4) H5 G5).calls (W := W) (vs := #[v0, .int .i64 how, .int .i64 by_, v3, .int .i64 people, v5]) rfl (fun i hi => by
    match i, hi with
    | 0, _ => exact hp0
    | 1, _ => exact IsPv.atom W _
    | 2, _ => exact IsPv.atom W _
    | 3, _ => exact hp3
    | 4, _ => exact IsPv.atom W _
    | 5, _ => exact hp5)
  refine hcall.mono fun e W' ⟨he, hb⟩ => ?_
  subst he
  have hargs := Below.trods laidOutW hb _ _ _ _ (by
    have hall : (Try.f4.params.toList.all fun t => Try.prog.readableRec t && decide (t < Try.prog.types.size)) = true := by kernel_rfl
    exact fun t ht => by
      have := List.all_eq_true.1 hall t ht
      rw [Bool.and_eq_true] at this
      exact ⟨this.1, of_decide_eq_true this.2⟩) (fun x hx => hlt x (List.mem_append_left _ hx)) hA0
  exact ⟨_, rfl, _, _, _, [], _, [], hW', trodAll_mk1 (shut_bool Try.underlying4 _), hargs, rfl, hb.frame _, fun h => by cases h⟩
theorem assignFinds_holds : Rows.AssignFindsSaid :=
  OpenClaim.holds_of_wide 4 Try.f4 rfl rfl rfl rfl rfl rfl rfl ⟨rfl, rfl, rfl, rfl, rfl⟩ rfl rfl rfl rfl rfl (by kernel_rfl) Try.func4 (by kernel_rfl)
    (of_decide_eq_true (by kernel_rfl)) (by unfold Func.isWrapper; first | (rw [if_pos (by decide +kernel)]; kernel_rfl) | (rw [if_neg (by decide +kernel)]; exact ⟨rfl, rfl⟩))
    (fun os started H enc _ => liftedW os started H enc)
end Go.Proofs.Ytcdeilgijleoaaa
