/-
  From the row's reading of the arguments to plain values, and back from a contract to the row's post.
-/
import Derived.Test.YtfnkciboencifaaDoorPW11
import Derived.ProofKit
import Derived.SliceStrings
import Derived.Deep.Slices
import Derived.OpenShut
set_option linter.all false
namespace Go.Proofs.YtfnkciboencifaaDoor
open Go Go.RowKit Go.ChangeShapes Go.WideShapes Go.ChangeAt Go.Deep
set_option linter.unusedVariables false
section
variable {H : Type} {enc : TypeId × Value → H} {P : Program} {W : World} {sp : Nat → Bool} {held : Bool}
/-- Blocks that are there already are not written. -/
def oldF (W : World) : Nat → Prop := fun b => b < W.heap.size
/-- The value is this plain value, in a world that is left as it is. -/
def IsPv (W : World) (p : PV) (v : Value) : Prop := ∀ (D : Nat → Prop) (μ : Nat → Option Nat), Rep D μ (oldF W) W p v
theorem IsPv.atom (W : World) (v : Value) : IsPv W (.atom v) v := fun _ _ => .atom v
theorem spot_of {t e : TypeId} {base len cap : Nat} {a : Addr} (ht : P.underlying t = some (.slice e)) (h : Value.okWide P W .any base t (.slice (some a) len cap)) : a.spot = none := by
  simp only [Value.okWide, ht, Cell.okWide, Cell.ok] at h
  exact h.2.2.2.1
theorem isPv_nil (W : World) (sz : Nat) : IsPv W (.sl sz []) (.slice none 0 0) := fun _ _ => .sl0 sz none 0 (Nat.zero_le _) (fun _ => rfl) (fun x hx => by cases hx)
/-- A row, cell by cell. -/
theorem isPv_row {W : World} {sz : Nat} {l : List PV} {a : Addr} {len cap : Nat} (hs : a.spot = none) (hl : l.length = len) (hlc : len ≤ cap) (hc : cap ≤ maxLen) (hsz : 0 < sz) (g : Nat → Value) (hg : ∀ j, j < len * sz → W.cell? ⟨a.block, a.off + j, none⟩ = some (g j))
    (h1 : ∀ k (h : k < l.length), l[k].cells.length = sz) (h2 : ∀ k (h : k < l.length) c (hc : c < l[k].cells.length), l[k].cells[c] = .atom (g (k * sz + c))) : IsPv W (.sl sz l) (.slice (some a) len cap) := fun D μ => by
  subst hl
  obtain ⟨b, off, spot⟩ := a
  simp only at hs hg
  subst hs
  by_cases h0 : l = []
  · subst h0
    exact .sl0 sz _ cap hc (fun h => by cases h) (fun x hx => by cases hx; rfl)
  · have hpos : 0 < l.length := List.length_pos_iff.2 h0
    have hlt : b < W.heap.size := World.block_lt_of_cell? W _ (hg 0 (Nat.mul_pos hpos hsz))
    exact .sl sz l b off cap g hlt hlc hc hg h1 (fun k h c hc => by rw [h2 k h c hc]; exact .atom _)

theorem add_none {a : Addr} (hs : a.spot = none) (n : Nat) : a.add n = ⟨a.block, a.off + n, none⟩ := by
  obtain ⟨b, off, spot⟩ := a
  simp only at hs
  subst hs
  unfold Addr.add
  split <;> simp_all

theorem open_pv_pairs {t e u : TypeId} {v : Value} {d : DataW H} {ps : List MemPlace} (ht : P.underlying t = some (.slice e)) (he : P.underlying e = some (.array 2 u)) (hu : P.underlying u = some (.int .i64)) (hc : P.cellsOf e = 2) (hcu : P.cellsOf u = 1)
    {b0 : Nat} (hv : Value.okWide P W .any b0 t v) (h : DataW.Trod enc P W 0 sp held t v d ps) : ∃ l : List (Int × Int), l.length ≤ 9223372036854775807 ∧ (∀ p, p ∈ l → I64 p.1 ∧ I64 p.2) ∧ IsPv W (pairs l) v := by
  obtain ⟨a0, len, cap, rfl⟩ := okWide_slice ht hv
  obtain ⟨fuel, hf⟩ := h
  have hmx : maxLen = 9223372036854775807 := by decide
  rcases open_slice ht hf with ⟨hcs, hx⟩ | ⟨a, len', cap', m, n, Dd, Pl, hcs, _, hl, hm, hz, hx, hel⟩
  · simp [Value.cells] at hcs
    obtain ⟨rfl, rfl, rfl⟩ := hcs
    exact ⟨[], by simp, fun x hx => (by cases hx), isPv_nil W 2⟩
  · simp [Value.cells] at hcs
    obtain ⟨rfl, rfl, rfl⟩ := hcs
    have hs := spot_of ht hv
    have hml : len ≤ m := by rw [hz]; split <;> omega
    have each : ∀ i, i < len → ∃ x y : Int, I64 x ∧ I64 y ∧ W.cell? ⟨a.block, a.off + i * 2, none⟩ = some (.int .i64 x) ∧ W.cell? ⟨a.block, a.off + (i * 2 + 1), none⟩ = some (.int .i64 y) := fun i hi => by
      obtain ⟨cs', h1, h2⟩ := hel i (by omega)
      rw [hc] at h1
      obtain ⟨_, hlen, hcell⟩ := World.cells?_some h1
      obtain ⟨xs, m1, rfl, hx1, hl1, hxl, hel1⟩ := DataW.trod_array he h2
      have g : ∀ j, j < 2 → ∃ z : Int, I64 z ∧ cs'[j]? = some (.int .i64 z) := fun j hj => by
        have h3 := hel1 j hj
        rw [hcu] at h3
        have hj2 : j < cs'.length := by omega
        have e : (cs'.drop (j * 1)).take 1 = [cs'[j]] := by
          rw [Nat.mul_one, List.drop_eq_getElem_cons hj2]; rfl
        rw [e, List.getElem?_eq_getElem (by omega)] at h3
        obtain ⟨k, e1, e2, hw⟩ := DataW.trod_int hu h3
        simp only [List.cons.injEq, and_true] at e1
        refine ⟨k, by simpa [Lit.wf, IntKind.min, IntKind.max, IntKind.signed, IntKind.bits, I64] using hw, ?_⟩
        rw [List.getElem?_eq_getElem hj2, e1]
      obtain ⟨x, hx64, hxc⟩ := g 0 (by omega)
      obtain ⟨y, hy64, hyc⟩ := g 1 (by omega)
      refine ⟨x, y, hx64, hy64, ?_, ?_⟩
      · have := hcell 0 (by omega)
        rw [hxc, add_none hs, add_none rfl] at this
        simpa using this
      · have := hcell 1 (by omega)
        rw [hyc, add_none hs, add_none rfl] at this
        rw [← this]
        congr 2
    let X : Nat → Int := fun i => if h : i < len then (each i h).choose else 0
    let Y : Nat → Int := fun i => if h : i < len then (each i h).choose_spec.choose else 0
    have hXY : ∀ i, i < len → I64 (X i) ∧ I64 (Y i) ∧ W.cell? ⟨a.block, a.off + i * 2, none⟩ = some (.int .i64 (X i)) ∧ W.cell? ⟨a.block, a.off + (i * 2 + 1), none⟩ = some (.int .i64 (Y i)) := fun i hi => by
      have hX : X i = (each i hi).choose := dif_pos hi
      have hY : Y i = (each i hi).choose_spec.choose := dif_pos hi
      rw [hX, hY]
      exact (each i hi).choose_spec.choose_spec
    refine ⟨(List.range len).map fun i => (X i, Y i), by simp; omega, fun p hp => ?_, ?_⟩
    · obtain ⟨i, hi, rfl⟩ := List.mem_map.1 hp
      have := hXY i (List.mem_range.1 hi)
      exact ⟨this.1, this.2.1⟩
    · refine isPv_row (sz := 2) hs (by simp) hl hm (by omega) (fun j => if j % 2 = 0 then .int .i64 (X (j / 2)) else .int .i64 (Y (j / 2))) (fun j hj => ?_) (fun k hk => by simp [encP, PV.cells]) (fun k hk c hcc => ?_)
      · have := hXY (j / 2) (by omega)
        by_cases h0 : j % 2 = 0
        · rw [if_pos h0, ← this.2.2.1]
          congr 3; omega
        · rw [if_neg h0, ← this.2.2.2]
          congr 3; omega
      · have hk' : k < len := by simpa using hk
        have e0 : (((List.range len).map fun i => (X i, Y i)).map encP)[k] = .agg [encI (X k), encI (Y k)] := by simp [encP]
        have e1 : (((List.range len).map fun i => (X i, Y i)).map encP)[k].cells = [encI (X k), encI (Y k)] := by rw [e0]; rfl
        have hc2 : c = 0 ∨ c = 1 := by rw [e1] at hcc; simp at hcc; omega
        rw [gl e1 hcc]
        rcases hc2 with rfl | rfl
        · simp only [List.getElem_cons_zero, encI]
          rw [if_pos (by omega), show (k * 2 + 0) / 2 = k by omega]
        · simp only [List.getElem_cons_succ, List.getElem_cons_zero, encI]
          rw [if_neg (by omega), show (k * 2 + 1) / 2 = k by omega]

/-- A law's contract, as a call. -/
theorem Pure.calls {f : FuncId} {args : List PV} (h : Pure P f args (.atom (.bool true)) []) {vs : Array Value} (hl : vs.size = args.length) (hv : ∀ i (h : i < args.length), IsPv W args[i] (vs.getD i undef)) :
    Calls P f vs W fun e W' => e = .returned (.bool true) ∧ Below W.heap.size W W' := by
  refine (h.2 (fun _ => False) (fun _ => none) (oldF W) W vs hl (fun i hi => hv i hi _ _) (fun b hb => hb)).mono fun e W' ⟨v, he, hb, ν, F', hr, _⟩ => ?_
  refine ⟨?_, hb⟩
  cases hr
  exact he
/-- All arguments read as they did. -/
theorem Below.trods (hl : laidOutB P = true) {W' : World} (hb : Below W.heap.size W W') : ∀ (ts : List TypeId) (vs : List Value) (ds : List (DataW H)) (ps : List MemPlace), (∀ t, t ∈ ts → P.readableRec t = true ∧ t < P.types.size) → (∀ x, x ∈ ps → x.block < W.heap.size) →
    DataW.TrodAll enc P W 0 (fun _ => true) true ts vs ds ps → DataW.TrodAll enc P W' 0 (fun b => decide (b < W.heap.size)) true ts vs ds ps
  | [], [], [], ps, _, _, h => h
  | t :: ts, v :: vs, d :: ds, ps, ht, hp, ⟨p, q, h1, h2, e⟩ => by
    subst e
    exact ⟨p, q, Below.trod hl (ht t (List.mem_cons_self ..)).1 (ht t (List.mem_cons_self ..)).2 h1 hb (fun x hx => hp x (List.mem_append_left _ hx)),
      Below.trods hl hb ts vs ds q (fun t h => ht t (List.mem_cons_of_mem _ h)) (fun x hx => hp x (List.mem_append_right _ hx)) h2, rfl⟩
  | [], _ :: _, _, _, _, _, h => h.elim
  | [], [], _ :: _, _, _, _, h => h.elim
  | _ :: _, [], _, _, _, _, h => h.elim
  | _ :: _, _ :: _, [], _, _, _, h => h.elim
end
end Go.Proofs.YtfnkciboencifaaDoor

