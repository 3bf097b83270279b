/-
  Walk: (collate.Spec).places: of each byte its group and its place.
-/
import Derived.Test.YtfnkciboencifaaDoorBColl
import Derived.Laws.ResultCell
import Derived.Laws.Tables
set_option linter.all false
namespace Go.Proofs.YtfnkciboencifaaDoor.Elder
open Go.RowKit
abbrev Trip := UInt8 × Nat × Nat
def plGroup (g : Nat) : List UInt8 → Nat → List Trip
  | [], _ => []
  | c :: l, i => (c, g, i) :: plGroup g l (i + 1)
def plFrom : List ByteArray → Nat → List Trip
  | [], _ => []
  | s :: l, g => plGroup g s.data.toList 0 ++ plFrom l (g + 1)
def lookT (seen : List Trip) (i : Nat) : Option Trip := seen.find? fun x => x.1.toNat == i
def grpT (seen : List Trip) (i : Nat) : Int := match lookT seen i with | some x => x.2.1 | none => -1
def plcT (seen : List Trip) (i : Nat) : Int := match lookT seen i with | some x => x.2.2 | none => 0
theorem lookT_cons (x : Trip) (seen : List Trip) (i : Nat) : lookT (x :: seen) i = if i = x.1.toNat then some x else lookT seen i := by
  unfold lookT
  rw [List.find?_cons]
  by_cases h : i = x.1.toNat
  · subst h; simp
  · have : (x.1.toNat == i) = false := by rw [beq_eq_false_iff_ne]; exact fun e => h e.symm
    rw [this, if_neg h]
theorem grpT_cons (c : UInt8) (g j : Nat) (seen : List Trip) (i : Nat) : grpT ((c, g, j) :: seen) i = if i = c.toNat then (g : Int) else grpT seen i := by
  unfold grpT; rw [lookT_cons]; by_cases h : i = c.toNat <;> simp [h]
theorem plcT_cons (c : UInt8) (g j : Nat) (seen : List Trip) (i : Nat) : plcT ((c, g, j) :: seen) i = if i = c.toNat then (j : Int) else plcT seen i := by
  unfold plcT; rw [lookT_cons]; by_cases h : i = c.toNat <;> simp [h]
theorem plFrom_drop {l : List ByteArray} {k : Nat} (h : k < l.length) : plFrom (l.drop k) k = plGroup k (ls l k).data.toList 0 ++ plFrom (l.drop (k + 1)) (k + 1) := by
  rw [drop_ls h]; rfl
theorem setRow_same {w : World} {g : Nat} {cs : Array Value} {t : TypeId} {fr : Nat × Nat} (h : w.heap[g]? = some (.cells cs t fr)) : w.setRow g cs = w := by
  have : (w.setRow g cs).heap = w.heap := by
    apply Array.ext_getElem?
    intro i
    simp only [World.setRow, Array.getElem?_modify]
    by_cases hi : g = i
    · subst hi; rw [if_pos rfl, h]; rfl
    · rw [if_neg hi]
  show ({ w with heap := (w.setRow g cs).heap } : World) = w
  rw [this]
theorem oneCell_int {A : Array Value} {n : Nat} {f : Nat → Value} (hn : A.size = n) (h : ∀ i, i < n → A[i]? = some (f i)) (hf : ∀ i, (f i).oneCell' = true) : A.all (·.oneCell') = true := by
  rw [Array.all_eq_true]
  intro i hi
  have := h i (by omega)
  rw [Array.getElem?_eq_getElem hi] at this
  rw [Option.some.inj this]
  exact hf i
theorem results_cells2 {P : Program} {fn : Func} {p q : Tmp} {ty : TypeId} (h : fn.results = #[.cell p ty, .cell q ty]) (tmps : Array Value) (w : World) (g k : Nat) (t t' : TypeId) (cs ds : Array Value) (fr fr' : Nat × Nat) (d : TypeDesc)
    (hp : tmps.getD p undef = .pointer (some ⟨g, 0, none⟩)) (hq : tmps.getD q undef = .pointer (some ⟨k, 0, none⟩)) (hg : w.heap[g]? = some (.cells cs t fr)) (hk : w.heap[k]? = some (.cells ds t' fr'))
    (hu : P.underlying ty = some d) (hd : (match d with | .struct _ | .array _ _ => true | _ => false) = true) (hi : (P.info? ty).map (·.size) = some cs.size) (hi' : (P.info? ty).map (·.size) = some ds.size) :
    (results fn tmps).run P w = .ok (.tuple #[.agg cs, .agg ds]) w := by
  have hp' : tmps[p]?.getD undef = .pointer (some ⟨g, 0, none⟩) := by simpa using hp
  have hq' : tmps[q]?.getD undef = .pointer (some ⟨k, 0, none⟩) := by simpa using hq
  simp [results, h, hp', hq', asAddr, run_loadVar_row w g t ty cs fr d hg hu hd hi, run_loadVar_row w k t' ty ds fr' d hk hu hd hi']
theorem det_load_row {P : Program} {R : World → World → Prop} {o : Oper} {a : Act} {w : World} (hR : R w w) (ty : TypeId) (x : Operand) (ho : o.op = .load ty x)
    (g : Nat) (hx : a.eval x = .pointer (some ⟨g, 0, none⟩)) (t : TypeId) (cs : Array Value) (fr : Nat × Nat) (d : TypeDesc) (hg : w.heap[g]? = some (.cells cs t fr))
    (hu : P.underlying ty = some d) (hd : (match d with | .struct _ | .array _ _ => true | _ => false) = true) (hi : (P.info? ty).map (·.size) = some cs.size) : detRun P R o a w (.agg cs) := by
  unfold detRun execOp
  simp only [ho, hx, Instr.loadAt, Instr.sureAddr, Sem.run_bind, Sem.run_pure, Result.andThen_ok, run_loadVar_row w g t ty cs fr d hg hu hd hi]
  exact ⟨hR, rfl⟩
theorem det_store_same {P : Program} {R : World → World → Prop} {o : Oper} {a : Act} {w : World} (hR : R w w) (ty : TypeId) (x y : Operand) (ho : o.op = .store ty x y)
    (g : Nat) (cells : Array Value) (hx : a.eval x = .pointer (some ⟨g, 0, none⟩)) (hy : a.eval y = .agg cells)
    (t : TypeId) (hg : w.heap[g]? = some (.cells cells t (0, 0))) (hi : (P.info? ty).map (·.size) = some cells.size) (h1 : cells.all (·.oneCell') = true) : detRun P R o a w undef := by
  unfold detRun execOp
  simp only [ho, hx, hy, Instr.storeAt, Instr.sureAddr, Sem.run_bind, Sem.run_pure, Result.andThen_ok, run_storeVar_row w g t ty cells cells hg hi rfl h1, setRow_same hg]
  exact ⟨hR, rfl⟩
abbrev grpF (seen : List Trip) (i : Nat) : Value := .int .i64 (grpT seen i)
abbrev plcF (seen : List Trip) (i : Nat) : Value := .int .i64 (plcT seen i)
abbrev mOne (n : Nat) (i : Nat) : Value := .int .i64 (if i < n then -1 else 0)
theorem zero256 : ∀ i, i < 256 → Tryd.zeroCells104[i]? = some (.int .i64 0) := by
  have h : Tryd.zeroCells104 = Array.replicate 256 (.int .i64 0) := by kernel_rfl
  intro i hi
  rw [h]
  simp [hi]
set_option maxRecDepth 100000 in
theorem places_any (v : Value) (d : SpecD) (w : World) (h : SpecAt w v d) (hn : d.order.length ≤ 64) :
    Calls Tryd.prog 66 #[v] w fun e w' => ∃ A B, e = .returned (.tuple #[.agg A, .agg B]) ∧ A.size = 256 ∧ B.size = 256 ∧
      (∀ i, i < 256 → A[i]? = some (grpF (plFrom d.order 0).reverse i)) ∧ (∀ i, i < 256 → B[i]? = some (plcF (plFrom d.order 0).reverse i)) ∧ Ext w w' := by
  obtain ⟨vs, vo, rfl, hs, ho⟩ := h
  obtain ⟨oa, oc, rfl, hlo, _, _, qo⟩ := Elems.open ho.1
  obtain ⟨PL, hPL⟩ : ∃ PL, PL = (plFrom d.order 0).reverse := ⟨_, rfl⟩
  rw [← hPL]
  have hPL' := Lib.hid hPL
  clear hPL
  go_enter Tryd.func66, Tryd.ntmps66
  go_wp2_with fail
  have hE0 : Ext (w.alloc (Obj.cells #[Value.bool d.words, vs, Value.bool d.numbers, Value.slice oa d.order.length oc] 33))
      (((w.alloc (Obj.cells #[Value.bool d.words, vs, Value.bool d.numbers, Value.slice oa d.order.length oc] 33)).alloc (Obj.cells Tryd.zeroCells104 104)).alloc (Obj.cells Tryd.zeroCells104 104)) := (Ext.alloc _ _).trans (Ext.alloc _ _)
  have hE1 : Ext w (w.alloc (Obj.cells #[Value.bool d.words, vs, Value.bool d.numbers, Value.slice oa d.order.length oc] 33)) := Ext.alloc _ _
  have k3 : (w.alloc (Obj.cells #[Value.bool d.words, vs, Value.bool d.numbers, Value.slice oa d.order.length oc] 33)).cell? ⟨w.heap.size, 3, none⟩ = some (Value.slice oa d.order.length oc) := (Ext.refl _).box (i := 3) rfl
  have hsz : (w.alloc (Obj.cells #[Value.bool d.words, vs, Value.bool d.numbers, Value.slice oa d.order.length oc] 33)).heap.size = w.heap.size + 1 := by simp
  generalize w.alloc (Obj.cells #[Value.bool d.words, vs, Value.bool d.numbers, Value.slice oa d.order.length oc] 33) = W1 at *
  have hG0 : ArrAt ((W1.alloc (Obj.cells Tryd.zeroCells104 104)).alloc (Obj.cells Tryd.zeroCells104 104)) (w.heap.size + 1) 256 (mOne 0) := by
    rw [← hsz]
    exact (ArrAt.new _ _ _ (mOne 0) 256 (by kernel_rfl) (fun i hi => by rw [zero256 i hi]; simp [mOne])).ext (Ext.alloc _ _)
  have hL0 : ArrAt ((W1.alloc (Obj.cells Tryd.zeroCells104 104)).alloc (Obj.cells Tryd.zeroCells104 104)) (w.heap.size + 1 + 1) 256 (plcF []) := by
    rw [← hsz, show W1.heap.size + 1 = (W1.alloc (Obj.cells Tryd.zeroCells104 104)).heap.size by simp]
    exact ArrAt.new _ _ _ (plcF []) 256 (by kernel_rfl) (fun i hi => by rw [zero256 i hi]; rfl)
  generalize (W1.alloc (Obj.cells Tryd.zeroCells104 104)).alloc (Obj.cells Tryd.zeroCells104 104) = W2 at *
  go_loopw [9] (fun i wr => ∃ k : Nat, k ≤ 256 ∧ i = .int .i64 k ∧ ArrAt wr (w.heap.size + 1) 256 (mOne k) ∧ ArrAt wr (w.heap.size + 1 + 1) 256 (plcF []) ∧ Ext W1 wr) (fun i _ => 256 - (intOf i).toNat)
  case atStart => exact ⟨0, by omega, rfl, hG0, hL0, hE0⟩
  case round =>
    obtain ⟨k, hk, rfl, hG, hL, hE⟩ := hrel
    by_cases hlt : k < 256
    · have hcell := hG.cell hlt
      have hfree := hG.free k
      have hG' := Lib.hid ((hG.set k (.int .i64 (-1))).congr (g := mOne (k + 1)) (fun i _ => by
        simp only [mOne]
        by_cases h1 : i = k
        · subst h1; simp
        · rw [if_neg h1]; by_cases h2 : i < k
          · rw [if_pos h2, if_pos (by omega)]
          · rw [if_neg h2, if_neg (by omega)]))
      have hL' := Lib.hid (hL.set_other (p := ⟨w.heap.size + 1, k, none⟩) (by simp) (.int .i64 (-1)))
      have hE' := Lib.hid (Below.setCell hE (p := ⟨w.heap.size + 1, k, none⟩) (by simp [hsz]) (.int .i64 (-1)))
      clear hG hL hE hG0 hL0 hE0
      go_wp2_with fail
      go_roundw
      case rel => exact ⟨k + 1, by omega, by go_num, hG'.out, hL'.out, hE'.out⟩
      case measure => simp [intOf]; omega
    · have hk2 : k = 256 := by omega
      have hG1 := hG.congr (g := grpF []) (fun i hi => by simp only [mOne, hk2, if_pos hi]; rfl)
      have k3' := hE.cell k3
      have hE0' := hE
      clear hG0 hL0 hE0 hG k3
      have hs1 := Lib.hid hsz
      have hE1' := Lib.hid hE1
      clear hE1
      go_wp2_with fail
      obtain ⟨wo, rfl⟩ : ∃ wo : World, wo = wr := ⟨_, rfl⟩
      clear k3'
      go_loopw [18] (fun i wr => ∃ k seen, k ≤ d.order.length ∧ i = .int .i64 (k : Nat) ∧ plFrom d.order 0 = seen.reverse ++ plFrom (d.order.drop k) k ∧ ArrAt wr (w.heap.size + 1) 256 (grpF seen) ∧ ArrAt wr (w.heap.size + 1 + 1) 256 (plcF seen) ∧ Ext W1 wr) (fun i _ => d.order.length - (intOf i).toNat)
      case atStart => exact ⟨0, [], by omega, rfl, rfl, hG1, hL, hE0'⟩
      case round =>
        obtain ⟨k, seen, hk, rfl, hinv, hG, hL, hE⟩ := hrel
        by_cases hlt : k < d.order.length
        · obtain ⟨b, o, rfl, hc⟩ := qo k hlt
          have hcr := (hE1'.out.trans hE).cell hc
          rw [plFrom_drop hlt] at hinv
          obtain ⟨cap, W3, hcv, hE2, hz2, hby⟩ := bytes_run wr (ls d.order k)
          have hG2 := hG.ext hE2
          have hL2 := hL.ext hE2
          have hne1 : wr.heap.size ≠ w.heap.size + 1 := by have := hG.lt; omega
          have hne2 : wr.heap.size ≠ w.heap.size + 1 + 1 := by have := hL.lt; omega
          have hE3 := hE.trans hE2
          generalize hB2 : wr.heap.size = B2 at *
          clear hG hL hE hE2 hB2 hG1
          have hgz := ho.2 k
          generalize hsz' : ls d.order k = g at *
          have hinv' := Lib.hid hinv
          have hby' := Lib.hid hby
          have hG' := Lib.hid hG2
          have hL' := Lib.hid hL2
          clear hinv qo hs ho hc hG2 hL2 hsz' hby hsz
          go_wp2_with fail
          obtain ⟨wo, rfl⟩ : ∃ wo : World, wo = wr := ⟨_, rfl⟩
          go_loopw [26] (fun i wq => ∃ j sn, j ≤ g.size ∧ i = .int .i64 (j : Nat) ∧ plFrom d.order 0 = sn.reverse ++ (plGroup k (g.data.toList.drop j) j ++ plFrom (d.order.drop (k + 1)) (k + 1)) ∧ ArrAt wq (w.heap.size + 1) 256 (grpF sn) ∧ ArrAt wq (w.heap.size + 1 + 1) 256 (plcF sn) ∧ Ext W1 wq ∧ (∀ i, i < g.size → wq.cell? ⟨B2, i, none⟩ = some (.int .u8 ((bt g i).toNat : Nat)))) (fun i _ => g.size - (intOf i).toNat)
          case atStart => exact ⟨0, seen, Nat.zero_le _, rfl, hinv'.out, hG'.out, hL'.out, hE3, hby'.out⟩
          case round =>
            obtain ⟨j, sn, hj, rfl, hiv, hGq, hLq, hEq, hbq⟩ := hrel
            by_cases hjl : j < g.size
            · have hcb := hbq j hjl
              rw [drop_bt hjl, plGroup] at hiv
              have hlt256 := bt_lt g j
              have hbq' := Lib.hid hbq
              clear hbq
              generalize bt g j = c at *
              have hiv' : plFrom d.order 0 = ((c, k, j) :: sn).reverse ++ (plGroup k (g.data.toList.drop (j + 1)) (j + 1) ++ plFrom (d.order.drop (k + 1)) (k + 1)) := by rw [hiv]; simp
              have hiv'' := Lib.hid hiv'
              have hcell1 := hGq.cell (i := c.toNat) (by omega)
              have hfree1 := hGq.free c.toNat
              have hcell2 : (wr.setCell ⟨w.heap.size + 1, c.toNat, none⟩ (.int .i64 (k : Nat))).cell? ⟨w.heap.size + 1 + 1, c.toNat, none⟩ = some (plcF sn c.toNat) := (hLq.set_other (p := ⟨w.heap.size + 1, c.toNat, none⟩) (by simp) _).cell (by omega)
              have hfree2 : (wr.setCell ⟨w.heap.size + 1, c.toNat, none⟩ (.int .i64 (k : Nat))).frozen? ⟨w.heap.size + 1 + 1, c.toNat, none⟩ = false := (hLq.set_other (p := ⟨w.heap.size + 1, c.toNat, none⟩) (by simp) _).free _
              have hG3 := Lib.hid (((hGq.set c.toNat (.int .i64 (k : Nat))).set_other (p := ⟨w.heap.size + 1 + 1, c.toNat, none⟩) (by simp) (.int .i64 (j : Nat))).congr (g := grpF ((c, k, j) :: sn)) (fun i _ => by simp only [grpF, grpT_cons]; split <;> rfl))
              have hL3 := Lib.hid (((hLq.set_other (p := ⟨w.heap.size + 1, c.toNat, none⟩) (by simp) (.int .i64 (k : Nat))).set c.toNat (.int .i64 (j : Nat))).congr (g := plcF ((c, k, j) :: sn)) (fun i _ => by simp only [plcF, plcT_cons]; split <;> rfl))
              have hE4 := Lib.hid (Below.setCell (Below.setCell hEq (p := ⟨w.heap.size + 1, c.toNat, none⟩) (by rw [hs1.out]; exact Nat.le_refl _) (.int .i64 (k : Nat))) (p := ⟨w.heap.size + 1 + 1, c.toNat, none⟩) (by rw [hs1.out]; exact Nat.le_succ _) (.int .i64 (j : Nat)))
              have hb4 : Hid (∀ i, i < g.size → ((wr.setCell ⟨w.heap.size + 1, c.toNat, none⟩ (.int .i64 (k : Nat))).setCell ⟨w.heap.size + 1 + 1, c.toNat, none⟩ (.int .i64 (j : Nat))).cell? ⟨B2, i, none⟩ = some (.int .u8 ((bt g i).toNat : Nat))) := fun i hi => by
                rw [← hbq'.out i hi]
                exact (World.cell?_of_block (Below.heap_setCell _ _ _ _ hne2)).trans (World.cell?_of_block (Below.heap_setCell _ _ _ _ hne1))
              clear hiv hiv' hGq hLq hEq
              go_wp2_with fail
              go_roundw
              case rel => exact ⟨j + 1, (c, k, j) :: sn, by omega, by go_num, hiv''.out, hG3.out, hL3.out, hE4.out, hb4.out⟩
              case measure => simp [intOf]; omega
            · rw [drop_all (l := g.data.toList) (by simpa using Nat.le_of_not_lt hjl), plGroup, List.nil_append] at hiv
              have hiv' := Lib.hid hiv
              clear hiv hbq
              go_wp2_with fail
              go_roundw
              case rel => exact ⟨k + 1, sn, by omega, by go_num, hiv'.out, hGq, hLq, hEq⟩
              case measure => simp [intOf]; omega
        · rw [drop_all (l := d.order) (by omega), plFrom, List.append_nil] at hinv
          have hrev : PL = seen := by rw [hPL'.out, hinv, List.reverse_reverse]
          clear hPL'
          subst hrev
          have hE' := hE1'.out.trans hE
          clear qo hs ho hinv hG1
          go_wp2_with fail
          obtain ⟨A, ea, hA1, hA2, hA3⟩ := hG
          obtain ⟨B, eb, hB1, hB2, hB3⟩ := hL
          have hoA : A.all (·.oneCell') = true := oneCell_int hA2 hA3 (fun _ => rfl)
          have hoB : B.all (·.oneCell') = true := oneCell_int hB2 hB3 (fun _ => rfl)
          refine wp_region_grows 4 (fun _ => none) (fun _ W => W.heap = wr.heap ∧ Ext wr W) (fun _ W W' => W'.heap = W.heap ∧ Ext W W') yTrue [[], [], [0], [1]] (by kernel_rfl) (by kernel_rfl) (fun _ _ _ _ _ hR hP => ⟨hR.1.trans hP.1, hP.2.trans hR.2⟩) (fun _ _ h => by cases h) (fun _ _ _ _ _ => trivial) (fun _ => ⟨rfl, Ext.drew _⟩) (fun s => ?_)
          have hi256 : (Tryd.prog.info? 104).map (·.size) = some 256 := by kernel_rfl
          have hiA : (Tryd.prog.info? 104).map (·.size) = some A.size := by rw [hA2]; exact hi256
          have hiB : (Tryd.prog.info? 104).map (·.size) = some B.size := by rw [hB2]; exact hi256
          refine RunG.det (c := .agg A) rfl rfl (fun W hW _ => det_load_row ⟨rfl, Ext.refl _⟩ _ _ rfl _ rfl _ _ _ _ (by rw [hW.1]; exact hA1) Tryd.underlying104 rfl hiA) ?_
          simp only [Act.put, List.setIfInBounds_toArray, List.set_cons_zero, List.set_cons_succ]
          refine RunG.det (c := .agg B) rfl rfl (fun W hW _ => det_load_row ⟨rfl, Ext.refl _⟩ _ _ rfl _ rfl _ _ _ _ (by rw [hW.1]; exact hB1) Tryd.underlying104 rfl hiB) ?_
          simp only [Act.put, List.setIfInBounds_toArray, List.set_cons_zero, List.set_cons_succ]
          refine RunG.det (c := undef) rfl rfl (fun W hW _ => det_store_same ⟨rfl, Ext.refl _⟩ _ _ _ rfl _ A rfl rfl _ (by rw [hW.1]; exact hA1) hiA hoA) ?_
          refine RunG.det (c := undef) rfl rfl (fun W hW _ => det_store_same ⟨rfl, Ext.refl _⟩ _ _ _ rfl _ B rfl rfl _ (by rw [hW.1]; exact hB1) hiB hoB) ?_
          refine RunG.done ?_
          intro W hW _ _
          clear hi256 hoA hoB
          simp only [Act.put]
          go_wp2_with fail
          refine bodyPost_ret (results_cells2 rfl _ _ _ _ _ _ A B _ _ _ rfl rfl (by rw [hW.1]; exact hA1) (by rw [hW.1]; exact hB1) Tryd.underlying104 rfl hiA hiB) rfl ?_
          exact ⟨A, B, rfl, hA2, hB2, hA3, hB3, hE'.trans hW.2⟩
end Go.Proofs.YtfnkciboencifaaDoor.Elder
