/-
  Walks: collate.Valid.
-/
import Derived.Test.YtfnkciboencifaaDoorBVal
import Derived.Deep.LoopGhost
import Derived.Deep.DeepCutAuto
set_option linter.all false
namespace Go.Proofs.YtfnkciboencifaaDoor.Elder
open Go.RowKit
structure SpecD where
  words : Bool
  skip : List ByteArray
  numbers : Bool
  order : List ByteArray
def SpecAt (w : World) (v : Value) (d : SpecD) : Prop :=
  ∃ vs vo, v = .agg #[.bool d.words, vs, .bool d.numbers, vo] ∧ StrsAt w vs d.skip ∧ StrsAt w vo d.order
theorem SpecAt.ext {w w' : World} {v : Value} {d : SpecD} (h : SpecAt w v d) (hE : Ext w w') : SpecAt w' v d := by
  obtain ⟨vs, vo, rfl, h1, h2⟩ := h
  exact ⟨vs, vo, rfl, h1.ext hE, h2.ext hE⟩
def badB (c : UInt8) : Bool := decide (c.toNat < 33) || decide (126 < c.toNat)
def scanB : List UInt8 → List UInt8 → Bool → Option Bool
  | [], _, t => some t
  | c :: l, seen, t => if badB c then none else scanB l (c :: seen) (t || seen.contains c)
def bytesOf (l : List ByteArray) : List UInt8 := l.flatMap fun s => s.data.toList
def scanErr : Option Bool → Int
  | none => 1
  | some true => 7
  | some false => 0
def validD (d : SpecD) : Int :=
  if 64 < d.order.length ∨ 16 < d.skip.length then 4
  else if (d.skip.any fun x => !smallS x) || Lib.containsS d.order ⟨#[]⟩ then 1
  else scanErr (scanB (bytesOf d.order) [] false)
theorem bytesOf_drop {l : List ByteArray} {k : Nat} (h : k < l.length) : bytesOf (l.drop k) = (ls l k).data.toList ++ bytesOf (l.drop (k + 1)) := by
  rw [drop_ls h]; simp [bytesOf]
def metB (seen : List UInt8) (i : Nat) : Bool := seen.any fun c => c.toNat == i
abbrev metF (seen : List UInt8) (i : Nat) : Value := .bool (metB seen i)
theorem metB_contains (seen : List UInt8) (c : UInt8) : metB seen c.toNat = seen.contains c := by
  rw [Bool.eq_iff_iff, List.contains_iff_mem, metB, List.any_eq_true]
  constructor
  · rintro ⟨x, hx, he⟩
    have : x = c := UInt8.toNat_inj.1 (by simpa using he)
    exact this ▸ hx
  · intro h
    exact ⟨c, h, by simp⟩
theorem metB_cons (seen : List UInt8) (c : UInt8) (i : Nat) : metB (c :: seen) i = if i = c.toNat then true else metB seen i := by
  unfold metB
  rw [List.any_cons]
  by_cases h : i = c.toNat
  · simp [h]
  · rw [if_neg h]
    have : (c.toNat == i) = false := by rw [beq_eq_false_iff_ne]; exact fun e => h e.symm
    rw [this]; rfl
theorem zero128 : ∀ i, i < 128 → Tryd.zeroCells76[i]? = some (metF [] i) := by
  have h : Tryd.zeroCells76 = Array.replicate 128 (.bool false) := by kernel_rfl
  intro i hi
  rw [h]
  simp [hi, metB]
theorem badB_iff {c : UInt8} : badB c = true ↔ ((c.toNat : Int) < 33 ∨ 126 < (c.toNat : Int)) := by unfold badB; simp; omega
set_option maxRecDepth 100000 in
theorem Valid_any (v : Value) (d : SpecD) (w : World) (h : SpecAt w v d) :
    Calls Tryd.prog 13 #[v] w fun e w' => e = .returned (.int .i64 (validD d)) ∧ Ext w w' := by
  obtain ⟨vs, vo, rfl, hs, ho⟩ := h
  by_cases h1 : d.order.length ≤ 64
  · by_cases h2 : d.skip.length ≤ 16
    · have c1 := fun W hE => Lib.hid (ContainsFunc_any _ enters_Valid1 (fun x => !smallS x) vs d.skip W (hs.ext hE) (fun W x _ => Valid1_any x W))
      have c2 := fun W hE => Lib.hid (Contains_any vo d.order ⟨#[]⟩ W (ho.ext hE))
      obtain ⟨sa, sc, rfl, hls, _, _, qs⟩ := Elems.open hs.1
      obtain ⟨oa, oc, rfl, hlo, _, _, qo⟩ := Elems.open ho.1
      by_cases h3 : (d.skip.any fun x => !smallS x) = true
      · have hv := Lib.hid (show validD d = 1 by unfold validD; rw [if_neg (by omega), if_pos (by rw [h3]; rfl)])
        rw [h3] at c1
        clear qs qo hs ho h3
        go_enter Tryd.func13, Tryd.ntmps13
        go_wp2_with fail
        refine ((c1 _ (Ext.alloc _ _)).out).mono ?_
        rintro e w' ⟨rfl, hb⟩
        have hb0 := hb.of_alloc
        clear hb c1 c2
        go_wp2_with fail
        go_ret
        exact ⟨by rw [hv.out]; rfl, hb0⟩
      · have h3' : (d.skip.any fun x => !smallS x) = false := by simpa using h3
        rw [h3'] at c1
        by_cases h4 : Lib.containsS d.order ⟨#[]⟩ = true
        · have hv := Lib.hid (show validD d = 1 by unfold validD; rw [if_neg (by omega), if_pos (by rw [h4, h3']; rfl)])
          rw [h4] at c2
          clear qs qo hs ho h3 h3' h4
          go_enter Tryd.func13, Tryd.ntmps13
          go_wp2_with fail
          refine ((c1 _ (Ext.alloc _ _)).out).mono ?_
          rintro e w' ⟨rfl, hb⟩
          have k3 := hb.box (i := 3) rfl
          have hb0 := hb.of_alloc
          clear hb
          go_wp2_with fail
          refine ((c2 _ hb0).out).mono ?_
          rintro e w1 ⟨rfl, rfl⟩
          clear c1 c2
          go_wp2_with fail
          go_ret
          exact ⟨by rw [hv.out]; rfl, hb0⟩
        · have h4' : Lib.containsS d.order ⟨#[]⟩ = false := by simpa using h4
          rw [h4'] at c2
          have hv := Lib.hid (show validD d = scanErr (scanB (bytesOf d.order) [] false) by unfold validD; rw [if_neg (by omega), if_neg (by rw [h3', h4']; decide)])
          clear h3 h3' h4 h4'
          go_enter Tryd.func13, Tryd.ntmps13
          go_wp2_with fail
          refine ((c1 _ (Ext.alloc _ _)).out).mono ?_
          rintro e w' ⟨rfl, hb⟩
          have k1 := hb.box (i := 1) rfl
          have k3 := hb.box (i := 3) rfl
          have hz := hb.room
          have hb0 := hb.of_alloc
          clear hb
          go_wp2_with fail
          refine ((c2 _ hb0).out).mono ?_
          rintro e w1 ⟨rfl, rfl⟩
          clear c1 c2
          go_wp2_with fail
          have hE0 : Ext w' (w'.alloc (Obj.cells Tryd.zeroCells76 76)) := Ext.alloc _ _
          have hA0 : ArrAt (w'.alloc (Obj.cells Tryd.zeroCells76 76)) w'.heap.size 128 (metF []) := ArrAt.new _ _ _ _ _ (by kernel_rfl) (fun i hi => zero128 i hi)
          generalize hW1 : w'.alloc (Obj.cells Tryd.zeroCells76 76) = W1 at *
          clear hW1 k1 k3
          go_loopw [4, 30] (fun t i wr => ∃ k seen tw, k ≤ d.order.length ∧ i = .int .i64 (k : Nat) ∧ t = .bool tw ∧ scanB (bytesOf d.order) [] false = scanB (bytesOf (d.order.drop k)) seen tw ∧ ArrAt wr w'.heap.size 128 (metF seen) ∧ Ext w' wr) (fun _ i _ => d.order.length - (intOf i).toNat)
          case atStart => exact ⟨0, [], false, Nat.zero_le _, rfl, rfl, rfl, hA0, hE0⟩
          case round =>
            obtain ⟨k, seen, tw, hk, rfl, rfl, hinv, hA, hE⟩ := hrel
            by_cases hlt : k < d.order.length
            · obtain ⟨b, o, rfl, hc⟩ := qo k hlt
              have hcr := (hb0.trans hE).cell hc
              rw [bytesOf_drop hlt] at hinv
              obtain ⟨cap, W2, hcv, hE2, hz2, hby⟩ := bytes_run wr (ls d.order k)
              have hA2 := hA.ext hE2
              have hne : wr.heap.size ≠ w'.heap.size := by have := hA.lt; omega
              have hE3 := hE.trans hE2
              generalize hB2 : wr.heap.size = B2 at *
              clear hA hE hE2 hB2
              have hgz := ho.2 k
              generalize hsz : ls d.order k = g at *
              have hinv' := Lib.hid hinv
              have hby' := Lib.hid hby
              have hA' := Lib.hid hA2
              have hb0' := Lib.hid hb0
              clear hinv qo qs hs ho hc hA2 hsz hby hb0 hA0 hE0
              go_wp2_with fail
              obtain ⟨wo, rfl⟩ : ∃ wo : World, wo = wr := ⟨_, rfl⟩
              go_loopw [4, 37] (fun t i wq => ∃ j sn tv, j ≤ g.size ∧ i = .int .i64 (j : Nat) ∧ t = .bool tv ∧ scanB (bytesOf d.order) [] false = scanB (g.data.toList.drop j ++ bytesOf (d.order.drop (k + 1))) sn tv ∧ ArrAt wq w'.heap.size 128 (metF sn) ∧ Ext w' wq ∧ (∀ i, i < g.size → wq.cell? ⟨B2, i, none⟩ = some (.int .u8 ((bt g i).toNat : Nat)))) (fun _ i _ => g.size - (intOf i).toNat)
              case atStart => exact ⟨0, seen, tw, Nat.zero_le _, rfl, rfl, hinv'.out, hA'.out, hE3, hby'.out⟩
              case round =>
                obtain ⟨j, sn, tv, hj, rfl, rfl, hiv, hAq, hEq, hbq⟩ := hrel
                by_cases hjl : j < g.size
                · have hcb := hbq j hjl
                  rw [drop_bt hjl, List.cons_append, scanB] at hiv
                  have hlt256 := bt_lt g j
                  have hbq' := Lib.hid hbq
                  clear hbq
                  generalize bt g j = c at *
                  by_cases hbad : badB c = true
                  · rw [if_pos hbad] at hiv
                    have hiv' := Lib.hid hiv
                    have hbd := badB_iff.1 hbad
                    clear hiv hbad
                    rcases hbd with hbd | hbd
                    · go_wp2_with fail
                      go_ret
                      exact ⟨by rw [hv.out, hiv'.out]; rfl, hb0'.out.trans hEq⟩
                    · have hbd2 : ¬ (c.toNat : Int) < 33 := by omega
                      go_wp2_with fail
                      go_ret
                      exact ⟨by rw [hv.out, hiv'.out]; rfl, hb0'.out.trans hEq⟩
                  · rw [if_neg hbad] at hiv
                    have hnb : ¬ ((c.toNat : Int) < 33 ∨ 126 < (c.toNat : Int)) := fun h => hbad (badB_iff.2 h)
                    have hb1 : 33 ≤ (c.toNat : Int) := by omega
                    have hb2 : (c.toNat : Int) ≤ 126 := by omega
                    have hcell := hAq.cell (i := c.toNat) (by omega)
                    have hfree := hAq.free c.toNat
                    have hA3 := Lib.hid ((hAq.set c.toNat (.bool true)).congr (g := metF (c :: sn)) (fun i _ => by simp only [metF, metB_cons]; split <;> rfl))
                    have hE4 := Lib.hid (Below.setCell hEq (p := ⟨w'.heap.size, c.toNat, none⟩) (Nat.le_refl _) (.bool true))
                    have hb4 : Hid (∀ i, i < g.size → (wr.setCell ⟨w'.heap.size, c.toNat, none⟩ (.bool true)).cell? ⟨B2, i, none⟩ = some (.int .u8 ((bt g i).toNat : Nat))) := fun i hi => by
                      rw [← hbq'.out i hi]
                      exact World.cell?_of_block (Below.heap_setCell _ _ _ _ hne)
                    rw [← metB_contains] at hiv
                    have hiv' := Lib.hid hiv
                    clear hiv hbad hnb hAq hEq
                    cases tv
                    · go_wp2_with fail
                      go_roundw
                      case rel => exact ⟨j + 1, c :: sn, _, by omega, by go_num, rfl, by rw [hiv'.out]; rfl, hA3.out, hE4.out, hb4.out⟩
                      case measure => simp [intOf]; omega
                    · go_wp2_with fail
                      go_roundw
                      case rel => exact ⟨j + 1, c :: sn, _, by omega, by go_num, rfl, by rw [hiv'.out]; rfl, hA3.out, hE4.out, hb4.out⟩
                      case measure => simp [intOf]; omega
                · rw [drop_all (l := g.data.toList) (by simpa using Nat.le_of_not_lt hjl), List.nil_append] at hiv
                  have hiv' := Lib.hid hiv
                  clear hiv hbq
                  go_wp2_with fail
                  go_roundw
                  case rel => exact ⟨k + 1, sn, tv, by omega, by go_num, rfl, hiv'.out, hAq, hEq⟩
                  case measure => simp [intOf]; omega
            · rw [drop_all (l := d.order) (by omega)] at hinv
              have hinv' := Lib.hid hinv
              clear hinv qo qs hs ho
              cases tw
              · go_wp2_with fail
                go_ret
                exact ⟨by rw [hv.out, hinv'.out]; rfl, hb0.trans hE⟩
              · go_wp2_with fail
                go_ret
                exact ⟨by rw [hv.out, hinv'.out]; rfl, hb0.trans hE⟩
    · have hv := Lib.hid (show validD d = 4 by unfold validD; rw [if_pos (by omega)])
      obtain ⟨sa, sc, rfl, hls, _, _, qs⟩ := Elems.open hs.1
      obtain ⟨oa, oc, rfl, hlo, _, _, qo⟩ := Elems.open ho.1
      clear qs qo hs ho
      go_enter Tryd.func13, Tryd.ntmps13
      go_wp2_with fail
      go_ret
      exact ⟨by rw [hv.out]; rfl, Ext.alloc _ _⟩
  · have hv := Lib.hid (show validD d = 4 by unfold validD; rw [if_pos (by omega)])
    obtain ⟨sa, sc, rfl, hls, _, _, qs⟩ := Elems.open hs.1
    obtain ⟨oa, oc, rfl, hlo, _, _, qo⟩ := Elems.open ho.1
    clear qs qo hs ho
    go_enter Tryd.func13, Tryd.ntmps13
    go_wp2_with fail
    go_ret
    exact ⟨by rw [hv.out]; rfl, Ext.alloc _ _⟩
end Go.Proofs.YtfnkciboencifaaDoor.Elder
