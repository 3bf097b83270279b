/-
  The clean machine: slices of slices, new rows, appends.
-/
import Derived.Test.YtfnkciboencifaaDoorPV3
set_option linter.all false
namespace Go.Proofs.YtfnkciboencifaaDoor
open Go Go.RowKit

/-- A bound of a slice expression. -/
def bnd (S : St) (d : Nat) : Option Operand → Option Int
  | none => some d
  | some y => match S.ev y with | .atom (.int _ n) => some n | _ => none

section
variable {P : Program}

theorem bnd_val {D : Nat → Prop} {μ : Nat → Option Nat} {F : Nat → Prop} {w : World} {S : St} {a : Act} {d : Nat} {lo : Option Operand} {l : Int} (h : bnd S d lo = some l) (hx : ∀ y, lo = some y → Rep D μ F w (S.ev y) (a.eval y)) :
    (lo.map a.eval = none ∧ l = d) ∨ ∃ k, lo.map a.eval = some (.int k l) := by
  cases lo with
  | none => simp [bnd] at h; exact .inl ⟨rfl, h.symm⟩
  | some y =>
    simp only [bnd] at h
    split at h <;> try (cases h; done)
    rename_i k n hn
    cases h
    exact .inr ⟨k, by simp [ev_atom (hx y rfl) hn]⟩

theorem run_bounds {w : World} {isS : Bool} {len cap : Nat} {lo hi : Option Value} {l h : Int} (hl : (lo = none ∧ l = (0 : Nat)) ∨ ∃ k, lo = some (.int k l)) (hh : (hi = none ∧ h = len) ∨ ∃ k, hi = some (.int k h)) (h0 : 0 ≤ l) (h1 : l ≤ h) (h2 : h ≤ cap) :
    (Instr.sliceBounds isS len cap lo hi none).run P w = .ok (l.toNat, h.toNat, cap) w := by
  have hhn : 0 ≤ h := by omega
  rcases hl with ⟨rfl, rfl⟩ | ⟨k, rfl⟩
  · rcases hh with ⟨rfl, rfl⟩ | ⟨k2, rfl⟩
    · simp [Instr.sliceBounds]
    · simp [Instr.sliceBounds, run_sliceBound w k2 h cap _ hhn h2]
  · rcases hh with ⟨rfl, rfl⟩ | ⟨k2, rfl⟩
    · simp [Instr.sliceBounds, run_sliceBound w k l len _ h0 h1]
    · have := run_sliceBound (P := P) w k l h.toNat .sliceB h0 (by omega)
      simp [Instr.sliceBounds, run_sliceBound w k2 h cap _ hhn h2, this]

theorem Sound.sliceStr {t : TypeId} {x : Operand} {lo hi : Option Operand} {S : St} {s : ByteArray} {l h : Int} (hx : S.ev x = .atom (.string s)) (ht : tStr P t = true) (hlo : bnd S 0 lo = some l) (hhi : bnd S s.size hi = some h) (h0 : 0 ≤ l) (h1 : l ≤ h) (h2 : h ≤ s.size) :
    Sound P (.slice t x lo hi none) S (.atom (.string (s.extract l.toNat h.toNat))) e0 := Sound.quiet fun op a w0 F0 D μ F H w hop hH hxs hr => by
  have hp := ev_atom (hxs x (by simp [Op.operands])) hx
  have hl := bnd_val hlo (fun y hy => hxs y (by simp [Op.operands, hy]))
  have hh := bnd_val hhi (fun y hy => hxs y (by simp [Op.operands, hy]))
  have hb := run_bounds (P := P) (w := w) (isS := false) (cap := s.size) hl hh h0 h1 h2
  refine ⟨_, ?_, .atom _⟩
  unfold execOp
  simp [hop, hp, Instr.sliceAt, Instr.slice, run_underlying (und_str ht), hb]

theorem run_sliceSl {w : World} {t e : TypeId} {sz : Nat} (he : tElem P t = some e) (hs : tSize P e = some sz) (ad : Option Addr) (len cap : Nat) {lo hi : Option Value} {l h : Int} (hl : (lo = none ∧ l = (0 : Nat)) ∨ ∃ k, lo = some (.int k l)) (hh : (hi = none ∧ h = len) ∨ ∃ k, hi = some (.int k h)) (h0 : 0 ≤ l) (h1 : l ≤ h) (h2 : h ≤ cap) :
    (Instr.sliceAt t (.slice ad len cap) lo hi none).run P w = .ok (.slice (if cap = l.toNat then ad else ad.map (·.add (l.toNat * sz))) (h.toNat - l.toNat) (cap - l.toNat)) w := by
  simp [Instr.sliceAt, Instr.slice, run_underlying (und_elem he), run_bounds hl hh h0 h1 h2, run_tSize hs]

theorem Sound.sliceS {t e : TypeId} {x : Operand} {lo hi : Option Operand} {S : St} {sz : Nat} {ls : List PV} {l h : Int} (hx : S.ev x = .sl sz ls) (he : tElem P t = some e) (hs : tSize P e = some sz) (hlo : bnd S 0 lo = some l) (hhi : bnd S ls.length hi = some h) (h0 : 0 ≤ l) (h1 : l ≤ h) (h2 : h ≤ ls.length) :
    Sound P (.slice t x lo hi none) S (.sl sz ((ls.drop l.toNat).take (h.toNat - l.toNat))) e0 := Sound.quiet fun op a w0 F0 D μ F H w hop hH hxs hr => by
  have hp := hxs x (by simp [Op.operands])
  rw [hx] at hp
  have hl := bnd_val hlo (fun y hy => hxs y (by simp [Op.operands, hy]))
  have hh := bnd_val hhi (fun y hy => hxs y (by simp [Op.operands, hy]))
  generalize hev : a.eval x = u at hp
  have fin : ∀ (ad : Option Addr) (cap : Nat), u = .slice ad ls.length cap → ls.length ≤ cap → Rep D μ F w (.sl sz ((ls.drop l.toNat).take (h.toNat - l.toNat))) (.slice (if cap = l.toNat then ad else ad.map (·.add (l.toNat * sz))) (h.toNat - l.toNat) (cap - l.toNat)) →
      ∃ v, (execOp a.eval op).run P w = .ok (.value v) w ∧ Rep D μ F w (.sl sz ((ls.drop l.toNat).take (h.toNat - l.toNat))) v := fun ad cap hu hc hrep => by
    refine ⟨_, ?_, hrep⟩
    unfold execOp
    simp [hop, hev, hu, run_sliceSl he hs ad ls.length cap hl hh h0 h1 (by omega)]
  cases hp with
  | sl0 _ ad cap g1 g2 g3 =>
    simp at h2
    have hl0 : l = 0 := by omega
    have hh0 : h = 0 := by omega
    subst hl0; subst hh0
    refine fin ad cap rfl (by simp) ?_
    have e1 : (if cap = (0 : Int).toNat then ad else ad.map (·.add ((0 : Int).toNat * sz))) = ad := by
      split
      · rfl
      · cases ad <;> simp [Addr.add]
    rw [e1]
    simpa using Rep.sl0 sz ad cap g1 g2 g3
  | sl _ _ b o cap g hF g1 g2 g3 g4 g5 =>
    refine fin _ cap rfl g1 ?_
    by_cases hlh : l < h
    · rw [if_neg (by omega)]
      simp only [Option.map_some, Addr.add_lit]
      have hlen : ((ls.drop l.toNat).take (h.toNat - l.toNat)).length = h.toNat - l.toNat := by simp; omega
      have := Rep.sl (D := D) (μ := μ) (F := F) (w := w) sz ((ls.drop l.toNat).take (h.toNat - l.toNat)) b (o + l.toNat * sz) (cap - l.toNat) (fun j => g (l.toNat * sz + j)) hF (by rw [hlen]; omega) (by omega)
        (fun j hj => by
          rw [hlen] at hj
          have : l.toNat * sz + j < ls.length * sz := by
            have : (l.toNat + (h.toNat - l.toNat)) * sz ≤ ls.length * sz := Nat.mul_le_mul_right _ (by omega)
            rw [Nat.add_mul] at this; omega
          rw [Nat.add_assoc]; exact g3 _ this)
        (fun k hk => by simp only [List.getElem_take, List.getElem_drop]; exact g4 _ (by simp at hk; omega))
        (fun k hk c hc => by
          simp only [List.getElem_take, List.getElem_drop] at hc ⊢
          rw [show l.toNat * sz + (k * sz + c) = (l.toNat + k) * sz + c by rw [Nat.add_mul]; omega]
          exact g5 _ (by simp at hk; omega) c hc)
      rw [hlen] at this
      exact this
    · have hlh' : h.toNat - l.toNat = 0 := by omega
      rw [hlh', List.take_zero]
      refine Rep.sl0 sz _ _ (by omega) (fun hn => ?_) (fun x hx => ?_)
      · split at hn <;> simp at hn
      · split at hx <;> simp at hx <;> subst hx <;> simp [Addr.add_lit]

/-- x[:h] and x[0:h] of an own row. -/
theorem Sound.sliceO0 {t e : TypeId} {x : Operand} {lo hi : Option Operand} {S : St} {i sz off len : Nat} {h : Int} (hx : S.ev x = .ob i sz off len) (he : tElem P t = some e) (hs : tSize P e = some sz) (hlo : bnd S 0 lo = some 0) (hhi : bnd S len hi = some h) (h0 : 0 ≤ h) (h2 : h ≤ len) :
    Sound P (.slice t x lo hi none) S (.ob i sz off h.toNat) e0 := Sound.quiet fun op a w0 F0 D μ F H w hop hH hxs hr => by
  have hp := hxs x (by simp [Op.operands])
  rw [hx] at hp
  have hl := bnd_val hlo (fun y hy => hxs y (by simp [Op.operands, hy]))
  have hh := bnd_val hhi (fun y hy => hxs y (by simp [Op.operands, hy]))
  generalize hev : a.eval x = u at hp
  cases hp with
  | ob _ _ _ _ cap b hD hb g1 g2 g3 =>
    refine ⟨.slice (some ⟨b, off * sz, none⟩) h.toNat cap, ?_, .ob _ _ _ _ cap b hD hb (by omega) g2 g3⟩
    unfold execOp
    simp [hop, hev, run_sliceSl he hs _ len cap hl hh (by omega) h0 (by omega), Addr.add]
  | obn _ _ hD hb =>
    have hh0 : h = 0 := by simp at h2; omega
    subst hh0
    refine ⟨.slice none 0 0, ?_, .obn _ _ hD hb⟩
    unfold execOp
    simp [hop, hev, run_sliceSl he hs _ 0 0 hl hh (by omega) (by omega) (by omega)]

theorem Sound.sliceO {t e : TypeId} {x : Operand} {lo hi : Option Operand} {S : St} {i sz off len : Nat} {l h : Int} (hx : S.ev x = .ob i sz off len) (he : tElem P t = some e) (hs : tSize P e = some sz) (hlo : bnd S 0 lo = some l) (hhi : bnd S len hi = some h) (h0 : 0 ≤ l) (h1 : l < h) (h2 : h ≤ len) :
    Sound P (.slice t x lo hi none) S (.ob i sz (off + l.toNat) (h.toNat - l.toNat)) e0 := Sound.quiet fun op a w0 F0 D μ F H w hop hH hxs hr => by
  have hp := hxs x (by simp [Op.operands])
  rw [hx] at hp
  have hl := bnd_val hlo (fun y hy => hxs y (by simp [Op.operands, hy]))
  have hh := bnd_val hhi (fun y hy => hxs y (by simp [Op.operands, hy]))
  generalize hev : a.eval x = u at hp
  cases hp with
  | ob _ _ _ _ cap b hD hb g1 g2 g3 =>
    refine ⟨.slice (some ⟨b, (off + l.toNat) * sz, none⟩) (h.toNat - l.toNat) (cap - l.toNat), ?_, .ob _ _ _ _ _ b hD hb (by omega) (by omega) (by rw [show off + l.toNat + (cap - l.toNat) = off + cap by omega]; exact g3)⟩
    unfold execOp
    have hne : ¬ cap = l.toNat := by omega
    simp [hop, hev, run_sliceSl he hs _ len cap hl hh (by omega) (by omega) (by omega), Addr.add_lit, hne, Nat.add_mul]
  | obn _ _ hD hb => simp at h2; omega

theorem Sound.sliceOE {t e : TypeId} {x : Operand} {lo hi : Option Operand} {S : St} {i sz off len : Nat} {l : Int} (hx : S.ev x = .ob i sz off len) (he : tElem P t = some e) (hs : tSize P e = some sz) (hlo : bnd S 0 lo = some l) (hhi : bnd S len hi = some l) (h0 : 0 ≤ l) (h2 : l ≤ len) :
    Sound P (.slice t x lo hi none) S (.sl sz []) e0 := Sound.quiet fun op a w0 F0 D μ F H w hop hH hxs hr => by
  have hp := hxs x (by simp [Op.operands])
  rw [hx] at hp
  have hl := bnd_val hlo (fun y hy => hxs y (by simp [Op.operands, hy]))
  have hh := bnd_val hhi (fun y hy => hxs y (by simp [Op.operands, hy]))
  generalize hev : a.eval x = u at hp
  cases hp with
  | ob _ _ _ _ cap b hD hb g1 g2 g3 =>
    refine ⟨.slice (if cap = l.toNat then some ⟨b, off * sz, none⟩ else some ⟨b, off * sz + l.toNat * sz, none⟩) 0 (cap - l.toNat), ?_, .sl0 _ _ _ (by omega) (fun hn => by split at hn <;> cases hn) (fun x hx => by split at hx <;> cases hx <;> rfl)⟩
    unfold execOp
    simp [hop, hev, run_sliceSl he hs _ len cap hl hh (by omega) (by omega) (by omega), Addr.add_lit]
  | obn _ _ hD hb =>
    have hh0 : l = 0 := by simp at h2; omega
    subst hh0
    refine ⟨.slice none 0 0, ?_, .sl0 _ _ _ (by unfold maxLen; omega) (fun _ => rfl) (fun x hx => by cases hx)⟩
    unfold execOp
    simp [hop, hev, run_sliceSl he hs _ 0 0 hl hh (by omega) (by omega) (by omega)]

/-- A new row of zeros. -/
theorem Sound.makeSlice {t e : TypeId} {x y : Operand} {S : St} {kl kc : IntKind} {l c : Int} {z : PV} {by_ : Nat} (hx : S.ev x = .atom (.int kl l)) (hy : S.ev y = .atom (.int kc c)) (he : tElem P t = some e) (hz : tZero P e z) (hby : tBytes P e = some by_) (h0 : 0 ≤ l) (h1 : l ≤ c) (hb : (by_ : Int) * c ≤ 281474976710656) (hc : c ≤ 9223372036854775807) :
    Sound P (.makeSlice t x y) S (.ob S.nx z.cells.length 0 l.toNat) ⟨[⟨z.cells.length, List.replicate l.toNat z⟩], [], [], []⟩ :=
  Sound.makes fun o a w0 F0 D μ F H w ho hH hxs _ hD => by
    have hp := ev_atom (hxs x (by simp [Op.operands])) hx
    have hq := ev_atom (hxs y (by simp [Op.operands])) hy
    obtain ⟨i, v, hi, hv, rfl, hsz, hone⟩ := hz
    have hcl := pvOf_cells v hone
    have hlen : (pvOf v).cells.length = i.size := by rw [hcl]; simpa using hsz
    have hib : i.bytes = by_ := by simpa [tBytes, hi] using hby
    have hrun := run_make (P := P) w t e i v (und_elem he) hi hv kl kc l c h0 h1 (by rw [hib]; exact hb) hc
    have hms : (madeCells v.cells (c.toNat * i.size)).size = c.toNat * i.size := size_madeCells _ _
    rw [hlen]
    have hS := hH.alloc S.nx hD (madeCells v.cells (c.toNat * i.size)) e ⟨i.size, List.replicate l.toNat (pvOf v)⟩ (by rw [hms]; simp; exact Nat.mul_le_mul_right _ (by omega)) (fun k hk => by simp [hlen]) (fun k hk cc hcc => by
      simp only [List.getElem_replicate] at hcc ⊢
      have hk' : k < l.toNat := by simpa using hk
      have hcc' : cc < i.size := by rw [← hlen]; exact hcc
      have hlt : k * i.size + cc < c.toNat * i.size := mul_cell (by omega) hcc'
      have e1 : (madeCells v.cells (c.toNat * i.size)).getD (k * i.size + cc) undef = v.cells[cc]'(by omega) := by
        unfold Array.getD
        rw [dif_pos (by rw [hms]; exact hlt)]
        simp only [madeCells, Array.getInternal_eq_getElem, Array.getElem_map, Array.getElem_range]
        have : (k * i.size + cc) % v.cells.size = cc := by rw [hsz, Nat.mul_comm, Nat.mul_add_mod, Nat.mod_eq_of_lt hcc']
        rw [this]
        exact getElem!_pos v.cells cc (by omega)
      rw [e1]
      have : (pvOf v).cells[cc] = .atom (v.cells[cc]'(by omega)) := by simp [hcl]
      rw [this]
      exact .atom _)
    refine ⟨.slice (some ⟨w.heap.size, 0, none⟩) l.toNat c.toNat, w.alloc (.cells (madeCells v.cells (c.toNat * i.size)) e), some w.heap.size, ?_, ?_, hS, Stay.below ((Below.refl _ _).alloc (Nat.le_refl _) _)⟩
    · unfold execOp; simp [ho, hp, hq, hrun]
    · have := Rep.ob (D := also D S.nx) (μ := upd μ S.nx (some w.heap.size)) (F := F) (w := w.alloc (.cells (madeCells v.cells (c.toNat * i.size)) e)) S.nx i.size 0 l.toNat c.toNat w.heap.size (.inr rfl) (upd_same _ _ _) (by omega) (by unfold maxLen; omega)
        (by simp only [bsize, heap_alloc_new, hms]; simp)
      simpa using this
end
end Go.Proofs.YtfnkciboencifaaDoor

