/-
  The clean machine: stores, addresses, parts, lengths, slices.
-/
import Derived.Test.YtfnkciboencifaaDoorPV2
set_option linter.all false
namespace Go.Proofs.YtfnkciboencifaaDoor
open Go Go.RowKit

theorem cell_row {sz k k' c c' n : Nat} (h1 : c' < sz) (h2 : c + n ≤ sz) (h3 : k * sz + c ≤ k' * sz + c') (h4 : k' * sz + c' < k * sz + c + n) : k' = k := by
  rcases Nat.lt_trichotomy k' k with h | h | h
  · have : (k' + 1) * sz ≤ k * sz := Nat.mul_le_mul_right _ h
    rw [Nat.add_mul] at this; omega
  · exact h
  · have : (k + 1) * sz ≤ k' * sz := Nat.mul_le_mul_right _ h
    rw [Nat.add_mul] at this; omega

def PV.putPart (old : PV) (c : Nat) (v : PV) : PV := if c = 0 ∧ v.cells.length = old.cells.length then v else .agg (old.cells.take c ++ v.cells ++ old.cells.drop (c + v.cells.length))
theorem putPart_cells (old : PV) (c : Nat) (v : PV) (h : c + v.cells.length ≤ old.cells.length) : (old.putPart c v).cells = old.cells.take c ++ v.cells ++ old.cells.drop (c + v.cells.length) := by
  unfold PV.putPart
  split
  · rename_i hc
    obtain ⟨rfl, hl⟩ := hc
    simp [hl]
  · rfl
theorem putPart_length (old : PV) (c : Nat) (v : PV) (h : c + v.cells.length ≤ old.cells.length) : (old.putPart c v).cells.length = old.cells.length := by
  rw [putPart_cells _ _ _ h]; simp; omega

theorem Eff.app_set (n i : Nat) (o : AO) (H : Nat → Option AO) (rd : List Nat) : (⟨[], [], [(i, o)], rd⟩ : Eff).app n H = upd H i (some o) := by
  funext j; unfold Eff.app upd; simp only [lk, List.length_nil, Nat.add_zero]
  rw [if_neg (by omega)]
  by_cases h : j = i
  · subst h; simp
  · rw [if_neg (Ne.symm h), if_neg h]; simp

section
variable {P : Program}

theorem Sound.store {t : TypeId} {x y : Operand} {S : St} {i sz k c : Nat} {o : AO} (hx : S.ev x = .ptr i sz k c) (ho : S.obj i = some o) (hsz : o.sz = sz) (hk : k < o.els.length) (hn : tSize P t = some (S.ev y).cells.length)
    (h1 : (S.ev y).cells.all PV.one = true) (hin : c + (S.ev y).cells.length ≤ (o.els.getD k .junk).cells.length) :
    Sound P (.store t x y) S .junk ⟨[], [], [(i, ⟨sz, o.els.set k ((o.els.getD k .junk).putPart c (S.ev y))⟩)], [i]⟩ := by
  intro op a w0 F0 D μ F H w hop hH hxs hr _ next Q hnx
  have hp := hxs x (by simp [Op.operands])
  rw [hx] at hp
  have hi : H i = some o := (hr i (by simp)).trans ho
  obtain ⟨c1, c2, c3⟩ := (hxs y (by simp [Op.operands])).cells h1
  generalize S.ev y = q at *
  generalize hev : a.eval y = v at *
  generalize he : a.eval x = u at hp
  simp only [cellget _ _ hk] at hin hnx
  cases hp with
  | ptr _ _ _ _ b hD hb =>
    obtain ⟨A, e, g1, g2, g3, g4⟩ := hH.ok hi hb
    have hszk := g3 k hk
    have hvl : v.cells.toList.length = q.cells.length := by simpa using c1
    have hrow : ∀ j, j < v.cells.toList.length → k * sz + c + j < A.size := fun j hj => by
      have := mul_cell (c := c + j) (sz := o.sz) hk (by omega)
      rw [hsz] at this g2
      omega
    have hst := run_storeCells_cells (P := P) b (k * sz + c) v.cells.toList 0 w (fun j hj => by simp [World.cell?, g1, hrow j hj]) (fun j hj => by simp [World.frozen?, g1])
      (fun x hx => (Array.all_eq_true_iff_forall_mem.1 c3) x (by simpa using hx))
    obtain ⟨hS, hstay⟩ := hH.store i o ⟨sz, o.els.set k (o.els[k].putPart c q)⟩ b hi hb (k * sz + c) v.cells.toList hsz.symm (by simp)
      (fun k' hk' => by
        simp only [List.length_set] at hk'
        simp only [List.getElem_set]
        split
        · rename_i hkk; subst hkk; rw [putPart_length _ _ _ hin, hszk, hsz]
        · rw [g3 k' hk', hsz])
      (fun k' hk' c' hc' hl1 hl2 => by
        simp only [List.length_set] at hk'
        simp only [List.getElem_set] at hc' ⊢
        have hc'' : c' < sz := by
          split at hc'
          · rw [putPart_length _ _ _ hin, hszk, hsz] at hc'; exact hc'
          · rw [g3 k' hk', hsz] at hc'; exact hc'
        have hkk : k' = k := cell_row hc'' (by rw [hszk, hsz] at hin; exact hin) hl1 (by rw [hvl] at hl2; exact hl2)
        subst hkk
        have hl1' : k' * sz + c ≤ k' * sz + c' := hl1
        have hl2' : k' * sz + c' < k' * sz + c + v.cells.toList.length := hl2
        rw [hvl] at hl2'
        have hcl : c ≤ c' := by omega
        have hcu : c' < c + q.cells.length := by omega
        have e1 : (if k' = k' then o.els[k'].putPart c q else o.els[k']).cells[c']? = q.cells[c' - c]? := by
          rw [if_pos rfl, putPart_cells _ _ _ hin, List.getElem?_append_left (by simp; omega), List.getElem?_append_right (by simp; omega)]
          congr 1; simp; omega
        have e2 : q.cells[c' - c]? = some (q.cells[c' - c]'(by omega)) := List.getElem?_eq_getElem (by omega)
        have e3 := List.getElem?_eq_getElem hc'
        rw [e1, e2] at e3
        rw [← Option.some.inj e3]
        have := c2 (c' - c) (by omega)
        rw [show k' * sz + c' - (k' * sz + c) = c' - c by omega]
        simpa [Array.getD_eq_getD_getElem?, List.getD_eq_getElem?_getD] using this)
      (fun k' hk' c' hc' hno => by
        simp only [List.length_set] at hk'
        refine ⟨hk', ?_⟩
        simp only [List.getElem_set] at hc' ⊢
        by_cases hkk : k = k'
        · subst hkk
          simp only [if_true] at hc' ⊢
          have hc3 : c' < o.els[k].cells.length := by rw [putPart_length _ _ _ hin] at hc'; exact hc'
          refine ⟨hc3, ?_⟩
          have e0 := List.getElem?_eq_getElem hc'
          have e4 := List.getElem?_eq_getElem hc3
          have hno2 : ¬ (k * sz + c ≤ k * sz + c' ∧ k * sz + c' < k * sz + c + v.cells.toList.length) := hno
          rw [hvl] at hno2
          have hno' : c' < c ∨ c + q.cells.length ≤ c' := by omega
          have e1 : (o.els[k].putPart c q).cells[c']? = o.els[k].cells[c']? := by
            rw [putPart_cells _ _ _ hin]
            rcases hno' with h | h
            · rw [List.getElem?_append_left (by simp; omega), List.getElem?_append_left (by simp; omega)]; simp [h]
            · rw [List.getElem?_append_right (by simp; omega)]
              simp only [List.length_append, List.length_take, List.getElem?_drop]
              congr 1; omega
          rw [e0, e4] at e1
          exact Option.some.inj e1
        · simp only [if_neg hkk] at hc' ⊢
          exact ⟨hc', trivial⟩)
    have hrun : (Instr.storeAt t (.pointer (some ⟨b, k * sz + c, none⟩)) v).run P w = .ok () (w.setCells b (k * sz + c) v.cells.toList) := by
      simp only [Instr.storeAt, Instr.sureAddr, storeVar, Sem.run_bind, Sem.run_pure, Result.andThen_ok, run_tSize hn, c1, ne_eq, not_true_eq_false, if_false]
      simpa using hst
    unfold Oper.wp execOp
    simp only [hop, he, hev, Sem.run_bind, hrun, Result.andThen_ok, Sem.run_pure, Oper.upon]
    exact hnx undef _ D μ F (.junk _) (by rw [Eff.app_set]; exact hS) hstay (fun _ h => ⟨h, rfl⟩) (fun _ h => h) (fun _ h => .inl h)

theorem run_fieldAt {t e : TypeId} {f off n : Nat} (hf : tFld P t f = some (off, e)) (hs : tSize P e = some n) (hn : n ≠ 0) (w : World) (b o : Nat) :
    (Instr.fieldAt t (.pointer (some ⟨b, o, none⟩)) f).run P w = .ok (.pointer (some ⟨b, o + off, none⟩)) w := by
  unfold tFld at hf
  split at hf <;> try (cases hf; done)
  rename_i fs hu
  cases hfs : fs[f]? with
  | none => simp [hfs] at hf
  | some x =>
    simp [hfs] at hf
    obtain ⟨rfl, rfl⟩ := hf
    simp [Instr.fieldAt, run_underlying hu, hfs, Instr.sureAddr, fieldPlace, run_tSize hs, hn, Addr.add_lit]

theorem Sound.fieldAddr {t e : TypeId} {x : Operand} {f off n : Nat} {S : St} {i sz k c : Nat} (hx : S.ev x = .ptr i sz k c) (hf : tFld P t f = some (off, e)) (hs : tSize P e = some n) (hn : n ≠ 0) :
    Sound P (.fieldAddr t x f) S (.ptr i sz k (c + off)) e0 := Sound.quiet fun op a w0 F0 D μ F H w hop hH hxs hr => by
  have hp := hxs x (by simp [Op.operands])
  rw [hx] at hp
  generalize he : a.eval x = u at hp
  cases hp with
  | ptr _ _ _ _ b hD hb =>
    exact ⟨.pointer (some ⟨b, k * sz + c + off, none⟩), by unfold execOp; simp [hop, he, run_fieldAt hf hs hn], by rw [Nat.add_assoc]; exact .ptr _ _ _ _ b hD hb⟩
theorem Sound.fieldAddrF {t e : TypeId} {x : Operand} {f off n : Nat} {S : St} {sz k c : Nat} {l : List PV} (hx : S.ev x = .fptr sz l k c) (hf : tFld P t f = some (off, e)) (hs : tSize P e = some n) (hn : n ≠ 0) :
    Sound P (.fieldAddr t x f) S (.fptr sz l k (c + off)) e0 := Sound.quiet fun op a w0 F0 D μ F H w hop hH hxs hr => by
  have hp := hxs x (by simp [Op.operands])
  rw [hx] at hp
  generalize he : a.eval x = u at hp
  cases hp with
  | fptr _ _ _ _ b o g hF hg hcl hrep =>
    exact ⟨.pointer (some ⟨b, o + (k * sz + c) + off, none⟩), by unfold execOp; simp [hop, he, run_fieldAt hf hs hn], by rw [show o + (k * sz + c) + off = o + (k * sz + (c + off)) by omega]; exact .fptr _ _ _ _ b o g hF hg hcl hrep⟩

theorem run_part {D : Nat → Prop} {μ : Nat → Option Nat} {F : Nat → Prop} {w : World} {t : TypeId} {ag : Bool} {n c : Nat} {l : List PV} {vs : Array Value} (ha : tAgg P t = some ag) (hn : tSize P t = some n)
    (hin : bif ag then c + n ≤ l.length else c < l.length) (h : Rep D μ F w (.agg l) (.agg vs)) : ∃ v, (part t vs c).run P w = .ok v w ∧ Rep D μ F w ((PV.agg l).part ag c n) v := by
  cases h with
  | agg _ _ hs hr =>
    unfold part
    simp only [Sem.run_bind, run_tAgg ha, Result.andThen_ok]
    cases ag
    · have hin' : c < l.length := hin
      have hcs : c < vs.size := by omega
      refine ⟨vs[c], by simp [hcs], ?_⟩
      unfold PV.part; simp only [cond_false]; rw [cellget _ _ (show c < (PV.agg l).cells.length from hin')]
      have := hr c hin'
      rwa [show vs.getD c undef = vs[c] by simp [hcs]] at this
    · have hin' : c + n ≤ l.length := hin
      refine ⟨.agg (vs.extract c (c + n)), by simp [run_tSize hn], ?_⟩
      have key : Rep D μ F w (.agg ((l.drop c).take n)) (.agg (vs.extract c (c + n))) := by
        refine .agg _ _ (by simp; omega) fun j hj => ?_
        have hj' : j < n := by simp at hj; omega
        simp only [List.getElem_take, List.getElem_drop]
        have e : (vs.extract c (c + n)).getD j undef = vs.getD (c + j) undef := by
          have h1 : j < (vs.extract c (c + n)).size := by simp; omega
          have h2 : c + j < vs.size := by omega
          unfold Array.getD; rw [dif_pos h1, dif_pos h2]; exact Array.getElem_extract ..
        rw [e]; exact hr (c + j) (by omega)
      unfold PV.part
      simp only [cond_true]
      split
      · rename_i hc
        obtain ⟨rfl, rfl⟩ := hc
        simpa [PV.cells] using key
      · exact key

theorem Sound.field {t e : TypeId} {x : Operand} {f off n : Nat} {ag : Bool} {S : St} {l : List PV} (hx : S.ev x = .agg l) (hf : tFld P t f = some (off, e)) (ha : tAgg P e = some ag) (hn : tSize P e = some n)
    (hin : bif ag then off + n ≤ l.length else off < l.length) : Sound P (.field t x f) S ((PV.agg l).part ag off n) e0 := Sound.quiet fun op a w0 F0 D μ F H w hop hH hxs hr => by
  have hp := hxs x (by simp [Op.operands])
  rw [hx] at hp
  generalize he : a.eval x = u at hp
  cases hp with
  | agg _ vs hs hrr =>
    obtain ⟨v, h1, h2⟩ := run_part ha hn hin (Rep.agg l vs hs hrr)
    unfold tFld at hf
    split at hf <;> try (cases hf; done)
    rename_i fs hu
    cases hfs : fs[f]? with
    | none => simp [hfs] at hf
    | some y =>
      simp [hfs] at hf
      obtain ⟨rfl, rfl⟩ := hf
      exact ⟨v, by unfold execOp; simp [hop, he, Instr.field, run_underlying hu, hfs, asAgg, h1], h2⟩

theorem Sound.extract {x : Operand} {k : Nat} {S : St} {l : List PV} (hx : S.ev x = .tup l) (hk : k < l.length) : Sound P (.extract x k) S (l.getD k .junk) e0 := Sound.quiet fun op a w0 F0 D μ F H w hop hH hxs hr => by
  have hp := hxs x (by simp [Op.operands])
  rw [hx] at hp
  generalize he : a.eval x = u at hp
  cases hp with
  | tup _ vs hs hrr =>
    rw [cellget _ _ hk]
    have hks : k < vs.size := by omega
    refine ⟨vs[k], by unfold execOp; simp [hop, he, Instr.extract, hks], ?_⟩
    have := hrr k hk
    rwa [show vs.getD k undef = vs[k] by simp [hks]] at this

theorem Sound.indexAddr {t e : TypeId} {x y : Operand} {S : St} {i sz off len : Nat} {kk : IntKind} {n : Int} (hx : S.ev x = .ob i sz off len) (hy : S.ev y = .atom (.int kk n)) (he : tElem P t = some e) (hs : tSize P e = some sz) (h0 : 0 ≤ n) (hl : n < len) :
    Sound P (.indexAddr t x y) S (.ptr i sz (off + n.toNat) 0) e0 := Sound.quiet fun op a w0 F0 D μ F H w hop hH hxs hr => by
  have hp := hxs x (by simp [Op.operands])
  have hq := ev_atom (hxs y (by simp [Op.operands])) hy
  rw [hx] at hp
  generalize hev : a.eval x = u at hp
  cases hp with
  | ob _ _ _ _ cap b hD hb h1 h2 h3 =>
    refine ⟨.pointer (some ⟨b, off * sz + n.toNat * sz, none⟩), ?_, ?_⟩
    · unfold execOp; simp [hop, hev, hq, Instr.indexAt, asIntOf, run_underlying (und_elem he), h0, hl, run_tSize hs, Addr.add_lit]
    · have := Rep.ptr (D := D) (μ := μ) (F := F) (w := w) i sz (off + n.toNat) 0 b hD hb
      rw [Nat.add_mul] at this
      exact this
  | obn _ _ hD hb => simp at hl; omega

theorem Sound.indexAddrS {t e : TypeId} {x y : Operand} {S : St} {sz : Nat} {l : List PV} {kk : IntKind} {n : Int} (hx : S.ev x = .sl sz l) (hy : S.ev y = .atom (.int kk n)) (he : tElem P t = some e) (hs : tSize P e = some sz) (h0 : 0 ≤ n) (hl : n < l.length) :
    Sound P (.indexAddr t x y) S (.fptr sz l n.toNat 0) e0 := Sound.quiet fun op a w0 F0 D μ F H w hop hH hxs hr => by
  have hp := hxs x (by simp [Op.operands])
  have hq := ev_atom (hxs y (by simp [Op.operands])) hy
  rw [hx] at hp
  generalize hev : a.eval x = u at hp
  cases hp with
  | sl0 => simp at hl; omega
  | sl _ _ b o cap g hF h1 h2 h3 h4 h5 =>
    refine ⟨.pointer (some ⟨b, o + n.toNat * sz, none⟩), ?_, ?_⟩
    · unfold execOp; simp [hop, hev, hq, Instr.indexAt, asIntOf, run_underlying (und_elem he), h0, hl, run_tSize hs, Addr.add_lit]
    · exact Rep.fptr (D := D) (μ := μ) (F := F) (w := w) sz l n.toNat 0 b o g hF h3 h4 h5

theorem Sound.indexAddrA {t e : TypeId} {x y : Operand} {S : St} {i sz k c m es : Nat} {kk : IntKind} {n : Int} (hx : S.ev x = .ptr i sz k c) (hy : S.ev y = .atom (.int kk n)) (he : tArr P t = some (m, e)) (hs : tSize P e = some es) (h0 : 0 ≤ n) (hl : n < m) :
    Sound P (.indexAddr t x y) S (.ptr i sz k (c + n.toNat * es)) e0 := Sound.quiet fun op a w0 F0 D μ F H w hop hH hxs hr => by
  have hp := hxs x (by simp [Op.operands])
  have hq := ev_atom (hxs y (by simp [Op.operands])) hy
  rw [hx] at hp
  generalize hev : a.eval x = u at hp
  cases hp with
  | ptr _ _ _ _ b hD hb =>
    refine ⟨.pointer (some ⟨b, k * sz + c + n.toNat * es, none⟩), ?_, ?_⟩
    · unfold execOp; simp [hop, hev, hq, Instr.indexAt, asIntOf, run_underlying (und_arr he), Instr.sureAddr, h0, hl, run_tSize hs, Addr.add_lit]
    · rw [Nat.add_assoc]; exact .ptr _ _ _ _ b hD hb

theorem Sound.indexAddrAF {t e : TypeId} {x y : Operand} {S : St} {sz k c m es : Nat} {l : List PV} {kk : IntKind} {n : Int} (hx : S.ev x = .fptr sz l k c) (hy : S.ev y = .atom (.int kk n)) (he : tArr P t = some (m, e)) (hs : tSize P e = some es) (h0 : 0 ≤ n) (hl : n < m) :
    Sound P (.indexAddr t x y) S (.fptr sz l k (c + n.toNat * es)) e0 := Sound.quiet fun op a w0 F0 D μ F H w hop hH hxs hr => by
  have hp := hxs x (by simp [Op.operands])
  have hq := ev_atom (hxs y (by simp [Op.operands])) hy
  rw [hx] at hp
  generalize hev : a.eval x = u at hp
  cases hp with
  | fptr _ _ _ _ b o g hF hg hcl hrep =>
    refine ⟨.pointer (some ⟨b, o + (k * sz + c) + n.toNat * es, none⟩), ?_, ?_⟩
    · unfold execOp; simp [hop, hev, hq, Instr.indexAt, asIntOf, run_underlying (und_arr he), Instr.sureAddr, h0, hl, run_tSize hs, Addr.add_lit]
    · rw [show o + (k * sz + c) + n.toNat * es = o + (k * sz + (c + n.toNat * es)) by omega]; exact .fptr _ _ _ _ b o g hF hg hcl hrep

/-- A byte of a text, by its place. -/
def byteAt (s : ByteArray) (i : Nat) : UInt8 := s.data.toList.getD i 0
theorem byteAt_get {s : ByteArray} {i : Nat} (h : i < s.size) : s[i]? = some (byteAt s i) := by
  have h' : i < s.data.toList.length := by simpa using h
  have : byteAt s i = s.data.toList[i] := by unfold byteAt; exact (List.getElem_eq_getD _).symm
  rw [this]
  simp only [Array.getElem_toList]
  exact getElem?_pos s i h

theorem Sound.indexStr {t : TypeId} {x y : Operand} {S : St} {s : ByteArray} {kk : IntKind} {n : Int} (hx : S.ev x = .atom (.string s)) (hy : S.ev y = .atom (.int kk n)) (ht : tStr P t = true) (h0 : 0 ≤ n) (hl : n < s.size) :
    Sound P (.index t x y) S (.atom (.int .u8 ((byteAt s n.toNat).toNat : Nat))) e0 := Sound.quiet fun op a w0 F0 D μ F H w hop hH hxs hr => by
  have hp := ev_atom (hxs x (by simp [Op.operands])) hx
  have hq := ev_atom (hxs y (by simp [Op.operands])) hy
  have hb := byteAt_get (s := s) (i := n.toNat) (by omega)
  refine ⟨_, ?_, .atom _⟩
  unfold execOp
  simp only [hop, hp, hq, Instr.index, asIntOf, Sem.run_bind, Sem.run_pure, Result.andThen_ok, run_underlying (und_str ht), h0, if_true, hb]

theorem Sound.indexArr {t e : TypeId} {x y : Operand} {S : St} {l : List PV} {m es : Nat} {ag : Bool} {kk : IntKind} {n : Int} (hx : S.ev x = .agg l) (hy : S.ev y = .atom (.int kk n)) (he : tArr P t = some (m, e)) (hs : tSize P e = some es) (ha : tAgg P e = some ag) (h0 : 0 ≤ n) (hl : n < m)
    (hin : bif ag then n.toNat * es + es ≤ l.length else n.toNat * es < l.length) : Sound P (.index t x y) S ((PV.agg l).part ag (n.toNat * es) es) e0 := Sound.quiet fun op a w0 F0 D μ F H w hop hH hxs hr => by
  have hp := hxs x (by simp [Op.operands])
  have hq := ev_atom (hxs y (by simp [Op.operands])) hy
  rw [hx] at hp
  generalize hev : a.eval x = u at hp
  cases hp with
  | agg _ vs hsz hrr =>
    obtain ⟨v, h1, h2⟩ := run_part ha hs hin (Rep.agg l vs hsz hrr)
    refine ⟨v, ?_, h2⟩
    unfold execOp; simp [hop, hev, hq, Instr.index, asIntOf, run_underlying (und_arr he), h0, hl, run_tSize hs, h1]

theorem Sound.not {t : TypeId} {x : Operand} {S : St} {b : Bool} (hx : S.ev x = .atom (.bool b)) : Sound P (.unOp .not t x) S (.atom (.bool (!b))) e0 := Sound.quiet fun op a w0 F0 D μ F H w hop hH hxs hr => by
  have hp := ev_atom (hxs x (by simp [Op.operands])) hx
  exact ⟨_, by unfold execOp; simp [hop, hp, Op.unary], .atom _⟩
theorem Sound.neg {t : TypeId} {x : Operand} {S : St} {k : IntKind} {n : Int} (hx : S.ev x = .atom (.int k n)) : Sound P (.unOp .neg t x) S (.atom (.int k (k.wrap (-n)))) e0 := Sound.quiet fun op a w0 F0 D μ F H w hop hH hxs hr => by
  have hp := ev_atom (hxs x (by simp [Op.operands])) hx
  exact ⟨_, by unfold execOp; simp [hop, hp, Op.unary, Op.intArith], .atom _⟩

theorem Sound.nilCheckP {x : Operand} {S : St} {i sz k c : Nat} (hx : S.ev x = .ptr i sz k c) : Sound P (.nilCheck x) S (.ptr i sz k c) e0 := Sound.quiet fun op a w0 F0 D μ F H w hop hH hxs hr => by
  have hp := hxs x (by simp [Op.operands])
  rw [hx] at hp
  generalize hev : a.eval x = u at hp
  cases hp with
  | ptr _ _ _ _ b hD hb => exact ⟨_, by unfold execOp; simp [hop, hev], .ptr _ _ _ _ b hD hb⟩
theorem Sound.nilCheckF {x : Operand} {S : St} {f : FuncId} {l : List PV} (hx : S.ev x = .fn f l) : Sound P (.nilCheck x) S (.fn f l) e0 := Sound.quiet fun op a w0 F0 D μ F H w hop hH hxs hr => by
  have hp := hxs x (by simp [Op.operands])
  rw [hx] at hp
  generalize hev : a.eval x = u at hp
  cases hp with
  | fn _ _ vs h1 h2 => exact ⟨_, by unfold execOp; simp [hop, hev], .fn _ _ vs h1 h2⟩

theorem Sound.makeFunc {f : FuncId} {cap : Array Operand} {S : St} : Sound P (.makeFunc (.func f) #[] cap) S (.fn f (cap.toList.map S.ev)) e0 := Sound.quiet fun op a w0 F0 D μ F H w hop hH hxs hr => by
  refine ⟨.func (.func f) #[] (cap.map a.eval), by unfold execOp; simp [hop, Instr.makeFunc], .fn _ _ _ (by simp) fun i hi => ?_⟩
  have hi' : i < cap.size := by simpa using hi
  have e : (cap.map a.eval).getD i undef = a.eval cap[i] := by simp [hi']
  rw [e]
  simp only [List.getElem_map, Array.getElem_toList]
  exact hxs _ (by simp [Op.operands])

/-- How long a slice or a text is. -/
def lenOf : PV → Option Nat
  | .sl _ l => some l.length
  | .ob _ _ _ n => some n
  | .atom (.string s) => some s.size
  | .atom (.slice _ n _) => some n
  | _ => none
theorem Sound.len {t : TypeId} {x : Operand} {S : St} {n : Nat} (hx : lenOf (S.ev x) = some n) (ht : tStr P t = true ∨ (tElem P t).isSome = true) (hm : tStr P t = true ↔ ∃ s, S.ev x = .atom (.string s)) :
    Sound P (.call ⟨.builtin .len, #[x], #[t]⟩) S (.atom (.int .i64 n)) e0 := Sound.quiet fun op a w0 F0 D μ F H w hop hH hxs hr => by
  have hp := hxs x (by simp [Op.operands, Call.operands])
  refine ⟨_, ?_, .atom _⟩
  unfold execOp
  generalize hev : a.eval x = u at hp
  generalize S.ev x = q at hp hx hm
  have slice : ∀ (ad : Option Addr) (cap : Nat), u = .slice ad n cap → (¬ ∃ s, q = .atom (.string s)) → (do let d ← resolve a.eval ⟨.builtin .len, #[x], #[t]⟩ op.type; invoke d.target d.args).run P w = .ok (.value (.int .i64 n)) w := fun ad cap e hns => by
    have hte : (tElem P t).isSome = true := ht.resolve_left (fun h => hns (hm.1 h))
    obtain ⟨e', he'⟩ := Option.isSome_iff_exists.1 hte
    simp [resolve, invoke, builtin, hev, e, Builtin.len_, run_underlying (und_elem he'), goInt]
  simp only [hop]
  cases hp with
  | sl0 sz ad cap h1 h2 => cases hx; exact slice _ _ rfl (by rintro ⟨s, hs⟩; cases hs)
  | sl sz l b off cap g => cases hx; exact slice _ _ rfl (by rintro ⟨s, hs⟩; cases hs)
  | ob i sz off len cap b => cases hx; exact slice _ _ rfl (by rintro ⟨s, hs⟩; cases hs)
  | obn i sz => cases hx; exact slice _ _ rfl (by rintro ⟨s, hs⟩; cases hs)
  | atom =>
    cases u <;> simp only [lenOf] at hx <;> try (cases hx; done)
    · cases hx
      have hts : tStr P t = true := hm.2 ⟨_, rfl⟩
      simp [resolve, invoke, builtin, hev, Builtin.len_, run_underlying (und_str hts), goInt]
    · cases hx
      exact slice _ _ rfl (by rintro ⟨s, hs⟩; cases hs)
  | junk => cases hx
  | agg => cases hx
  | tup => cases hx
  | ptr => cases hx
  | fptr => cases hx
  | fn => cases hx
end
end Go.Proofs.YtfnkciboencifaaDoor

