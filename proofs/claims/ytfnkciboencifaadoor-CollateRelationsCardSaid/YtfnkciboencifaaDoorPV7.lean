/-
  The clean machine: sums, comparisons, conversions, least and greatest.
-/
import Derived.Test.YtfnkciboencifaaDoorPV6
set_option linter.all false
namespace Go.Proofs.YtfnkciboencifaaDoor
open Go Go.RowKit

/-- What an operator answers on numbers, texts and truth values. -/
def binV : BinOp → Value → Value → Option Value
  | .add, .int k a, .int k' b => if k = k' then some (.int k (k.wrap (a + b))) else none
  | .sub, .int k a, .int k' b => if k = k' then some (.int k (k.wrap (a - b))) else none
  | .mul, .int k a, .int k' b => if k = k' then some (.int k (k.wrap (a * b))) else none
  | .and, .int k a, .int k' b => if k = k' then some (.int k (bits .and k a b)) else none
  | .or, .int k a, .int k' b => if k = k' then some (.int k (bits .or k a b)) else none
  | .xor, .int k a, .int k' b => if k = k' then some (.int k (bits .xor k a b)) else none
  | .andNot, .int k a, .int k' b => if k = k' then some (.int k (bits .andNot k a b)) else none
  | .eql, .int k a, .int k' b => if k = k' then some (.bool (decide (a = b))) else none
  | .neq, .int k a, .int k' b => if k = k' then some (.bool (!decide (a = b))) else none
  | .lss, .int k a, .int k' b => if k = k' then some (.bool (decide (a < b))) else none
  | .leq, .int k a, .int k' b => if k = k' then some (.bool (decide (a ≤ b))) else none
  | .gtr, .int k a, .int k' b => if k = k' then some (.bool (decide (b < a))) else none
  | .geq, .int k a, .int k' b => if k = k' then some (.bool (decide (b ≤ a))) else none
  | .eql, .string a, .string b => some (.bool (decide (a = b)))
  | .neq, .string a, .string b => some (.bool (!decide (a = b)))
  | .lss, .string a, .string b => some (.bool (Op.bytesLess a.toList b.toList))
  | .leq, .string a, .string b => some (.bool (Op.bytesLess a.toList b.toList || decide (a = b)))
  | .gtr, .string a, .string b => some (.bool !(Op.bytesLess a.toList b.toList || decide (a = b)))
  | .geq, .string a, .string b => some (.bool (!Op.bytesLess a.toList b.toList))
  | _, _, _ => none

theorem bytes_eq {a b : ByteArray} : (a.toList == b.toList) = decide (a = b) := by
  rw [Bool.eq_iff_iff, beq_iff_eq, decide_eq_true_iff]
  constructor
  · intro h
    rw [ByteArray.toList_eq, ByteArray.toList_eq] at h
    exact ByteArray.ext (Array.ext' h)
  · intro h; rw [h]

section
variable {P : Program}

theorem binV_run {op : BinOp} {x y v : Value} (h : binV op x y = some v) (t : TypeId) (ox oy : Operand) (w : World) : (do eqGuard op t ox oy x y; binOp op t x y : Sem Value).run P w = .ok v w := by
  cases x <;> cases y <;> cases op <;> simp only [binV] at h <;> first
    | (cases h; done)
    | (split at h <;> first
        | (cases h; done)
        | (rename_i hk; subst hk; cases h; simp [eqGuard, binOp, Op.intArith, Op.intCmp, Op.intBits, bits]; done)
        | (rename_i hk; subst hk; cases h; simp [eqGuard, binOp, Op.intArith, Op.intCmp, Op.intBits, bits]; rfl))
    | (cases h; simp [eqGuard, binOp, Op.stringOp, bytes_eq]; done)

theorem Sound.bin {op : BinOp} {t t' : TypeId} {x y : Operand} {S : St} {a b v : Value} (hx : S.ev x = .atom a) (hy : S.ev y = .atom b) (h : binV op a b = some v) : Sound P (.binOp op t x y t') S (.atom v) e0 :=
  Sound.quiet fun o ac w0 F0 D μ F H w hop hH hxs hr => by
    have hp := ev_atom (hxs x (by simp [Op.operands])) hx
    have hq := ev_atom (hxs y (by simp [Op.operands])) hy
    refine ⟨v, ?_, .atom _⟩
    have := binV_run (P := P) h t x y w
    unfold execOp
    simp only [hop, hp, hq]
    rw [Sem.run_bind, this]
    rfl

theorem Sound.binBool {t t' : TypeId} {x y : Operand} {S : St} {a b : Bool} (hx : S.ev x = .atom (.bool a)) (hy : S.ev y = .atom (.bool b)) (ht : P.underlying t = some .bool) : Sound P (.binOp .eql t x y t') S (.atom (.bool (a == b))) e0 :=
  Sound.quiet fun o ac w0 F0 D μ F H w hop hH hxs hr => by
    have hp := ev_atom (hxs x (by simp [Op.operands])) hx
    have hq := ev_atom (hxs y (by simp [Op.operands])) hy
    refine ⟨_, ?_, .atom _⟩
    unfold execOp
    simp [hop, hp, hq, eqGuard, run_eql_bool w t a b ht]
theorem Sound.binBoolN {t t' : TypeId} {x y : Operand} {S : St} {a b : Bool} (hx : S.ev x = .atom (.bool a)) (hy : S.ev y = .atom (.bool b)) (ht : P.underlying t = some .bool) : Sound P (.binOp .neq t x y t') S (.atom (.bool (!(a == b)))) e0 :=
  Sound.quiet fun o ac w0 F0 D μ F H w hop hH hxs hr => by
    have hp := ev_atom (hxs x (by simp [Op.operands])) hx
    have hq := ev_atom (hxs y (by simp [Op.operands])) hy
    refine ⟨_, ?_, .atom _⟩
    unfold execOp
    simp [hop, hp, hq, eqGuard, run_neq_bool w t a b ht]

theorem Sound.concat {t t' : TypeId} {x y : Operand} {S : St} {a b : ByteArray} (hx : S.ev x = .atom (.string a)) (hy : S.ev y = .atom (.string b)) (h : a.size + b.size ≤ 9223372036854775807) : Sound P (.binOp .add t x y t') S (.atom (.string (a ++ b))) e0 :=
  Sound.quiet fun o ac w0 F0 D μ F H w hop hH hxs hr => by
    have hp := ev_atom (hxs x (by simp [Op.operands])) hx
    have hq := ev_atom (hxs y (by simp [Op.operands])) hy
    refine ⟨_, ?_, .atom _⟩
    have hno : (a.size : Int) + b.size ≤ 9223372036854775807 := by omega
    unfold execOp
    simp [hop, hp, hq, eqGuard, binOp, Op.stringOp]
    exact hno
theorem Sound.quo {t t' : TypeId} {x y : Operand} {S : St} {k : IntKind} {a b : Int} (hx : S.ev x = .atom (.int k a)) (hy : S.ev y = .atom (.int k b)) (h : b ≠ 0) : Sound P (.binOp .quo t x y t') S (.atom (.int k (k.wrap (a.tdiv b)))) e0 :=
  Sound.quiet fun o ac w0 F0 D μ F H w hop hH hxs hr => by
    have hp := ev_atom (hxs x (by simp [Op.operands])) hx
    have hq := ev_atom (hxs y (by simp [Op.operands])) hy
    refine ⟨_, ?_, .atom _⟩
    unfold execOp
    simp [hop, hp, hq, eqGuard, binOp, Op.intDiv, h]
theorem Sound.rem {t t' : TypeId} {x y : Operand} {S : St} {k : IntKind} {a b : Int} (hx : S.ev x = .atom (.int k a)) (hy : S.ev y = .atom (.int k b)) (h : b ≠ 0) : Sound P (.binOp .rem t x y t') S (.atom (.int k (a.tmod b))) e0 :=
  Sound.quiet fun o ac w0 F0 D μ F H w hop hH hxs hr => by
    have hp := ev_atom (hxs x (by simp [Op.operands])) hx
    have hq := ev_atom (hxs y (by simp [Op.operands])) hy
    refine ⟨_, ?_, .atom _⟩
    unfold execOp
    simp [hop, hp, hq, eqGuard, binOp, Op.intDiv, h]
theorem Sound.shl {t t' : TypeId} {x y : Operand} {S : St} {k k' : IntKind} {a b : Int} (hx : S.ev x = .atom (.int k a)) (hy : S.ev y = .atom (.int k' b)) (h : 0 ≤ b) : Sound P (.binOp .shl t x y t') S (.atom (.int k (k.wrap (a * 2 ^ (min b.toNat k.bits))))) e0 :=
  Sound.quiet fun o ac w0 F0 D μ F H w hop hH hxs hr => by
    have hp := ev_atom (hxs x (by simp [Op.operands])) hx
    have hq := ev_atom (hxs y (by simp [Op.operands])) hy
    refine ⟨_, ?_, .atom _⟩
    have hno : ¬ b < 0 := by omega
    unfold execOp
    simp [hop, hp, hq, eqGuard, binOp, Op.shift, hno]
theorem Sound.shr {t t' : TypeId} {x y : Operand} {S : St} {k k' : IntKind} {a b : Int} (hx : S.ev x = .atom (.int k a)) (hy : S.ev y = .atom (.int k' b)) (h : 0 ≤ b) : Sound P (.binOp .shr t x y t') S (.atom (.int k (a.fdiv (2 ^ (min b.toNat k.bits))))) e0 :=
  Sound.quiet fun o ac w0 F0 D μ F H w hop hH hxs hr => by
    have hp := ev_atom (hxs x (by simp [Op.operands])) hx
    have hq := ev_atom (hxs y (by simp [Op.operands])) hy
    refine ⟨_, ?_, .atom _⟩
    have hno : ¬ b < 0 := by omega
    unfold execOp
    simp [hop, hp, hq, eqGuard, binOp, Op.shift, hno]

/-- Is the slice nil? -/
def nilSl : PV → Option Bool
  | .atom (.slice none 0 0) => some true
  | .sl _ (_ :: _) => some false
  | .ob _ _ _ (_ + 1) => some false
  | _ => none
theorem nilS_val {D : Nat → Prop} {μ : Nat → Option Nat} {F : Nat → Prop} {w : World} {p : PV} {u : Value} {b : Bool} (hp : Rep D μ F w p u) (hb : nilSl p = some b) : ∃ ad n c, u = .slice ad n c ∧ ad.isNone = b := by
  cases p with
  | atom v =>
    cases hp
    unfold nilSl at hb
    split at hb <;> try (cases hb; done)
    all_goals (rename_i he; cases he; try (cases hb; exact ⟨none, 0, 0, rfl, rfl⟩))
  | sl sz l =>
    cases l with
    | nil => cases hb
    | cons x l => cases hb; cases hp; exact ⟨_, _, _, rfl, rfl⟩
  | ob i sz off len =>
    cases len with
    | zero => cases hb
    | succ n => cases hb; cases hp; exact ⟨_, _, _, rfl, rfl⟩
  | _ => cases hb
theorem run_nilS {t e : TypeId} (he : tElem P t = some e) (ad : Option Addr) (n c : Nat) (w : World) (ox oy : Operand) :
    (do eqGuard .eql t ox oy (.slice ad n c) (.slice none 0 0); binOp .eql t (.slice ad n c) (.slice none 0 0) : Sem Value).run P w = .ok (.bool ad.isNone) w ∧
    (do eqGuard .neq t ox oy (.slice ad n c) (.slice none 0 0); binOp .neq t (.slice ad n c) (.slice none 0 0) : Sem Value).run P w = .ok (.bool (!ad.isNone)) w := by
  have h1 := run_neq_slice_nil (P := P) w t e ad n c (und_elem he)
  have h2 := Lib.run_eql_slice_nil (P := P) w t e ad n c 0 0 (und_elem he)
  exact ⟨by simp only [eqGuard]; simpa using h2, by simp only [eqGuard]; simpa using h1⟩
theorem Sound.nilS {t t' e : TypeId} {x : Operand} {S : St} {b : Bool} (hx : nilSl (S.ev x) = some b) (he : tElem P t = some e) : Sound P (.binOp .eql t x (.const (.slice none 0 0)) t') S (.atom (.bool b)) e0 :=
  Sound.quiet fun o ac w0 F0 D μ F H w hop hH hxs hr => by
    obtain ⟨ad, n, c, hu, hn⟩ := nilS_val (hxs x (by simp [Op.operands])) hx
    refine ⟨_, ?_, .atom _⟩
    have := (run_nilS (P := P) he ad n c w x (.const (.slice none 0 0))).1
    unfold execOp
    simp only [hop, hu]
    rw [Sem.run_bind, show ac.eval (.const (.slice none 0 0)) = .slice none 0 0 from rfl, this, ← hn]
    rfl
theorem Sound.nilSN {t t' e : TypeId} {x : Operand} {S : St} {b : Bool} (hx : nilSl (S.ev x) = some b) (he : tElem P t = some e) : Sound P (.binOp .neq t x (.const (.slice none 0 0)) t') S (.atom (.bool (!b))) e0 :=
  Sound.quiet fun o ac w0 F0 D μ F H w hop hH hxs hr => by
    obtain ⟨ad, n, c, hu, hn⟩ := nilS_val (hxs x (by simp [Op.operands])) hx
    refine ⟨_, ?_, .atom _⟩
    have := (run_nilS (P := P) he ad n c w x (.const (.slice none 0 0))).2
    unfold execOp
    simp only [hop, hu]
    rw [Sem.run_bind, show ac.eval (.const (.slice none 0 0)) = .slice none 0 0 from rfl, this, ← hn]
    rfl

/-- Least and greatest of two. -/
theorem Sound.min2 {x y : Operand} {ts : Array TypeId} {S : St} {k : IntKind} {a b : Int} (hx : S.ev x = .atom (.int k a)) (hy : S.ev y = .atom (.int k b)) : Sound P (.call ⟨.builtin .min, #[x, y], ts⟩) S (.atom (.int k (min a b))) e0 :=
  Sound.quiet fun o ac w0 F0 D μ F H w hop hH hxs hr => by
    have hp := ev_atom (hxs x (by simp [Op.operands, Call.operands])) hx
    have hq := ev_atom (hxs y (by simp [Op.operands, Call.operands])) hy
    refine ⟨_, ?_, .atom _⟩
    have e : (if b < a then b else a) = min a b := by split <;> omega
    unfold execOp
    simp [hop, resolve, invoke, builtin, hp, hq, Builtin.min_, Builtin.min2, e]
theorem Sound.max2 {x y : Operand} {ts : Array TypeId} {S : St} {k : IntKind} {a b : Int} (hx : S.ev x = .atom (.int k a)) (hy : S.ev y = .atom (.int k b)) : Sound P (.call ⟨.builtin .max, #[x, y], ts⟩) S (.atom (.int k (max a b))) e0 :=
  Sound.quiet fun o ac w0 F0 D μ F H w hop hH hxs hr => by
    have hp := ev_atom (hxs x (by simp [Op.operands, Call.operands])) hx
    have hq := ev_atom (hxs y (by simp [Op.operands, Call.operands])) hy
    refine ⟨_, ?_, .atom _⟩
    have e : (if b > a then b else a) = max a b := by split <;> omega
    have e' : (if a < b then b else a) = max a b := by split <;> omega
    unfold execOp
    first
      | simp [hop, resolve, invoke, builtin, hp, hq, Builtin.max_, Builtin.max2, e]
      | simp [hop, resolve, invoke, builtin, hp, hq, Builtin.max_, Builtin.max2, e']

/-- Conversions. -/
theorem Sound.convInt {t t' : TypeId} {x : Operand} {S : St} {k k' : IntKind} {n : Int} (hx : S.ev x = .atom (.int k n)) (ht : (P.underlying t).isSome = true) (ht' : tInt P t' = some k') : Sound P (.convert t t' x) S (.atom (.int k' (k'.wrap n))) e0 :=
  Sound.quiet fun o ac w0 F0 D μ F H w hop hH hxs hr => by
    have hp := ev_atom (hxs x (by simp [Op.operands])) hx
    obtain ⟨d, hd⟩ := Option.isSome_iff_exists.1 ht
    refine ⟨_, ?_, .atom _⟩
    unfold execOp
    simp [hop, hp, convert, run_underlying hd, run_underlying (und_int ht'), Conv.intToInt]
theorem Sound.convStr {t t' : TypeId} {x : Operand} {S : St} {s : ByteArray} (hx : S.ev x = .atom (.string s)) (ht : tStr P t = true) (ht' : tStr P t' = true) : Sound P (.convert t t' x) S (.atom (.string s)) e0 :=
  Sound.quiet fun o ac w0 F0 D μ F H w hop hH hxs hr => by
    have hp := ev_atom (hxs x (by simp [Op.operands])) hx
    refine ⟨_, ?_, .atom _⟩
    unfold execOp
    simp [hop, hp, convert, run_underlying (und_str ht), run_underlying (und_str ht')]

def pvBytes (s : ByteArray) : List PV := s.data.toList.map fun b => .atom (.int .u8 (b.toNat : Nat))
theorem Sound.convBytes {t t' e : TypeId} {x : Operand} {S : St} {s : ByteArray} (hx : S.ev x = .atom (.string s)) (ht : tStr P t = true) (ht' : tElem P t' = some e) (he : tInt P e = some .u8) (hs : s.size ≤ 9223372036854775807) : Sound P (.convert t t' x) S (.sl 1 (pvBytes s)) e0 := by
  intro o a w0 F0 D μ F H w ho hH hxs hr _ next Q hn
  have hp := ev_atom (hxs x (by simp [Op.operands])) hx
  have hrun := run_bytes_of_string (P := P) w t t' e s (und_str ht) (und_elem ht') (und_int he)
  have hex : (execOp a.eval o).run P w = .ok (.value (.slice (some ⟨w.heap.size, 0, none⟩) s.size (grownCap w s.size 0 e))) (w.drew.alloc (.cells (bytesRow s (grownCap w s.size 0 e)) e ((bytesRow s (grownCap w s.size 0 e)).size, (bytesRow s (grownCap w s.size 0 e)).size + 1))) := by
    unfold execOp; simp [ho, hp, hrun]
  unfold Oper.wp
  rw [hex]
  have hb : Below w.heap.size w (w.drew.alloc (.cells (bytesRow s (grownCap w s.size 0 e)) e ((bytesRow s (grownCap w s.size 0 e)).size, (bytesRow s (grownCap w s.size 0 e)).size + 1))) :=
    (Below.drew (Below.refl _ _)).alloc (Nat.le_refl _) _
  have hge := grownCap_ge w s.size 0 e
  have hcm := grownCap_le_maxLen w s.size 0 e (by unfold maxLen; omega)
  generalize hW : w.drew.alloc (.cells (bytesRow s (grownCap w s.size 0 e)) e ((bytesRow s (grownCap w s.size 0 e)).size, (bytesRow s (grownCap w s.size 0 e)).size + 1)) = W at hb ⊢
  have hblk : W.heap[w.heap.size]? = some (.cells (bytesRow s (grownCap w s.size 0 e)) e ((bytesRow s (grownCap w s.size 0 e)).size, (bytesRow s (grownCap w s.size 0 e)).size + 1)) := by
    rw [← hW]; exact heap_alloc_new w.drew _
  have hsz : w.heap.size < W.heap.size := (Array.getElem?_eq_some_iff.1 hblk).1
  have hlen : (pvBytes s).length = s.size := by simp [pvBytes]
  have hcells : ∀ k (hk : k < (pvBytes s).length), (pvBytes s)[k].cells = [.atom (.int .u8 ((byteAt s k).toNat : Nat))] := fun k hk => by
    have hk' : k < s.data.toList.length := by simpa [pvBytes] using hk
    have : byteAt s k = s.data.toList[k] := by unfold byteAt; exact (List.getElem_eq_getD _).symm
    simp [pvBytes, this, PV.cells]
  have hrep : Rep D μ (fun b => F b ∨ b = w.heap.size) W (.sl 1 (pvBytes s)) (.slice (some ⟨w.heap.size, 0, none⟩) s.size (grownCap w s.size 0 e)) := by
    have := Rep.sl (D := D) (μ := μ) (F := fun b => F b ∨ b = w.heap.size) (w := W) 1 (pvBytes s) w.heap.size 0 (grownCap w s.size 0 e) (fun j => .int .u8 ((byteAt s j).toNat : Nat)) (.inr rfl) (by rw [hlen]; exact hge) hcm
      (fun j hj => by
        have hj' : j < s.data.size := by rw [hlen] at hj; simpa using hj
        have hb8 : byteAt s j = s.data[j] := by
          have h' : j < s.data.toList.length := by simpa using hj'
          unfold byteAt; rw [← List.getElem_eq_getD (h := h')]; simp
        simp only [World.cell?, hblk, Nat.zero_add]
        rw [bytesRow, Array.getElem?_append_left (by simpa using hj')]
        rw [Array.getElem?_map, Array.getElem?_eq_getElem hj', hb8]; rfl)
      (fun k hk => by rw [hcells k hk]; rfl)
      (fun k hk c hc => by
        have hc0 : c = 0 := by rw [hcells k hk] at hc; simpa using hc
        subst hc0
        have : (pvBytes s)[k].cells[0] = .atom (.int .u8 ((byteAt s k).toNat : Nat)) := by simp [hcells k hk]
        rw [this, Nat.mul_one, Nat.add_zero]; exact .atom _)
    rw [hlen] at this
    exact this
  refine hn _ W D μ (fun b => F b ∨ b = w.heap.size) hrep ?_ (Stay.below hb) (fun _ h => ⟨h, rfl⟩) (fun _ h => .inl h) (fun _ h => .inl h)
  have happ : e0.app S.nx H = H := Eff.app_e0 _ _ _
  rw [happ]
  refine hH.step (Stay.below hb) (fun i hi => ⟨hi, rfl⟩) (fun _ h => .inl h) (hH.ext.trans hb) (fun b hbF => hbF.elim (hH.f0 b) (fun e => .inr (e ▸ .inl hH.ext.size))) (fun b hbF => hbF.elim (fun h => Nat.lt_of_lt_of_le (hH.fsz b h) hb.size) (fun e => e ▸ hsz)) fun i ob hi => .inl ⟨hi, fun b hib => ⟨hb.block _ (hH.ok hi hib).lt, fun hbF => hbF.elim (hH.own i ob b hi hib).2 (fun e => ?_)⟩⟩
  have := (hH.ok hi hib).lt
  omega

def pvByte : PV → UInt8
  | .atom (.int _ n) => UInt8.ofNat n.toNat
  | _ => 0
def isByte : PV → Bool
  | .atom (.int .u8 _) => true
  | _ => false
theorem Sound.convText {t t' e : TypeId} {x : Operand} {S : St} {els : List PV} {rd : List Nat} (hx : Src S (S.ev x) 1 els rd) (ht : tElem P t = some e) (he : tInt P e = some .u8) (ht' : tStr P t' = true) (hb : els.all isByte = true) : Sound P (.convert t t' x) S (.atom (.string ⟨(els.map pvByte).toArray⟩)) ⟨[], [], [], rd⟩ :=
  Sound.quiet fun o a w0 F0 D μ F H w hop hH hxs hr => by
    obtain ⟨ad, cap, cs, hv, hcap, hcl, hnone, hcell, hcr, hcz⟩ := src_read hx (hxs x (by simp [Op.operands])) hH hr
    refine ⟨_, ?_, .atom _⟩
    have hrun := run_convert_bytes_string (P := P) w t t' e ad els.length cap (und_elem ht) (und_int he) (und_str ht')
    let num : PV → Int := fun p => match p with | .atom (.int _ n) => n | _ => 0
    have hcs : cs = (els.map num).map (Value.int .u8) := by
      apply List.ext_getElem
      · simp [hcl]
      · intro j h1 h2
        have hj : j < els.length := by simpa using h2
        have hby := List.all_eq_true.1 hb els[j] (List.getElem_mem hj)
        have hc0 : 0 < els[j].cells.length := by rw [hcz j hj]; exact Nat.one_pos
        have := hcr j hj 0 hc0
        simp only [Nat.mul_one, Nat.add_zero] at this
        have e1 : cs.getD j undef = cs[j] := by simp [List.getD_eq_getElem?_getD, h1]
        rw [e1] at this
        have e2 : els[j].cells[0] = els[j] := by
          unfold isByte at hby
          split at hby
          · rename_i he; simp [he, PV.cells]
          · cases hby
        rw [e2] at this
        simp only [List.getElem_map]
        unfold isByte at hby
        split at hby
        · rename_i n he
          rw [he] at this
          simp only [num, he]
          exact ev_atom this rfl
        · cases hby
    have hnum : (els.map num).foldl (fun (r : ByteArray) n => r.push (UInt8.ofNat n.toNat)) ByteArray.empty = ⟨(els.map pvByte).toArray⟩ := by
      have gen : ∀ (l : List PV) (r : ByteArray), l.all isByte = true → (l.map num).foldl (fun (r : ByteArray) n => r.push (UInt8.ofNat n.toNat)) r = ⟨r.data ++ (l.map pvByte).toArray⟩ := by
        intro l
        induction l with
        | nil => intro r _; simp
        | cons p l ih =>
          intro r hl
          simp only [List.all_cons, Bool.and_eq_true] at hl
          simp only [List.map_cons, List.foldl_cons]
          rw [ih _ hl.2]
          have : pvByte p = UInt8.ofNat (num p).toNat := by
            have h1 := hl.1
            unfold isByte at h1
            split at h1
            · rfl
            · cases h1
          rw [this]
          simp [ByteArray.push]
      rw [gen els _ hb]
      have : ByteArray.empty.data = #[] := rfl
      rw [this]; simp
    unfold execOp
    simp only [hop, hv, Sem.run_bind, hrun]
    cases had : ad with
    | none =>
      have := hnone had
      subst this
      have h0 : ByteArray.empty = ⟨(([] : List PV).map pvByte).toArray⟩ := rfl
      simp [Conv.bytesToString]; exact h0
    | some y =>
      have hl := run_loadCells_list (P := P) w y cs (hcell y had)
      rw [hcl, Nat.mul_one, hcs] at hl
      rw [run_bytesToString w y els.length cap _ hl, hnum]
      rfl

end
end Go.Proofs.YtfnkciboencifaaDoor

