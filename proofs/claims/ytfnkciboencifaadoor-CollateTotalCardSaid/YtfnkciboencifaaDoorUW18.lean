/-
  Walks: the reference model of collations: what is valid.
-/
import Derived.Test.YtfnkciboencifaaDoorUW1
import Derived.Test.YtfnkciboencifaaDoorUCnt
import Derived.Test.YtfnkciboencifaaDoorUExam
set_option linter.all false
namespace Go.Proofs.YtfnkciboencifaaDoor
open Go Go.RowKit
set_option linter.unusedSimpArgs false
set_option linter.unusedVariables false
set_option maxRecDepth 20000
noncomputable def tB (p : Prop) : Bool := @decide p (Classical.propDecidable p)
theorem tB_yes {p : Prop} (h : p) : tB p = true := by unfold tB; exact @decide_eq_true p (Classical.propDecidable p) h
theorem tB_no {p : Prop} (h : ¬ p) : tB p = false := by unfold tB; exact @decide_eq_false p (Classical.propDecidable p) h
theorem tB_iff {p : Prop} : tB p = true ↔ p := ⟨fun h => Classical.byContradiction fun hn => (by rw [tB_no hn] at h; cases h), tB_yes⟩
theorem tB_eq {p q : Prop} (h : p ↔ q) : tB p = tB q := by rw [propext h]
noncomputable def tI {α : Type} (p : Prop) (a b : α) : α := if tB p then a else b
theorem tI_yes {α : Type} {p : Prop} {a b : α} (h : p) : tI p a b = a := by unfold tI; rw [tB_yes h]; rfl
theorem tI_no {α : Type} {p : Prop} {a b : α} (h : ¬ p) : tI p a b = b := by unfold tI; rw [tB_no h]; rfl
def encB (c : UInt8) : PV := .atom (.int .u8 (c.toNat : Nat))
structure SpecD where
  words : Bool
  skip : List ByteArray
  numbers : Bool
  order : List ByteArray
def encSpec (s : SpecD) : PV := .agg [.atom (.bool s.words), strs s.skip, .atom (.bool s.numbers), strs s.order]
theorem pure_spec (s : SpecD) : (encSpec s).pure = true := by simp [encSpec, PV.pure, pureL, pure_strs]
theorem ren_spec (ρ : Nat → Nat) (s : SpecD) : (encSpec s).ren ρ = encSpec s := ren_pure ρ _ (pure_spec s)
structure Sane (s : SpecD) : Prop where
  skip : s.skip.length ≤ 1000000000
  order : s.order.length ≤ 1000000000
  skips : ∀ x, x ∈ s.skip → x.size ≤ 4294967296
  orders : ∀ x, x ∈ s.order → x.size ≤ 4294967296
theorem Sane.sk {s : SpecD} (h : Sane s) {k : Nat} (hk : k < s.skip.length) : (ls s.skip k).size ≤ 4294967296 := h.skips _ (ls_mem hk)
def isDig (c : UInt8) : Bool := decide (48 ≤ c.toNat ∧ c.toNat ≤ 57)
def SmallP (w : ByteArray) : Prop := 0 < w.size ∧ w.size ≤ 24 ∧ ∀ i, i < w.size → 97 ≤ (byteAt w i).toNat ∧ (byteAt w i).toNat ≤ 122
def AtP (s : SpecD) (c : UInt8) (g i : Nat) : Prop := g < s.order.length ∧ i < (ls s.order g).size ∧ byteAt (ls s.order g) i = c
def FirstP (s : SpecD) (c : UInt8) (g i : Nat) : Prop := AtP s c g i ∧ ∀ g' i', AtP s c g' i' → g < g' ∨ (g = g' ∧ i ≤ i')
open Classical in
noncomputable def grp (s : SpecD) (c : UInt8) : Int × Int := if h : ∃ p : Nat × Nat, FirstP s c p.1 p.2 then (((Classical.choose h).1 : Nat), ((Classical.choose h).2 : Nat)) else (-1, -1)
open Classical in
theorem grp_first {s : SpecD} {c : UInt8} {g i : Nat} (h : FirstP s c g i) : grp s c = ((g : Int), (i : Int)) := by
  have hx : ∃ p : Nat × Nat, FirstP s c p.1 p.2 := ⟨(g, i), h⟩
  unfold grp
  rw [dif_pos hx]
  have h2 := Classical.choose_spec hx
  have a := h.2 _ _ h2.1
  have b := h2.2 _ _ h.1
  have e1 : (Classical.choose hx).1 = g := by omega
  have e2 : (Classical.choose hx).2 = i := by omega
  rw [e1, e2]
open Classical in
theorem grp_none {s : SpecD} {c : UInt8} (h : ∀ g i, ¬ AtP s c g i) : grp s c = (-1, -1) := by
  unfold grp
  rw [dif_neg]
  rintro ⟨p, hp⟩
  exact h _ _ hp.1
end Go.Proofs.YtfnkciboencifaaDoor
set_option linter.all false
namespace Go.Proofs.YtfnkciboencifaaDoor
open Go Go.RowKit
set_option linter.unusedSimpArgs false
set_option linter.unusedVariables false
set_option maxRecDepth 20000
def BadSkip (s : SpecD) : Prop := ∃ k, k < s.skip.length ∧ ¬ SmallP (ls s.skip k)
def BadByte (c : UInt8) : Prop := c.toNat < 33 ∨ 126 < c.toNat
def BadGroup (s : SpecD) (g : Nat) : Prop := (ls s.order g).size = 0 ∨ ∃ i, i < (ls s.order g).size ∧ BadByte (byteAt (ls s.order g) i)
def BadOrder (s : SpecD) : Prop := ∃ g, g < s.order.length ∧ BadGroup s g
def TwiceAt (s : SpecD) (g i : Nat) : Prop := ¬ ((grp s (byteAt (ls s.order g) i)).1 = g ∧ (grp s (byteAt (ls s.order g) i)).2 = i)
def Twice (s : SpecD) : Prop := ∃ g i, g < s.order.length ∧ i < (ls s.order g).size ∧ TwiceAt s g i
noncomputable def validE (s : SpecD) : Int := tI (64 < s.order.length ∨ 16 < s.skip.length) 4 (tI (BadSkip s ∨ BadOrder s) 1 (tI (Twice s) 7 0))
theorem validE_limit {s : SpecD} (h : 64 < s.order.length ∨ 16 < s.skip.length) : validE s = 4 := tI_yes h
theorem validE_bad {s : SpecD} (h : ¬ (64 < s.order.length ∨ 16 < s.skip.length)) (hb : BadSkip s ∨ BadOrder s) : validE s = 1 := (tI_no h).trans (tI_yes hb)
theorem validE_twice {s : SpecD} (h : ¬ (64 < s.order.length ∨ 16 < s.skip.length)) (hb : ¬ (BadSkip s ∨ BadOrder s)) (ht : Twice s) : validE s = 7 := (tI_no h).trans ((tI_no hb).trans (tI_yes ht))
theorem validE_ok {s : SpecD} (h : ¬ (64 < s.order.length ∨ 16 < s.skip.length)) (hb : ¬ (BadSkip s ∨ BadOrder s)) (ht : ¬ Twice s) : validE s = 0 := (tI_no h).trans ((tI_no hb).trans (tI_no ht))
theorem validE_zero {s : SpecD} (h : validE s = 0) : ¬ (64 < s.order.length ∨ 16 < s.skip.length) ∧ ¬ (BadSkip s ∨ BadOrder s) ∧ ¬ Twice s := by
  refine ⟨fun h1 => ?_, fun h1 => ?_, fun h1 => ?_⟩
  · rw [validE_limit h1] at h; cases h
  · by_cases h0 : 64 < s.order.length ∨ 16 < s.skip.length
    · rw [validE_limit h0] at h; cases h
    · rw [validE_bad h0 h1] at h; cases h
  · by_cases h0 : 64 < s.order.length ∨ 16 < s.skip.length
    · rw [validE_limit h0] at h; cases h
    · by_cases h2 : BadSkip s ∨ BadOrder s
      · rw [validE_bad h0 h2] at h; cases h
      · rw [validE_twice h0 h2 h1] at h; cases h
def Before (s : SpecD) (g i : Nat) : Prop := ∀ g' i', (g' < g ∨ (g' = g ∧ i' < i)) → i' < (ls s.order g').size → ¬ TwiceAt s g' i'
def EI (s : SpecD) (e : Int) (g i : Nat) : Prop := (e = 7 ∧ Twice s) ∨ (e = 0 ∧ Before s g i)
theorem EI.next {s : SpecD} {e : Int} {g i : Nat} (h : EI s e g i) (h1 : ¬ TwiceAt s g i) : EI s e g (i + 1) := by
  rcases h with h | ⟨h, hb⟩
  · exact .inl h
  · refine .inr ⟨h, fun g' i' hx hi => ?_⟩
    rcases hx with hx | ⟨rfl, hx⟩
    · exact hb g' i' (.inl hx) hi
    · rcases Nat.lt_succ_iff_lt_or_eq.1 hx with hx | rfl
      · exact hb _ i' (.inr ⟨rfl, hx⟩) hi
      · exact h1
theorem EI.done {s : SpecD} {e : Int} {g : Nat} (h : EI s e g 0) (hg : s.order.length ≤ g) (h1 : ¬ (64 < s.order.length ∨ 16 < s.skip.length)) (h2 : ¬ (BadSkip s ∨ BadOrder s)) : e = validE s := by
  rcases h with ⟨rfl, ht⟩ | ⟨rfl, hb⟩
  · rw [validE_twice h1 h2 ht]
  · rw [validE_ok h1 h2]
    rintro ⟨g', i', a, b, c⟩
    exact hb g' i' (.inl (by omega)) b c
end Go.Proofs.YtfnkciboencifaaDoor
set_option linter.all false
namespace Go.Proofs.YtfnkciboencifaaDoor
open Go Go.RowKit
set_option linter.unusedVariables false
theorem Rep.atomEq {D : Nat → Prop} {μ : Nat → Option Nat} {F : Nat → Prop} {w : World} {u v : Value} (h : Rep D μ F w (.atom u) v) : v = u := by cases h; rfl
theorem ResIs.atom {F : Nat → Prop} {w w' : World} (v : Value) : ResIs F w w' (.atom v) [] v :=
  ⟨fun _ => none, fun _ => False, .atom v, fun i o hi => by simp at hi, fun i b hi => by simp at hi, fun i j b hi => by simp at hi, fun b hb => hb.elim⟩
theorem Pure.atoms {P : Program} {f : FuncId} (args : List Value) (v : Value) (hen : Enters P f) (h : ∀ w, Calls P f args.toArray w fun e w' => e = .returned v ∧ Below w.heap.size w w') : Pure P f (args.map PV.atom) (.atom v) [] := by
  refine ⟨hen, fun D μ F w vs hvs hargs hF => ?_⟩
  have e : vs = args.toArray := by
    refine Array.ext (by simpa using hvs) fun i h1 h2 => ?_
    have hi : i < (args.map PV.atom).length := by simpa using h2
    have := hargs i hi
    rw [List.getElem_map] at this
    have := this.atomEq
    simpa [Array.getD, h1] using this
  rw [e]
  refine (h w).mono fun e w' he => ?_
  obtain ⟨rfl, hb⟩ := he
  exact ⟨v, rfl, hb, ResIs.atom v⟩
def foldS (s : ByteArray) : ByteArray := Elder.foldS s
theorem tokenFold_pure (s : ByteArray) (hs : s.size ≤ 4294967296) : Pure Tryd.prog 85 [encS s] (encS (foldS s)) [] :=
  Pure.atoms [.string s] _ (enters_of Tryd.func85 (by kernel_rfl) rfl) (fun w => Elder.Fold_any s w hs)
def wordsS (s : ByteArray) : List ByteArray := Elder.wordsS s
theorem words_size (s : ByteArray) : ∀ x, x ∈ wordsS s → x.size ≤ s.size := Elder.words_sizes s
theorem fields_pure (s : ByteArray) (hs : s.size ≤ 4294967296) : Pure Tryd.prog 83 [encS s, .fn 84 []] (strs (wordsS s)) [] := by
  refine ⟨enters_of Tryd.func83 (by kernel_rfl) rfl, fun D μ F w vs hvs hargs hF => ?_⟩
  have h0 := (hargs 0 (by simp)).atomEq
  have h1 : vs.getD 1 undef = .func (.func 84) #[] #[] := by
    have h := hargs 1 (by simp)
    generalize vs.getD 1 undef = u at h
    simp only [List.getElem_cons_succ, List.getElem_cons_zero] at h
    cases h with
    | fn _ _ cvs hcs _ =>
      have hc0 : cvs = #[] := Array.eq_empty_of_size_eq_zero (by simpa using hcs)
      subst hc0; rfl
  have e : vs = #[.string s, .func (.func 84) #[] #[]] := by
    refine Array.ext (by simpa using hvs) fun i g1 g2 => ?_
    have : i = 0 ∨ i = 1 := by simp at g2; omega
    rcases this with rfl | rfl
    · simpa [Array.getD, g1] using h0
    · simpa [Array.getD, g1] using h1
  rw [e]
  refine (Elder.Fields_any s w hs).mono fun e w' he => ?_
  obtain ⟨A, rfl, hc, hm, hA, hb⟩ := he
  refine ⟨_, rfl, hb, fun _ => none, fun b => b = A ∧ b < w'.heap.size, ?_, fun i o hi => by simp at hi, fun i b hi => by simp at hi, fun i j b hi => by simp at hi, fun b hb' => ⟨.inr (hb'.1 ▸ hA), hb'.2⟩⟩
  by_cases hz : (wordsS s).length = 0
  · have hz' : wordsS s = [] := List.length_eq_zero_iff.1 hz
    show Rep _ _ _ _ (.sl 1 ((wordsS s).map encS)) (.slice (some ⟨A, 0, none⟩) (wordsS s).length (wordsS s).length)
    rw [hz']
    exact .sl0 1 _ 0 (Nat.zero_le _) (fun _ => rfl) (fun x hx => by cases hx; rfl)
  · have hlt : A < w'.heap.size := World.block_lt_of_cell? w' _ (hc 0 (Nat.pos_of_ne_zero hz))
    have := Rep.sl (D := fun i => i < ([] : List AO).length) (μ := fun _ => none) (F := fun b => b = A ∧ b < w'.heap.size) (w := w') 1 ((wordsS s).map encS) A 0 (wordsS s).length (fun j => .string (ls (wordsS s) j)) ⟨rfl, hlt⟩ (by simp) hm
      (fun j hj => by
        have hj' : j < (wordsS s).length := by simpa using hj
        rw [Nat.zero_add]; exact hc j hj') (fun k hk => by simp [encS, PV.cells]) (fun k hk c hcc => by
        have hk' : k < (wordsS s).length := by simpa using hk
        have e0 : ((wordsS s).map encS)[k].cells = [encS (ls (wordsS s) k)] := by
          have : (wordsS s)[k] = ls (wordsS s) k := by simp [ls, List.getD_eq_getElem?_getD, hk']
          simp [encS, PV.cells, this]
        have hc0 : c = 0 := by rw [e0] at hcc; simpa using hcc
        subst hc0
        rw [gl e0 hcc]
        simp only [List.getElem_cons_zero, Nat.mul_one, Nat.add_zero]
        exact Rep.atom _)
    rw [List.length_map] at this
    exact this
end Go.Proofs.YtfnkciboencifaaDoor
set_option linter.all false
namespace Go.Proofs.YtfnkciboencifaaDoor
open Go Go.RowKit
set_option linter.unusedSimpArgs false
set_option linter.unusedVariables false
set_option maxRecDepth 20000
def ext (s : ByteArray) (x : Nat × Nat) : ByteArray := s.extract x.1 x.2
structure WI (s : ByteArray) (i frm : Nat) (out : List ByteArray) : Prop where
  le : frm ≤ i
  len : out.length ≤ i
  core : (i ≤ s.size ∧ ∃ acc st, out = acc.map (ext s) ∧ Elder.spB s s.size 0 none [] = Elder.spB s (s.size - i) i st acc ∧ ((st = none ∧ frm = i) ∨ (st = some frm ∧ frm < i))) ∨ (i = s.size + 1 ∧ out = wordsS s)
theorem WI.start (s : ByteArray) : WI s 0 0 [] := ⟨Nat.le_refl _, Nat.le_refl _, .inl ⟨Nat.zero_le _, [], none, rfl, rfl, .inl ⟨rfl, rfl⟩⟩⟩
theorem WI.go {s : ByteArray} {i frm : Nat} {out : List ByteArray} (h : WI s i frm out) (hi : i < s.size) (hb : ¬ byteAt s i = 32) : WI s (i + 1) frm out := by
  refine ⟨by have := h.le; omega, by have := h.len; omega, ?_⟩
  rcases h.core with ⟨_, acc, st, ho, hs, hst⟩ | ⟨h1, _⟩
  · have hn : ¬ ((Elder.bt s i == 32) = true) := fun hx => hb (show Elder.bt s i = 32 by simpa using hx)
    rcases hst with ⟨rfl, he⟩ | ⟨rfl, hf⟩
    · refine .inl ⟨by omega, acc, some frm, ho, ?_, .inr ⟨rfl, by omega⟩⟩
      rw [hs, show s.size - i = (s.size - (i + 1)) + 1 by omega, Elder.spB, if_neg hn, he]
    · refine .inl ⟨by omega, acc, some frm, ho, ?_, .inr ⟨rfl, by omega⟩⟩
      rw [hs, show s.size - i = (s.size - (i + 1)) + 1 by omega, Elder.spB, if_neg hn]
  · omega
theorem WI.done {s : ByteArray} {i frm : Nat} {out : List ByteArray} (h : WI s i frm out) (hi : s.size < i) : out = wordsS s := by
  rcases h.core with ⟨h1, _⟩ | ⟨_, h1⟩
  · omega
  · exact h1
end Go.Proofs.YtfnkciboencifaaDoor
set_option linter.all false
namespace Go.Proofs.YtfnkciboencifaaDoor
open Go Go.RowKit
set_option linter.unusedSimpArgs false
set_option linter.unusedVariables false
set_option maxRecDepth 20000
noncomputable def dropSkip (sk : List ByteArray) : List ByteArray → List ByteArray
  | [] => []
  | [x] => [x]
  | x :: y :: l => if tB (foldS x ∈ sk) then dropSkip sk (y :: l) else x :: y :: l
theorem dropSkip_yes {sk : List ByteArray} {x : ByteArray} {l : List ByteArray} (h : 1 ≤ l.length) (hc : tB (foldS x ∈ sk) = true) : dropSkip sk (x :: l) = dropSkip sk l := by
  cases l with
  | nil => simp at h
  | cons y l => rw [dropSkip, if_pos hc]
theorem dropSkip_no {sk : List ByteArray} {x : ByteArray} {l : List ByteArray} (hc : tB (foldS x ∈ sk) = false) : dropSkip sk (x :: l) = x :: l := by
  cases l with
  | nil => rfl
  | cons y l => rw [dropSkip, if_neg (by rw [hc]; decide)]
theorem dropSkip_short {sk l : List ByteArray} (h : l.length ≤ 1) : dropSkip sk l = l := by
  match l, h with
  | [], _ => rfl
  | [x], _ => rfl
noncomputable def counted (s : SpecD) (t : ByteArray) : List ByteArray := dropSkip s.skip (wordsS t)
theorem spB_len (s : ByteArray) : ∀ (f pos : Nat) (st : Option Nat) (acc : List (Nat × Nat)), (Elder.spB s f pos st acc).1.length ≤ acc.length + f
  | 0, _, st, acc => Nat.le_refl _
  | f + 1, pos, st, acc => by
    unfold Elder.spB
    split
    · split
      · refine Nat.le_trans (spB_len s f (pos + 1) none _) ?_
        simp; omega
      · have := spB_len s f (pos + 1) none acc; omega
    · split
      · exact Nat.le_trans (spB_len s f (pos + 1) (some _) acc) (by omega)
      · have := spB_len s f (pos + 1) (some pos) acc; omega
theorem words_len (s : ByteArray) : (wordsS s).length ≤ s.size + 1 := by
  show (List.map _ (Lib.closeSpans s _)).length ≤ _
  rw [List.length_map]
  have := spB_len s s.size 0 none []
  simp only [List.length_nil, Nat.zero_add] at this
  unfold Lib.closeSpans
  split <;> simp <;> omega
def bl (w : ByteArray) : List UInt8 := w.data.toList
theorem bl_len (w : ByteArray) : (bl w).length = w.size := by simp [bl]
theorem drop_bl {w : ByteArray} {k : Nat} (h : k < w.size) : (bl w).drop k = byteAt w k :: (bl w).drop (k + 1) := by
  have h' : k < (bl w).length := by rw [bl_len]; exact h
  have : byteAt w k = (bl w)[k] := by show (bl w).getD k 0 = _; simp [List.getD_eq_getElem?_getD, h']
  rw [this]; exact List.drop_eq_getElem_cons h'
theorem drop_bl_end {w : ByteArray} {k : Nat} (h : w.size ≤ k) : (bl w).drop k = [] := List.drop_eq_nil_of_le (by rw [bl_len]; exact h)
def zero8 (c : UInt8) : Bool := decide (c = 48)
def digOf (c : UInt8) : Int := (c.toNat : Int) - 48
def numOf (ds : List UInt8) : List Int := (ds.dropWhile zero8).map digOf
def zerosOf (ds : List UInt8) : Int := ((ds.length - (ds.dropWhile zero8).length : Nat) : Int)
noncomputable def wordF (s : SpecD) : Nat → List UInt8 → List Int × List Int
  | 0, _ => ([], [])
  | _ + 1, [] => ([], [])
  | f + 1, c :: t =>
    if s.numbers && isDig c then
      (1 :: ((numOf ((c :: t).takeWhile isDig)).length : Int) :: (numOf ((c :: t).takeWhile isDig) ++ (wordF s f ((c :: t).dropWhile isDig)).1), zerosOf ((c :: t).takeWhile isDig) :: (wordF s f ((c :: t).dropWhile isDig)).2)
    else if 0 ≤ (grp s c).1 then ((2 + (grp s c).1) :: (wordF s f t).1, (grp s c).2 :: (wordF s f t).2) else wordF s f t
noncomputable def wordS (s : SpecD) (w : ByteArray) : List Int × List Int := wordF s w.size (bl w)
structure WordI (s : SpecD) (w : ByteArray) (k : Nat) (a b : List Int) : Prop where
  le : k ≤ w.size
  la : a.length ≤ 3 * k
  lb : b.length ≤ k
  core : ∃ f, w.size - k ≤ f ∧ wordS s w = (a ++ (wordF s f ((bl w).drop k)).1, b ++ (wordF s f ((bl w).drop k)).2)
theorem WordI.start (s : SpecD) (w : ByteArray) : WordI s w 0 [] [] := ⟨Nat.zero_le _, Nat.le_refl _, Nat.le_refl _, w.size, Nat.le_refl _, rfl⟩
theorem wordF_nil (s : SpecD) (f : Nat) : wordF s f [] = ([], []) := by cases f <;> rfl
theorem WordI.done {s : SpecD} {w : ByteArray} {k : Nat} {a b : List Int} (h : WordI s w k a b) (hk : w.size ≤ k) : wordS s w = (a, b) := by
  obtain ⟨f, _, he⟩ := h.core
  rw [he, drop_bl_end hk, wordF_nil]; simp
theorem WordI.none {s : SpecD} {w : ByteArray} {k : Nat} {a b : List Int} (h : WordI s w k a b) (hk : k < w.size) (hn : (s.numbers && isDig (byteAt w k)) = false) (hg : ¬ 0 ≤ (grp s (byteAt w k)).1) :
    WordI s w (k + 1) a b := by
  obtain ⟨f, hf, he⟩ := h.core
  refine ⟨hk, by have := h.la; omega, by have := h.lb; omega, f - 1, by omega, ?_⟩
  obtain ⟨f, rfl⟩ : ∃ g, f = g + 1 := ⟨f - 1, by omega⟩
  rw [he, drop_bl hk, wordF, if_neg (by rw [hn]; decide), if_neg hg]
  simp
structure DigI (w : ByteArray) (k0 k : Nat) (ds : List UInt8) : Prop where
  le : k ≤ w.size
  split : (bl w).drop k0 = ds ++ (bl w).drop k
  len : ds.length + k0 = k
  dig : ∀ c, c ∈ ds → isDig c = true
theorem DigI.start {w : ByteArray} {k : Nat} (h : k ≤ w.size) : DigI w k k [] := ⟨h, rfl, by simp, fun c hc => by simp at hc⟩
theorem DigI.next {w : ByteArray} {k0 k : Nat} {ds : List UInt8} (h : DigI w k0 k ds) (hk : k < w.size) (hd : isDig (byteAt w k) = true) : DigI w k0 (k + 1) (ds ++ [byteAt w k]) :=
  ⟨hk, by rw [h.split, drop_bl hk]; simp, by have := h.len; simp; omega, fun c hc => by
    rcases List.mem_append.1 hc with hc | hc
    · exact h.dig c hc
    · rw [List.mem_singleton.1 hc]; exact hd⟩
theorem dropWhile_le (p : UInt8 → Bool) (ds : List UInt8) : (ds.dropWhile p).length ≤ ds.length := (List.dropWhile_sublist p).length_le
theorem take_digs {ds r : List UInt8} (hd : ∀ c, c ∈ ds → isDig c = true) (hr : r = [] ∨ ∃ c t, r = c :: t ∧ isDig c = false) : (ds ++ r).takeWhile isDig = ds ∧ (ds ++ r).dropWhile isDig = r := by
  induction ds with
  | nil =>
    rcases hr with rfl | ⟨c, t, rfl, hc⟩
    · simp
    · simp [List.takeWhile_cons, List.dropWhile_cons, hc]
  | cons d ds ih =>
    have := ih (fun c hc => hd c (List.mem_cons_of_mem _ hc))
    have h0 := hd d (List.mem_cons_self ..)
    rw [List.cons_append, List.takeWhile_cons, List.dropWhile_cons, h0]
    simp [this.1, this.2]
theorem WordI.num {s : SpecD} {w : ByteArray} {k0 k : Nat} {a b : List Int} {ds : List UInt8} (h : WordI s w k0 a b) (hk : k0 < w.size) (hn : s.numbers = true) (hd : isDig (byteAt w k0) = true) (hD : DigI w k0 k ds) (he : w.size ≤ k ∨ isDig (byteAt w k) = false) :
    WordI s w k (a ++ [1, ((numOf ds).length : Int)] ++ numOf ds) (b ++ [zerosOf ds]) ∧ k0 < k := by
  obtain ⟨f, hf, hw⟩ := h.core
  have hr : (bl w).drop k = [] ∨ ∃ c t, (bl w).drop k = c :: t ∧ isDig c = false := by
    by_cases hkk : w.size ≤ k
    · exact .inl (drop_bl_end hkk)
    · exact .inr ⟨_, _, drop_bl (by omega), he.resolve_left hkk⟩
  obtain ⟨t1, t2⟩ := take_digs hD.dig hr
  have hlt : k0 < k := by
    rcases Nat.lt_or_ge k0 k with h1 | h1
    · exact h1
    · have := hD.len
      have hkk : k = k0 := by omega
      subst hkk
      rcases he with h2 | h2
      · omega
      · rw [hd] at h2; cases h2
  have hnl : (numOf ds).length ≤ ds.length := by unfold numOf; rw [List.length_map]; exact dropWhile_le _ _
  have := hD.len
  have := hD.le
  refine ⟨⟨hD.le, by have := h.la; simp; omega, by have := h.lb; simp; omega, f - 1, by omega, ?_⟩, hlt⟩
  obtain ⟨f, rfl⟩ : ∃ g, f = g + 1 := ⟨f - 1, by omega⟩
  rw [hw]
  have e2 := hD.split
  rw [drop_bl hk] at e2 ⊢
  rw [wordF, if_pos (by rw [hn, hd]; rfl), e2, t1, t2]
  simp
end Go.Proofs.YtfnkciboencifaaDoor
set_option linter.all false
namespace Go.Proofs.YtfnkciboencifaaDoor
open Go Go.RowKit
set_option linter.unusedSimpArgs false
set_option linter.unusedVariables false
set_option maxRecDepth 20000
set_option maxHeartbeats 2000000
noncomputable def keyL (s : SpecD) : Bool → List ByteArray → List Int × List Int
  | _, [] => ([], [])
  | fst, w :: l => ((if !fst && s.words then [0] else []) ++ (wordS s w).1 ++ (keyL s false l).1, (wordS s w).2 ++ (keyL s false l).2)
noncomputable def keyOf (s : SpecD) (t : ByteArray) : List Int := (keyL s true (counted s t)).1 ++ [-1] ++ (keyL s true (counted s t)).2
theorem wordF_len (s : SpecD) : ∀ (f : Nat) (l : List UInt8), (wordF s f l).1.length ≤ 3 * l.length ∧ (wordF s f l).2.length ≤ l.length
  | 0, l => by simp [wordF]
  | f + 1, [] => by simp [wordF]
  | f + 1, c :: t => by
    rw [wordF]
    split
    · rename_i h
      have hd : isDig c = true := by simp at h; exact h.2
      have h1 := wordF_len s f ((c :: t).dropWhile isDig)
      have h2 : ((c :: t).takeWhile isDig).length + ((c :: t).dropWhile isDig).length = (c :: t).length := by
        rw [← List.length_append, List.takeWhile_append_dropWhile]
      have h3 : (numOf ((c :: t).takeWhile isDig)).length ≤ ((c :: t).takeWhile isDig).length := by unfold numOf; rw [List.length_map]; exact dropWhile_le _ _
      have h4 : 1 ≤ ((c :: t).takeWhile isDig).length := by rw [List.takeWhile_cons, hd]; simp
      simp only [List.length_cons, List.length_append] at *
      omega
    · have h1 := wordF_len s f t
      split
      · simp only [List.length_cons]; omega
      · simp only [List.length_cons]; omega
theorem wordS_len (s : SpecD) (w : ByteArray) : (wordS s w).1.length ≤ 3 * w.size ∧ (wordS s w).2.length ≤ w.size := by
  have := wordF_len s w.size (bl w)
  rw [bl_len] at this
  exact this
theorem counted_sub (s : SpecD) (t : ByteArray) : ∀ x, x ∈ counted s t → x ∈ wordsS t := by
  unfold counted
  have : ∀ l : List ByteArray, ∀ x, x ∈ dropSkip s.skip l → x ∈ l := by
    intro l
    induction l with
    | nil => intro x hx; exact hx
    | cons a l ih =>
      intro x hx
      cases l with
      | nil => exact hx
      | cons b l =>
        rw [dropSkip] at hx
        split at hx
        · exact List.mem_cons_of_mem _ (ih x hx)
        · exact hx
  exact this _
theorem counted_len (s : SpecD) (t : ByteArray) : (counted s t).length ≤ t.size + 1 := by
  refine Nat.le_trans ?_ (words_len t)
  unfold counted
  have : ∀ l : List ByteArray, (dropSkip s.skip l).length ≤ l.length := by
    intro l
    induction l with
    | nil => exact Nat.le_refl _
    | cons a l ih =>
      cases l with
      | nil => exact Nat.le_refl _
      | cons b l =>
        rw [dropSkip]
        split
        · simp only [List.length_cons] at *; omega
        · exact Nat.le_refl _
  exact this _
structure KeyI (s : SpecD) (t : ByteArray) (ws : List ByteArray) (k : Nat) (a b : List Int) : Prop where
  le : k ≤ ws.length
  la : a.length ≤ k * (3 * t.size + 1)
  lb : b.length ≤ k * t.size
  core : keyL s true ws = (a ++ (keyL s (decide (k = 0)) (ws.drop k)).1, b ++ (keyL s (decide (k = 0)) (ws.drop k)).2)
theorem KeyI.start (s : SpecD) (t : ByteArray) (ws : List ByteArray) : KeyI s t ws 0 [] [] := ⟨Nat.zero_le _, by simp, by simp, by simp⟩
theorem KeyI.done {s : SpecD} {t : ByteArray} {ws : List ByteArray} {k : Nat} {a b : List Int} (h : KeyI s t ws k a b) (hk : ws.length ≤ k) : keyL s true ws = (a, b) := by
  have := h.core
  rw [List.drop_eq_nil_of_le hk, keyL] at this
  simpa using this
theorem KeyI.next {s : SpecD} {t : ByteArray} {ws : List ByteArray} {k : Nat} {a b z : List Int} (h : KeyI s t ws k a b) (hk : k < ws.length) (hs : (ls ws k).size ≤ t.size) (hz : z = if 0 < k ∧ s.words = true then [0] else []) :
    KeyI s t ws (k + 1) (a ++ z ++ (wordS s (ls ws k)).1) (b ++ (wordS s (ls ws k)).2) := by
  have hl := wordS_len s (ls ws k)
  have hzl : z.length ≤ 1 := by rw [hz]; split <;> simp
  refine ⟨hk, ?_, ?_, ?_⟩
  · have := h.la
    rw [Nat.succ_mul]
    simp only [List.length_append]; omega
  · have := h.lb
    rw [Nat.succ_mul]
    simp only [List.length_append]; omega
  · rw [h.core, drop_ls hk, keyL]
    have e : (if (!decide (k = 0) && s.words) = true then [(0 : Int)] else []) = z := by
      rw [hz]
      cases hw : s.words <;> by_cases h0 : k = 0 <;> simp [h0, Nat.pos_iff_ne_zero]
    rw [e]
    simp
end Go.Proofs.YtfnkciboencifaaDoor
set_option linter.all false
namespace Go.Proofs.YtfnkciboencifaaDoor
open Go Go.RowKit
set_option linter.unusedSimpArgs false
set_option linter.unusedVariables false
set_option maxRecDepth 20000
set_option maxHeartbeats 2000000
noncomputable def keyE (s : SpecD) (t : ByteArray) : Int := if validE s ≠ 0 then validE s else if 4096 < t.size then 4 else 0
noncomputable def keyR (s : SpecD) (t : ByteArray) : List Int := if keyE s t = 0 then keyOf s t else []
theorem keyE_ok {s : SpecD} {t : ByteArray} (h : validE s = 0) (ht : ¬ 4096 < t.size) : keyE s t = 0 ∧ keyR s t = keyOf s t := by
  have e : keyE s t = 0 := by unfold keyE; rw [if_neg (by rw [h]; decide), if_neg ht]
  exact ⟨e, if_pos e⟩
theorem keyL_len (s : SpecD) (t : ByteArray) : ∀ (l : List ByteArray) (f : Bool), (∀ x, x ∈ l → x.size ≤ t.size) → (keyL s f l).1.length ≤ l.length * (3 * t.size + 1) ∧ (keyL s f l).2.length ≤ l.length * t.size
  | [], f, _ => by simp [keyL]
  | w :: l, f, h => by
    have h1 := keyL_len s t l false (fun x hx => h x (List.mem_cons_of_mem _ hx))
    have h2 := wordS_len s w
    have h3 := h w (List.mem_cons_self ..)
    have h4 : (if (!f && s.words) = true then [(0 : Int)] else []).length ≤ 1 := by split <;> simp
    rw [keyL]
    have e1 : (l.length + 1) * (3 * t.size + 1) = l.length * (3 * t.size + 1) + (3 * t.size + 1) := Nat.succ_mul _ _
    have e2 : (l.length + 1) * t.size = l.length * t.size + t.size := Nat.succ_mul _ _
    simp only [List.length_append, List.length_cons]
    rw [e1, e2]
    omega
noncomputable def cmpE (s : SpecD) (a b : ByteArray) : Int := if keyE s a ≠ 0 then keyE s a else keyE s b
noncomputable def cmpR (s : SpecD) (a b : ByteArray) : Int := if cmpE s a b = 0 then lexi (keyR s a) (keyR s b) else 0
def posD (x : List Int) (ks : List (List Int)) : Nat → Nat
  | 0 => 0
  | k + 1 => if lexi x (ks.getD k []) < 0 then posD x ks k else k + 1
def insAt {α : Type} (l : List α) (k : Nat) (x : α) : List α := l.take k ++ x :: l.drop k
theorem insAt_map {α β : Type} (f : α → β) (l : List α) (k : Nat) (x : α) : (insAt l k x).map f = insAt (l.map f) k (f x) := by simp [insAt, List.map_take, List.map_drop]
theorem insAt_len {α : Type} (l : List α) (k : Nat) (x : α) : (insAt l k x).length = l.length + 1 := by simp [insAt]; omega
noncomputable def insS (s : SpecD) (out : List ByteArray) (x : ByteArray) : List ByteArray := insAt out (posD (keyR s x) (out.map (keyR s)) out.length) x
noncomputable def sortS (s : SpecD) (l : List ByteArray) : List ByteArray := l.foldl (insS s) []
noncomputable def sortE (s : SpecD) (l : List ByteArray) : Int := if validE s ≠ 0 then validE s else if 1000 < l.length then 4 else tI (∃ x, x ∈ l ∧ 4096 < x.size) 4 0
noncomputable def sortR (s : SpecD) (l : List ByteArray) : List ByteArray := if sortE s l = 0 then sortS s l else []
theorem sortE_bad {s : SpecD} {l : List ByteArray} (h : validE s ≠ 0) : sortE s l = validE s ∧ sortR s l = [] := by
  have e : sortE s l = validE s := if_pos h
  exact ⟨e, if_neg (by rw [e]; exact h)⟩
theorem sortE_many {s : SpecD} {l : List ByteArray} (h : validE s = 0) (hl : 1000 < l.length) : sortE s l = 4 ∧ sortR s l = [] := by
  have e : sortE s l = 4 := by unfold sortE; rw [if_neg (by rw [h]; decide), if_pos hl]
  exact ⟨e, if_neg (by rw [e]; decide)⟩
theorem sortE_long {s : SpecD} {l : List ByteArray} (h : validE s = 0) (hl : ¬ 1000 < l.length) (hx : ∃ x, x ∈ l ∧ 4096 < x.size) : sortE s l = 4 ∧ sortR s l = [] := by
  have e : sortE s l = 4 := by unfold sortE; rw [if_neg (by rw [h]; decide), if_neg hl, tI_yes hx]
  exact ⟨e, if_neg (by rw [e]; decide)⟩
theorem sortE_ok {s : SpecD} {l : List ByteArray} (h : validE s = 0) (hl : ¬ 1000 < l.length) (hx : ¬ ∃ x, x ∈ l ∧ 4096 < x.size) : sortE s l = 0 ∧ sortR s l = sortS s l := by
  have e : sortE s l = 0 := by unfold sortE; rw [if_neg (by rw [h]; decide), if_neg hl, tI_no hx]
  exact ⟨e, if_pos e⟩
structure SortI (s : SpecD) (l : List ByteArray) (i : Nat) (out : List ByteArray) : Prop where
  le : i ≤ l.length
  len : out.length = i
  core : sortS s l = (l.drop i).foldl (insS s) out
  small : ∀ j, j < i → (ls l j).size ≤ 4096
theorem SortI.start (s : SpecD) (l : List ByteArray) : SortI s l 0 [] := ⟨Nat.zero_le _, rfl, rfl, fun j hj => by omega⟩
theorem SortI.next {s : SpecD} {l : List ByteArray} {i : Nat} {out : List ByteArray} (h : SortI s l i out) (hi : i < l.length) (hs : (ls l i).size ≤ 4096) : SortI s l (i + 1) (insS s out (ls l i)) := by
  refine ⟨hi, by unfold insS; rw [insAt_len, h.len], by rw [h.core, drop_ls hi]; rfl, fun j hj => ?_⟩
  rcases Nat.lt_succ_iff_lt_or_eq.1 hj with hj | rfl
  · exact h.small j hj
  · exact hs
theorem SortI.done {s : SpecD} {l : List ByteArray} {i : Nat} {out : List ByteArray} (h : SortI s l i out) (hi : l.length ≤ i) : sortS s l = out ∧ ¬ ∃ x, x ∈ l ∧ 4096 < x.size := by
  refine ⟨by rw [h.core, List.drop_eq_nil_of_le hi]; rfl, ?_⟩
  rintro ⟨x, hx, hl⟩
  obtain ⟨j, hj, rfl⟩ := List.getElem_of_mem hx
  have := h.small j (by omega)
  have e : ls l j = l[j] := by simp [ls, List.getD_eq_getElem?_getD, hj]
  rw [e] at this
  omega
structure PosI (x : List Int) (ks : List (List Int)) (n k : Nat) : Prop where
  le : k ≤ n
  core : posD x ks n = posD x ks k
theorem PosI.down {x : List Int} {ks : List (List Int)} {n k : Nat} (h : PosI x ks n k) (hk : 0 < k) (hc : lexi x (ks.getD (k - 1) []) < 0) : PosI x ks n (k - 1) := by
  obtain ⟨k, rfl⟩ : ∃ j, k = j + 1 := ⟨k - 1, by omega⟩
  simp only [Nat.add_sub_cancel] at hc ⊢
  refine ⟨by have := h.le; omega, ?_⟩
  rw [h.core, posD, if_pos hc]
theorem PosI.stop {x : List Int} {ks : List (List Int)} {n k : Nat} (h : PosI x ks n k) (hc : k = 0 ∨ ¬ lexi x (ks.getD (k - 1) []) < 0) : posD x ks n = k := by
  rw [h.core]
  cases k with
  | zero => rfl
  | succ k =>
    simp only [Nat.add_sub_cancel] at hc
    rw [posD, if_neg (hc.resolve_left (by omega))]
end Go.Proofs.YtfnkciboencifaaDoor
set_option linter.all false
namespace Go.Proofs.YtfnkciboencifaaDoor
open Go Go.RowKit
set_option linter.unusedSimpArgs false
set_option linter.unusedVariables false
def toE (s : SpecD) : Elder.SpecD := ⟨s.words, s.skip, s.numbers, s.order⟩
theorem ls_of_mem {l : List ByteArray} {x : ByteArray} (h : x ∈ l) : ∃ k, k < l.length ∧ ls l k = x := by
  obtain ⟨k, hk, rfl⟩ := List.mem_iff_getElem.1 h
  exact ⟨k, hk, by simp [ls, List.getD_eq_getElem?_getD, hk]⟩
theorem ls_in {l : List ByteArray} {k : Nat} (h : k < l.length) : ls l k ∈ l := ls_mem h
theorem byteAt_mem {w : ByteArray} {i : Nat} (h : i < w.size) : byteAt w i ∈ w.data.toList := by
  have h' : i < w.data.toList.length := by simpa using h
  have : byteAt w i = w.data.toList[i] := by unfold byteAt; exact (List.getElem_eq_getD _).symm
  rw [this]; exact List.getElem_mem h'
theorem byteAt_of_mem {w : ByteArray} {c : UInt8} (h : c ∈ w.data.toList) : ∃ i, i < w.size ∧ byteAt w i = c := by
  obtain ⟨i, hi, rfl⟩ := List.mem_iff_getElem.1 h
  exact ⟨i, by simpa using hi, by unfold byteAt; exact (List.getElem_eq_getD _).symm⟩
theorem smallS_iff (x : ByteArray) : Elder.smallS x = true ↔ SmallP x := by
  unfold Elder.smallS SmallP
  rw [Bool.and_eq_true, Bool.and_eq_true, decide_eq_true_eq, decide_eq_true_eq, List.all_eq_true, and_assoc]
  refine and_congr Iff.rfl (and_congr Iff.rfl ⟨fun h i hi => ?_, fun h c hc => ?_⟩)
  · have := h _ (byteAt_mem hi)
    simpa [Elder.lowB] using this
  · obtain ⟨i, hi, rfl⟩ := byteAt_of_mem hc
    simpa [Elder.lowB] using h i hi
theorem badSkip_iff (s : SpecD) : (s.skip.any fun x => !Elder.smallS x) = true ↔ BadSkip s := by
  rw [List.any_eq_true]
  constructor
  · rintro ⟨x, hx, hn⟩
    obtain ⟨k, hk, rfl⟩ := ls_of_mem hx
    exact ⟨k, hk, fun h => by rw [(smallS_iff _).2 h] at hn; cases hn⟩
  · rintro ⟨k, hk, hn⟩
    refine ⟨_, ls_in hk, ?_⟩
    cases h : Elder.smallS (ls s.skip k)
    · rfl
    · exact absurd ((smallS_iff _).1 h) hn
abbrev pl (s : SpecD) : List Elder.Trip := Elder.plFrom s.order 0
theorem plGroup_iff {g : Nat} {x : Elder.Trip} : ∀ {l : List UInt8} {i : Nat}, x ∈ Elder.plGroup g l i ↔ x.2.1 = g ∧ ∃ j, j < l.length ∧ x.2.2 = i + j ∧ l.getD j 0 = x.1
  | [], i => by simp [Elder.plGroup]
  | c :: l, i => by
    rw [Elder.plGroup, List.mem_cons, plGroup_iff]
    constructor
    · rintro (rfl | ⟨h, j, hj, h1, h2⟩)
      · exact ⟨rfl, 0, by simp, rfl, rfl⟩
      · exact ⟨h, j + 1, by simpa using hj, by omega, by simpa using h2⟩
    · rintro ⟨h, j, hj, h1, h2⟩
      cases j with
      | zero => exact .inl (by obtain ⟨a, b, d⟩ := x; simp at h h1 h2; subst h h1 h2; rfl)
      | succ j => exact .inr ⟨h, j, by simpa using hj, by omega, by simpa using h2⟩
theorem plFrom_iff {x : Elder.Trip} : ∀ {l : List ByteArray} {g : Nat}, x ∈ Elder.plFrom l g ↔ ∃ k, k < l.length ∧ x.2.1 = g + k ∧ x.2.2 < (ls l k).size ∧ byteAt (ls l k) x.2.2 = x.1
  | [], g => by simp [Elder.plFrom]
  | s :: l, g => by
    rw [Elder.plFrom, List.mem_append, plGroup_iff, plFrom_iff]
    constructor
    · rintro (⟨h, j, hj, h1, h2⟩ | ⟨k, hk, h1, h2, h3⟩)
      · have e : x.2.2 = j := by omega
        exact ⟨0, by simp, h, by rw [e]; simpa [ls] using hj, by rw [e]; exact h2⟩
      · exact ⟨k + 1, by simpa using hk, by omega, by simpa [ls] using h2, by simpa [ls] using h3⟩
    · rintro ⟨k, hk, h1, h2, h3⟩
      cases k with
      | zero => exact .inl ⟨h1, x.2.2, by simpa [ls] using h2, by omega, h3⟩
      | succ k => exact .inr ⟨k, by simpa using hk, by omega, by simpa [ls] using h2, by simpa [ls] using h3⟩
theorem pl_iff (s : SpecD) (c : UInt8) (g i : Nat) : (c, g, i) ∈ pl s ↔ AtP s c g i := by
  rw [pl, plFrom_iff]
  constructor
  · rintro ⟨k, hk, h1, h2, h3⟩
    simp only [Nat.zero_add] at h1 h2 h3
    subst h1
    exact ⟨hk, h2, h3⟩
  · rintro ⟨h1, h2, h3⟩
    exact ⟨g, h1, by simp, h2, h3⟩
def Lex (x y : Elder.Trip) : Prop := x.2.1 < y.2.1 ∨ (x.2.1 = y.2.1 ∧ x.2.2 < y.2.2)
theorem plGroup_sorted {g : Nat} : ∀ (l : List UInt8) (i : Nat), (Elder.plGroup g l i).Pairwise Lex
  | [], _ => List.Pairwise.nil
  | c :: l, i => List.pairwise_cons.2 ⟨fun y hy => by
      obtain ⟨h, j, _, h1, _⟩ := plGroup_iff.1 hy
      exact .inr ⟨h.symm, by dsimp only; omega⟩, plGroup_sorted l (i + 1)⟩
theorem plFrom_sorted : ∀ (l : List ByteArray) (g : Nat), (Elder.plFrom l g).Pairwise Lex
  | [], _ => List.Pairwise.nil
  | s :: l, g => List.pairwise_append.2 ⟨plGroup_sorted _ _, plFrom_sorted l (g + 1), fun x hx y hy => by
      obtain ⟨h, _⟩ := plGroup_iff.1 hx
      obtain ⟨k, _, h1, _⟩ := plFrom_iff.1 hy
      exact .inl (by omega)⟩
theorem grp_find (s : SpecD) (c : UInt8) : grp s c = match (pl s).find? (fun x => x.1 == c) with | some x => ((x.2.1 : Int), (x.2.2 : Int)) | none => (-1, -1) := by
  cases h : (pl s).find? (fun x => x.1 == c) with
  | none =>
    refine grp_none fun g i hA => ?_
    have := List.find?_eq_none.1 h _ ((pl_iff s c g i).2 hA)
    simp at this
  | some x =>
    obtain ⟨a, g, i⟩ := x
    obtain ⟨hx, p1, p2, hl, hno⟩ := List.find?_eq_some_iff_append.1 h
    have ha : a = c := by simpa using hx
    subst ha
    have hs := plFrom_sorted s.order 0
    show grp s a = ((g : Int), (i : Int))
    refine grp_first ⟨(pl_iff s a g i).1 (by rw [hl]; simp), fun g' i' hA => ?_⟩
    have hm := (pl_iff s a g' i').2 hA
    rw [hl] at hm
    rw [show Elder.plFrom s.order 0 = _ from hl] at hs
    rcases List.mem_append.1 hm with hm | hm
    · have := hno _ hm; simp at this
    · rcases List.mem_cons.1 hm with hm | hm
      · injection hm with _ h2; injection h2 with h2 h3; exact .inr ⟨h2.symm, by omega⟩
      · have := (List.pairwise_cons.1 (List.pairwise_append.1 hs).2.1).1 _ hm
        unfold Lex at this
        dsimp only at this
        omega
theorem bytes_pl : ∀ (l : List ByteArray) (g : Nat), (Elder.plFrom l g).map (·.1) = Elder.bytesOf l
  | [], _ => rfl
  | s :: l, g => by
    have h : ∀ (m : List UInt8) (i : Nat), (Elder.plGroup g m i).map (·.1) = m := by
      intro m
      induction m with
      | nil => intro i; rfl
      | cons c m ih => intro i; rw [Elder.plGroup, List.map_cons, ih]
    rw [Elder.plFrom, List.map_append, h, bytes_pl l (g + 1)]
    simp [Elder.bytesOf]
def Once (s : SpecD) : Prop := ∀ x, x ∈ pl s → ∀ y, y ∈ pl s → x.1 = y.1 → x = y
theorem nodup_once {α β : Type} (f : α → β) : ∀ (l : List α), (l.map f).Nodup → ∀ x, x ∈ l → ∀ y, y ∈ l → f x = f y → x = y
  | [], _, x, hx, _, _, _ => by simp at hx
  | a :: l, h, x, hx, y, hy, he => by
    rw [List.map_cons, List.nodup_cons] at h
    rcases List.mem_cons.1 hx with e1 | h1
    · rcases List.mem_cons.1 hy with e2 | h2
      · rw [e1, e2]
      · rw [e1] at he
        exact absurd (he ▸ List.mem_map_of_mem h2) h.1
    · rcases List.mem_cons.1 hy with e2 | h2
      · rw [e2] at he
        exact absurd (he ▸ List.mem_map_of_mem h1) h.1
      · exact nodup_once f l h.2 x h1 y h2 he
theorem once_iff (s : SpecD) : (Elder.bytesOf s.order).Nodup ↔ Once s := by
  rw [← bytes_pl s.order 0]
  constructor
  · exact fun h => nodup_once _ _ h
  · intro h
    refine List.pairwise_map.2 ((plFrom_sorted s.order 0).imp_of_mem fun {a b} ha hb hl he => ?_)
    have := h a ha b hb he
    subst this
    unfold Lex at hl
    omega
theorem twice_iff (s : SpecD) : Twice s ↔ ¬ Once s := by
  constructor
  · rintro ⟨g, i, hg, hi, ht⟩ ho
    refine ht ?_
    have hm : (byteAt (ls s.order g) i, g, i) ∈ pl s := (pl_iff _ _ _ _).2 ⟨hg, hi, rfl⟩
    rw [grp_find]
    cases h : (pl s).find? (fun x => x.1 == byteAt (ls s.order g) i) with
    | none => have := List.find?_eq_none.1 h _ hm; simp at this
    | some x =>
      have h1 := List.find?_some h
      have := ho x (List.mem_of_find?_eq_some h) _ hm (by simpa using h1)
      subst this
      exact ⟨rfl, rfl⟩
  · intro h
    refine Classical.byContradiction fun hn => h fun x hx y hy he => ?_
    have key : ∀ z, z ∈ pl s → grp s z.1 = ((z.2.1 : Int), (z.2.2 : Int)) := by
      rintro ⟨c, g, i⟩ hz
      obtain ⟨h1, h2, h3⟩ := (pl_iff _ _ _ _).1 hz
      refine Classical.byContradiction fun hne => hn ⟨g, i, h1, h2, fun hh => hne ?_⟩
      rw [h3] at hh
      exact Prod.ext hh.1 hh.2
    have e1 := key x hx
    have e2 := key y hy
    rw [he, e2] at e1
    injection e1 with e3 e4
    exact Prod.ext he (Prod.ext (by omega) (by omega))
theorem scan_none : ∀ (l seen : List UInt8) (t : Bool), Elder.scanB l seen t = none ↔ ∃ c, c ∈ l ∧ BadByte c
  | [], seen, t => by simp [Elder.scanB]
  | c :: l, seen, t => by
    rw [Elder.scanB]
    have hb : Elder.badB c = true ↔ BadByte c := by unfold Elder.badB BadByte; simp
    split
    · rename_i h
      exact ⟨fun _ => ⟨c, List.mem_cons_self .., hb.1 h⟩, fun _ => rfl⟩
    · rename_i h
      rw [scan_none l]
      constructor
      · rintro ⟨d, hd, hx⟩; exact ⟨d, List.mem_cons_of_mem _ hd, hx⟩
      · rintro ⟨d, hd, hx⟩
        rcases List.mem_cons.1 hd with rfl | hd
        · exact absurd (hb.2 hx) h
        · exact ⟨d, hd, hx⟩
theorem scan_some : ∀ (l seen : List UInt8) (t b : Bool), Elder.scanB l seen t = some b → (b = false ↔ t = false ∧ l.Nodup ∧ ∀ c, c ∈ l → c ∉ seen)
  | [], seen, t, b, h => by simp [Elder.scanB] at h; subst h; simp
  | c :: l, seen, t, b, h => by
    rw [Elder.scanB] at h
    split at h
    · cases h
    · rw [scan_some l _ _ _ h, List.nodup_cons, Bool.or_eq_false_iff]
      constructor
      · rintro ⟨⟨h1, h2⟩, h3, h4⟩
        refine ⟨h1, ⟨fun hc => h4 c hc (List.mem_cons_self ..), h3⟩, fun d hd hs => ?_⟩
        rcases List.mem_cons.1 hd with rfl | hd
        · rw [List.contains_iff_mem.2 hs] at h2; cases h2
        · exact h4 d hd (List.mem_cons_of_mem _ hs)
      · rintro ⟨h1, ⟨h2, h3⟩, h4⟩
        refine ⟨⟨h1, ?_⟩, h3, fun d hd hs => ?_⟩
        · rw [Bool.eq_false_iff]; exact fun hh => h4 c (List.mem_cons_self ..) (List.contains_iff_mem.1 hh)
        · rcases List.mem_cons.1 hs with rfl | hs
          · exact h2 hd
          · exact h4 d (List.mem_cons_of_mem _ hd) hs
theorem badOrder_iff (s : SpecD) : BadOrder s ↔ Lib.containsS s.order ⟨#[]⟩ = true ∨ ∃ c, c ∈ Elder.bytesOf s.order ∧ BadByte c := by
  rw [Lib.containsS_iff]
  constructor
  · rintro ⟨g, hg, h | ⟨i, hi, hb⟩⟩
    · left
      have : ls s.order g = ⟨#[]⟩ := by
        have h2 : (ls s.order g).data = #[] := Array.eq_empty_of_size_eq_zero h
        cases hx : ls s.order g with
        | mk d => rw [hx] at h2; dsimp only at h2; rw [h2]
      rw [← this]; exact ls_in hg
    · right
      exact ⟨_, List.mem_flatMap.2 ⟨_, ls_in hg, byteAt_mem hi⟩, hb⟩
  · rintro (h | ⟨c, hc, hb⟩)
    · obtain ⟨g, hg, e⟩ := ls_of_mem h
      exact ⟨g, hg, .inl (by rw [e]; rfl)⟩
    · obtain ⟨w, hw, hc⟩ := List.mem_flatMap.1 hc
      obtain ⟨g, hg, rfl⟩ := ls_of_mem hw
      obtain ⟨i, hi, rfl⟩ := byteAt_of_mem hc
      exact ⟨g, hg, .inr ⟨i, hi, hb⟩⟩
theorem validD_eq (s : SpecD) : Elder.validD (toE s) = validE s := by
  unfold Elder.validD
  show (if 64 < s.order.length ∨ 16 < s.skip.length then (4 : Int) else _) = _
  split
  · rename_i h; exact (validE_limit h).symm
  · rename_i h
    show (if ((s.skip.any fun x => !Elder.smallS x) || Lib.containsS s.order ⟨#[]⟩) = true then (1 : Int) else Elder.scanErr (Elder.scanB (Elder.bytesOf s.order) [] false)) = _
    have hb := badSkip_iff s
    have ho := badOrder_iff s
    split
    · rename_i h1
      refine (validE_bad h ?_).symm
      rcases (Bool.or_eq_true _ _).mp h1 with h1 | h1
      · exact .inl (hb.1 h1)
      · exact .inr (ho.2 (.inl h1))
    · rename_i h1
      have h2 : ¬ BadSkip s := fun hx => h1 (by rw [hb.2 hx]; rfl)
      have h3 : ¬ Lib.containsS s.order ⟨#[]⟩ = true := fun hx => h1 (by rw [hx, Bool.or_true])
      cases hs : Elder.scanB (Elder.bytesOf s.order) [] false with
      | none => exact (validE_bad h (.inr (ho.2 (.inr ((scan_none _ _ _).1 hs))))).symm
      | some b =>
        have h4 : ¬ (BadSkip s ∨ BadOrder s) := by
          rintro (hx | hx)
          · exact h2 hx
          · rcases ho.1 hx with hx | hx
            · exact h3 hx
            · rw [(scan_none _ _ _).2 hx] at hs; cases hs
        have h5 := scan_some _ _ _ _ hs
        have h6 : b = false ↔ Once s := by rw [h5, once_iff]; simp
        cases b with
        | false => exact (validE_ok h h4 (fun ht => (twice_iff s).1 ht (h6.1 rfl))).symm
        | true => exact (validE_twice h h4 ((twice_iff s).2 fun ho2 => by have := h6.2 ho2; cases this)).symm
theorem valid_once {s : SpecD} (h : validE s = 0) : Once s := Classical.byContradiction fun hn => (validE_zero h).2.2 ((twice_iff s).2 hn)
theorem look_eq {s : SpecD} (h : Once s) (c : UInt8) : Elder.lookT (pl s).reverse c.toNat = (pl s).find? (fun x => x.1 == c) := by
  unfold Elder.lookT
  have hp : ∀ x : Elder.Trip, (x.1.toNat == c.toNat) = (x.1 == c) := fun x => by
    rw [Bool.eq_iff_iff, beq_iff_eq, beq_iff_eq]
    exact ⟨fun e => UInt8.toNat_inj.1 e, fun e => by rw [e]⟩
  simp only [hp]
  cases h1 : (pl s).find? (fun x => x.1 == c) with
  | none =>
    refine List.find?_eq_none.2 fun x hx => ?_
    exact List.find?_eq_none.1 h1 x (List.mem_reverse.1 hx)
  | some x =>
    cases h2 : (pl s).reverse.find? (fun x => x.1 == c) with
    | none =>
      have := List.find?_eq_none.1 h2 x (List.mem_reverse.2 (List.mem_of_find?_eq_some h1))
      have h3 := List.find?_some h1
      exact absurd h3 this
    | some y =>
      have h3 := List.find?_some h1
      have h4 := List.find?_some h2
      rw [h x (List.mem_of_find?_eq_some h1) y (List.mem_reverse.1 (List.mem_of_find?_eq_some h2)) (by rw [beq_iff_eq] at h3 h4; rw [h3, h4])]
theorem grpT_eq {s : SpecD} (h : Once s) (c : UInt8) : Elder.grpT (pl s).reverse c.toNat = (grp s c).1 := by
  unfold Elder.grpT
  rw [look_eq h, grp_find]
  cases (pl s).find? (fun x => x.1 == c) <;> rfl
theorem plcT_eq {s : SpecD} (h : Once s) (c : UInt8) (hg : 0 ≤ (grp s c).1) : Elder.plcT (pl s).reverse c.toNat = (grp s c).2 := by
  unfold Elder.plcT
  rw [grp_find] at hg ⊢
  rw [look_eq h]
  cases hx : (pl s).find? (fun x => x.1 == c) with
  | none => rw [hx] at hg; simp at hg
  | some x => rfl
theorem isDig_same : Elder.isDig = isDig := by
  funext c
  rw [Bool.eq_iff_iff]
  unfold Elder.isDig isDig
  simp
theorem isZero_same : Elder.isZero = zero8 := by
  funext c
  rw [Bool.eq_iff_iff]
  unfold Elder.isZero zero8
  simp
theorem part_eq {s : SpecD} (h : Once s) : ∀ (f : Nat) (l : List UInt8), Elder.partF s.numbers (Elder.grpT (pl s).reverse) (Elder.plcT (pl s).reverse) f l = wordF s f l
  | 0, l => by rw [Elder.partF, wordF]
  | f + 1, [] => by rw [Elder.partF, wordF]
  | f + 1, c :: l => by
    rw [Elder.partF, wordF, isDig_same, isZero_same, part_eq h f, part_eq h f, grpT_eq h]
    by_cases hd : (s.numbers && isDig c) = true
    · rw [if_pos hd, if_pos hd]
      have hl := dropWhile_le zero8 ((c :: l).takeWhile isDig)
      have e1 : (numOf ((c :: l).takeWhile isDig)).length = (((c :: l).takeWhile isDig).dropWhile zero8).length := by unfold numOf; rw [List.length_map]
      have e2 : zerosOf ((c :: l).takeWhile isDig) = (((c :: l).takeWhile isDig).length : Int) - (((c :: l).takeWhile isDig).dropWhile zero8).length := by unfold zerosOf; omega
      rw [e1, e2]
      rfl
    · rw [if_neg hd, if_neg hd]
      by_cases hg : 0 ≤ (grp s c).1
      · rw [if_pos hg, if_pos hg, plcT_eq h c hg]
      · rw [if_neg hg, if_neg hg]
theorem partL_eq {s : SpecD} (h : Once s) (w : ByteArray) : Elder.partL s.numbers (Elder.grpT (pl s).reverse) (Elder.plcT (pl s).reverse) w.data.toList = wordS s w := by
  unfold Elder.partL
  rw [part_eq h]
  unfold wordS
  rw [show w.data.toList.length = w.size by simp]
  rfl
theorem keyWords_eq {s : SpecD} (h : Once s) : ∀ (l : List ByteArray) (fst : Bool), Elder.keyWords s.words s.numbers (Elder.grpT (pl s).reverse) (Elder.plcT (pl s).reverse) (!fst) l = keyL s fst l
  | [], fst => by rw [Elder.keyWords, keyL]
  | w :: l, fst => by
    have ih := keyWords_eq h l false
    rw [Bool.not_false] at ih
    rw [Elder.keyWords, keyL, partL_eq h, ih]
theorem drop_eq (sk : List ByteArray) : ∀ l, Elder.dropSkip sk l = dropSkip sk l
  | [] => rfl
  | [x] => rfl
  | x :: y :: l => by
    have e : Lib.containsS sk (Elder.foldS x) = tB (foldS x ∈ sk) := by rw [Bool.eq_iff_iff, Lib.containsS_iff, tB_iff]; rfl
    rw [Elder.dropSkip, dropSkip, e, drop_eq sk (y :: l)]
theorem keyS_eq {s : SpecD} (h : Once s) (t : ByteArray) : Elder.keyS (toE s) t = keyOf s t := by
  unfold Elder.keyS Elder.keyG keyOf
  have e : Elder.countS (toE s) t = counted s t := drop_eq s.skip _
  rw [e]
  have := keyWords_eq h (counted s t) true
  rw [Bool.not_true] at this
  show (Elder.keyWords s.words s.numbers (Elder.grpT (pl s).reverse) (Elder.plcT (pl s).reverse) false (counted s t)).1 ++ [-1] ++ (Elder.keyWords s.words s.numbers (Elder.grpT (pl s).reverse) (Elder.plcT (pl s).reverse) false (counted s t)).2 = _
  rw [this]
theorem cmpL_eq : ∀ a b, Elder.cmpL a b = lexi a b
  | [], [] => rfl
  | [], _ :: _ => rfl
  | _ :: _, [] => rfl
  | a :: x, b :: y => by rw [Elder.cmpL, lexi, cmpL_eq x y]
theorem exam2_eq (s : SpecD) (a b : ByteArray) : Elder.examS (toE s) [a, b] = cmpE s a b := by
  unfold Elder.examS cmpE keyE
  rw [validD_eq]
  by_cases h : validE s ≠ 0
  · simp [h]
  · by_cases h1 : 4096 < a.size <;> by_cases h2 : 4096 < b.size <;> simp [h, h1, h2, Elder.longS]
theorem eCmp_eq (s : SpecD) (a b : ByteArray) : Elder.cmpE (toE s) a b = cmpR s a b := by
  unfold Elder.cmpE cmpR
  rw [exam2_eq]
  by_cases h : cmpE s a b = 0
  · rw [if_pos h, if_pos h, cmpL_eq]
    unfold cmpE at h
    by_cases ha : keyE s a = 0
    · rw [if_neg (by simpa using ha)] at h
      have hv : validE s = 0 := by
        unfold keyE at ha
        split at ha
        · contradiction
        · rename_i hv; exact Classical.not_not.1 hv
      unfold keyR
      rw [if_pos ha, if_pos h, keyS_eq (valid_once hv), keyS_eq (valid_once hv)]
    · rw [if_pos ha] at h; contradiction
  · rw [if_neg h, if_neg h]
end Go.Proofs.YtfnkciboencifaaDoor
