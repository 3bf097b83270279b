/-
  The law CollateRelations: for every input it answers true.
-/
import Derived.Test.YtfnkciboencifaaDoorUW1
import Derived.Test.YtfnkciboencifaaDoorUV17
import Derived.Test.YtfnkciboencifaaDoorUW13
import Derived.Test.YtfnkciboencifaaDoorUL4
import Derived.Test.YtfnkciboencifaaDoorUW18
set_option linter.all false
namespace Go.Proofs.YtfnkciboencifaaDoor
open Go Go.RowKit
set_option linter.unusedSimpArgs false
set_option linter.unusedVariables false
set_option maxRecDepth 20000
set_option maxHeartbeats 2000000
def AsSl (sz : Nat) (l : List PV) (x : PV) : Prop := x = .sl sz l ∨ (l = [] ∧ x = .atom (.slice none 0 0))
theorem AsSl.rep {sz : Nat} {l : List PV} {x : PV} (h : AsSl sz l x) {D : Nat → Prop} {μ : Nat → Option Nat} {F : Nat → Prop} {w : World} {v : Value} (hr : Rep D μ F w x v) : Rep D μ F w (.sl sz l) v := by
  rcases h with rfl | ⟨rfl, rfl⟩
  · exact hr
  · rw [nil_val hr]
    exact .sl0 sz none 0 (by unfold maxLen; omega) (fun _ => rfl) (fun x hx => by cases hx)
theorem Pure.sub {P : Program} {f : FuncId} {args args' : List PV} {r : PV} {os : List AO} (hp : Pure P f args r os) (hl : args'.length = args.length)
    (h : ∀ i (h1 : i < args.length) (h2 : i < args'.length) (D : Nat → Prop) (μ : Nat → Option Nat) (F : Nat → Prop) (w : World) (v : Value), Rep D μ F w args'[i] v → Rep D μ F w args[i] v) : Pure P f args' r os :=
  ⟨hp.1, fun D μ F w vs h1 h2 h3 => hp.2 D μ F w vs (h1.trans hl) (fun i hi => h i hi (by omega) D μ F w _ (h2 i (by omega))) h3⟩
theorem AsSl.pure {sz : Nat} {l : List PV} {x : PV} (h : AsSl sz l x) (hl : pureL l = true) : x.pure = true := by
  rcases h with rfl | ⟨rfl, rfl⟩
  · exact hl
  · rfl
theorem one_encP (l : List (Int × Int)) : ((l.map encP).all fun q => q.cells.all PV.one) = true := by rw [List.all_map]; exact List.all_eq_true.2 fun _ _ => rfl
theorem dec_self {α : Type} [DecidableEq α] (a : α) : decide (a = a) = true := decide_eq_true rfl
end Go.Proofs.YtfnkciboencifaaDoor
set_option linter.all false
namespace Go.Proofs.YtfnkciboencifaaDoor
open Go Go.RowKit
set_option linter.unusedVariables false
set_option linter.unusedSimpArgs false
theorem strsAt_rep {D : Nat → Prop} {μ : Nat → Option Nat} {F : Nat → Prop} {w : World} {l : List ByteArray} {v : Value} (h : Rep D μ F w (strs l) v) (hl : ∀ x, x ∈ l → x.size ≤ 9223372036854775807) : Elder.StrsAt w v l := by
  refine ⟨?_, Elder.Sizes.of hl⟩
  unfold strs at h
  generalize hm : l.map encS = m at h
  have hlen : m.length = l.length := by rw [← hm, List.length_map]
  cases h with
  | sl0 _ a cap hc hn hs =>
    have hl0 : l.length = 0 := by simpa using hlen.symm
    refine ⟨a, cap, by rw [hl0], by omega, hc, fun e => ⟨hl0, hn e⟩, fun x hx => ⟨hs x hx, fun i hi => by omega⟩⟩
  | sl _ _ b off cap g hF hlc hc hcell h1 h2 =>
    refine ⟨some ⟨b, off, none⟩, cap, by rw [hlen], by omega, hc, fun e => (by cases e), ?_⟩
    rintro x ⟨⟩
    refine ⟨rfl, fun i hi => ?_⟩
    have hi' : i < m.length := by omega
    have e0 : m[i] = encS (ls l i) := by subst hm; simp [ls, List.getD_eq_getElem?_getD, hi]
    have e1 : m[i].cells = [encS (ls l i)] := by rw [e0]; rfl
    have hc0 : 0 < m[i].cells.length := by rw [e1]; exact Nat.zero_lt_one
    have hr := h2 i hi' 0 hc0
    have e2 : m[i].cells[0] = encS (ls l i) := by rw [gl e1 hc0]; rfl
    rw [e2] at hr
    have := hr.atomEq
    have hcc := hcell (i * 1) (by omega)
    rw [Nat.mul_one] at hcc
    rw [Nat.mul_one, Nat.add_zero] at this
    rw [this] at hcc
    exact hcc
structure Tame (s : SpecD) : Prop where
  skips : ∀ x, x ∈ s.skip → x.size ≤ 9223372036854775807
  orders : ∀ x, x ∈ s.order → x.size ≤ 9223372036854775807
theorem Sane.tame {s : SpecD} (h : Sane s) : Tame s := ⟨fun x hx => Nat.le_trans (h.skips x hx) (by decide), fun x hx => Nat.le_trans (h.orders x hx) (by decide)⟩
theorem specAt_rep {D : Nat → Prop} {μ : Nat → Option Nat} {F : Nat → Prop} {w : World} {s : SpecD} {v : Value} (h : Rep D μ F w (encSpec s) v) (hs : Tame s) : Elder.SpecAt w v (toE s) := by
  unfold encSpec at h
  cases h with
  | agg _ vs hn hr =>
    have hn4 : vs.size = 4 := hn
    have h0 := (hr 0 (by simp)).atomEq
    have h1 := hr 1 (by simp)
    have h2 := (hr 2 (by simp)).atomEq
    have h3 := hr 3 (by simp)
    refine ⟨vs.getD 1 undef, vs.getD 3 undef, ?_, strsAt_rep h1 hs.skips, strsAt_rep h3 hs.orders⟩
    congr 1
    refine Array.ext (by rw [hn4]; rfl) fun i g1 g2 => ?_
    have e : vs[i] = vs.getD i undef := by simp [Array.getD, g1]
    rw [e]
    match i, g2 with
    | 0, _ => exact h0
    | 1, _ => rfl
    | 2, _ => exact h2
    | 3, _ => rfl
theorem args_eq {vs : Array Value} {l : List Value} (hn : vs.size = l.length) (h : ∀ i, i < l.length → vs.getD i undef = l.getD i undef) : vs = l.toArray := by
  refine Array.ext (by simpa using hn) fun i g1 g2 => ?_
  have hi : i < l.length := by simpa using g2
  have := h i hi
  simpa [Array.getD, g1, List.getD_eq_getElem?_getD, hi] using this
theorem cValid_pure (s : SpecD) (hs : Tame s) : Pure Tryd.prog 13 [encSpec s] (encI (validE s)) [] := by
  refine ⟨enters_of Tryd.func13 (by kernel_rfl) rfl, fun D μ F w vs hvs hargs hF => ?_⟩
  have e : vs = [vs.getD 0 undef].toArray := args_eq hvs (fun i hi => by
    match i, hi with
    | 0, _ => rfl)
  have h0 := hargs 0 (by simp)
  rw [e]
  refine (Elder.Valid_any _ _ w (specAt_rep h0 hs)).mono fun e w' he => ?_
  obtain ⟨rfl, hb⟩ := he
  rw [validD_eq]
  exact ⟨_, rfl, hb, ResIs.atom _⟩
theorem ownI_rep {w w' : World} {v : Value} {l : List Int} (h : Elder.OwnI w' w.heap.size v l) : Rep (fun i => i < ([] : List AO).length) (fun _ => none) (fun b => w.heap.size ≤ b ∧ b < w'.heap.size) w' (ints l) v := by
  obtain ⟨hlen, h | ⟨g, cap, cur, rfl, hg, hgg, h1, h2, h3, h4⟩⟩ := h
  · obtain ⟨rfl, hn⟩ := h
    have : l = [] := List.length_eq_zero_iff.1 hn
    subst this
    exact .sl0 1 none 0 (Nat.zero_le _) (fun _ => rfl) (fun x hx => by cases hx)
  · by_cases hz : l.length = 0
    · have hz' : l = [] := List.length_eq_zero_iff.1 hz
      subst hz'
      exact .sl0 1 _ cap h2 (fun e => by cases e) (fun x hx => by cases hx; rfl)
    · have hlt : g < w'.heap.size := by
        rcases Nat.lt_or_ge g w'.heap.size with hh | hh
        · exact hh
        · rw [Array.getElem?_eq_none hh] at hgg; cases hgg
      have := Rep.sl (D := fun i => i < ([] : List AO).length) (μ := fun _ => none) (F := fun b => w.heap.size ≤ b ∧ b < w'.heap.size) (w := w') 1 (l.map encI) g 0 cap (fun j => .int .i64 (li l j)) ⟨hg, hlt⟩ (by simpa using h1) h2
        (fun j hj => by
          have hj' : j < l.length := by simpa using hj
          have hcur : cur[j]? = some (.int .i64 (li l j)) := by
            have e : (cur.toList.take (l.length * 1))[j]? = (Elder.ints l)[j]? := by rw [h4]
            rw [List.getElem?_take, if_pos (by omega)] at e
            rw [← Array.getElem?_toList, e]
            simp [Elder.ints, li, List.getD_eq_getElem?_getD, hj']
          have hb : w'.cell? ⟨g, 0 + j, none⟩ = some (.int .i64 (li l j)) := by
            rw [Nat.zero_add]
            simp only [World.cell?, hgg]
            simpa using hcur
          exact hb) (fun k hk => by simp [encI, PV.cells]) (fun k hk c hcc => by
          have hk' : k < l.length := by simpa using hk
          have e0 : ((l.map encI)[k]).cells = [encI (li l k)] := by simp [encI, PV.cells, li, List.getD_eq_getElem?_getD, hk']
          have hc0 : c = 0 := by rw [e0] at hcc; simpa using hcc
          subst hc0
          rw [gl e0 hcc]
          simp only [List.getElem_cons_zero, Nat.mul_one, Nat.add_zero]
          exact Rep.atom _)
      rw [List.length_map] at this
      exact this
theorem cCompare_pure (s : SpecD) (a b : ByteArray) (hs : Tame s) (ha : a.size ≤ 9223372036854775807) (hb : b.size ≤ 9223372036854775807) : Pure Tryd.prog 20 [encSpec s, encS a, encS b] (.tup [encI (cmpR s a b), encI (cmpE s a b)]) [] := by
  refine ⟨enters_of Tryd.func20 (by kernel_rfl) rfl, fun D μ F w vs hvs hargs hF => ?_⟩
  have h0 := hargs 0 (by simp)
  have h1 := (hargs 1 (by simp)).atomEq
  have h2 := (hargs 2 (by simp)).atomEq
  have e : vs = [vs.getD 0 undef, .string a, .string b].toArray := args_eq hvs (fun i hi => by
    match i, hi with
    | 0, _ => rfl
    | 1, _ => exact h1
    | 2, _ => exact h2)
  rw [e]
  refine (Elder.Compare_any _ _ a b w (specAt_rep h0 hs) ha hb).mono fun e w' he => ?_
  obtain ⟨rfl, hbl⟩ := he
  rw [exam2_eq, eCmp_eq]
  refine ⟨_, rfl, hbl, fun _ => none, fun _ => False, ?_, fun i o hi => by simp at hi, fun i b hi => by simp at hi, fun i j b hi => by simp at hi, fun b hb' => hb'.elim⟩
  exact .tup _ _ rfl fun i hi => by
    match i, hi with
    | 0, _ => exact .atom _
    | 1, _ => exact .atom _
def IsSpec (s : SpecD) (x : PV) : Prop := ∃ sv ov, x = .agg [.atom (.bool s.words), sv, .atom (.bool s.numbers), ov] ∧ AsSl 1 (s.skip.map encS) sv ∧ AsSl 1 (s.order.map encS) ov
theorem IsSpec.rep {s : SpecD} {x : PV} (h : IsSpec s x) {D : Nat → Prop} {μ : Nat → Option Nat} {F : Nat → Prop} {w : World} {v : Value} (hr : Rep D μ F w x v) : Rep D μ F w (encSpec s) v := by
  obtain ⟨sv, ov, rfl, h1, h2⟩ := h
  cases hr with
  | agg _ vs hn hr =>
    exact .agg _ vs hn fun i hi => by
      match i, hi with
      | 0, _ => exact hr 0 (by simp)
      | 1, _ => exact h1.rep (hr 1 (by simp))
      | 2, _ => exact hr 2 (by simp)
      | 3, _ => exact h2.rep (hr 3 (by simp))
theorem IsSpec.pure {s : SpecD} {x : PV} (h : IsSpec s x) : x.pure = true := by
  obtain ⟨sv, ov, rfl, h1, h2⟩ := h
  have a := h1.pure (pureL_encS _)
  have b := h2.pure (pureL_encS _)
  simp [PV.pure, pureL, a, b]
theorem Pure.spec {P : Program} {f : FuncId} {s : SpecD} {x : PV} {rest : List PV} {r : PV} {os : List AO} (hp : Pure P f (encSpec s :: rest) r os) (h : IsSpec s x) : Pure P f (x :: rest) r os :=
  hp.sub rfl fun i h1 h2 D μ F w v hr => by
    match i, h1 with
    | 0, _ => exact h.rep hr
    | i + 1, _ => exact hr
end Go.Proofs.YtfnkciboencifaaDoor
set_option linter.all false
namespace Go.Proofs.YtfnkciboencifaaDoor
open Go Go.RowKit
set_option linter.unusedSimpArgs false
set_option linter.unusedVariables false
set_option maxRecDepth 20000
set_option maxHeartbeats 2000000
def paths (l : List (List ByteArray)) : PV := .sl 1 (l.map strs)
theorem pure_paths (l : List (List ByteArray)) : (paths l).pure = true := pureL_map strs pure_strs l
theorem ren_paths (ρ : Nat → Nat) (l : List (List ByteArray)) : (paths l).ren ρ = paths l := ren_pure ρ _ (pure_paths l)
def lexL : List (List Int) → List (List Int) → Int
  | [], [] => 0
  | [], _ :: _ => -1
  | _ :: _, [] => 1
  | a :: x, b :: y => if lexi a b ≠ 0 then lexi a b else lexL x y
theorem lexL_len {a b : List (List Int)} (h : a = [] ∨ b = []) : lexL a b = if a.length < b.length then -1 else if b.length < a.length then 1 else 0 := by
  cases a <;> cases b <;> simp_all [lexL]
theorem lexL_end {a b : List (List Int)} {k : Nat} (hk : a.length ≤ k ∨ b.length ≤ k) (ha : k ≤ a.length) (hb : k ≤ b.length) : lexL (a.drop k) (b.drop k) = if a.length < b.length then -1 else if b.length < a.length then 1 else 0 := by
  rw [lexL_len (by rcases hk with h | h; exact .inl (List.drop_eq_nil_of_le h); exact .inr (List.drop_eq_nil_of_le h))]
  simp only [List.length_drop]
  split <;> split <;> first | rfl | omega | (split <;> first | rfl | omega)
theorem keyOf_len (s : SpecD) (t : ByteArray) (ht : t.size ≤ 4096) : (keyOf s t).length ≤ 9223372036854775807 := by
  have h1 := keyL_len s t (counted s t) true (fun x hx => words_size t x (counted_sub s t x hx))
  have h2 := counted_len s t
  have a : (counted s t).length * (3 * t.size + 1) ≤ 4097 * 12289 := Nat.mul_le_mul (by omega) (by omega)
  have b : (counted s t).length * t.size ≤ 4097 * 4096 := Nat.mul_le_mul (by omega) (by omega)
  unfold keyOf
  simp only [List.length_append, List.length_cons, List.length_nil]
  omega
end Go.Proofs.YtfnkciboencifaaDoor
set_option linter.all false
namespace Go.Proofs.YtfnkciboencifaaDoor
open Go Go.RowKit
set_option linter.unusedSimpArgs false
set_option linter.unusedVariables false
set_option maxRecDepth 20000
set_option maxHeartbeats 2000000
theorem dec_yes {p : Prop} [Decidable p] (h : p) : decide p = true := decide_eq_true h
theorem dec_no {p : Prop} [Decidable p] (h : ¬ p) : decide p = false := decide_eq_false h
theorem ls_get {l : List ByteArray} {k : Nat} (h : k < l.length) : ls l k = l[k] := by simp [ls, List.getD_eq_getElem?_getD, h]
def nI (l : List Nat) : List Int := l.map (fun (n : Nat) => (n : Int))
theorem nI_len (l : List Nat) : (nI l).length = l.length := by simp [nI]
def down (p : Nat → Bool) : Nat → Nat
  | 0 => 0
  | k + 1 => if p k then down p k else k + 1
structure DownI (p : Nat → Bool) (n k : Nat) : Prop where
  le : k ≤ n
  core : down p n = down p k
theorem DownI.step {p : Nat → Bool} {n k : Nat} (h : DownI p n k) (hk : 0 < k) (hc : p (k - 1) = true) : DownI p n (k - 1) := by
  obtain ⟨k, rfl⟩ : ∃ j, k = j + 1 := ⟨k - 1, by omega⟩
  simp only [Nat.add_sub_cancel] at hc ⊢
  refine ⟨by have := h.le; omega, ?_⟩
  rw [h.core, down, if_pos hc]
theorem DownI.stop {p : Nat → Bool} {n k : Nat} (h : DownI p n k) (hc : k = 0 ∨ p (k - 1) = false) : down p n = k := by
  rw [h.core]
  cases k with
  | zero => rfl
  | succ k =>
    simp only [Nat.add_sub_cancel] at hc
    have := hc.resolve_left (by omega)
    rw [down, if_neg (by rw [this]; decide)]
noncomputable def pk (s : SpecD) (l : List (List ByteArray)) (i : Nat) : List (List Int) := (l.getD i []).map (keyOf s)
noncomputable def pless (s : SpecD) (l : List (List ByteArray)) (i : Nat) (out : List Nat) (j : Nat) : Bool := decide (lexL (pk s l i) (pk s l (out.getD j 0)) < 0)
noncomputable def insI (s : SpecD) (l : List (List ByteArray)) (out : List Nat) (i : Nat) : List Nat := insAt out (down (pless s l i out) out.length) i
noncomputable def pathsS (s : SpecD) (l : List (List ByteArray)) : List Nat := (List.range l.length).foldl (insI s l) []
noncomputable def pathsE (s : SpecD) (l : List (List ByteArray)) : Int := if validE s ≠ 0 then validE s else if 1000 < l.length then 4 else tI (∃ p, p ∈ l ∧ ∃ x, x ∈ p ∧ 4096 < x.size) 4 0
noncomputable def pathsR (s : SpecD) (l : List (List ByteArray)) : List Int := if pathsE s l = 0 then nI (pathsS s l) else []
theorem pathsE_bad {s : SpecD} {l : List (List ByteArray)} (h : validE s ≠ 0) : pathsE s l = validE s ∧ pathsR s l = [] := by
  have e : pathsE s l = validE s := if_pos h
  exact ⟨e, if_neg (by rw [e]; exact h)⟩
theorem pathsE_many {s : SpecD} {l : List (List ByteArray)} (h : validE s = 0) (hl : 1000 < l.length) : pathsE s l = 4 ∧ pathsR s l = [] := by
  have e : pathsE s l = 4 := by unfold pathsE; rw [if_neg (by rw [h]; decide), if_pos hl]
  exact ⟨e, if_neg (by rw [e]; decide)⟩
theorem pathsE_long {s : SpecD} {l : List (List ByteArray)} (h : validE s = 0) (hl : ¬ 1000 < l.length) (hx : ∃ p, p ∈ l ∧ ∃ x, x ∈ p ∧ 4096 < x.size) : pathsE s l = 4 ∧ pathsR s l = [] := by
  have e : pathsE s l = 4 := by unfold pathsE; rw [if_neg (by rw [h]; decide), if_neg hl, tI_yes hx]
  exact ⟨e, if_neg (by rw [e]; decide)⟩
theorem pathsE_ok {s : SpecD} {l : List (List ByteArray)} (h : validE s = 0) (hl : ¬ 1000 < l.length) (hx : ¬ ∃ p, p ∈ l ∧ ∃ x, x ∈ p ∧ 4096 < x.size) : pathsE s l = 0 ∧ pathsR s l = nI (pathsS s l) := by
  have e : pathsE s l = 0 := by unfold pathsE; rw [if_neg (by rw [h]; decide), if_neg hl, tI_no hx]
  exact ⟨e, if_pos e⟩
structure PathI (s : SpecD) (l : List (List ByteArray)) (i : Nat) (out : List Nat) : Prop where
  le : i ≤ l.length
  len : out.length = i
  core : out = (List.range i).foldl (insI s l) []
  lt : ∀ x, x ∈ out → x < i
theorem PathI.start (s : SpecD) (l : List (List ByteArray)) : PathI s l 0 [] := ⟨Nat.zero_le _, rfl, rfl, fun x hx => by simp at hx⟩
theorem PathI.next {s : SpecD} {l : List (List ByteArray)} {i : Nat} {out : List Nat} (h : PathI s l i out) (hi : i < l.length) : PathI s l (i + 1) (insI s l out i) := by
  refine ⟨hi, by unfold insI; rw [insAt_len, h.len], by rw [List.range_succ, List.foldl_append, ← h.core]; rfl, fun x hx => ?_⟩
  unfold insI insAt at hx
  rcases List.mem_append.1 hx with hx | hx
  · have := h.lt x (List.mem_of_mem_take hx); omega
  · rcases List.mem_cons.1 hx with rfl | hx
    · omega
    · have := h.lt x (List.mem_of_mem_drop hx); omega
theorem PathI.done {s : SpecD} {l : List (List ByteArray)} {i : Nat} {out : List Nat} (h : PathI s l i out) (hi : l.length ≤ i) : pathsS s l = out := by
  have : i = l.length := by have := h.le; omega
  subst this
  exact h.core.symm
theorem getD_mem {l : List (List ByteArray)} {i : Nat} (h : i < l.length) : l.getD i [] ∈ l := by
  have : l.getD i [] = l[i] := by simp [List.getD_eq_getElem?_getD, h]
  rw [this]; exact List.getElem_mem h
theorem getDN_mem {l : List Nat} {i : Nat} (h : i < l.length) : l.getD i 0 ∈ l := by
  have : l.getD i 0 = l[i] := by simp [List.getD_eq_getElem?_getD, h]
  rw [this]; exact List.getElem_mem h
end Go.Proofs.YtfnkciboencifaaDoor
set_option linter.all false
namespace Go.Proofs.YtfnkciboencifaaDoor
open Go Go.RowKit
set_option linter.unusedSimpArgs false
set_option linter.unusedVariables false
set_option maxRecDepth 20000
set_option maxHeartbeats 400000
theorem leqpW26 {p : Prop} (h : p := by (refine ⟨4, ?_, ?_, rfl, by simp, rfl, fun i h _ => (match i, h with | 0, _ => by simp [sealed, PV.ren, rmap])⟩ <;> (simp only [List.forall_mem_cons]; repeat' (first | refine And.intro ?_ ?_ | (intro p hp; exact absurd hp List.not_mem_nil) | rfl | exact (sealed_pure _ _ _ (pure_ints _)).trans (ren_ints _ _).symm | exact (sealed_pure _ _ _ (pure_strs _)).trans (ren_strs _ _).symm | exact sp (by assumption) | (intro o ho; cases ho; refine ⟨by decide, ?_⟩; first | (refine LeqS.row rfl ?_ ?_; (next => (first | rfl | (simp only [List.map_append, List.map_cons, List.map_nil, List.append_nil, List.nil_append, List.append_assoc, List.cons_append, encI, encS, ints, strs]; done) | (simp [encI, encS, ints, strs, swp, List.map_set]; done))); (next => (first | rfl | exact pureL_encI _ | exact pureL_encS _ | exact pureL_ints _ | exact pureL_strs _ | (simp [pureL_append, pureL_encI, pureL_encS, pureL_ints, pureL_strs, pureL, PV.pure, pure_ints, pure_strs]; done))); done) | refine ⟨_, rfl, rfl, ?_⟩) | (simp [St.born, St.known, retV, St.get, St.obj, lk, sealed, PV.ren, renL, rmap, AO.ren, ints, strs, encI, encS, map_sealed_encI, map_sealed_encS, map_sealed_ints, map_sealed_strs, map_ren_encI, map_ren_encS, map_ren_ints, map_ren_strs, renL_encI, renL_encS, renL_ints, renL_strs] <;> omega))))) : p := h
theorem pure_reach {H : Nat → Option AO} : ∀ (n : Nat) (p : PV), p.pure = true → reach H n p = [] := by
  intro n
  induction n with
  | zero => intro p _; rfl
  | succ n ih =>
    intro p h
    cases p with
    | agg l => simp only [PV.pure] at h; simp only [reach]; exact List.flatMap_eq_nil_iff.2 fun q hq => ih q (by rw [pureL_all] at h; exact List.all_eq_true.1 h q hq)
    | tup l => simp only [PV.pure] at h; simp only [reach]; exact List.flatMap_eq_nil_iff.2 fun q hq => ih q (by rw [pureL_all] at h; exact List.all_eq_true.1 h q hq)
    | fn f l => simp only [PV.pure] at h; simp only [reach]; exact List.flatMap_eq_nil_iff.2 fun q hq => ih q (by rw [pureL_all] at h; exact List.all_eq_true.1 h q hq)
    | ob i sz off len => cases h
    | ptr i sz k c => cases h
    | _ => rfl
theorem vProc.row {P : Program} {S : St} {f : FuncId} {vals args : List PV} {els els' : List PV} {r : PV} {K : PV → Eff → Prop} (i sz : Nat) (hpr : Proc P f args [⟨sz, els⟩] r [some ⟨sz, els'⟩] []) (ho : S.obj i = some ⟨sz, els⟩)
    (hp : pureL els = true) (hp' : pureL els' = true) (hr : r.pure = true) (hv : vals.map (sealed S.obj (fun j => [i].contains j) 4) = args.map (PV.ren (rmap [i] S.nx))) (hf : r.flatB = true) (hf' : els'.all PV.flatB = true) (hk : K r ⟨[], [], [(i, ⟨sz, els'⟩)], []⟩) : vProc P S f vals K := by
  refine ⟨[i], 4, args, [⟨sz, els⟩], r, [some ⟨sz, els'⟩], [], hpr, ⟨by simp, rfl, hv, fun j o hj => ?_⟩, .inr ⟨hf, rfl, by simp [flatO, hf']⟩, ?_⟩
  · cases j with
    | zero => obtain rfl : AO.mk sz els = o := by simpa using hj
              exact ⟨_, by simpa [rmap] using ho, rfl, by show els.map _ = els.map _; rw [map_sealed_pure _ _ _ hp, map_ren_pure _ hp]⟩
    | succ j => simp at hj
  · simpa [procDel, procSet, AO.ren, ren_pure _ r hr, map_ren_pure _ hp'] using hk
theorem ResP.row {S : St} {sz : Nat} {els els' : List PV} {o : AO} (h0 : S.obj 0 = some ⟨sz, els⟩) (he : els = els') (hp : pureL els' = true) (hs : o.sz = sz) (hg : S.gh = [.ob 0 sz 0 0]) : ResP S [] (.tup []) [o] [some ⟨sz, els'⟩] [] := by
  subst he
  subst hs
  refine ⟨[0], 4, by simp [retV, sealed, PV.ren, renL], fun p hp => by simp at hp, fun p hpm o' ho' => ?_, rfl, by simp, by rw [hg]; rfl, fun i h _ => ?_⟩
  · obtain rfl : p = (0, some ⟨o.sz, els⟩) := by simpa [objEnv] using hpm
    obtain rfl : AO.mk o.sz els = o' := by simpa using ho'
    exact ⟨Nat.zero_lt_one, _, by simpa [rmap] using h0, rfl, by show els.map _ = els.map _; rw [map_sealed_pure _ _ _ hp, map_ren_pure _ hp]⟩
  · match i, h with
    | 0, _ => simp [hg, marks, sealed, PV.ren, rmap]
theorem getD_setne {α : Type} {l : List α} {j k : Nat} (h : j ≠ k) (x y : α) : (l.set j x).getD k y = l.getD k y := by
  simp [List.getD_eq_getElem?_getD, List.getElem?_set_ne h]
def swp (d : List Int) (j : Nat) : List Int := (d.set j (li d (j - 1))).set (j - 1) (li d j)
def sink (lt : Int → Int → Bool) (a : Nat) : Nat → List Int → List Int
  | 0, d => d
  | j + 1, d => if a < j + 1 ∧ lt (li d (j + 1)) (li d j) = true then sink lt a j (swp d (j + 1)) else d
def isort (lt : Int → Int → Bool) (a : Nat) : Nat → Nat → List Int → List Int
  | 0, _, d => d
  | n + 1, i, d => isort lt a n (i + 1) (sink lt a i d)
theorem swp_len (d : List Int) (j : Nat) : (swp d j).length = d.length := by simp [swp]
theorem swp_mem {d : List Int} {j : Nat} (hj : j < d.length) {x : Int} (h : x ∈ swp d j) : x ∈ d := by
  rcases List.mem_or_eq_of_mem_set h with h | rfl
  · rcases List.mem_or_eq_of_mem_set h with h | rfl
    · exact h
    · exact li_mem (by omega)
  · exact li_mem hj
structure SinkI (lt : Int → Int → Bool) (l : List Int) (a i : Nat) (d0 d : List Int) (j : Nat) : Prop where
  lo : a ≤ j
  hi : j ≤ i
  len : d.length = l.length
  mem : ∀ x, x ∈ d → x ∈ l
  core : sink lt a i d0 = sink lt a j d
theorem SinkI.step {lt : Int → Int → Bool} {l : List Int} {a i : Nat} {d0 d : List Int} {j : Nat} (h : SinkI lt l a i d0 d j) (hi : i < l.length) (hj : a < j) (hc : lt (li d j) (li d (j - 1)) = true) : SinkI lt l a i d0 (swp d j) (j - 1) := by
  obtain ⟨k, rfl⟩ : ∃ k, j = k + 1 := ⟨j - 1, by omega⟩
  have h1 := h.hi
  have h2 := h.len
  refine ⟨by omega, by omega, by rw [swp_len]; exact h.len, fun x hx => h.mem x (swp_mem (by omega) hx), ?_⟩
  rw [h.core, sink, if_pos ⟨hj, hc⟩]; rfl
theorem SinkI.stop {lt : Int → Int → Bool} {l : List Int} {a i : Nat} {d0 d : List Int} {j : Nat} (h : SinkI lt l a i d0 d j) (hc : ¬ (a < j ∧ lt (li d j) (li d (j - 1)) = true)) : sink lt a i d0 = d := by
  rw [h.core]
  cases j with
  | zero => rfl
  | succ k => rw [sink, if_neg (by simpa using hc)]
structure InsI (lt : Int → Int → Bool) (l : List Int) (a b : Nat) (d : List Int) (i : Nat) : Prop where
  lo : a + 1 ≤ i
  len : d.length = l.length
  mem : ∀ x, x ∈ d → x ∈ l
  core : isort lt a (b - (a + 1)) (a + 1) l = isort lt a (b - i) i d
theorem InsI.start (lt : Int → Int → Bool) (l : List Int) (a b : Nat) : InsI lt l a b l (a + 1) := ⟨Nat.le_refl _, rfl, fun _ h => h, rfl⟩
theorem InsI.sink {lt : Int → Int → Bool} {l : List Int} {a b : Nat} {d : List Int} {i : Nat} (h : InsI lt l a b d i) : SinkI lt l a i d d i := ⟨by have := h.lo; omega, Nat.le_refl _, h.len, h.mem, rfl⟩
theorem InsI.next {lt : Int → Int → Bool} {l : List Int} {a b : Nat} {d d' : List Int} {i j : Nat} (h : InsI lt l a b d i) (hi : i < b) (hs : SinkI lt l a i d d' j) (hc : ¬ (a < j ∧ lt (li d' j) (li d' (j - 1)) = true)) : InsI lt l a b d' (i + 1) := by
  refine ⟨by have := h.lo; omega, hs.len, hs.mem, ?_⟩
  have e : b - i = (b - (i + 1)) + 1 := by omega
  rw [h.core, e, isort, hs.stop hc]
theorem InsI.stop {lt : Int → Int → Bool} {l : List Int} {a b : Nat} {d : List Int} {i : Nat} (h : InsI lt l a b d i) (hi : b ≤ i) : isort lt a (b - (a + 1)) (a + 1) l = d := by
  rw [h.core, Nat.sub_eq_zero_of_le hi]; rfl
def ltc (c : Int → Int → Int) (x y : Int) : Bool := decide (c x y < 0)
theorem insertion_proc (f : FuncId) (c1 c2 : PV) (c : Int → Int → Int) (l : List Int) (a b : Nat) (h1 : c1.pure = true) (h2 : c2.pure = true) (ha : a ≤ l.length) (hb : b ≤ l.length) (hl : l.length ≤ 1000000000)
    (hc : ∀ x y, x ∈ l → y ∈ l → Pure Tryd.prog f [encI x, encI y, c1, c2] (encI (c x y)) []) :
    Proc Tryd.prog 98 [.ob 0 1 0 l.length, encI a, encI b, .fn f [c1, c2]] [⟨1, l.map encI⟩] (.tup []) [some ⟨1, (isort (ltc c) a (b - (a + 1)) (a + 1) l).map encI⟩] [] := by
  have hfp : (PV.fn f [c1, c2]).pure = true := by simp [PV.pure, pureL, h1, h2]
  have r1 : ∀ ρ, c1.ren ρ = c1 := fun ρ => ren_pure ρ _ h1
  have r2 : ∀ ρ, c2.ren ρ = c2 := fun ρ => ren_pure ρ _ h2
  have s1 : ∀ H keep n, sealed H keep n c1 = c1 := fun H k n => sealed_pure H k n h1
  have s2 : ∀ H keep n, sealed H keep n c2 = c2 := fun H k n => sealed_pure H k n h2
  have q1 : ∀ H n, reach H n c1 = [] := fun H n => pure_reach n _ h1
  have q2 : ∀ H n, reach H n c2 = [] := fun H n => pure_reach n _ h2
  have o1 : c1.noOb = true := pure_noOb _ h1
  have o2 : c2.noOb = true := pure_noOb _ h2
  refine Proc.intro (ts := []) Tryd.func98 (by kernel_rfl) rfl rfl rfl (Nat.le_of_ble_eq_true rfl) rfl ?_
  simp only [objEnv, marks, List.map_cons, List.map_nil, List.length_cons, List.length_nil, Nat.zero_add, Nat.reduceAdd]
  refine sZ [0, 1, 2, 3, 8] (fun P S K => XvBinOV P .add 3 (.const (.int .i64 1)) (S.get 1) (.atom (.int .i64 1)) (fun r1 _ => K ⟨[(0, S.get 0), (1, S.get 1), (2, S.get 2), (3, S.get 3), (8, r1)], S.hp, S.nx, S.gh⟩)) fun K hK => ?_
  repeat' (first | (refine hK _ ?_; clear hK K) | ((first | refine xG_intro (fun hg => ?_) (fun hg => ?_) | refine fun (hg : (_ : Prop)) => ?_) <;> ((try simp only [BQ] at hg); try (exfalso; omega))) | refine And.intro ?_ ?_ | exact cl | refine one_take ?_ _ | refine one_drop ?_ _ | (refine st ?_; try simp only [List.length_set, wrap_id (x := ((a : Int) + 1)) (by omega) (by omega)]) | simp only [List.length_set, wrap_id (x := ((a : Int) + 1)) (by omega) (by omega)])
  all_goals try simp (disch := omega) only [wrap_id, wrap8_id]
  all_goals
  refine Tri.block ?_
  refine Tri.loop (α := (d : List Int) ×' (i : Nat) ×' (InsI (ltc c) l a b d i)) (fun z => (fun (d : List Int) (i : Nat) => (⟨[(0, .ob 0 1 0 l.length), (1, encI a), (2, encI b), (3, .fn f [c1, c2]), (8, encI i)], [(0, some ⟨1, d.map encI⟩)], 1, [.ob 0 1 0 0]⟩ : St)) z.1 z.2.1) (fun z => (fun (d : List Int) (i : Nat) => b - i) z.1 z.2.1) ⟨l, a + 1, InsI.start _ _ _ _⟩ [0] ?_ ?_
  ·exact leqpW26
  ·rintro ⟨d, i, hI⟩
   have hlo := hI.lo
   have hdl := hI.len
   refine Tri.seq ?_
   refine sY [0, 1, 2, 3, 8, 14] (fun P S K => XvBinOV P .lss 3 (.tmp 13) (S.get 8) (S.get 2) (fun r2 _ => K ⟨[(0, S.get 0), (1, S.get 1), (2, S.get 2), (3, S.get 3), (8, S.get 8), (14, r2)], S.hp, S.nx, S.gh⟩)) ?_
   all_goals
   refine Tri.cond rfl (fun h14 => ?_) (fun h14 => ?_)
   ·try (cases h14; done)
    all_goals (try simp only [CQ] at h14)
    all_goals
    refine Tri.skip ?_
    refine Tri.seq ?_
    refine Tri.block ?_
    refine sY [0, 1, 2, 3, 8, 9] (fun P S K => K ⟨[(0, S.get 0), (1, S.get 1), (2, S.get 2), (3, S.get 3), (8, S.get 8), (9, (S.get 8))], S.hp, S.nx, S.gh⟩) ?_
    all_goals
    refine Tri.block ?_
    refine Tri.loop (α := (d' : List Int) ×' (j : Nat) ×' (SinkI (ltc c) l a i d d' j)) (fun z => (fun (d' : List Int) (j : Nat) => (⟨[(0, .ob 0 1 0 l.length), (1, encI a), (2, encI b), (3, .fn f [c1, c2]), (8, encI i), (9, encI j)], [(0, some ⟨1, d'.map encI⟩)], 1, [.ob 0 1 0 0]⟩ : St)) z.1 z.2.1) (fun z => (fun (d' : List Int) (j : Nat) => j) z.1 z.2.1) ⟨d, i, hI.sink⟩ [0] ?_ ?_
    ·exact leqpW26
    ·rintro ⟨d', j, hS⟩
     have hjl := hS.lo
     have hji := hS.hi
     have hdl' := hS.len
     refine Tri.seq ?_
     rcases Nat.lt_or_ge a j with hja | hja
     all_goals
     refine sD 17 [0, 1, 2, 3, 8, 9, 34] (fun P GD S K => XvBinOV P .gtr 3 (.tmp 19) (S.get 9) (S.get 1) (fun r2 e2 => Xge r2 true (fun k => k (S.get 3) e0) (fun g4 r4 e4 => Xge g4 true (fun k => k (S.get 0) e0) (fun g5 r5 e5 => Xge g5 true (fun k => k (S.get 9) e0) (fun g6 r6 e6 => Xge g6 true (fun k => XvIndexAddr P 22 r5 r6 k) (fun g7 r7 e7 => Xge g7 true (fun k => XvLoad P 3 (M S.hp S.nx) r7 k) (fun g8 r8 e8 => Xge g8 true (fun k => k (S.get 0) e0) (fun g9 r9 e9 => Xge g9 true (fun k => k (S.get 9) e0) (fun g10 r10 e10 => Xge g10 true (fun k => XvBinOV P .sub 3 (.const (.int .i64 1)) r10 (.atom (.int .i64 1)) k) (fun g11 r11 e11 => Xge g11 true (fun k => XvIndexAddr P 22 r9 r11 k) (fun g12 r12 e12 => Xge g12 true (fun k => XvLoad P 3 (M S.hp S.nx) r12 k) (fun g13 r13 e13 => Xge g13 true (fun k => XvFnV P (M S.hp S.nx) r4 [r8, r13] k) (fun g14 r14 e14 => Xge g14 true (fun k => XvBinOV P .lss 3 (.const (.int .i64 0)) r14 (.atom (.int .i64 0)) k) (fun g15 r15 e15 => XvPick g15 r15 (.atom (.bool false)) (fun r16 e16 => (trOk S.nx GD [⟨S.nx, 0, [], [], []⟩, ⟨S.nx, 0, [], [], []⟩, ⟨S.nx, 0, e2.rd, [], []⟩, ⟨S.nx, 0, [], [], []⟩, ⟨S.nx, 0, e4.rd, [], []⟩, ⟨S.nx, 0, e5.rd, [], []⟩, ⟨S.nx, 0, e6.rd, [], []⟩, ⟨S.nx, 0, e7.rd, [], []⟩, ⟨S.nx, 0, e8.rd, [], []⟩, ⟨S.nx, 0, e9.rd, [], []⟩, ⟨S.nx, 0, e10.rd, [], []⟩, ⟨S.nx, 0, e11.rd, [], []⟩, ⟨S.nx, 0, e12.rd, [], []⟩, ⟨S.nx, 0, e13.rd, [], []⟩, (Eff.tr e14 S.nx), ⟨(S.nx + e14.add.length), 0, e15.rd, [], []⟩, ⟨(S.nx + e14.add.length), 0, e16.rd, [], []⟩] = true ∧ K ⟨[(0, S.get 0), (1, S.get 1), (2, S.get 2), (3, S.get 3), (8, S.get 8), (9, S.get 9), (34, r16)], (Eff.hp e14 S.nx S.hp), (S.nx + e14.add.length), S.gh⟩)))))))))))))))) fun K hK => ?_
     repeat' (first | (refine hK _ ?_; clear hK K) | (refine (?_ : trOk _ _ _ = true); (simp only [reach, List.flatMap_cons, List.flatMap_nil, List.append_nil, List.nil_append, q1, q2]; kernel_rfl)) | ((first | refine xG_intro (fun hg => ?_) (fun hg => ?_) | refine fun (hg : (_ : Prop)) => ?_) <;> ((try simp only [BQ] at hg); try (exfalso; omega))) | refine And.intro ?_ ?_ | exact cl | refine one_take ?_ _ | refine one_drop ?_ _ | refine .inl ⟨_, _, hc (li d' j) (li d' (j - 1)) (hS.mem _ (li_mem (by omega))) (hS.mem _ (li_mem (by omega))), ?_⟩ | refine ⟨_, _, hc (li d' j) (li d' (j - 1)) (hS.mem _ (li_mem (by omega))) (hS.mem _ (li_mem (by omega))), ?_⟩ | simp (maxSteps := 2000000) only [↓SD, push_cast, Nat.reduceAdd, Nat.reduceSub, Nat.reduceMul, Nat.reduceLT, Nat.reduceLeDiff, Nat.reduceEqDiff, Int.reduceToNat, reduceIte, reduceCtorEq, Int.reduceLE, Int.reduceLT, Int.reduceNeg, ints, strs, encI, encS, List.length_set, dec_yes (show ((a : Nat) : Int) < (j : Int) by omega), wrap_id (x := ((j : Int) - 1)) (by omega) (by omega), toNat_pred (show 0 < j by omega), getD_encI (show j < d'.length by omega), getD_encI (show j - 1 < d'.length by omega), s1, s2, r1, r2, o1, o2] | simp (maxSteps := 2000000) only [↓SD, push_cast, Nat.reduceAdd, Nat.reduceSub, Nat.reduceMul, Nat.reduceLT, Nat.reduceLeDiff, Nat.reduceEqDiff, Int.reduceToNat, reduceIte, reduceCtorEq, Int.reduceLE, Int.reduceLT, Int.reduceNeg, ints, strs, encI, encS, List.length_set, dec_no (show ¬ ((a : Nat) : Int) < (j : Int) by omega)])
     all_goals try simp (disch := omega) only [wrap_id, wrap8_id]
     all_goals
     refine Tri.cond rfl (fun h34 => ?_) (fun h34 => ?_)
     ·try (cases h34; done)
      all_goals (try simp only [CQ] at h34)
      all_goals
      refine Tri.skip ?_
      refine Tri.seq ?_
      refine Tri.block ?_
      refine rD 18 [0, 1, 2, 3, 8, 9] (fun P GD S K => XvBinOV P .sub 3 (.const (.int .i64 1)) (S.get 9) (.atom (.int .i64 1)) (fun r4 e4 => XvBinOV P .sub 3 (.const (.int .i64 1)) (S.get 9) (.atom (.int .i64 1)) (fun r7 e7 => XvIndexAddr P 22 (S.get 0) r7 (fun r8 e8 => XvLoad P 3 (M S.hp S.nx) r8 (fun r9 e9 => XvIndexAddr P 22 (S.get 0) (S.get 9) (fun r12 e12 => XvLoad P 3 (M S.hp S.nx) r12 (fun r13 e13 => XvIndexAddr P 22 (S.get 0) (S.get 9) (fun r14 e14 => XvStore P 3 (M S.hp S.nx) r14 r9 (fun r15 e15 => XvIndexAddr P 22 (S.get 0) r4 (fun r16 e16 => XvStore P 3 (M (Eff.hp e15 S.nx S.hp) (S.nx + e15.add.length)) r16 r13 (fun r17 e17 => (trOk S.nx GD [⟨S.nx, 0, [], [], []⟩, ⟨S.nx, 0, [], [], []⟩, ⟨S.nx, 0, [], [], []⟩, ⟨S.nx, 0, [], [], []⟩, ⟨S.nx, 0, e4.rd, [], []⟩, ⟨S.nx, 0, [], [], []⟩, ⟨S.nx, 0, [], [], []⟩, ⟨S.nx, 0, e7.rd, [], []⟩, ⟨S.nx, 0, e8.rd, [], []⟩, ⟨S.nx, 0, e9.rd, [], []⟩, ⟨S.nx, 0, [], [], []⟩, ⟨S.nx, 0, [], [], []⟩, ⟨S.nx, 0, e12.rd, [], []⟩, ⟨S.nx, 0, e13.rd, [], []⟩, ⟨S.nx, 0, e14.rd, [], []⟩, (Eff.tr e15 S.nx), ⟨(S.nx + e15.add.length), 0, e16.rd, [], []⟩, (Eff.tr e17 (S.nx + e15.add.length))] = true ∧ K ⟨[(0, S.get 0), (1, S.get 1), (2, S.get 2), (3, S.get 3), (8, S.get 8), (9, S.get 9)], (Eff.hp e17 (S.nx + e15.add.length) (Eff.hp e15 S.nx S.hp)), ((S.nx + e15.add.length) + e17.add.length), S.gh⟩)))))))))))) fun K hK => ?_
      repeat' (first | (refine hK _ ?_; clear hK K) | (refine (?_ : trOk _ _ _ = true); kernel_rfl) | ((first | refine xG_intro (fun hg => ?_) (fun hg => ?_) | refine fun (hg : (_ : Prop)) => ?_) <;> ((try simp only [BQ] at hg); try (exfalso; omega))) | refine And.intro ?_ ?_ | exact cl | refine one_take ?_ _ | refine one_drop ?_ _ | (refine st ?_; try simp only [List.length_set, getD_setne (show j ≠ j - 1 by omega), wrap_id (x := ((j : Int) - 1)) (by omega) (by omega), toNat_pred (show 0 < j by omega), getD_encI (show j < d'.length by omega), getD_encI (show j - 1 < d'.length by omega)]) | simp only [List.length_set, getD_setne (show j ≠ j - 1 by omega), wrap_id (x := ((j : Int) - 1)) (by omega) (by omega), toNat_pred (show 0 < j by omega), getD_encI (show j < d'.length by omega), getD_encI (show j - 1 < d'.length by omega)])
      all_goals try simp (disch := omega) only [wrap_id, wrap8_id]
      all_goals
      refine rZ [0, 1, 2, 3, 8, 9] (fun P S K => XvBinOV P .sub 3 (.const (.int .i64 1)) (S.get 9) (.atom (.int .i64 1)) (fun r1 _ => K ⟨[(0, S.get 0), (1, S.get 1), (2, S.get 2), (3, S.get 3), (8, S.get 8), (9, r1)], S.hp, S.nx, S.gh⟩)) fun K hK => ?_
      repeat' (first | (refine hK _ ?_; clear hK K) | ((first | refine xG_intro (fun hg => ?_) (fun hg => ?_) | refine fun (hg : (_ : Prop)) => ?_) <;> ((try simp only [BQ] at hg); try (exfalso; omega))) | refine And.intro ?_ ?_ | exact cl | refine one_take ?_ _ | refine one_drop ?_ _ | (refine st ?_; try simp only [List.length_set, wrap_id (x := ((j : Int) - 1)) (by omega) (by omega)]) | simp only [List.length_set, wrap_id (x := ((j : Int) - 1)) (by omega) (by omega)])
      all_goals try simp (disch := omega) only [wrap_id, wrap8_id]
      all_goals
      refine ⟨⟨swp d' j, j - 1, hS.step (by omega) hja (dec_yes h34)⟩, [0], by dsimp only; omega, ?_⟩
      have ek : ((j - 1 : Nat) : Int) = (j : Int) - 1 := by omega
      dsimp only
      rw [ek]
      exact leqpW26
     ·try (cases h34; done)
      all_goals (try simp only [CQ] at h34)
      all_goals
      refine Tri.exit ?_
      refine rY [0, 1, 2, 3, 8] (fun P S K => XvBinOV P .add 3 (.const (.int .i64 1)) (S.get 8) (.atom (.int .i64 1)) (fun r1 _ => K ⟨[(0, S.get 0), (1, S.get 1), (2, S.get 2), (3, S.get 3), (8, r1)], S.hp, S.nx, S.gh⟩)) ?_
      all_goals try simp (disch := omega) only [wrap_id, wrap8_id]
      all_goals
      refine ⟨⟨d', i + 1, hI.next (by omega) hS (by first | exact fun h => absurd h.1 (by omega) | exact fun h => h34 (of_decide_eq_true h.2))⟩, [0], by dsimp only; omega, ?_⟩
      exact leqpW26
   ·try (cases h14; done)
    all_goals (try simp only [CQ] at h14)
    all_goals
    refine Tri.exit ?_
    rw [hI.stop (by omega)]
    exact ResP.row rfl rfl (pureL_encI _) rfl rfl
end Go.Proofs.YtfnkciboencifaaDoor
set_option linter.all false
namespace Go.Proofs.YtfnkciboencifaaDoor
open Go Go.RowKit
set_option linter.unusedSimpArgs false
set_option linter.unusedVariables false
set_option maxRecDepth 20000
set_option maxHeartbeats 400000
theorem leqpW27 {p : Prop} (h : p := by (refine ⟨4, ?_, ?_, rfl, by simp, rfl, fun i h _ => (match i, h with | 0, _ => by simp [sealed, PV.ren, rmap])⟩ <;> (simp only [List.forall_mem_cons]; repeat' (first | refine And.intro ?_ ?_ | (intro p hp; exact absurd hp List.not_mem_nil) | rfl | exact (sealed_pure _ _ _ (pure_ints _)).trans (ren_ints _ _).symm | exact (sealed_pure _ _ _ (pure_strs _)).trans (ren_strs _ _).symm | exact sp (by assumption) | (intro o ho; cases ho; refine ⟨by decide, ?_⟩; first | (refine LeqS.row rfl ?_ ?_; (next => (first | rfl | (simp only [List.map_append, List.map_cons, List.map_nil, List.append_nil, List.nil_append, List.append_assoc, List.cons_append, encI, encS, ints, strs]; done) | (simp [encI, encS, ints, strs, swp, List.map_set]; done))); (next => (first | rfl | exact pureL_encI _ | exact pureL_encS _ | exact pureL_ints _ | exact pureL_strs _ | (simp [pureL_append, pureL_encI, pureL_encS, pureL_ints, pureL_strs, pureL, PV.pure, pure_ints, pure_strs]; done))); done) | refine ⟨_, rfl, rfl, ?_⟩) | (simp [St.born, St.known, retV, St.get, St.obj, lk, sealed, PV.ren, renL, rmap, AO.ren, ints, strs, encI, encS, map_sealed_encI, map_sealed_encS, map_sealed_ints, map_sealed_strs, map_ren_encI, map_ren_encS, map_ren_ints, map_ren_strs, renL_encI, renL_encS, renL_ints, renL_strs] <;> omega))))) : p := h
theorem wrapU_id {x : Int} (h0 : 0 ≤ x) (h1 : x ≤ 18446744073709551615) : IntKind.u64.wrap x = x := by
  have : IntKind.u64.wrap x = x % 18446744073709551616 := by simp [IntKind.wrap, IntKind.bits, IntKind.signed]
  rw [this]; omega
theorem uhalf {i j k : Nat} (hk : k = (i + j) / 2) (h : i + j ≤ 9223372036854775807) : IntKind.i64.wrap ((IntKind.u64.wrap (IntKind.i64.wrap ((i : Int) + j))).fdiv (2 ^ min 1 IntKind.u64.bits)) = (k : Int) := by
  rw [wrap_id (x := (i : Int) + j) (by omega) (by omega), wrapU_id (by omega) (by omega)]
  have e : ((i : Int) + j).fdiv (2 ^ min 1 IntKind.u64.bits) = (k : Int) := by
    show ((i : Int) + j).fdiv 2 = _
    rw [Int.fdiv_eq_ediv_of_nonneg _ (by decide)]; omega
  rw [e, wrap_id (by omega) (by omega)]
theorem sink_flat {lt : Int → Int → Bool} {l : List Int} (h : ∀ x y, x ∈ l → y ∈ l → lt x y = false) (a : Nat) : ∀ i, i < l.length → sink lt a i l = l
  | 0, _ => rfl
  | i + 1, hi => by rw [sink, if_neg (by rw [h _ _ (li_mem hi) (li_mem (by omega))]; simp)]
theorem isort_flat {lt : Int → Int → Bool} {l : List Int} (h : ∀ x y, x ∈ l → y ∈ l → lt x y = false) (a : Nat) : ∀ n i, n + i ≤ l.length → isort lt a n i l = l
  | 0, _, _ => rfl
  | n + 1, i, hi => by rw [isort, sink_flat h a i (by omega)]; exact isort_flat h a n (i + 1) (by omega)
theorem ltc_flat {c : Int → Int → Int} {l : List Int} (h : ∀ x y, x ∈ l → y ∈ l → ¬ c x y < 0) : ∀ x y, x ∈ l → y ∈ l → ltc c x y = false := fun x y hx hy => decide_eq_false (h x y hx hy)
def SymI (a m b mid s r : Nat) : Prop := (mid < m ∧ s = mid + m - b ∧ r = mid) ∨ (m ≤ mid ∧ s = a ∧ r = m)
theorem symMerge_step (f : FuncId) (c1 c2 : PV) (c : Int → Int → Int) (l : List Int) (a m b : Nat) (h1 : c1.pure = true) (h2 : c2.pure = true) (ham : a < m) (hmb : m < b) (hb : b ≤ l.length) (hl : l.length ≤ 1000000000)
    (hc : ∀ x y, x ∈ l → y ∈ l → Pure Tryd.prog f [encI x, encI y, c1, c2] (encI (c x y)) []) (hflat : ∀ x y, x ∈ l → y ∈ l → ¬ c x y < 0)
    (ih : ∀ a' m' b' : Nat, b' - a' < b - a → a' < m' → m' < b' → b' ≤ l.length → Proc Tryd.prog 99 [.ob 0 1 0 l.length, encI a', encI m', encI b', .fn f [c1, c2]] [⟨1, l.map encI⟩] (.tup []) [some ⟨1, l.map encI⟩] []) :
    Proc Tryd.prog 99 [.ob 0 1 0 l.length, encI a, encI m, encI b, .fn f [c1, c2]] [⟨1, l.map encI⟩] (.tup []) [some ⟨1, l.map encI⟩] [] := by
  have hfp : (PV.fn f [c1, c2]).pure = true := by simp [PV.pure, pureL, h1, h2]
  have r1 : ∀ ρ, c1.ren ρ = c1 := fun ρ => ren_pure ρ _ h1
  have r2 : ∀ ρ, c2.ren ρ = c2 := fun ρ => ren_pure ρ _ h2
  have s1 : ∀ H keep n, sealed H keep n c1 = c1 := fun H k n => sealed_pure H k n h1
  have s2 : ∀ H keep n, sealed H keep n c2 = c2 := fun H k n => sealed_pure H k n h2
  have q1 : ∀ H n, reach H n c1 = [] := fun H n => pure_reach n _ h1
  have q2 : ∀ H n, reach H n c2 = [] := fun H n => pure_reach n _ h2
  have o1 : c1.noOb = true := pure_noOb _ h1
  have o2 : c2.noOb = true := pure_noOb _ h2
  obtain ⟨mid, hmid⟩ : ∃ mid, mid = (a + b) / 2 := ⟨_, rfl⟩
  refine Proc.intro (ts := []) Tryd.func99 (by kernel_rfl) rfl rfl rfl (Nat.le_of_ble_eq_true rfl) rfl ?_
  simp only [objEnv, marks, List.map_cons, List.map_nil, List.length_cons, List.length_nil, Nat.zero_add, Nat.reduceAdd]
  refine Tri.seq ?_
  refine sY [0, 1, 2, 3, 4, 28] (fun P S K => XvBinOV P .sub 3 (.tmp 26) (S.get 2) (S.get 1) (fun r2 _ => XvBinOV P .eql 3 (.const (.int .i64 1)) r2 (.atom (.int .i64 1)) (fun r3 _ => K ⟨[(0, S.get 0), (1, S.get 1), (2, S.get 2), (3, S.get 3), (4, S.get 4), (28, r3)], S.hp, S.nx, S.gh⟩))) ?_
  all_goals try simp (disch := omega) only [wrap_id, wrap8_id]
  all_goals
  refine Tri.cond rfl (fun h28 => ?_) (fun h28 => ?_)
  ·try (cases h28; done)
   all_goals (try simp only [CQ] at h28)
   all_goals
   refine sY [0, 1, 3, 4, 10] (fun P S K => K ⟨[(0, S.get 0), (1, S.get 1), (3, S.get 3), (4, S.get 4), (10, (S.get 2))], S.hp, S.nx, S.gh⟩) ?_
   all_goals
   refine sY [0, 1, 4, 10, 11] (fun P S K => K ⟨[(0, S.get 0), (1, S.get 1), (4, S.get 4), (10, S.get 10), (11, (S.get 3))], S.hp, S.nx, S.gh⟩) ?_
   all_goals
   refine Tri.seq ?_
   refine Tri.block ?_
   refine Tri.loop (α := (j : Nat) ×' (m ≤ j ∧ j ≤ b)) (fun z => (fun (j : Nat) => (⟨[(0, .ob 0 1 0 l.length), (1, encI a), (4, .fn f [c1, c2]), (10, encI m), (11, encI j)], [(0, some ⟨1, l.map encI⟩)], 1, [.ob 0 1 0 0]⟩ : St)) z.1) (fun z => (fun (j : Nat) => j - m) z.1) ⟨b, ⟨by omega, by omega⟩⟩ [0] ?_ ?_
   ·exact leqpW27
   ·rintro ⟨j, ⟨hj1, hj2⟩⟩
    refine Tri.seq ?_
    refine sY [0, 1, 4, 10, 11, 33] (fun P S K => XvBinOV P .lss 3 (.tmp 32) (S.get 10) (S.get 11) (fun r2 _ => K ⟨[(0, S.get 0), (1, S.get 1), (4, S.get 4), (10, S.get 10), (11, S.get 11), (33, r2)], S.hp, S.nx, S.gh⟩)) ?_
    all_goals
    refine Tri.cond rfl (fun h33 => ?_) (fun h33 => ?_)
    ·try (cases h33; done)
     all_goals (try simp only [CQ] at h33)
     all_goals
     refine Tri.skip ?_
     refine Tri.block ?_
     obtain ⟨h, hh⟩ : ∃ h, h = (m + j) / 2 := ⟨_, rfl⟩
     refine sZ [0, 1, 4, 10, 11, 12] (fun P S K => XvBinOV P .add 3 (.tmp 35) (S.get 10) (S.get 11) (fun r2 _ => XvConvert P 3 143 (M S.hp S.nx) r2 (fun r3 e3 => XvBinOV P .shr 143 (.const (.int .u64 1)) r3 (.atom (.int .u64 1)) (fun r4 _ => XvConvert P 143 3 (M (Eff.hp e3 S.nx S.hp) (S.nx + e3.add.length)) r4 (fun r5 e5 => K ⟨[(0, S.get 0), (1, S.get 1), (4, S.get 4), (10, S.get 10), (11, S.get 11), (12, r5)], (Eff.hp e5 (S.nx + e3.add.length) (Eff.hp e3 S.nx S.hp)), ((S.nx + e3.add.length) + e5.add.length), S.gh⟩))))) fun K hK => ?_
     repeat' (first | (refine hK _ ?_; clear hK K) | ((first | refine xG_intro (fun hg => ?_) (fun hg => ?_) | refine fun (hg : (_ : Prop)) => ?_) <;> ((try simp only [BQ] at hg); try (exfalso; omega))) | refine And.intro ?_ ?_ | exact cl | refine one_take ?_ _ | refine one_drop ?_ _ | (refine st ?_; try simp only [List.length_set, uhalf hh (by omega)]) | simp only [List.length_set, uhalf hh (by omega)])
     all_goals try simp (disch := omega) only [wrap_id, wrap8_id]
     all_goals
     refine sD 11 [0, 1, 4, 10, 11, 12, 50] (fun P GD S K => XvIndexAddr P 22 (S.get 0) (S.get 12) (fun r3 e3 => XvLoad P 3 (M S.hp S.nx) r3 (fun r4 e4 => XvIndexAddr P 22 (S.get 0) (S.get 1) (fun r7 e7 => XvLoad P 3 (M S.hp S.nx) r7 (fun r8 e8 => XvFnV P (M S.hp S.nx) (S.get 4) [r4, r8] (fun r9 e9 => XvBinOV P .lss 3 (.const (.int .i64 0)) r9 (.atom (.int .i64 0)) (fun r10 e10 => (trOk S.nx GD [⟨S.nx, 0, [], [], []⟩, ⟨S.nx, 0, [], [], []⟩, ⟨S.nx, 0, [], [], []⟩, ⟨S.nx, 0, e3.rd, [], []⟩, ⟨S.nx, 0, e4.rd, [], []⟩, ⟨S.nx, 0, [], [], []⟩, ⟨S.nx, 0, [], [], []⟩, ⟨S.nx, 0, e7.rd, [], []⟩, ⟨S.nx, 0, e8.rd, [], []⟩, (Eff.tr e9 S.nx), ⟨(S.nx + e9.add.length), 0, e10.rd, [], []⟩] = true ∧ K ⟨[(0, S.get 0), (1, S.get 1), (4, S.get 4), (10, S.get 10), (11, S.get 11), (12, S.get 12), (50, r10)], (Eff.hp e9 S.nx S.hp), (S.nx + e9.add.length), S.gh⟩)))))))) fun K hK => ?_
     repeat' (first | (refine hK _ ?_; clear hK K) | (refine (?_ : trOk _ _ _ = true); (simp only [reach, List.flatMap_cons, List.flatMap_nil, List.append_nil, List.nil_append, q1, q2]; kernel_rfl)) | ((first | refine xG_intro (fun hg => ?_) (fun hg => ?_) | refine fun (hg : (_ : Prop)) => ?_) <;> ((try simp only [BQ] at hg); try (exfalso; omega))) | refine And.intro ?_ ?_ | exact cl | refine one_take ?_ _ | refine one_drop ?_ _ | refine .inl ⟨_, _, hc (li l h) (li l a) (li_mem (by omega)) (li_mem (by omega)), ?_⟩ | refine ⟨_, _, hc (li l h) (li l a) (li_mem (by omega)) (li_mem (by omega)), ?_⟩ | refine .inl ⟨_, _, hc (li l m) (li l h) (li_mem (by omega)) (li_mem (by omega)), ?_⟩ | refine ⟨_, _, hc (li l m) (li l h) (li_mem (by omega)) (li_mem (by omega)), ?_⟩ | refine .inl ⟨_, _, hc (li l q) (li l h) (li_mem (by omega)) (li_mem (by omega)), ?_⟩ | refine ⟨_, _, hc (li l q) (li l h) (li_mem (by omega)) (li_mem (by omega)), ?_⟩ | refine .inr (vProc.row 0 1 (ih a s mid (by omega) (by omega) (by omega) (by omega)) rfl (pureL_encI _) (pureL_encI _) rfl (by simp [sealed, PV.ren, renL, rmap, s1, s2, r1, r2, encI]) rfl (flat_encI _) ?_) | refine .inr (vProc.row 0 1 (ih mid en b (by omega) (by omega) (by omega) (by omega)) rfl (pureL_encI _) (pureL_encI _) rfl (by simp [sealed, PV.ren, renL, rmap, s1, s2, r1, r2, encI]) rfl (flat_encI _) ?_) | simp (maxSteps := 2000000) only [↓SD, push_cast, Nat.reduceAdd, Nat.reduceSub, Nat.reduceMul, Nat.reduceLT, Nat.reduceLeDiff, Nat.reduceEqDiff, Int.reduceToNat, reduceIte, reduceCtorEq, Int.reduceLE, Int.reduceLT, Int.reduceNeg, ints, strs, encI, encS, List.length_set, getD_encI (show h < l.length by omega), getD_encI (show a < l.length by omega), s1, s2, r1, r2, o1, o2, dec_no (hflat (li l h) (li l a) (li_mem (by omega)) (li_mem (by omega)))])
     all_goals
     refine Tri.cond rfl (fun h50 => ?_) (fun h50 => ?_)
     ·try (cases h50; done)
      all_goals (try simp only [CQ] at h50)
      all_goals
      refine rY [0, 1, 4, 10, 11] (fun P S K => XvBinOV P .add 3 (.const (.int .i64 1)) (S.get 12) (.atom (.int .i64 1)) (fun r1 _ => K ⟨[(0, S.get 0), (1, S.get 1), (4, S.get 4), (10, r1), (11, S.get 11)], S.hp, S.nx, S.gh⟩)) ?_
      all_goals try simp (disch := omega) only [wrap_id, wrap8_id]
      all_goals
      refine ⟨⟨h, by omega, by omega⟩, [0], by dsimp only; omega, ?_⟩
      exact leqpW27
     ·try (cases h50; done)
      all_goals (try simp only [CQ] at h50)
      all_goals
      refine rY [0, 1, 4, 10, 11] (fun P S K => K ⟨[(0, S.get 0), (1, S.get 1), (4, S.get 4), (10, S.get 10), (11, (S.get 12))], S.hp, S.nx, S.gh⟩) ?_
      all_goals
      refine ⟨⟨h, by omega, by omega⟩, [0], by dsimp only; omega, ?_⟩
      exact leqpW27
    ·try (cases h33; done)
     all_goals (try simp only [CQ] at h33)
     all_goals
     refine Tri.exit ?_
     refine Tri.seq ?_
     refine sY [0, 10, 13] (fun P S K => K ⟨[(0, S.get 0), (10, S.get 10), (13, (S.get 1))], S.hp, S.nx, S.gh⟩) ?_
     all_goals
     refine Tri.block ?_
     refine Tri.loop (α := (u : Unit) ×' (True)) (fun z => (fun (u : Unit) => (⟨[(0, .ob 0 1 0 l.length), (10, encI m), (13, encI a)], [(0, some ⟨1, l.map encI⟩)], 1, [.ob 0 1 0 0]⟩ : St)) z.1) (fun z => (fun (u : Unit) => 0) z.1) ⟨(), trivial⟩ [0] ?_ ?_
     ·exact leqpW27
     ·rintro ⟨u, _⟩
      refine Tri.seq ?_
      refine sZ [0, 10, 13, 58] (fun P S K => XvBinOV P .sub 3 (.const (.int .i64 1)) (S.get 10) (.atom (.int .i64 1)) (fun r2 _ => XvBinOV P .lss 3 (.tmp 57) (S.get 13) r2 (fun r3 _ => K ⟨[(0, S.get 0), (10, S.get 10), (13, S.get 13), (58, r3)], S.hp, S.nx, S.gh⟩))) fun K hK => ?_
      repeat' (first | (refine hK _ ?_; clear hK K) | ((first | refine xG_intro (fun hg => ?_) (fun hg => ?_) | refine fun (hg : (_ : Prop)) => ?_) <;> ((try simp only [BQ] at hg); try (exfalso; omega))) | refine And.intro ?_ ?_ | exact cl | refine one_take ?_ _ | refine one_drop ?_ _ | (refine st ?_; try simp only [List.length_set, dec_no (show ¬ ((a : Nat) : Int) < (m : Int) - 1 by omega), wrap_id (x := ((m : Int) - 1)) (by omega) (by omega)]) | simp only [List.length_set, dec_no (show ¬ ((a : Nat) : Int) < (m : Int) - 1 by omega), wrap_id (x := ((m : Int) - 1)) (by omega) (by omega)])
      all_goals try simp (disch := omega) only [wrap_id, wrap8_id]
      all_goals
      refine Tri.cond rfl (fun h58 => ?_) (fun h58 => ?_)
      ·try (cases h58; done)
       all_goals (try simp only [CQ] at h58)
       all_goals
       refine Tri.skip ?_
       refine Tri.seq ?_
       refine Tri.block ?_
       refine rD 15 [0, 10, 13] (fun P GD S K => XvBinOV P .add 3 (.const (.int .i64 1)) (S.get 13) (.atom (.int .i64 1)) (fun r4 e4 => XvBinOV P .add 3 (.const (.int .i64 1)) (S.get 13) (.atom (.int .i64 1)) (fun r7 e7 => XvIndexAddr P 22 (S.get 0) r7 (fun r8 e8 => XvLoad P 3 (M S.hp S.nx) r8 (fun r9 e9 => XvIndexAddr P 22 (S.get 0) (S.get 13) (fun r12 e12 => XvLoad P 3 (M S.hp S.nx) r12 (fun r13 e13 => XvIndexAddr P 22 (S.get 0) (S.get 13) (fun r14 e14 => (trOk S.nx GD [⟨S.nx, 0, [], [], []⟩, ⟨S.nx, 0, [], [], []⟩, ⟨S.nx, 0, [], [], []⟩, ⟨S.nx, 0, [], [], []⟩, ⟨S.nx, 0, e4.rd, [], []⟩, ⟨S.nx, 0, [], [], []⟩, ⟨S.nx, 0, [], [], []⟩, ⟨S.nx, 0, e7.rd, [], []⟩, ⟨S.nx, 0, e8.rd, [], []⟩, ⟨S.nx, 0, e9.rd, [], []⟩, ⟨S.nx, 0, [], [], []⟩, ⟨S.nx, 0, [], [], []⟩, ⟨S.nx, 0, e12.rd, [], []⟩, ⟨S.nx, 0, e13.rd, [], []⟩, ⟨S.nx, 0, e14.rd, [], []⟩] = true ∧ XvStore P 3 (M S.hp S.nx) r14 r9 (fun r15 e15 => XvIndexAddr P 22 (S.get 0) r4 (fun r16 _ => XvStore P 3 (M (Eff.hp e15 S.nx S.hp) (S.nx + e15.add.length)) r16 r13 (fun r17 e17 => K ⟨[(0, S.get 0), (10, S.get 10), (13, S.get 13)], (Eff.hp e17 (S.nx + e15.add.length) (Eff.hp e15 S.nx S.hp)), ((S.nx + e15.add.length) + e17.add.length), S.gh⟩)))))))))))) fun K hK => ?_
       repeat' (first | (refine hK _ ?_; clear hK K) | (refine (?_ : trOk _ _ _ = true); kernel_rfl) | ((first | refine xG_intro (fun hg => ?_) (fun hg => ?_) | refine fun (hg : (_ : Prop)) => ?_) <;> ((try simp only [BQ] at hg); try (exfalso; omega))) | refine And.intro ?_ ?_ | exact cl | refine one_take ?_ _ | refine one_drop ?_ _ | (refine st ?_; try simp only [List.length_set]) | simp only [List.length_set])
       all_goals try simp (disch := omega) only [wrap_id, wrap8_id]
       all_goals
       refine rY [0, 10, 13] (fun P S K => XvBinOV P .add 3 (.const (.int .i64 1)) (S.get 13) (.atom (.int .i64 1)) (fun r1 _ => K ⟨[(0, S.get 0), (10, S.get 10), (13, r1)], S.hp, S.nx, S.gh⟩)) ?_
       all_goals try simp (disch := omega) only [wrap_id, wrap8_id]
       all_goals
       fail -- ROUND 2
      ·try (cases h58; done)
       all_goals (try simp only [CQ] at h58)
       all_goals
       refine Tri.exit ?_
       refine Tri.ret ?_
       show ResP _ _ _ _ _ _
       exact ResP.row rfl rfl (pureL_encI _) rfl rfl
  ·try (cases h28; done)
   all_goals (try simp only [CQ] at h28)
   all_goals
   refine Tri.skip ?_
   refine Tri.seq ?_
   refine sY [0, 1, 2, 3, 4, 80] (fun P S K => XvBinOV P .sub 3 (.tmp 78) (S.get 3) (S.get 2) (fun r2 _ => XvBinOV P .eql 3 (.const (.int .i64 1)) r2 (.atom (.int .i64 1)) (fun r3 _ => K ⟨[(0, S.get 0), (1, S.get 1), (2, S.get 2), (3, S.get 3), (4, S.get 4), (80, r3)], S.hp, S.nx, S.gh⟩))) ?_
   all_goals try simp (disch := omega) only [wrap_id, wrap8_id]
   all_goals
   refine Tri.cond rfl (fun h80 => ?_) (fun h80 => ?_)
   ·try (cases h80; done)
    all_goals (try simp only [CQ] at h80)
    all_goals
    refine sY [0, 2, 4, 14] (fun P S K => K ⟨[(0, S.get 0), (2, S.get 2), (4, S.get 4), (14, (S.get 1))], S.hp, S.nx, S.gh⟩) ?_
    all_goals
    refine sY [0, 2, 4, 14, 15] (fun P S K => K ⟨[(0, S.get 0), (2, S.get 2), (4, S.get 4), (14, S.get 14), (15, (S.get 2))], S.hp, S.nx, S.gh⟩) ?_
    all_goals
    refine Tri.seq ?_
    refine Tri.block ?_
    refine Tri.loop (α := (i : Nat) ×' (a ≤ i ∧ i ≤ m)) (fun z => (fun (i : Nat) => (⟨[(0, .ob 0 1 0 l.length), (2, encI m), (4, .fn f [c1, c2]), (14, encI i), (15, encI m)], [(0, some ⟨1, l.map encI⟩)], 1, [.ob 0 1 0 0]⟩ : St)) z.1) (fun z => (fun (i : Nat) => m - i) z.1) ⟨a, ⟨by omega, by omega⟩⟩ [0] ?_ ?_
    ·exact leqpW27
    ·rintro ⟨i, ⟨hi1, hi2⟩⟩
     refine Tri.seq ?_
     refine sY [0, 2, 4, 14, 15, 85] (fun P S K => XvBinOV P .lss 3 (.tmp 84) (S.get 14) (S.get 15) (fun r2 _ => K ⟨[(0, S.get 0), (2, S.get 2), (4, S.get 4), (14, S.get 14), (15, S.get 15), (85, r2)], S.hp, S.nx, S.gh⟩)) ?_
     all_goals
     refine Tri.cond rfl (fun h85 => ?_) (fun h85 => ?_)
     ·try (cases h85; done)
      all_goals (try simp only [CQ] at h85)
      all_goals
      refine Tri.skip ?_
      refine Tri.block ?_
      obtain ⟨h, hh⟩ : ∃ h, h = (i + m) / 2 := ⟨_, rfl⟩
      refine sZ [0, 2, 4, 14, 15, 16] (fun P S K => XvBinOV P .add 3 (.tmp 87) (S.get 14) (S.get 15) (fun r2 _ => XvConvert P 3 143 (M S.hp S.nx) r2 (fun r3 e3 => XvBinOV P .shr 143 (.const (.int .u64 1)) r3 (.atom (.int .u64 1)) (fun r4 _ => XvConvert P 143 3 (M (Eff.hp e3 S.nx S.hp) (S.nx + e3.add.length)) r4 (fun r5 e5 => K ⟨[(0, S.get 0), (2, S.get 2), (4, S.get 4), (14, S.get 14), (15, S.get 15), (16, r5)], (Eff.hp e5 (S.nx + e3.add.length) (Eff.hp e3 S.nx S.hp)), ((S.nx + e3.add.length) + e5.add.length), S.gh⟩))))) fun K hK => ?_
      repeat' (first | (refine hK _ ?_; clear hK K) | ((first | refine xG_intro (fun hg => ?_) (fun hg => ?_) | refine fun (hg : (_ : Prop)) => ?_) <;> ((try simp only [BQ] at hg); try (exfalso; omega))) | refine And.intro ?_ ?_ | exact cl | refine one_take ?_ _ | refine one_drop ?_ _ | (refine st ?_; try simp only [List.length_set, uhalf hh (by omega)]) | simp only [List.length_set, uhalf hh (by omega)])
      all_goals try simp (disch := omega) only [wrap_id, wrap8_id]
      all_goals
      refine sD 12 [0, 2, 4, 14, 15, 16, 103] (fun P GD S K => XvIndexAddr P 22 (S.get 0) (S.get 2) (fun r3 e3 => XvLoad P 3 (M S.hp S.nx) r3 (fun r4 e4 => XvIndexAddr P 22 (S.get 0) (S.get 16) (fun r7 e7 => XvLoad P 3 (M S.hp S.nx) r7 (fun r8 e8 => XvFnV P (M S.hp S.nx) (S.get 4) [r4, r8] (fun r9 e9 => XvBinOV P .lss 3 (.const (.int .i64 0)) r9 (.atom (.int .i64 0)) (fun r10 e10 => XvUn .not r10 (fun r11 e11 => (trOk S.nx GD [⟨S.nx, 0, [], [], []⟩, ⟨S.nx, 0, [], [], []⟩, ⟨S.nx, 0, [], [], []⟩, ⟨S.nx, 0, e3.rd, [], []⟩, ⟨S.nx, 0, e4.rd, [], []⟩, ⟨S.nx, 0, [], [], []⟩, ⟨S.nx, 0, [], [], []⟩, ⟨S.nx, 0, e7.rd, [], []⟩, ⟨S.nx, 0, e8.rd, [], []⟩, (Eff.tr e9 S.nx), ⟨(S.nx + e9.add.length), 0, e10.rd, [], []⟩, ⟨(S.nx + e9.add.length), 0, e11.rd, [], []⟩] = true ∧ K ⟨[(0, S.get 0), (2, S.get 2), (4, S.get 4), (14, S.get 14), (15, S.get 15), (16, S.get 16), (103, r11)], (Eff.hp e9 S.nx S.hp), (S.nx + e9.add.length), S.gh⟩))))))))) fun K hK => ?_
      repeat' (first | (refine hK _ ?_; clear hK K) | (refine (?_ : trOk _ _ _ = true); (simp only [reach, List.flatMap_cons, List.flatMap_nil, List.append_nil, List.nil_append, q1, q2]; kernel_rfl)) | ((first | refine xG_intro (fun hg => ?_) (fun hg => ?_) | refine fun (hg : (_ : Prop)) => ?_) <;> ((try simp only [BQ] at hg); try (exfalso; omega))) | refine And.intro ?_ ?_ | exact cl | refine one_take ?_ _ | refine one_drop ?_ _ | refine .inl ⟨_, _, hc (li l h) (li l a) (li_mem (by omega)) (li_mem (by omega)), ?_⟩ | refine ⟨_, _, hc (li l h) (li l a) (li_mem (by omega)) (li_mem (by omega)), ?_⟩ | refine .inl ⟨_, _, hc (li l m) (li l h) (li_mem (by omega)) (li_mem (by omega)), ?_⟩ | refine ⟨_, _, hc (li l m) (li l h) (li_mem (by omega)) (li_mem (by omega)), ?_⟩ | refine .inl ⟨_, _, hc (li l q) (li l h) (li_mem (by omega)) (li_mem (by omega)), ?_⟩ | refine ⟨_, _, hc (li l q) (li l h) (li_mem (by omega)) (li_mem (by omega)), ?_⟩ | refine .inr (vProc.row 0 1 (ih a s mid (by omega) (by omega) (by omega) (by omega)) rfl (pureL_encI _) (pureL_encI _) rfl (by simp [sealed, PV.ren, renL, rmap, s1, s2, r1, r2, encI]) rfl (flat_encI _) ?_) | refine .inr (vProc.row 0 1 (ih mid en b (by omega) (by omega) (by omega) (by omega)) rfl (pureL_encI _) (pureL_encI _) rfl (by simp [sealed, PV.ren, renL, rmap, s1, s2, r1, r2, encI]) rfl (flat_encI _) ?_) | simp (maxSteps := 2000000) only [↓SD, push_cast, Nat.reduceAdd, Nat.reduceSub, Nat.reduceMul, Nat.reduceLT, Nat.reduceLeDiff, Nat.reduceEqDiff, Int.reduceToNat, reduceIte, reduceCtorEq, Int.reduceLE, Int.reduceLT, Int.reduceNeg, ints, strs, encI, encS, List.length_set, getD_encI (show h < l.length by omega), getD_encI (show m < l.length by omega), s1, s2, r1, r2, o1, o2, dec_no (hflat (li l m) (li l h) (li_mem (by omega)) (li_mem (by omega)))])
      all_goals try simp (disch := omega) only [wrap_id, wrap8_id]
      all_goals
      refine Tri.cond rfl (fun h103 => ?_) (fun h103 => ?_)
      ·try (cases h103; done)
       all_goals (try simp only [CQ] at h103)
       all_goals
       refine rY [0, 2, 4, 14, 15] (fun P S K => XvBinOV P .add 3 (.const (.int .i64 1)) (S.get 16) (.atom (.int .i64 1)) (fun r1 _ => K ⟨[(0, S.get 0), (2, S.get 2), (4, S.get 4), (14, r1), (15, S.get 15)], S.hp, S.nx, S.gh⟩)) ?_
       all_goals try simp (disch := omega) only [wrap_id, wrap8_id]
       all_goals
       refine ⟨⟨h + 1, by omega, by omega⟩, [0], by dsimp only; omega, ?_⟩
       exact leqpW27
      ·try (cases h103; done)
       all_goals (try simp only [CQ] at h103)
       all_goals
       refine rY [0, 2, 4, 14, 15] (fun P S K => K ⟨[(0, S.get 0), (2, S.get 2), (4, S.get 4), (14, S.get 14), (15, (S.get 16))], S.hp, S.nx, S.gh⟩) ?_
       all_goals
       refine ⟨⟨h + 1, by omega, by omega⟩, [0], by dsimp only; omega, ?_⟩
       exact leqpW27
     ·try (cases h85; done)
      all_goals (try simp only [CQ] at h85)
      all_goals
      refine Tri.exit ?_
      refine Tri.seq ?_
      obtain rfl : i = m := by omega
      refine sY [0, 14, 17] (fun P S K => K ⟨[(0, S.get 0), (14, S.get 14), (17, (S.get 2))], S.hp, S.nx, S.gh⟩) ?_
      all_goals
      refine Tri.block ?_
      refine Tri.loop (α := (u : Unit) ×' (True)) (fun z => (fun (u : Unit) => (⟨[(0, .ob 0 1 0 l.length), (14, encI i), (17, encI i)], [(0, some ⟨1, l.map encI⟩)], 1, [.ob 0 1 0 0]⟩ : St)) z.1) (fun z => (fun (u : Unit) => 0) z.1) ⟨(), trivial⟩ [0] ?_ ?_
      ·exact leqpW27
      ·rintro ⟨u, _⟩
       refine Tri.seq ?_
       refine sZ [0, 14, 17, 110] (fun P S K => XvBinOV P .gtr 3 (.tmp 109) (S.get 17) (S.get 14) (fun r2 _ => K ⟨[(0, S.get 0), (14, S.get 14), (17, S.get 17), (110, r2)], S.hp, S.nx, S.gh⟩)) fun K hK => ?_
       repeat' (first | (refine hK _ ?_; clear hK K) | ((first | refine xG_intro (fun hg => ?_) (fun hg => ?_) | refine fun (hg : (_ : Prop)) => ?_) <;> ((try simp only [BQ] at hg); try (exfalso; omega))) | refine And.intro ?_ ?_ | exact cl | refine one_take ?_ _ | refine one_drop ?_ _ | (refine st ?_; try simp only [List.length_set, dec_no (show ¬ ((i : Nat) : Int) < (i : Int) by omega)]) | simp only [List.length_set, dec_no (show ¬ ((i : Nat) : Int) < (i : Int) by omega)])
       all_goals
       refine Tri.cond rfl (fun h110 => ?_) (fun h110 => ?_)
       ·try (cases h110; done)
        all_goals (try simp only [CQ] at h110)
        all_goals
        refine Tri.skip ?_
        refine Tri.seq ?_
        refine Tri.block ?_
        refine rD 15 [0, 14, 17] (fun P GD S K => XvBinOV P .sub 3 (.const (.int .i64 1)) (S.get 17) (.atom (.int .i64 1)) (fun r4 e4 => XvBinOV P .sub 3 (.const (.int .i64 1)) (S.get 17) (.atom (.int .i64 1)) (fun r7 e7 => XvIndexAddr P 22 (S.get 0) r7 (fun r8 e8 => XvLoad P 3 (M S.hp S.nx) r8 (fun r9 e9 => XvIndexAddr P 22 (S.get 0) (S.get 17) (fun r12 e12 => XvLoad P 3 (M S.hp S.nx) r12 (fun r13 e13 => XvIndexAddr P 22 (S.get 0) (S.get 17) (fun r14 e14 => (trOk S.nx GD [⟨S.nx, 0, [], [], []⟩, ⟨S.nx, 0, [], [], []⟩, ⟨S.nx, 0, [], [], []⟩, ⟨S.nx, 0, [], [], []⟩, ⟨S.nx, 0, e4.rd, [], []⟩, ⟨S.nx, 0, [], [], []⟩, ⟨S.nx, 0, [], [], []⟩, ⟨S.nx, 0, e7.rd, [], []⟩, ⟨S.nx, 0, e8.rd, [], []⟩, ⟨S.nx, 0, e9.rd, [], []⟩, ⟨S.nx, 0, [], [], []⟩, ⟨S.nx, 0, [], [], []⟩, ⟨S.nx, 0, e12.rd, [], []⟩, ⟨S.nx, 0, e13.rd, [], []⟩, ⟨S.nx, 0, e14.rd, [], []⟩] = true ∧ XvStore P 3 (M S.hp S.nx) r14 r9 (fun r15 e15 => XvIndexAddr P 22 (S.get 0) r4 (fun r16 _ => XvStore P 3 (M (Eff.hp e15 S.nx S.hp) (S.nx + e15.add.length)) r16 r13 (fun r17 e17 => K ⟨[(0, S.get 0), (14, S.get 14), (17, S.get 17)], (Eff.hp e17 (S.nx + e15.add.length) (Eff.hp e15 S.nx S.hp)), ((S.nx + e15.add.length) + e17.add.length), S.gh⟩)))))))))))) fun K hK => ?_
        repeat' (first | (refine hK _ ?_; clear hK K) | (refine (?_ : trOk _ _ _ = true); kernel_rfl) | ((first | refine xG_intro (fun hg => ?_) (fun hg => ?_) | refine fun (hg : (_ : Prop)) => ?_) <;> ((try simp only [BQ] at hg); try (exfalso; omega))) | refine And.intro ?_ ?_ | exact cl | refine one_take ?_ _ | refine one_drop ?_ _ | (refine st ?_; try simp only [List.length_set]) | simp only [List.length_set])
        all_goals try simp (disch := omega) only [wrap_id, wrap8_id]
        all_goals
        refine rY [0, 14, 17] (fun P S K => XvBinOV P .sub 3 (.const (.int .i64 1)) (S.get 17) (.atom (.int .i64 1)) (fun r1 _ => K ⟨[(0, S.get 0), (14, S.get 14), (17, r1)], S.hp, S.nx, S.gh⟩)) ?_
        all_goals try simp (disch := omega) only [wrap_id, wrap8_id]
        all_goals
        fail -- ROUND 6
       ·try (cases h110; done)
        all_goals (try simp only [CQ] at h110)
        all_goals
        refine Tri.exit ?_
        refine Tri.ret ?_
        show ResP _ _ _ _ _ _
        exact ResP.row rfl rfl (pureL_encI _) rfl rfl
   ·try (cases h80; done)
    all_goals (try simp only [CQ] at h80)
    all_goals
    refine Tri.skip ?_
    refine sZ [0, 1, 2, 3, 4, 18] (fun P S K => XvBinOV P .add 3 (.tmp 130) (S.get 1) (S.get 3) (fun r2 _ => XvConvert P 3 143 (M S.hp S.nx) r2 (fun r3 e3 => XvBinOV P .shr 143 (.const (.int .u64 1)) r3 (.atom (.int .u64 1)) (fun r4 _ => XvConvert P 143 3 (M (Eff.hp e3 S.nx S.hp) (S.nx + e3.add.length)) r4 (fun r5 e5 => K ⟨[(0, S.get 0), (1, S.get 1), (2, S.get 2), (3, S.get 3), (4, S.get 4), (18, r5)], (Eff.hp e5 (S.nx + e3.add.length) (Eff.hp e3 S.nx S.hp)), ((S.nx + e3.add.length) + e5.add.length), S.gh⟩))))) fun K hK => ?_
    repeat' (first | (refine hK _ ?_; clear hK K) | ((first | refine xG_intro (fun hg => ?_) (fun hg => ?_) | refine fun (hg : (_ : Prop)) => ?_) <;> ((try simp only [BQ] at hg); try (exfalso; omega))) | refine And.intro ?_ ?_ | exact cl | refine one_take ?_ _ | refine one_drop ?_ _ | (refine st ?_; try simp only [List.length_set, uhalf hmid (by omega)]) | simp only [List.length_set, uhalf hmid (by omega)])
    all_goals try simp (disch := omega) only [wrap_id, wrap8_id]
    all_goals
    obtain ⟨n2, hn2⟩ : ∃ n2, n2 = mid + m := ⟨_, rfl⟩
    refine sZ [0, 1, 2, 3, 4, 18, 19] (fun P S K => XvBinOV P .add 3 (.tmp 136) (S.get 18) (S.get 2) (fun r2 _ => K ⟨[(0, S.get 0), (1, S.get 1), (2, S.get 2), (3, S.get 3), (4, S.get 4), (18, S.get 18), (19, r2)], S.hp, S.nx, S.gh⟩)) fun K hK => ?_
    repeat' (first | (refine hK _ ?_; clear hK K) | ((first | refine xG_intro (fun hg => ?_) (fun hg => ?_) | refine fun (hg : (_ : Prop)) => ?_) <;> ((try simp only [BQ] at hg); try (exfalso; omega))) | refine And.intro ?_ ?_ | exact cl | refine one_take ?_ _ | refine one_drop ?_ _ | (refine st ?_; try simp only [List.length_set, (show IntKind.i64.wrap ((mid : Int) + m) = (n2 : Int) by rw [wrap_id (by omega) (by omega)]; omega)]) | simp only [List.length_set, (show IntKind.i64.wrap ((mid : Int) + m) = (n2 : Int) by rw [wrap_id (by omega) (by omega)]; omega)])
    all_goals try simp (disch := omega) only [wrap_id, wrap8_id]
    all_goals
    refine sY [0, 1, 2, 3, 4, 18, 19] (fun P S K => K ⟨[(0, S.get 0), (1, S.get 1), (2, S.get 2), (3, S.get 3), (4, S.get 4), (18, S.get 18), (19, S.get 19)], S.hp, S.nx, S.gh⟩) ?_
    all_goals
    refine Tri.cut (α := (s : Nat) ×' (r : Nat) ×' (SymI a m b mid s r)) (fun ⟨s0, r, hsy⟩ => ⟨[(0, .ob 0 1 0 l.length), (1, encI a), (2, encI m), (3, encI b), (4, .fn f [c1, c2]), (18, encI mid), (19, encI n2), (20, encI s0), (21, encI r)], [(0, some ⟨1, l.map encI⟩)], 1, [.ob 0 1 0 0]⟩) ?_ ?_
    ·skip
     refine sY [0, 1, 2, 3, 4, 18, 19, 140] (fun P S K => XvBinOV P .gtr 3 (.tmp 139) (S.get 2) (S.get 18) (fun r2 _ => K ⟨[(0, S.get 0), (1, S.get 1), (2, S.get 2), (3, S.get 3), (4, S.get 4), (18, S.get 18), (19, S.get 19), (140, r2)], S.hp, S.nx, S.gh⟩)) ?_
     all_goals
     refine Tri.cond rfl (fun h140 => ?_) (fun h140 => ?_)
     ·try (cases h140; done)
      all_goals (try simp only [CQ] at h140)
      all_goals
      refine sZ [0, 1, 2, 3, 4, 18, 19, 20] (fun P S K => XvBinOV P .sub 3 (.tmp 142) (S.get 19) (S.get 3) (fun r2 _ => K ⟨[(0, S.get 0), (1, S.get 1), (2, S.get 2), (3, S.get 3), (4, S.get 4), (18, S.get 18), (19, S.get 19), (20, r2)], S.hp, S.nx, S.gh⟩)) fun K hK => ?_
      repeat' (first | (refine hK _ ?_; clear hK K) | ((first | refine xG_intro (fun hg => ?_) (fun hg => ?_) | refine fun (hg : (_ : Prop)) => ?_) <;> ((try simp only [BQ] at hg); try (exfalso; omega))) | refine And.intro ?_ ?_ | exact cl | refine one_take ?_ _ | refine one_drop ?_ _ | (refine st ?_; try simp only [List.length_set, (show IntKind.i64.wrap ((n2 : Int) - b) = ((mid + m - b : Nat) : Int) by rw [wrap_id (by omega) (by omega)]; omega)]) | simp only [List.length_set, (show IntKind.i64.wrap ((n2 : Int) - b) = ((mid + m - b : Nat) : Int) by rw [wrap_id (by omega) (by omega)]; omega)])
      all_goals try simp (disch := omega) only [wrap_id, wrap8_id]
      all_goals
      refine rY [0, 1, 2, 3, 4, 18, 19, 20, 21] (fun P S K => K ⟨[(0, S.get 0), (1, S.get 1), (2, S.get 2), (3, S.get 3), (4, S.get 4), (18, S.get 18), (19, S.get 19), (20, S.get 20), (21, (S.get 18))], S.hp, S.nx, S.gh⟩) ?_
      all_goals
      refine ⟨(by first | exact ⟨mid + m - b, mid, .inl ⟨by omega, rfl, rfl⟩⟩ | exact ⟨a, m, .inr ⟨by omega, rfl, rfl⟩⟩), [0], ?_⟩
      exact leqpW27
     ·try (cases h140; done)
      all_goals (try simp only [CQ] at h140)
      all_goals
      refine sY [0, 1, 2, 3, 4, 18, 19, 20] (fun P S K => K ⟨[(0, S.get 0), (1, S.get 1), (2, S.get 2), (3, S.get 3), (4, S.get 4), (18, S.get 18), (19, S.get 19), (20, (S.get 1))], S.hp, S.nx, S.gh⟩) ?_
      all_goals
      refine rY [0, 1, 2, 3, 4, 18, 19, 20, 21] (fun P S K => K ⟨[(0, S.get 0), (1, S.get 1), (2, S.get 2), (3, S.get 3), (4, S.get 4), (18, S.get 18), (19, S.get 19), (20, S.get 20), (21, (S.get 2))], S.hp, S.nx, S.gh⟩) ?_
      all_goals
      refine ⟨(by first | exact ⟨mid + m - b, mid, .inl ⟨by omega, rfl, rfl⟩⟩ | exact ⟨a, m, .inr ⟨by omega, rfl, rfl⟩⟩), [0], ?_⟩
      exact leqpW27
    ·rintro ⟨s0, r, hsy⟩
     obtain ⟨p, hp⟩ : ∃ p, p = n2 - 1 := ⟨_, rfl⟩
     have hs0 : s0 ≤ r ∧ r ≤ mid ∧ r ≤ m ∧ mid < b ∧ a + 2 ≤ mid ∧ mid + m - r ≤ b ∧ mid + m - s0 ≤ b ∧ m ≤ mid + m - r := by rcases hsy with ⟨g1, g2, g3⟩ | ⟨g1, g2, g3⟩ <;> omega
     refine sZ [0, 1, 2, 3, 4, 18, 19, 20, 21, 22] (fun P S K => XvBinOV P .sub 3 (.const (.int .i64 1)) (S.get 19) (.atom (.int .i64 1)) (fun r1 _ => K ⟨[(0, S.get 0), (1, S.get 1), (2, S.get 2), (3, S.get 3), (4, S.get 4), (18, S.get 18), (19, S.get 19), (20, S.get 20), (21, S.get 21), (22, r1)], S.hp, S.nx, S.gh⟩)) fun K hK => ?_
     repeat' (first | (refine hK _ ?_; clear hK K) | ((first | refine xG_intro (fun hg => ?_) (fun hg => ?_) | refine fun (hg : (_ : Prop)) => ?_) <;> ((try simp only [BQ] at hg); try (exfalso; omega))) | refine And.intro ?_ ?_ | exact cl | refine one_take ?_ _ | refine one_drop ?_ _ | (refine st ?_; try simp only [List.length_set, (show IntKind.i64.wrap ((n2 : Int) - 1) = (p : Int) by rw [wrap_id (by omega) (by omega)]; omega)]) | simp only [List.length_set, (show IntKind.i64.wrap ((n2 : Int) - 1) = (p : Int) by rw [wrap_id (by omega) (by omega)]; omega)])
     all_goals try simp (disch := omega) only [wrap_id, wrap8_id]
     all_goals
     refine Tri.seq ?_
     refine Tri.block ?_
     refine Tri.loop (α := (s : Nat) ×' (s0 ≤ s ∧ s ≤ r)) (fun z => (fun (s : Nat) => (⟨[(0, .ob 0 1 0 l.length), (1, encI a), (2, encI m), (3, encI b), (4, .fn f [c1, c2]), (18, encI mid), (19, encI n2), (20, encI s), (21, encI r), (22, encI p)], [(0, some ⟨1, l.map encI⟩)], 1, [.ob 0 1 0 0]⟩ : St)) z.1) (fun z => (fun (s : Nat) => r - s) z.1) ⟨s0, ⟨by omega, by omega⟩⟩ [0] ?_ ?_
     ·exact leqpW27
     ·rintro ⟨s, ⟨hs1, hs2⟩⟩
      refine Tri.seq ?_
      refine sY [0, 1, 2, 3, 4, 18, 19, 20, 21, 22, 151] (fun P S K => XvBinOV P .lss 3 (.tmp 150) (S.get 20) (S.get 21) (fun r2 _ => K ⟨[(0, S.get 0), (1, S.get 1), (2, S.get 2), (3, S.get 3), (4, S.get 4), (18, S.get 18), (19, S.get 19), (20, S.get 20), (21, S.get 21), (22, S.get 22), (151, r2)], S.hp, S.nx, S.gh⟩)) ?_
      all_goals
      refine Tri.cond rfl (fun h151 => ?_) (fun h151 => ?_)
      ·try (cases h151; done)
       all_goals (try simp only [CQ] at h151)
       all_goals
       refine Tri.skip ?_
       refine Tri.block ?_
       obtain ⟨h, hh⟩ : ∃ h, h = (s + r) / 2 := ⟨_, rfl⟩
       obtain ⟨q, hq⟩ : ∃ q, q = p - h := ⟨_, rfl⟩
       refine sZ [0, 1, 2, 3, 4, 18, 19, 20, 21, 22, 23] (fun P S K => XvBinOV P .add 3 (.tmp 153) (S.get 20) (S.get 21) (fun r2 _ => XvConvert P 3 143 (M S.hp S.nx) r2 (fun r3 e3 => XvBinOV P .shr 143 (.const (.int .u64 1)) r3 (.atom (.int .u64 1)) (fun r4 _ => XvConvert P 143 3 (M (Eff.hp e3 S.nx S.hp) (S.nx + e3.add.length)) r4 (fun r5 e5 => K ⟨[(0, S.get 0), (1, S.get 1), (2, S.get 2), (3, S.get 3), (4, S.get 4), (18, S.get 18), (19, S.get 19), (20, S.get 20), (21, S.get 21), (22, S.get 22), (23, r5)], (Eff.hp e5 (S.nx + e3.add.length) (Eff.hp e3 S.nx S.hp)), ((S.nx + e3.add.length) + e5.add.length), S.gh⟩))))) fun K hK => ?_
       repeat' (first | (refine hK _ ?_; clear hK K) | ((first | refine xG_intro (fun hg => ?_) (fun hg => ?_) | refine fun (hg : (_ : Prop)) => ?_) <;> ((try simp only [BQ] at hg); try (exfalso; omega))) | refine And.intro ?_ ?_ | exact cl | refine one_take ?_ _ | refine one_drop ?_ _ | (refine st ?_; try simp only [List.length_set, uhalf hh (by omega)]) | simp only [List.length_set, uhalf hh (by omega)])
       all_goals try simp (disch := omega) only [wrap_id, wrap8_id]
       all_goals
       refine sD 14 [0, 1, 2, 3, 4, 18, 19, 20, 21, 22, 23, 171] (fun P GD S K => XvBinOV P .sub 3 (.tmp 161) (S.get 22) (S.get 23) (fun r4 e4 => XvIndexAddr P 22 (S.get 0) r4 (fun r5 e5 => XvLoad P 3 (M S.hp S.nx) r5 (fun r6 e6 => XvIndexAddr P 22 (S.get 0) (S.get 23) (fun r9 e9 => XvLoad P 3 (M S.hp S.nx) r9 (fun r10 e10 => XvFnV P (M S.hp S.nx) (S.get 4) [r6, r10] (fun r11 e11 => XvBinOV P .lss 3 (.const (.int .i64 0)) r11 (.atom (.int .i64 0)) (fun r12 e12 => XvUn .not r12 (fun r13 e13 => (trOk S.nx GD [⟨S.nx, 0, [], [], []⟩, ⟨S.nx, 0, [], [], []⟩, ⟨S.nx, 0, [], [], []⟩, ⟨S.nx, 0, [], [], []⟩, ⟨S.nx, 0, e4.rd, [], []⟩, ⟨S.nx, 0, e5.rd, [], []⟩, ⟨S.nx, 0, e6.rd, [], []⟩, ⟨S.nx, 0, [], [], []⟩, ⟨S.nx, 0, [], [], []⟩, ⟨S.nx, 0, e9.rd, [], []⟩, ⟨S.nx, 0, e10.rd, [], []⟩, (Eff.tr e11 S.nx), ⟨(S.nx + e11.add.length), 0, e12.rd, [], []⟩, ⟨(S.nx + e11.add.length), 0, e13.rd, [], []⟩] = true ∧ K ⟨[(0, S.get 0), (1, S.get 1), (2, S.get 2), (3, S.get 3), (4, S.get 4), (18, S.get 18), (19, S.get 19), (20, S.get 20), (21, S.get 21), (22, S.get 22), (23, S.get 23), (171, r13)], (Eff.hp e11 S.nx S.hp), (S.nx + e11.add.length), S.gh⟩)))))))))) fun K hK => ?_
       repeat' (first | (refine hK _ ?_; clear hK K) | (refine (?_ : trOk _ _ _ = true); (simp only [reach, List.flatMap_cons, List.flatMap_nil, List.append_nil, List.nil_append, q1, q2]; kernel_rfl)) | ((first | refine xG_intro (fun hg => ?_) (fun hg => ?_) | refine fun (hg : (_ : Prop)) => ?_) <;> ((try simp only [BQ] at hg); try (exfalso; omega))) | refine And.intro ?_ ?_ | exact cl | refine one_take ?_ _ | refine one_drop ?_ _ | refine .inl ⟨_, _, hc (li l h) (li l a) (li_mem (by omega)) (li_mem (by omega)), ?_⟩ | refine ⟨_, _, hc (li l h) (li l a) (li_mem (by omega)) (li_mem (by omega)), ?_⟩ | refine .inl ⟨_, _, hc (li l m) (li l h) (li_mem (by omega)) (li_mem (by omega)), ?_⟩ | refine ⟨_, _, hc (li l m) (li l h) (li_mem (by omega)) (li_mem (by omega)), ?_⟩ | refine .inl ⟨_, _, hc (li l q) (li l h) (li_mem (by omega)) (li_mem (by omega)), ?_⟩ | refine ⟨_, _, hc (li l q) (li l h) (li_mem (by omega)) (li_mem (by omega)), ?_⟩ | refine .inr (vProc.row 0 1 (ih a s mid (by omega) (by omega) (by omega) (by omega)) rfl (pureL_encI _) (pureL_encI _) rfl (by simp [sealed, PV.ren, renL, rmap, s1, s2, r1, r2, encI]) rfl (flat_encI _) ?_) | refine .inr (vProc.row 0 1 (ih mid en b (by omega) (by omega) (by omega) (by omega)) rfl (pureL_encI _) (pureL_encI _) rfl (by simp [sealed, PV.ren, renL, rmap, s1, s2, r1, r2, encI]) rfl (flat_encI _) ?_) | simp (maxSteps := 2000000) only [↓SD, push_cast, Nat.reduceAdd, Nat.reduceSub, Nat.reduceMul, Nat.reduceLT, Nat.reduceLeDiff, Nat.reduceEqDiff, Int.reduceToNat, reduceIte, reduceCtorEq, Int.reduceLE, Int.reduceLT, Int.reduceNeg, ints, strs, encI, encS, List.length_set, getD_encI (show h < l.length by omega), getD_encI (show q < l.length by omega), (show IntKind.i64.wrap ((p : Int) - (h : Int)) = (q : Int) by rw [wrap_id (by omega) (by omega)]; omega), s1, s2, r1, r2, o1, o2, dec_no (hflat (li l q) (li l h) (li_mem (by omega)) (li_mem (by omega)))])
       all_goals try simp (disch := omega) only [wrap_id, wrap8_id]
       all_goals
       refine Tri.cond rfl (fun h171 => ?_) (fun h171 => ?_)
       ·try (cases h171; done)
        all_goals (try simp only [CQ] at h171)
        all_goals
        refine rY [0, 1, 2, 3, 4, 18, 19, 20, 21, 22] (fun P S K => XvBinOV P .add 3 (.const (.int .i64 1)) (S.get 23) (.atom (.int .i64 1)) (fun r1 _ => K ⟨[(0, S.get 0), (1, S.get 1), (2, S.get 2), (3, S.get 3), (4, S.get 4), (18, S.get 18), (19, S.get 19), (20, r1), (21, S.get 21), (22, S.get 22)], S.hp, S.nx, S.gh⟩)) ?_
        all_goals try simp (disch := omega) only [wrap_id, wrap8_id]
        all_goals
        refine ⟨⟨h + 1, by omega, by omega⟩, [0], by dsimp only; omega, ?_⟩
        exact leqpW27
       ·try (cases h171; done)
        all_goals (try simp only [CQ] at h171)
        all_goals
        refine rY [0, 1, 2, 3, 4, 18, 19, 20, 21, 22] (fun P S K => K ⟨[(0, S.get 0), (1, S.get 1), (2, S.get 2), (3, S.get 3), (4, S.get 4), (18, S.get 18), (19, S.get 19), (20, S.get 20), (21, (S.get 23)), (22, S.get 22)], S.hp, S.nx, S.gh⟩) ?_
        all_goals
        refine ⟨⟨h + 1, by omega, by omega⟩, [0], by dsimp only; omega, ?_⟩
        exact leqpW27
      ·try (cases h151; done)
       all_goals (try simp only [CQ] at h151)
       all_goals
       refine Tri.exit ?_
       obtain rfl : s = r := by omega
       obtain ⟨en, hen⟩ : ∃ en, en = n2 - s := ⟨_, rfl⟩
       refine sZ [0, 1, 2, 3, 4, 18, 20, 24] (fun P S K => XvBinOV P .sub 3 (.tmp 176) (S.get 19) (S.get 20) (fun r2 _ => K ⟨[(0, S.get 0), (1, S.get 1), (2, S.get 2), (3, S.get 3), (4, S.get 4), (18, S.get 18), (20, S.get 20), (24, r2)], S.hp, S.nx, S.gh⟩)) fun K hK => ?_
       repeat' (first | (refine hK _ ?_; clear hK K) | ((first | refine xG_intro (fun hg => ?_) (fun hg => ?_) | refine fun (hg : (_ : Prop)) => ?_) <;> ((try simp only [BQ] at hg); try (exfalso; omega))) | refine And.intro ?_ ?_ | exact cl | refine one_take ?_ _ | refine one_drop ?_ _ | (refine st ?_; try simp only [List.length_set, (show IntKind.i64.wrap ((n2 : Int) - (s : Int)) = (en : Int) by rw [wrap_id (by omega) (by omega)]; omega)]) | simp only [List.length_set, (show IntKind.i64.wrap ((n2 : Int) - (s : Int)) = (en : Int) by rw [wrap_id (by omega) (by omega)]; omega)])
       all_goals try simp (disch := omega) only [wrap_id, wrap8_id]
       all_goals
       refine Tri.seq ?_
       rcases hsy with ⟨g1, g2, g3⟩ | ⟨g1, g2, g3⟩
       all_goals
       refine sZ [0, 1, 2, 3, 4, 18, 20, 24, 185] (fun P S K => XvBinOV P .lss 3 (.tmp 179) (S.get 20) (S.get 2) (fun r2 _ => Xgq r2 true (fun k => k (S.get 2)) (fun g4 r4 => Xgq g4 true (fun k => k (S.get 24)) (fun g5 r5 => Xgq g5 true (fun k => XvBinOV P .lss 3 (.tmp 183) r4 r5 (fun r6 _ => k r6)) (fun g6 r6 => XvPick g6 r6 (.atom (.bool false)) (fun r7 _ => K ⟨[(0, S.get 0), (1, S.get 1), (2, S.get 2), (3, S.get 3), (4, S.get 4), (18, S.get 18), (20, S.get 20), (24, S.get 24), (185, r7)], S.hp, S.nx, S.gh⟩)))))) fun K hK => ?_
       repeat' (first | (refine hK _ ?_; clear hK K) | ((first | refine xG_intro (fun hg => ?_) (fun hg => ?_) | refine fun (hg : (_ : Prop)) => ?_) <;> ((try simp only [BQ] at hg); try (exfalso; omega))) | refine And.intro ?_ ?_ | exact cl | refine one_take ?_ _ | refine one_drop ?_ _ | (refine st ?_; try simp only [List.length_set]) | simp only [List.length_set])
       all_goals
       refine Tri.cond rfl (fun h185 => ?_) (fun h185 => ?_)
       ·try (cases h185; done)
        all_goals (try simp only [CQ] at h185)
        all_goals
        refine rZ [0, 1, 3, 4, 18, 20, 24] (fun P S K => XvFnIV P (M S.hp S.nx) (.fn 104 []) [(S.get 0), (S.get 20), (S.get 2), (S.get 24), (S.get 4)] (fun r5 e5 => K ⟨[(0, S.get 0), (1, S.get 1), (3, S.get 3), (4, S.get 4), (18, S.get 18), (20, S.get 20), (24, S.get 24)], (Eff.hp e5 S.nx S.hp), (S.nx + e5.add.length), S.gh⟩)) fun K hK => ?_
        repeat' (first | (refine hK _ ?_; clear hK K) | ((first | refine xG_intro (fun hg => ?_) (fun hg => ?_) | refine fun (hg : (_ : Prop)) => ?_) <;> ((try simp only [BQ] at hg); try (exfalso; omega))) | refine And.intro ?_ ?_ | exact cl | refine one_take ?_ _ | refine one_drop ?_ _ | refine .inl ⟨_, _, hc (li l h) (li l a) (li_mem (by omega)) (li_mem (by omega)), ?_⟩ | refine ⟨_, _, hc (li l h) (li l a) (li_mem (by omega)) (li_mem (by omega)), ?_⟩ | refine .inl ⟨_, _, hc (li l m) (li l h) (li_mem (by omega)) (li_mem (by omega)), ?_⟩ | refine ⟨_, _, hc (li l m) (li l h) (li_mem (by omega)) (li_mem (by omega)), ?_⟩ | refine .inl ⟨_, _, hc (li l q) (li l h) (li_mem (by omega)) (li_mem (by omega)), ?_⟩ | refine ⟨_, _, hc (li l q) (li l h) (li_mem (by omega)) (li_mem (by omega)), ?_⟩ | refine .inr (vProc.row 0 1 (ih a s mid (by omega) (by omega) (by omega) (by omega)) rfl (pureL_encI _) (pureL_encI _) rfl (by simp [sealed, PV.ren, renL, rmap, s1, s2, r1, r2, encI]) rfl (flat_encI _) ?_) | refine .inr (vProc.row 0 1 (ih mid en b (by omega) (by omega) (by omega) (by omega)) rfl (pureL_encI _) (pureL_encI _) rfl (by simp [sealed, PV.ren, renL, rmap, s1, s2, r1, r2, encI]) rfl (flat_encI _) ?_) | (refine st ?_; try simp only [List.length_set]) | simp only [List.length_set])
        all_goals
        refine Tri.seq ?_
        refine sZ [0, 1, 3, 4, 18, 20, 24, 199] (fun P S K => XvBinOV P .lss 3 (.tmp 193) (S.get 1) (S.get 20) (fun r2 _ => Xgq r2 true (fun k => k (S.get 20)) (fun g4 r4 => Xgq g4 true (fun k => k (S.get 18)) (fun g5 r5 => Xgq g5 true (fun k => XvBinOV P .lss 3 (.tmp 197) r4 r5 (fun r6 _ => k r6)) (fun g6 r6 => XvPick g6 r6 (.atom (.bool false)) (fun r7 _ => K ⟨[(0, S.get 0), (1, S.get 1), (3, S.get 3), (4, S.get 4), (18, S.get 18), (20, S.get 20), (24, S.get 24), (199, r7)], S.hp, S.nx, S.gh⟩)))))) fun K hK => ?_
        repeat' (first | (refine hK _ ?_; clear hK K) | ((first | refine xG_intro (fun hg => ?_) (fun hg => ?_) | refine fun (hg : (_ : Prop)) => ?_) <;> ((try simp only [BQ] at hg); try (exfalso; omega))) | refine And.intro ?_ ?_ | exact cl | refine one_take ?_ _ | refine one_drop ?_ _ | (refine st ?_; try simp only [List.length_set]) | simp only [List.length_set])
        all_goals
        refine Tri.cond rfl (fun h199 => ?_) (fun h199 => ?_)
        ·try (cases h199; done)
         all_goals (try simp only [CQ] at h199)
         all_goals
         refine rZ [0, 3, 4, 18, 24] (fun P S K => XvFnIV P (M S.hp S.nx) (.fn 99 []) [(S.get 0), (S.get 1), (S.get 20), (S.get 18), (S.get 4)] (fun r5 e5 => K ⟨[(0, S.get 0), (3, S.get 3), (4, S.get 4), (18, S.get 18), (24, S.get 24)], (Eff.hp e5 S.nx S.hp), (S.nx + e5.add.length), S.gh⟩)) fun K hK => ?_
         repeat' (first | (refine hK _ ?_; clear hK K) | ((first | refine xG_intro (fun hg => ?_) (fun hg => ?_) | refine fun (hg : (_ : Prop)) => ?_) <;> ((try simp only [BQ] at hg); try (exfalso; omega))) | refine And.intro ?_ ?_ | exact cl | refine one_take ?_ _ | refine one_drop ?_ _ | refine .inl ⟨_, _, hc (li l h) (li l a) (li_mem (by omega)) (li_mem (by omega)), ?_⟩ | refine ⟨_, _, hc (li l h) (li l a) (li_mem (by omega)) (li_mem (by omega)), ?_⟩ | refine .inl ⟨_, _, hc (li l m) (li l h) (li_mem (by omega)) (li_mem (by omega)), ?_⟩ | refine ⟨_, _, hc (li l m) (li l h) (li_mem (by omega)) (li_mem (by omega)), ?_⟩ | refine .inl ⟨_, _, hc (li l q) (li l h) (li_mem (by omega)) (li_mem (by omega)), ?_⟩ | refine ⟨_, _, hc (li l q) (li l h) (li_mem (by omega)) (li_mem (by omega)), ?_⟩ | refine .inr (vProc.row 0 1 (ih a s mid (by omega) (by omega) (by omega) (by omega)) rfl (pureL_encI _) (pureL_encI _) rfl (by simp [sealed, PV.ren, renL, rmap, s1, s2, r1, r2, encI]) rfl (flat_encI _) ?_) | refine .inr (vProc.row 0 1 (ih mid en b (by omega) (by omega) (by omega) (by omega)) rfl (pureL_encI _) (pureL_encI _) rfl (by simp [sealed, PV.ren, renL, rmap, s1, s2, r1, r2, encI]) rfl (flat_encI _) ?_) | (refine st ?_; try simp only [List.length_set]) | simp only [List.length_set])
         all_goals
         refine sZ [0, 3, 4, 18, 24, 213] (fun P S K => XvBinOV P .lss 3 (.tmp 207) (S.get 18) (S.get 24) (fun r2 _ => Xgq r2 true (fun k => k (S.get 24)) (fun g4 r4 => Xgq g4 true (fun k => k (S.get 3)) (fun g5 r5 => Xgq g5 true (fun k => XvBinOV P .lss 3 (.tmp 211) r4 r5 (fun r6 _ => k r6)) (fun g6 r6 => XvPick g6 r6 (.atom (.bool false)) (fun r7 _ => K ⟨[(0, S.get 0), (3, S.get 3), (4, S.get 4), (18, S.get 18), (24, S.get 24), (213, r7)], S.hp, S.nx, S.gh⟩)))))) fun K hK => ?_
         repeat' (first | (refine hK _ ?_; clear hK K) | ((first | refine xG_intro (fun hg => ?_) (fun hg => ?_) | refine fun (hg : (_ : Prop)) => ?_) <;> ((try simp only [BQ] at hg); try (exfalso; omega))) | refine And.intro ?_ ?_ | exact cl | refine one_take ?_ _ | refine one_drop ?_ _ | (refine st ?_; try simp only [List.length_set]) | simp only [List.length_set])
         all_goals
         refine Tri.cond rfl (fun h213 => ?_) (fun h213 => ?_)
         ·try (cases h213; done)
          all_goals (try simp only [CQ] at h213)
          all_goals
          refine rZ [] (fun P S K => XvFnIV P (M S.hp S.nx) (.fn 99 []) [(S.get 0), (S.get 18), (S.get 24), (S.get 3), (S.get 4)] (fun r5 e5 => K ⟨[], (Eff.hp e5 S.nx S.hp), (S.nx + e5.add.length), S.gh⟩)) fun K hK => ?_
          repeat' (first | (refine hK _ ?_; clear hK K) | ((first | refine xG_intro (fun hg => ?_) (fun hg => ?_) | refine fun (hg : (_ : Prop)) => ?_) <;> ((try simp only [BQ] at hg); try (exfalso; omega))) | refine And.intro ?_ ?_ | exact cl | refine one_take ?_ _ | refine one_drop ?_ _ | refine .inl ⟨_, _, hc (li l h) (li l a) (li_mem (by omega)) (li_mem (by omega)), ?_⟩ | refine ⟨_, _, hc (li l h) (li l a) (li_mem (by omega)) (li_mem (by omega)), ?_⟩ | refine .inl ⟨_, _, hc (li l m) (li l h) (li_mem (by omega)) (li_mem (by omega)), ?_⟩ | refine ⟨_, _, hc (li l m) (li l h) (li_mem (by omega)) (li_mem (by omega)), ?_⟩ | refine .inl ⟨_, _, hc (li l q) (li l h) (li_mem (by omega)) (li_mem (by omega)), ?_⟩ | refine ⟨_, _, hc (li l q) (li l h) (li_mem (by omega)) (li_mem (by omega)), ?_⟩ | refine .inr (vProc.row 0 1 (ih a s mid (by omega) (by omega) (by omega) (by omega)) rfl (pureL_encI _) (pureL_encI _) rfl (by simp [sealed, PV.ren, renL, rmap, s1, s2, r1, r2, encI]) rfl (flat_encI _) ?_) | refine .inr (vProc.row 0 1 (ih mid en b (by omega) (by omega) (by omega) (by omega)) rfl (pureL_encI _) (pureL_encI _) rfl (by simp [sealed, PV.ren, renL, rmap, s1, s2, r1, r2, encI]) rfl (flat_encI _) ?_) | (refine st ?_; try simp only [List.length_set]) | simp only [List.length_set])
          all_goals
          exact ResP.row rfl rfl (pureL_encI _) rfl rfl
         ·try (cases h213; done)
          all_goals (try simp only [CQ] at h213)
          all_goals
          refine Tri.skip ?_
          exact ResP.row rfl rfl (pureL_encI _) rfl rfl
        ·try (cases h199; done)
         all_goals (try simp only [CQ] at h199)
         all_goals
         refine Tri.skip ?_
         refine sZ [0, 3, 4, 18, 24, 213] (fun P S K => XvBinOV P .lss 3 (.tmp 207) (S.get 18) (S.get 24) (fun r2 _ => Xgq r2 true (fun k => k (S.get 24)) (fun g4 r4 => Xgq g4 true (fun k => k (S.get 3)) (fun g5 r5 => Xgq g5 true (fun k => XvBinOV P .lss 3 (.tmp 211) r4 r5 (fun r6 _ => k r6)) (fun g6 r6 => XvPick g6 r6 (.atom (.bool false)) (fun r7 _ => K ⟨[(0, S.get 0), (3, S.get 3), (4, S.get 4), (18, S.get 18), (24, S.get 24), (213, r7)], S.hp, S.nx, S.gh⟩)))))) fun K hK => ?_
         repeat' (first | (refine hK _ ?_; clear hK K) | ((first | refine xG_intro (fun hg => ?_) (fun hg => ?_) | refine fun (hg : (_ : Prop)) => ?_) <;> ((try simp only [BQ] at hg); try (exfalso; omega))) | refine And.intro ?_ ?_ | exact cl | refine one_take ?_ _ | refine one_drop ?_ _ | (refine st ?_; try simp only [List.length_set]) | simp only [List.length_set])
         all_goals
         refine Tri.cond rfl (fun h213 => ?_) (fun h213 => ?_)
         ·try (cases h213; done)
          all_goals (try simp only [CQ] at h213)
          all_goals
          refine rZ [] (fun P S K => XvFnIV P (M S.hp S.nx) (.fn 99 []) [(S.get 0), (S.get 18), (S.get 24), (S.get 3), (S.get 4)] (fun r5 e5 => K ⟨[], (Eff.hp e5 S.nx S.hp), (S.nx + e5.add.length), S.gh⟩)) fun K hK => ?_
          repeat' (first | (refine hK _ ?_; clear hK K) | ((first | refine xG_intro (fun hg => ?_) (fun hg => ?_) | refine fun (hg : (_ : Prop)) => ?_) <;> ((try simp only [BQ] at hg); try (exfalso; omega))) | refine And.intro ?_ ?_ | exact cl | refine one_take ?_ _ | refine one_drop ?_ _ | refine .inl ⟨_, _, hc (li l h) (li l a) (li_mem (by omega)) (li_mem (by omega)), ?_⟩ | refine ⟨_, _, hc (li l h) (li l a) (li_mem (by omega)) (li_mem (by omega)), ?_⟩ | refine .inl ⟨_, _, hc (li l m) (li l h) (li_mem (by omega)) (li_mem (by omega)), ?_⟩ | refine ⟨_, _, hc (li l m) (li l h) (li_mem (by omega)) (li_mem (by omega)), ?_⟩ | refine .inl ⟨_, _, hc (li l q) (li l h) (li_mem (by omega)) (li_mem (by omega)), ?_⟩ | refine ⟨_, _, hc (li l q) (li l h) (li_mem (by omega)) (li_mem (by omega)), ?_⟩ | refine .inr (vProc.row 0 1 (ih a s mid (by omega) (by omega) (by omega) (by omega)) rfl (pureL_encI _) (pureL_encI _) rfl (by simp [sealed, PV.ren, renL, rmap, s1, s2, r1, r2, encI]) rfl (flat_encI _) ?_) | refine .inr (vProc.row 0 1 (ih mid en b (by omega) (by omega) (by omega) (by omega)) rfl (pureL_encI _) (pureL_encI _) rfl (by simp [sealed, PV.ren, renL, rmap, s1, s2, r1, r2, encI]) rfl (flat_encI _) ?_) | (refine st ?_; try simp only [List.length_set]) | simp only [List.length_set])
          all_goals
          exact ResP.row rfl rfl (pureL_encI _) rfl rfl
         ·try (cases h213; done)
          all_goals (try simp only [CQ] at h213)
          all_goals
          refine Tri.skip ?_
          exact ResP.row rfl rfl (pureL_encI _) rfl rfl
       ·try (cases h185; done)
        all_goals (try simp only [CQ] at h185)
        all_goals
        refine Tri.skip ?_
        refine Tri.seq ?_
        refine sZ [0, 1, 3, 4, 18, 20, 24, 199] (fun P S K => XvBinOV P .lss 3 (.tmp 193) (S.get 1) (S.get 20) (fun r2 _ => Xgq r2 true (fun k => k (S.get 20)) (fun g4 r4 => Xgq g4 true (fun k => k (S.get 18)) (fun g5 r5 => Xgq g5 true (fun k => XvBinOV P .lss 3 (.tmp 197) r4 r5 (fun r6 _ => k r6)) (fun g6 r6 => XvPick g6 r6 (.atom (.bool false)) (fun r7 _ => K ⟨[(0, S.get 0), (1, S.get 1), (3, S.get 3), (4, S.get 4), (18, S.get 18), (20, S.get 20), (24, S.get 24), (199, r7)], S.hp, S.nx, S.gh⟩)))))) fun K hK => ?_
        repeat' (first | (refine hK _ ?_; clear hK K) | ((first | refine xG_intro (fun hg => ?_) (fun hg => ?_) | refine fun (hg : (_ : Prop)) => ?_) <;> ((try simp only [BQ] at hg); try (exfalso; omega))) | refine And.intro ?_ ?_ | exact cl | refine one_take ?_ _ | refine one_drop ?_ _ | (refine st ?_; try simp only [List.length_set]) | simp only [List.length_set])
        all_goals
        refine Tri.cond rfl (fun h199 => ?_) (fun h199 => ?_)
        ·try (cases h199; done)
         all_goals (try simp only [CQ] at h199)
         all_goals
         refine rZ [0, 3, 4, 18, 24] (fun P S K => XvFnIV P (M S.hp S.nx) (.fn 99 []) [(S.get 0), (S.get 1), (S.get 20), (S.get 18), (S.get 4)] (fun r5 e5 => K ⟨[(0, S.get 0), (3, S.get 3), (4, S.get 4), (18, S.get 18), (24, S.get 24)], (Eff.hp e5 S.nx S.hp), (S.nx + e5.add.length), S.gh⟩)) fun K hK => ?_
         repeat' (first | (refine hK _ ?_; clear hK K) | ((first | refine xG_intro (fun hg => ?_) (fun hg => ?_) | refine fun (hg : (_ : Prop)) => ?_) <;> ((try simp only [BQ] at hg); try (exfalso; omega))) | refine And.intro ?_ ?_ | exact cl | refine one_take ?_ _ | refine one_drop ?_ _ | refine .inl ⟨_, _, hc (li l h) (li l a) (li_mem (by omega)) (li_mem (by omega)), ?_⟩ | refine ⟨_, _, hc (li l h) (li l a) (li_mem (by omega)) (li_mem (by omega)), ?_⟩ | refine .inl ⟨_, _, hc (li l m) (li l h) (li_mem (by omega)) (li_mem (by omega)), ?_⟩ | refine ⟨_, _, hc (li l m) (li l h) (li_mem (by omega)) (li_mem (by omega)), ?_⟩ | refine .inl ⟨_, _, hc (li l q) (li l h) (li_mem (by omega)) (li_mem (by omega)), ?_⟩ | refine ⟨_, _, hc (li l q) (li l h) (li_mem (by omega)) (li_mem (by omega)), ?_⟩ | refine .inr (vProc.row 0 1 (ih a s mid (by omega) (by omega) (by omega) (by omega)) rfl (pureL_encI _) (pureL_encI _) rfl (by simp [sealed, PV.ren, renL, rmap, s1, s2, r1, r2, encI]) rfl (flat_encI _) ?_) | refine .inr (vProc.row 0 1 (ih mid en b (by omega) (by omega) (by omega) (by omega)) rfl (pureL_encI _) (pureL_encI _) rfl (by simp [sealed, PV.ren, renL, rmap, s1, s2, r1, r2, encI]) rfl (flat_encI _) ?_) | (refine st ?_; try simp only [List.length_set]) | simp only [List.length_set])
         all_goals
         refine sZ [0, 3, 4, 18, 24, 213] (fun P S K => XvBinOV P .lss 3 (.tmp 207) (S.get 18) (S.get 24) (fun r2 _ => Xgq r2 true (fun k => k (S.get 24)) (fun g4 r4 => Xgq g4 true (fun k => k (S.get 3)) (fun g5 r5 => Xgq g5 true (fun k => XvBinOV P .lss 3 (.tmp 211) r4 r5 (fun r6 _ => k r6)) (fun g6 r6 => XvPick g6 r6 (.atom (.bool false)) (fun r7 _ => K ⟨[(0, S.get 0), (3, S.get 3), (4, S.get 4), (18, S.get 18), (24, S.get 24), (213, r7)], S.hp, S.nx, S.gh⟩)))))) fun K hK => ?_
         repeat' (first | (refine hK _ ?_; clear hK K) | ((first | refine xG_intro (fun hg => ?_) (fun hg => ?_) | refine fun (hg : (_ : Prop)) => ?_) <;> ((try simp only [BQ] at hg); try (exfalso; omega))) | refine And.intro ?_ ?_ | exact cl | refine one_take ?_ _ | refine one_drop ?_ _ | (refine st ?_; try simp only [List.length_set]) | simp only [List.length_set])
         all_goals
         refine Tri.cond rfl (fun h213 => ?_) (fun h213 => ?_)
         ·try (cases h213; done)
          all_goals (try simp only [CQ] at h213)
          all_goals
          refine rZ [] (fun P S K => XvFnIV P (M S.hp S.nx) (.fn 99 []) [(S.get 0), (S.get 18), (S.get 24), (S.get 3), (S.get 4)] (fun r5 e5 => K ⟨[], (Eff.hp e5 S.nx S.hp), (S.nx + e5.add.length), S.gh⟩)) fun K hK => ?_
          repeat' (first | (refine hK _ ?_; clear hK K) | ((first | refine xG_intro (fun hg => ?_) (fun hg => ?_) | refine fun (hg : (_ : Prop)) => ?_) <;> ((try simp only [BQ] at hg); try (exfalso; omega))) | refine And.intro ?_ ?_ | exact cl | refine one_take ?_ _ | refine one_drop ?_ _ | refine .inl ⟨_, _, hc (li l h) (li l a) (li_mem (by omega)) (li_mem (by omega)), ?_⟩ | refine ⟨_, _, hc (li l h) (li l a) (li_mem (by omega)) (li_mem (by omega)), ?_⟩ | refine .inl ⟨_, _, hc (li l m) (li l h) (li_mem (by omega)) (li_mem (by omega)), ?_⟩ | refine ⟨_, _, hc (li l m) (li l h) (li_mem (by omega)) (li_mem (by omega)), ?_⟩ | refine .inl ⟨_, _, hc (li l q) (li l h) (li_mem (by omega)) (li_mem (by omega)), ?_⟩ | refine ⟨_, _, hc (li l q) (li l h) (li_mem (by omega)) (li_mem (by omega)), ?_⟩ | refine .inr (vProc.row 0 1 (ih a s mid (by omega) (by omega) (by omega) (by omega)) rfl (pureL_encI _) (pureL_encI _) rfl (by simp [sealed, PV.ren, renL, rmap, s1, s2, r1, r2, encI]) rfl (flat_encI _) ?_) | refine .inr (vProc.row 0 1 (ih mid en b (by omega) (by omega) (by omega) (by omega)) rfl (pureL_encI _) (pureL_encI _) rfl (by simp [sealed, PV.ren, renL, rmap, s1, s2, r1, r2, encI]) rfl (flat_encI _) ?_) | (refine st ?_; try simp only [List.length_set]) | simp only [List.length_set])
          all_goals
          exact ResP.row rfl rfl (pureL_encI _) rfl rfl
         ·try (cases h213; done)
          all_goals (try simp only [CQ] at h213)
          all_goals
          refine Tri.skip ?_
          exact ResP.row rfl rfl (pureL_encI _) rfl rfl
        ·try (cases h199; done)
         all_goals (try simp only [CQ] at h199)
         all_goals
         refine Tri.skip ?_
         refine sZ [0, 3, 4, 18, 24, 213] (fun P S K => XvBinOV P .lss 3 (.tmp 207) (S.get 18) (S.get 24) (fun r2 _ => Xgq r2 true (fun k => k (S.get 24)) (fun g4 r4 => Xgq g4 true (fun k => k (S.get 3)) (fun g5 r5 => Xgq g5 true (fun k => XvBinOV P .lss 3 (.tmp 211) r4 r5 (fun r6 _ => k r6)) (fun g6 r6 => XvPick g6 r6 (.atom (.bool false)) (fun r7 _ => K ⟨[(0, S.get 0), (3, S.get 3), (4, S.get 4), (18, S.get 18), (24, S.get 24), (213, r7)], S.hp, S.nx, S.gh⟩)))))) fun K hK => ?_
         repeat' (first | (refine hK _ ?_; clear hK K) | ((first | refine xG_intro (fun hg => ?_) (fun hg => ?_) | refine fun (hg : (_ : Prop)) => ?_) <;> ((try simp only [BQ] at hg); try (exfalso; omega))) | refine And.intro ?_ ?_ | exact cl | refine one_take ?_ _ | refine one_drop ?_ _ | (refine st ?_; try simp only [List.length_set]) | simp only [List.length_set])
         all_goals
         refine Tri.cond rfl (fun h213 => ?_) (fun h213 => ?_)
         ·try (cases h213; done)
          all_goals (try simp only [CQ] at h213)
          all_goals
          refine rZ [] (fun P S K => XvFnIV P (M S.hp S.nx) (.fn 99 []) [(S.get 0), (S.get 18), (S.get 24), (S.get 3), (S.get 4)] (fun r5 e5 => K ⟨[], (Eff.hp e5 S.nx S.hp), (S.nx + e5.add.length), S.gh⟩)) fun K hK => ?_
          repeat' (first | (refine hK _ ?_; clear hK K) | ((first | refine xG_intro (fun hg => ?_) (fun hg => ?_) | refine fun (hg : (_ : Prop)) => ?_) <;> ((try simp only [BQ] at hg); try (exfalso; omega))) | refine And.intro ?_ ?_ | exact cl | refine one_take ?_ _ | refine one_drop ?_ _ | refine .inl ⟨_, _, hc (li l h) (li l a) (li_mem (by omega)) (li_mem (by omega)), ?_⟩ | refine ⟨_, _, hc (li l h) (li l a) (li_mem (by omega)) (li_mem (by omega)), ?_⟩ | refine .inl ⟨_, _, hc (li l m) (li l h) (li_mem (by omega)) (li_mem (by omega)), ?_⟩ | refine ⟨_, _, hc (li l m) (li l h) (li_mem (by omega)) (li_mem (by omega)), ?_⟩ | refine .inl ⟨_, _, hc (li l q) (li l h) (li_mem (by omega)) (li_mem (by omega)), ?_⟩ | refine ⟨_, _, hc (li l q) (li l h) (li_mem (by omega)) (li_mem (by omega)), ?_⟩ | refine .inr (vProc.row 0 1 (ih a s mid (by omega) (by omega) (by omega) (by omega)) rfl (pureL_encI _) (pureL_encI _) rfl (by simp [sealed, PV.ren, renL, rmap, s1, s2, r1, r2, encI]) rfl (flat_encI _) ?_) | refine .inr (vProc.row 0 1 (ih mid en b (by omega) (by omega) (by omega) (by omega)) rfl (pureL_encI _) (pureL_encI _) rfl (by simp [sealed, PV.ren, renL, rmap, s1, s2, r1, r2, encI]) rfl (flat_encI _) ?_) | (refine st ?_; try simp only [List.length_set]) | simp only [List.length_set])
          all_goals
          exact ResP.row rfl rfl (pureL_encI _) rfl rfl
         ·try (cases h213; done)
          all_goals (try simp only [CQ] at h213)
          all_goals
          refine Tri.skip ?_
          exact ResP.row rfl rfl (pureL_encI _) rfl rfl
theorem symMerge_flat (f : FuncId) (c1 c2 : PV) (c : Int → Int → Int) (l : List Int) (h1 : c1.pure = true) (h2 : c2.pure = true) (hl : l.length ≤ 1000000000)
    (hc : ∀ x y, x ∈ l → y ∈ l → Pure Tryd.prog f [encI x, encI y, c1, c2] (encI (c x y)) []) (hflat : ∀ x y, x ∈ l → y ∈ l → ¬ c x y < 0) :
    ∀ (k a m b : Nat), b - a < k → a < m → m < b → b ≤ l.length → Proc Tryd.prog 99 [.ob 0 1 0 l.length, encI a, encI m, encI b, .fn f [c1, c2]] [⟨1, l.map encI⟩] (.tup []) [some ⟨1, l.map encI⟩] []
  | 0, _, _, _, h, _, _, _ => absurd h (Nat.not_lt_zero _)
  | k + 1, a, m, b, h, ham, hmb, hb => symMerge_step f c1 c2 c l a m b h1 h2 ham hmb hb hl hc hflat fun a' m' b' g1 g2 g3 g4 => symMerge_flat f c1 c2 c l h1 h2 hl hc hflat k a' m' b' (by omega) g2 g3 g4
def sortedL (c : Int → Int → Int) (l : List Int) : List Int := isort (ltc c) 0 (l.length - 1) 1 l
theorem sink_len {lt : Int → Int → Bool} (a : Nat) : ∀ (j : Nat) (d : List Int), (sink lt a j d).length = d.length
  | 0, _ => rfl
  | j + 1, d => by
    rw [sink]; split
    · rw [sink_len a j, swp_len]
    · rfl
theorem isort_len {lt : Int → Int → Bool} (a : Nat) : ∀ (n i : Nat) (d : List Int), (isort lt a n i d).length = d.length
  | 0, _, _ => rfl
  | n + 1, i, d => by rw [isort, isort_len a n, sink_len]
theorem sortedL_len (c : Int → Int → Int) (l : List Int) : (sortedL c l).length = l.length := isort_len ..
theorem sortedL_flat {c : Int → Int → Int} {l : List Int} (h : ∀ x y, x ∈ l → y ∈ l → ¬ c x y < 0) : sortedL c l = l := by
  cases l with
  | nil => rfl
  | cons x l => exact isort_flat (ltc_flat h) 0 _ 1 (by simp)
theorem stable_proc (f : FuncId) (c1 c2 : PV) (c : Int → Int → Int) (l : List Int) (h1 : c1.pure = true) (h2 : c2.pure = true) (hl : l.length ≤ 1000000000)
    (hc : ∀ x y, x ∈ l → y ∈ l → Pure Tryd.prog f [encI x, encI y, c1, c2] (encI (c x y)) []) (hq : l.length < 20 ∨ ∀ x y, x ∈ l → y ∈ l → ¬ c x y < 0) :
    Proc Tryd.prog 90 [.ob 0 1 0 l.length, encI l.length, .fn f [c1, c2]] [⟨1, l.map encI⟩] (.tup []) [some ⟨1, (sortedL c l).map encI⟩] [] := by
  have hfp : (PV.fn f [c1, c2]).pure = true := by simp [PV.pure, pureL, h1, h2]
  have r1 : ∀ ρ, c1.ren ρ = c1 := fun ρ => ren_pure ρ _ h1
  have r2 : ∀ ρ, c2.ren ρ = c2 := fun ρ => ren_pure ρ _ h2
  have s1 : ∀ H keep n, sealed H keep n c1 = c1 := fun H k n => sealed_pure H k n h1
  have s2 : ∀ H keep n, sealed H keep n c2 = c2 := fun H k n => sealed_pure H k n h2
  obtain ⟨R, hR⟩ : ∃ R, R = sortedL c l := ⟨_, rfl⟩
  have hRl : R.length = l.length := by rw [hR, sortedL_len]
  rw [← hR]
  refine Proc.intro (ts := []) Tryd.func90 (by kernel_rfl) rfl rfl rfl (Nat.le_of_ble_eq_true rfl) rfl ?_
  simp only [objEnv, marks, List.map_cons, List.map_nil, List.length_cons, List.length_nil, Nat.zero_add, Nat.reduceAdd]
  refine sY [0, 1, 2, 6] (fun P S K => K ⟨[(0, S.get 0), (1, S.get 1), (2, S.get 2), (6, (.atom (.int .i64 20)))], S.hp, S.nx, S.gh⟩) ?_
  all_goals
  refine sY [0, 1, 2, 6, 7, 8] (fun P S K => K ⟨[(0, S.get 0), (1, S.get 1), (2, S.get 2), (6, S.get 6), (7, (.atom (.int .i64 0))), (8, (S.get 6))], S.hp, S.nx, S.gh⟩) ?_
  all_goals
  refine Tri.seq ?_
  refine Tri.block ?_
  refine Tri.loop (α := (a : Nat) ×' (a ≤ l.length ∧ (a = 0 ∨ ∀ x y, x ∈ l → y ∈ l → ¬ c x y < 0))) (fun z => (fun (a : Nat) => (⟨[(0, .ob 0 1 0 l.length), (1, encI l.length), (2, .fn f [c1, c2]), (6, encI 20), (7, encI a), (8, encI ((a : Int) + 20))], [(0, some ⟨1, l.map encI⟩)], 1, [.ob 0 1 0 0]⟩ : St)) z.1) (fun z => (fun (a : Nat) => l.length - a) z.1) ⟨0, ⟨Nat.zero_le _, .inl rfl⟩⟩ [0] ?_ ?_
  ·exact leqpW27
  ·rintro ⟨a, ⟨ha1, ha2⟩⟩
   refine Tri.seq ?_
   refine sY [0, 1, 2, 6, 7, 8, 13] (fun P S K => XvBinOV P .leq 3 (.tmp 12) (S.get 8) (S.get 1) (fun r2 _ => K ⟨[(0, S.get 0), (1, S.get 1), (2, S.get 2), (6, S.get 6), (7, S.get 7), (8, S.get 8), (13, r2)], S.hp, S.nx, S.gh⟩)) ?_
   all_goals
   refine Tri.cond rfl (fun h13 => ?_) (fun h13 => ?_)
   ·try (cases h13; done)
    all_goals (try simp only [CQ] at h13)
    all_goals
    refine Tri.skip ?_
    refine Tri.block ?_
    have hfl : ∀ x y, x ∈ l → y ∈ l → ¬ c x y < 0 := hq.resolve_left (by omega)
    have hins : Proc Tryd.prog 98 [.ob 0 1 0 l.length, encI a, encI ((a : Int) + 20), .fn f [c1, c2]] [⟨1, l.map encI⟩] (.tup []) [some ⟨1, l.map encI⟩] [] := by
      have := insertion_proc f c1 c2 c l a (a + 20) h1 h2 (by omega) (by omega) hl hc
      rw [isort_flat (ltc_flat hfl) _ _ _ (by omega)] at this
      exact this
    refine sZ [0, 1, 2, 6, 8] (fun P S K => XvFnIV P (M S.hp S.nx) (.fn 98 []) [(S.get 0), (S.get 7), (S.get 8), (S.get 2)] (fun r4 e4 => K ⟨[(0, S.get 0), (1, S.get 1), (2, S.get 2), (6, S.get 6), (8, S.get 8)], (Eff.hp e4 S.nx S.hp), (S.nx + e4.add.length), S.gh⟩)) fun K hK => ?_
    repeat' (first | (refine hK _ ?_; clear hK K) | ((first | refine xG_intro (fun hg => ?_) (fun hg => ?_) | refine fun (hg : (_ : Prop)) => ?_) <;> ((try simp only [BQ] at hg); try (exfalso; omega))) | refine And.intro ?_ ?_ | exact cl | refine one_take ?_ _ | refine one_drop ?_ _ | refine .inr (vProc.row 0 1 hins rfl (pureL_encI _) (pureL_encI _) rfl (by simp [sealed, PV.ren, renL, rmap, s1, s2, r1, r2, encI]) rfl (flat_encI _) ?_) | refine .inr (vProc.row 0 1 hsym rfl (pureL_encI _) (pureL_encI _) rfl (by simp [sealed, PV.ren, renL, rmap, s1, s2, r1, r2, encI]) rfl (flat_encI _) ?_) | refine st ?_)
    all_goals
    refine sY [0, 1, 2, 6, 7, 8] (fun P S K => K ⟨[(0, S.get 0), (1, S.get 1), (2, S.get 2), (6, S.get 6), (7, (S.get 8)), (8, S.get 8)], S.hp, S.nx, S.gh⟩) ?_
    all_goals
    refine rY [0, 1, 2, 6, 7, 8] (fun P S K => XvBinOV P .add 3 (.tmp 21) (S.get 8) (S.get 6) (fun r2 _ => K ⟨[(0, S.get 0), (1, S.get 1), (2, S.get 2), (6, S.get 6), (7, S.get 7), (8, r2)], S.hp, S.nx, S.gh⟩)) ?_
    all_goals try simp (disch := omega) only [wrap_id, wrap8_id]
    all_goals
    refine ⟨⟨a + 20, by omega, .inr hfl⟩, [0], by dsimp only; omega, ?_⟩
    exact leqpW27
   ·try (cases h13; done)
    all_goals (try simp only [CQ] at h13)
    all_goals
    refine Tri.exit ?_
    have hins : Proc Tryd.prog 98 [.ob 0 1 0 l.length, encI a, encI l.length, .fn f [c1, c2]] [⟨1, l.map encI⟩] (.tup []) [some ⟨1, R.map encI⟩] [] := by
      have := insertion_proc f c1 c2 c l a l.length h1 h2 (by omega) (by omega) hl hc
      have e : isort (ltc c) a (l.length - (a + 1)) (a + 1) l = R := by
        rw [hR]
        rcases ha2 with rfl | hfl
        · rfl
        · rw [sortedL_flat hfl]
          rcases Nat.lt_or_ge a l.length with h | h
          · exact isort_flat (ltc_flat hfl) _ _ _ (by omega)
          · rw [Nat.sub_eq_zero_of_le (by omega)]; rfl
      rw [e] at this
      exact this
    refine sZ [0, 1, 2, 6] (fun P S K => XvFnIV P (M S.hp S.nx) (.fn 98 []) [(S.get 0), (S.get 7), (S.get 1), (S.get 2)] (fun r4 e4 => K ⟨[(0, S.get 0), (1, S.get 1), (2, S.get 2), (6, S.get 6)], (Eff.hp e4 S.nx S.hp), (S.nx + e4.add.length), S.gh⟩)) fun K hK => ?_
    repeat' (first | (refine hK _ ?_; clear hK K) | ((first | refine xG_intro (fun hg => ?_) (fun hg => ?_) | refine fun (hg : (_ : Prop)) => ?_) <;> ((try simp only [BQ] at hg); try (exfalso; omega))) | refine And.intro ?_ ?_ | exact cl | refine one_take ?_ _ | refine one_drop ?_ _ | refine .inr (vProc.row 0 1 hins rfl (pureL_encI _) (pureL_encI _) rfl (by simp [sealed, PV.ren, renL, rmap, s1, s2, r1, r2, encI]) rfl (flat_encI _) ?_) | refine .inr (vProc.row 0 1 hsym rfl (pureL_encI _) (pureL_encI _) rfl (by simp [sealed, PV.ren, renL, rmap, s1, s2, r1, r2, encI]) rfl (flat_encI _) ?_) | refine st ?_)
    all_goals
    refine Tri.block ?_
    refine Tri.loop (α := (s : Nat) ×' (20 ≤ s ∧ s ≤ 2000000000)) (fun z => (fun (s : Nat) => (⟨[(0, .ob 0 1 0 l.length), (1, encI l.length), (2, .fn f [c1, c2]), (6, encI s)], [(0, some ⟨1, R.map encI⟩)], 1, [.ob 0 1 0 0]⟩ : St)) z.1) (fun z => (fun (s : Nat) => l.length - s) z.1) ⟨20, ⟨by omega, by omega⟩⟩ [0] ?_ ?_
    ·exact leqpW27
    ·rintro ⟨s, ⟨hs1, hs2⟩⟩
     refine Tri.seq ?_
     refine sY [0, 1, 2, 6, 30] (fun P S K => XvBinOV P .lss 3 (.tmp 29) (S.get 6) (S.get 1) (fun r2 _ => K ⟨[(0, S.get 0), (1, S.get 1), (2, S.get 2), (6, S.get 6), (30, r2)], S.hp, S.nx, S.gh⟩)) ?_
     all_goals
     refine Tri.cond rfl (fun h30 => ?_) (fun h30 => ?_)
     ·try (cases h30; done)
      all_goals (try simp only [CQ] at h30)
      all_goals
      refine Tri.skip ?_
      refine Tri.block ?_
      have hfl : ∀ x y, x ∈ l → y ∈ l → ¬ c x y < 0 := hq.resolve_left (by omega)
      obtain rfl : R = l := by rw [hR, sortedL_flat hfl]
      refine sY [0, 1, 2, 6, 7, 8] (fun P S K => XvBinOV P .mul 3 (.tmp 31) (.atom (.int .i64 2)) (S.get 6) (fun r1 _ => K ⟨[(0, S.get 0), (1, S.get 1), (2, S.get 2), (6, S.get 6), (7, (.atom (.int .i64 0))), (8, r1)], S.hp, S.nx, S.gh⟩)) ?_
      all_goals try simp (disch := omega) only [wrap_id, wrap8_id]
      all_goals
      refine Tri.seq ?_
      refine Tri.block ?_
      refine Tri.loop (α := (a : Nat) ×' (a ≤ R.length)) (fun z => (fun (a : Nat) => (⟨[(0, .ob 0 1 0 R.length), (1, encI R.length), (2, .fn f [c1, c2]), (6, encI s), (7, encI a), (8, encI ((a : Int) + 2 * s))], [(0, some ⟨1, R.map encI⟩)], 1, [.ob 0 1 0 0]⟩ : St)) z.1) (fun z => (fun (a : Nat) => R.length - a) z.1) ⟨0, Nat.zero_le _⟩ [0] ?_ ?_
      ·exact leqpW27
      ·rintro ⟨a, ha3⟩
       refine Tri.seq ?_
       refine sY [0, 1, 2, 6, 7, 8, 35] (fun P S K => XvBinOV P .leq 3 (.tmp 34) (S.get 8) (S.get 1) (fun r2 _ => K ⟨[(0, S.get 0), (1, S.get 1), (2, S.get 2), (6, S.get 6), (7, S.get 7), (8, S.get 8), (35, r2)], S.hp, S.nx, S.gh⟩)) ?_
       all_goals
       refine Tri.cond rfl (fun h35 => ?_) (fun h35 => ?_)
       ·try (cases h35; done)
        all_goals (try simp only [CQ] at h35)
        all_goals
        refine Tri.skip ?_
        refine Tri.block ?_
        have hsym : Proc Tryd.prog 99 [.ob 0 1 0 R.length, encI a, encI ((a : Int) + s), encI ((a : Int) + 2 * s), .fn f [c1, c2]] [⟨1, R.map encI⟩] (.tup []) [some ⟨1, R.map encI⟩] [] := by
          have := symMerge_flat f c1 c2 c R h1 h2 hl hc hfl (2 * s + 1) a (a + s) (a + 2 * s) (by omega) (by omega) (by omega) (by omega)
          simpa using this
        refine sZ [0, 1, 2, 6, 8] (fun P S K => XvBinOV P .add 3 (.tmp 39) (S.get 7) (S.get 6) (fun r4 _ => XvFnIV P (M S.hp S.nx) (.fn 99 []) [(S.get 0), (S.get 7), r4, (S.get 8), (S.get 2)] (fun r7 e7 => K ⟨[(0, S.get 0), (1, S.get 1), (2, S.get 2), (6, S.get 6), (8, S.get 8)], (Eff.hp e7 S.nx S.hp), (S.nx + e7.add.length), S.gh⟩))) fun K hK => ?_
        repeat' (first | (refine hK _ ?_; clear hK K) | ((first | refine xG_intro (fun hg => ?_) (fun hg => ?_) | refine fun (hg : (_ : Prop)) => ?_) <;> ((try simp only [BQ] at hg); try (exfalso; omega))) | refine And.intro ?_ ?_ | exact cl | refine one_take ?_ _ | refine one_drop ?_ _ | refine .inr (vProc.row 0 1 hins rfl (pureL_encI _) (pureL_encI _) rfl (by simp [sealed, PV.ren, renL, rmap, s1, s2, r1, r2, encI]) rfl (flat_encI _) ?_) | refine .inr (vProc.row 0 1 hsym rfl (pureL_encI _) (pureL_encI _) rfl (by simp [sealed, PV.ren, renL, rmap, s1, s2, r1, r2, encI]) rfl (flat_encI _) ?_) | (refine st ?_; try simp only [(show IntKind.i64.wrap ((a : Int) + s) = ((a + s : Nat) : Int) by rw [wrap_id (by omega) (by omega)]; omega)]) | simp only [(show IntKind.i64.wrap ((a : Int) + s) = ((a + s : Nat) : Int) by rw [wrap_id (by omega) (by omega)]; omega)])
        all_goals try simp (disch := omega) only [wrap_id, wrap8_id]
        all_goals
        refine sY [0, 1, 2, 6, 7, 8] (fun P S K => K ⟨[(0, S.get 0), (1, S.get 1), (2, S.get 2), (6, S.get 6), (7, (S.get 8)), (8, S.get 8)], S.hp, S.nx, S.gh⟩) ?_
        all_goals
        refine rY [0, 1, 2, 6, 7, 8] (fun P S K => XvBinOV P .mul 3 (.tmp 46) (.atom (.int .i64 2)) (S.get 6) (fun r2 _ => XvBinOV P .add 3 (.tmp 47) (S.get 8) r2 (fun r3 _ => K ⟨[(0, S.get 0), (1, S.get 1), (2, S.get 2), (6, S.get 6), (7, S.get 7), (8, r3)], S.hp, S.nx, S.gh⟩))) ?_
        all_goals try simp (disch := omega) only [wrap_id, wrap8_id]
        all_goals
        refine ⟨⟨a + 2 * s, by omega⟩, [0], by dsimp only; omega, ?_⟩
        exact leqpW27
       ·try (cases h35; done)
        all_goals (try simp only [CQ] at h35)
        all_goals
        refine Tri.exit ?_
        refine Tri.seq ?_
        refine sY [0, 1, 2, 6, 7, 9] (fun P S K => XvBinOV P .add 3 (.tmp 50) (S.get 7) (S.get 6) (fun r2 _ => K ⟨[(0, S.get 0), (1, S.get 1), (2, S.get 2), (6, S.get 6), (7, S.get 7), (9, r2)], S.hp, S.nx, S.gh⟩)) ?_
        all_goals try simp (disch := omega) only [wrap_id, wrap8_id]
        all_goals
        refine sY [0, 1, 2, 6, 7, 9, 54] (fun P S K => XvBinOV P .lss 3 (.tmp 53) (S.get 9) (S.get 1) (fun r2 _ => K ⟨[(0, S.get 0), (1, S.get 1), (2, S.get 2), (6, S.get 6), (7, S.get 7), (9, S.get 9), (54, r2)], S.hp, S.nx, S.gh⟩)) ?_
        all_goals
        refine Tri.cond rfl (fun h54 => ?_) (fun h54 => ?_)
        ·try (cases h54; done)
         all_goals (try simp only [CQ] at h54)
         all_goals
         have hsym : Proc Tryd.prog 99 [.ob 0 1 0 R.length, encI a, encI ((a : Int) + s), encI R.length, .fn f [c1, c2]] [⟨1, R.map encI⟩] (.tup []) [some ⟨1, R.map encI⟩] [] := by
           have := symMerge_flat f c1 c2 c R h1 h2 hl hc hfl (R.length + 1) a (a + s) R.length (by omega) (by omega) (by omega) (by omega)
           simpa using this
         refine rZ [0, 1, 2, 6] (fun P S K => XvFnIV P (M S.hp S.nx) (.fn 99 []) [(S.get 0), (S.get 7), (S.get 9), (S.get 1), (S.get 2)] (fun r5 e5 => K ⟨[(0, S.get 0), (1, S.get 1), (2, S.get 2), (6, S.get 6)], (Eff.hp e5 S.nx S.hp), (S.nx + e5.add.length), S.gh⟩)) fun K hK => ?_
         repeat' (first | (refine hK _ ?_; clear hK K) | ((first | refine xG_intro (fun hg => ?_) (fun hg => ?_) | refine fun (hg : (_ : Prop)) => ?_) <;> ((try simp only [BQ] at hg); try (exfalso; omega))) | refine And.intro ?_ ?_ | exact cl | refine one_take ?_ _ | refine one_drop ?_ _ | refine .inr (vProc.row 0 1 hins rfl (pureL_encI _) (pureL_encI _) rfl (by simp [sealed, PV.ren, renL, rmap, s1, s2, r1, r2, encI]) rfl (flat_encI _) ?_) | refine .inr (vProc.row 0 1 hsym rfl (pureL_encI _) (pureL_encI _) rfl (by simp [sealed, PV.ren, renL, rmap, s1, s2, r1, r2, encI]) rfl (flat_encI _) ?_) | refine st ?_)
         all_goals
         refine rY [0, 1, 2, 6] (fun P S K => XvBinOV P .mul 3 (.const (.int .i64 2)) (S.get 6) (.atom (.int .i64 2)) (fun r1 _ => K ⟨[(0, S.get 0), (1, S.get 1), (2, S.get 2), (6, r1)], S.hp, S.nx, S.gh⟩)) ?_
         all_goals try simp (disch := omega) only [wrap_id, wrap8_id]
         all_goals
         refine ⟨⟨s * 2, by omega, by omega⟩, [0], by dsimp only; omega, ?_⟩
         exact leqpW27
        ·try (cases h54; done)
         all_goals (try simp only [CQ] at h54)
         all_goals
         refine Tri.skip ?_
         refine rY [0, 1, 2, 6] (fun P S K => XvBinOV P .mul 3 (.const (.int .i64 2)) (S.get 6) (.atom (.int .i64 2)) (fun r1 _ => K ⟨[(0, S.get 0), (1, S.get 1), (2, S.get 2), (6, r1)], S.hp, S.nx, S.gh⟩)) ?_
         all_goals try simp (disch := omega) only [wrap_id, wrap8_id]
         all_goals
         refine ⟨⟨s * 2, by omega, by omega⟩, [0], by dsimp only; omega, ?_⟩
         exact leqpW27
     ·try (cases h30; done)
      all_goals (try simp only [CQ] at h30)
      all_goals
      refine Tri.exit ?_
      exact ResP.row rfl rfl (pureL_encI _) rfl rfl
theorem sortStable_proc (f : FuncId) (c1 c2 : PV) (c : Int → Int → Int) (l : List Int) (h1 : c1.pure = true) (h2 : c2.pure = true) (hl : l.length ≤ 1000000000)
    (hc : ∀ x y, x ∈ l → y ∈ l → Pure Tryd.prog f [encI x, encI y, c1, c2] (encI (c x y)) []) (hq : l.length < 20 ∨ ∀ x y, x ∈ l → y ∈ l → ¬ c x y < 0) :
    Proc Tryd.prog 73 [.ob 0 1 0 l.length, .fn f [c1, c2]] [⟨1, l.map encI⟩] (.tup []) [some ⟨1, (sortedL c l).map encI⟩] [] := by
  have r1 : ∀ ρ, c1.ren ρ = c1 := fun ρ => ren_pure ρ _ h1
  have r2 : ∀ ρ, c2.ren ρ = c2 := fun ρ => ren_pure ρ _ h2
  have s1 : ∀ H keep n, sealed H keep n c1 = c1 := fun H k n => sealed_pure H k n h1
  have s2 : ∀ H keep n, sealed H keep n c2 = c2 := fun H k n => sealed_pure H k n h2
  refine Proc.intro (ts := []) Tryd.func73 (by kernel_rfl) rfl rfl rfl (Nat.le_of_ble_eq_true rfl) rfl ?_
  simp only [objEnv, marks, List.map_cons, List.map_nil, List.length_cons, List.length_nil, Nat.zero_add, Nat.reduceAdd]
  refine rZ [] (fun P S K => XvLen P 22 (S.get 0) (fun r2 _ => XvFnIV P (M S.hp S.nx) (.fn 90 []) [(S.get 0), r2, (S.get 1)] (fun r4 e4 => K ⟨[], (Eff.hp e4 S.nx S.hp), (S.nx + e4.add.length), S.gh⟩))) fun K hK => ?_
  repeat' (first | (refine hK _ ?_; clear hK K) | ((first | refine xG_intro (fun hg => ?_) (fun hg => ?_) | refine fun (hg : (_ : Prop)) => ?_) <;> ((try simp only [BQ] at hg); try (exfalso; omega))) | refine And.intro ?_ ?_ | exact cl | refine one_take ?_ _ | refine one_drop ?_ _ | refine .inr (vProc.row 0 1 (stable_proc f c1 c2 c l h1 h2 hl hc hq) rfl (pureL_encI _) (pureL_encI _) rfl (by simp [sealed, PV.ren, renL, rmap, s1, s2, r1, r2, encI]) rfl (flat_encI _) ?_) | refine st ?_)
  all_goals
  exact ResP.row rfl rfl (pureL_encI _) rfl rfl
end Go.Proofs.YtfnkciboencifaaDoor
