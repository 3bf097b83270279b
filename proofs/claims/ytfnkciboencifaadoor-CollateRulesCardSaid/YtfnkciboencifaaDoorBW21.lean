/-
  The law CollateRelations: for every input it answers true.
-/
import Derived.Test.YtfnkciboencifaaDoorBW4
import Derived.Test.YtfnkciboencifaaDoorBVR
import Derived.Test.YtfnkciboencifaaDoorBL4
import Derived.Test.YtfnkciboencifaaDoorBV15
set_option linter.all false
namespace Go.Proofs.YtfnkciboencifaaDoor
open Go Go.RowKit
set_option linter.unusedSimpArgs false
set_option linter.unusedVariables false
set_option maxRecDepth 20000
set_option maxHeartbeats 2000000
def AsSl (sz : Nat) (l : List PV) (x : PV) : Prop := x = .sl sz l ∨ (l = [] ∧ x = .atom (.slice none 0 0))
theorem AsSl.rep {sz : Nat} {l : List PV} {x : PV} (h : AsSl sz l x) {D : Nat → Prop} {μ : Nat → Option Nat} {F : Nat → Prop} {w : World} {v : Value} (hr : Rep D μ F w x v) : Rep D μ F w (.sl sz l) v := by
  rcases h with rfl | ⟨rfl, rfl⟩
  · exact hr
  · rw [nil_val hr]
    exact .sl0 sz none 0 (by unfold maxLen; omega) (fun _ => rfl) (fun x hx => by cases hx)
theorem Pure.sub {P : Program} {f : FuncId} {args args' : List PV} {r : PV} {os : List AO} (hp : Pure P f args r os) (hl : args'.length = args.length)
    (h : ∀ i (h1 : i < args.length) (h2 : i < args'.length) (D : Nat → Prop) (μ : Nat → Option Nat) (F : Nat → Prop) (w : World) (v : Value), Rep D μ F w args'[i] v → Rep D μ F w args[i] v) : Pure P f args' r os :=
  ⟨hp.1, fun D μ F w vs h1 h2 h3 => hp.2 D μ F w vs (h1.trans hl) (fun i hi => h i hi (by omega) D μ F w _ (h2 i (by omega))) h3⟩
theorem AsSl.pure {sz : Nat} {l : List PV} {x : PV} (h : AsSl sz l x) (hl : pureL l = true) : x.pure = true := by
  rcases h with rfl | ⟨rfl, rfl⟩
  · exact hl
  · rfl
theorem dec_self {α : Type} [DecidableEq α] (a : α) : decide (a = a) = true := decide_eq_true rfl
end Go.Proofs.YtfnkciboencifaaDoor
set_option linter.all false
namespace Go.Proofs.YtfnkciboencifaaDoor
open Go Go.RowKit
set_option linter.unusedVariables false
set_option linter.unusedSimpArgs false
theorem strsAt_rep {D : Nat → Prop} {μ : Nat → Option Nat} {F : Nat → Prop} {w : World} {l : List ByteArray} {v : Value} (h : Rep D μ F w (strs l) v) (hl : ∀ x, x ∈ l → x.size ≤ 9223372036854775807) : Elder.StrsAt w v l := by
  refine ⟨?_, Elder.Sizes.of hl⟩
  unfold strs at h
  generalize hm : l.map encS = m at h
  have hlen : m.length = l.length := by rw [← hm, List.length_map]
  cases h with
  | sl0 _ a cap hc hn hs =>
    have hl0 : l.length = 0 := by simpa using hlen.symm
    refine ⟨a, cap, by rw [hl0], by omega, hc, fun e => ⟨hl0, hn e⟩, fun x hx => ⟨hs x hx, fun i hi => by omega⟩⟩
  | sl _ _ b off cap g hF hlc hc hcell h1 h2 =>
    refine ⟨some ⟨b, off, none⟩, cap, by rw [hlen], by omega, hc, fun e => (by cases e), ?_⟩
    rintro x ⟨⟩
    refine ⟨rfl, fun i hi => ?_⟩
    have hi' : i < m.length := by omega
    have e0 : m[i] = encS (ls l i) := by subst hm; simp [ls, List.getD_eq_getElem?_getD, hi]
    have e1 : m[i].cells = [encS (ls l i)] := by rw [e0]; rfl
    have hc0 : 0 < m[i].cells.length := by rw [e1]; exact Nat.zero_lt_one
    have hr := h2 i hi' 0 hc0
    have e2 : m[i].cells[0] = encS (ls l i) := by rw [gl e1 hc0]; rfl
    rw [e2] at hr
    have := hr.atomEq
    have hcc := hcell (i * 1) (by omega)
    rw [Nat.mul_one] at hcc
    rw [Nat.mul_one, Nat.add_zero] at this
    rw [this] at hcc
    exact hcc
structure Tame (s : SpecD) : Prop where
  skips : ∀ x, x ∈ s.skip → x.size ≤ 9223372036854775807
  orders : ∀ x, x ∈ s.order → x.size ≤ 9223372036854775807
theorem Sane.tame {s : SpecD} (h : Sane s) : Tame s := ⟨fun x hx => Nat.le_trans (h.skips x hx) (by decide), fun x hx => Nat.le_trans (h.orders x hx) (by decide)⟩
theorem specAt_rep {D : Nat → Prop} {μ : Nat → Option Nat} {F : Nat → Prop} {w : World} {s : SpecD} {v : Value} (h : Rep D μ F w (encSpec s) v) (hs : Tame s) : Elder.SpecAt w v (toE s) := by
  unfold encSpec at h
  cases h with
  | agg _ vs hn hr =>
    have hn4 : vs.size = 4 := hn
    have h0 := (hr 0 (by simp)).atomEq
    have h1 := hr 1 (by simp)
    have h2 := (hr 2 (by simp)).atomEq
    have h3 := hr 3 (by simp)
    refine ⟨vs.getD 1 undef, vs.getD 3 undef, ?_, strsAt_rep h1 hs.skips, strsAt_rep h3 hs.orders⟩
    congr 1
    refine Array.ext (by rw [hn4]; rfl) fun i g1 g2 => ?_
    have e : vs[i] = vs.getD i undef := by simp [Array.getD, g1]
    rw [e]
    match i, g2 with
    | 0, _ => exact h0
    | 1, _ => rfl
    | 2, _ => exact h2
    | 3, _ => rfl
theorem args_eq {vs : Array Value} {l : List Value} (hn : vs.size = l.length) (h : ∀ i, i < l.length → vs.getD i undef = l.getD i undef) : vs = l.toArray := by
  refine Array.ext (by simpa using hn) fun i g1 g2 => ?_
  have hi : i < l.length := by simpa using g2
  have := h i hi
  simpa [Array.getD, g1, List.getD_eq_getElem?_getD, hi] using this
theorem cCompare_pure (s : SpecD) (a b : ByteArray) (hs : Tame s) (ha : a.size ≤ 9223372036854775807) (hb : b.size ≤ 9223372036854775807) : Pure Tryd.prog 20 [encSpec s, encS a, encS b] (.tup [encI (cmpR s a b), encI (cmpE s a b)]) [] := by
  refine ⟨enters_of Tryd.func20 (by kernel_rfl) rfl, fun D μ F w vs hvs hargs hF => ?_⟩
  have h0 := hargs 0 (by simp)
  have h1 := (hargs 1 (by simp)).atomEq
  have h2 := (hargs 2 (by simp)).atomEq
  have e : vs = [vs.getD 0 undef, .string a, .string b].toArray := args_eq hvs (fun i hi => by
    match i, hi with
    | 0, _ => rfl
    | 1, _ => exact h1
    | 2, _ => exact h2)
  rw [e]
  refine (Elder.Compare_any _ _ a b w (specAt_rep h0 hs) ha hb).mono fun e w' he => ?_
  obtain ⟨rfl, hbl⟩ := he
  rw [exam2_eq, eCmp_eq]
  refine ⟨_, rfl, hbl, fun _ => none, fun _ => False, ?_, fun i o hi => by simp at hi, fun i b hi => by simp at hi, fun i j b hi => by simp at hi, fun b hb' => hb'.elim⟩
  exact .tup _ _ rfl fun i hi => by
    match i, hi with
    | 0, _ => exact .atom _
    | 1, _ => exact .atom _
def IsSpec (s : SpecD) (x : PV) : Prop := ∃ sv ov, x = .agg [.atom (.bool s.words), sv, .atom (.bool s.numbers), ov] ∧ AsSl 1 (s.skip.map encS) sv ∧ AsSl 1 (s.order.map encS) ov
theorem IsSpec.rep {s : SpecD} {x : PV} (h : IsSpec s x) {D : Nat → Prop} {μ : Nat → Option Nat} {F : Nat → Prop} {w : World} {v : Value} (hr : Rep D μ F w x v) : Rep D μ F w (encSpec s) v := by
  obtain ⟨sv, ov, rfl, h1, h2⟩ := h
  cases hr with
  | agg _ vs hn hr =>
    exact .agg _ vs hn fun i hi => by
      match i, hi with
      | 0, _ => exact hr 0 (by simp)
      | 1, _ => exact h1.rep (hr 1 (by simp))
      | 2, _ => exact hr 2 (by simp)
      | 3, _ => exact h2.rep (hr 3 (by simp))
theorem IsSpec.pure {s : SpecD} {x : PV} (h : IsSpec s x) : x.pure = true := by
  obtain ⟨sv, ov, rfl, h1, h2⟩ := h
  have a := h1.pure (pureL_encS _)
  have b := h2.pure (pureL_encS _)
  simp [PV.pure, pureL, a, b]
theorem Pure.spec {P : Program} {f : FuncId} {s : SpecD} {x : PV} {rest : List PV} {r : PV} {os : List AO} (hp : Pure P f (encSpec s :: rest) r os) (h : IsSpec s x) : Pure P f (x :: rest) r os :=
  hp.sub rfl fun i h1 h2 D μ F w v hr => by
    match i, h1 with
    | 0, _ => exact h.rep hr
    | i + 1, _ => exact hr
end Go.Proofs.YtfnkciboencifaaDoor
set_option linter.all false
namespace Go.Proofs.YtfnkciboencifaaDoor
open Go Go.RowKit
set_option linter.unusedSimpArgs false
set_option linter.unusedVariables false
set_option maxRecDepth 20000
set_option maxHeartbeats 2000000
def lexL : List (List Int) → List (List Int) → Int
  | [], [] => 0
  | [], _ :: _ => -1
  | _ :: _, [] => 1
  | a :: x, b :: y => if lexi a b ≠ 0 then lexi a b else lexL x y
end Go.Proofs.YtfnkciboencifaaDoor
set_option linter.all false
namespace Go.Proofs.YtfnkciboencifaaDoor
open Go Go.RowKit
set_option linter.unusedSimpArgs false
set_option linter.unusedVariables false
set_option maxRecDepth 20000
set_option maxHeartbeats 2000000
theorem ls_get {l : List ByteArray} {k : Nat} (h : k < l.length) : ls l k = l[k] := by simp [ls, List.getD_eq_getElem?_getD, h]
def down (p : Nat → Bool) : Nat → Nat
  | 0 => 0
  | k + 1 => if p k then down p k else k + 1
structure DownI (p : Nat → Bool) (n k : Nat) : Prop where
  le : k ≤ n
  core : down p n = down p k
theorem DownI.step {p : Nat → Bool} {n k : Nat} (h : DownI p n k) (hk : 0 < k) (hc : p (k - 1) = true) : DownI p n (k - 1) := by
  obtain ⟨k, rfl⟩ : ∃ j, k = j + 1 := ⟨k - 1, by omega⟩
  simp only [Nat.add_sub_cancel] at hc ⊢
  refine ⟨by have := h.le; omega, ?_⟩
  rw [h.core, down, if_pos hc]
theorem DownI.stop {p : Nat → Bool} {n k : Nat} (h : DownI p n k) (hc : k = 0 ∨ p (k - 1) = false) : down p n = k := by
  rw [h.core]
  cases k with
  | zero => rfl
  | succ k =>
    simp only [Nat.add_sub_cancel] at hc
    have := hc.resolve_left (by omega)
    rw [down, if_neg (by rw [this]; decide)]
noncomputable def pk (s : SpecD) (l : List (List ByteArray)) (i : Nat) : List (List Int) := (l.getD i []).map (keyOf s)
noncomputable def pless (s : SpecD) (l : List (List ByteArray)) (i : Nat) (out : List Nat) (j : Nat) : Bool := decide (lexL (pk s l i) (pk s l (out.getD j 0)) < 0)
noncomputable def insI (s : SpecD) (l : List (List ByteArray)) (out : List Nat) (i : Nat) : List Nat := insAt out (down (pless s l i out) out.length) i
noncomputable def pathsS (s : SpecD) (l : List (List ByteArray)) : List Nat := (List.range l.length).foldl (insI s l) []
structure PathI (s : SpecD) (l : List (List ByteArray)) (i : Nat) (out : List Nat) : Prop where
  le : i ≤ l.length
  len : out.length = i
  core : out = (List.range i).foldl (insI s l) []
  lt : ∀ x, x ∈ out → x < i
theorem PathI.start (s : SpecD) (l : List (List ByteArray)) : PathI s l 0 [] := ⟨Nat.zero_le _, rfl, rfl, fun x hx => by simp at hx⟩
theorem PathI.next {s : SpecD} {l : List (List ByteArray)} {i : Nat} {out : List Nat} (h : PathI s l i out) (hi : i < l.length) : PathI s l (i + 1) (insI s l out i) := by
  refine ⟨hi, by unfold insI; rw [insAt_len, h.len], by rw [List.range_succ, List.foldl_append, ← h.core]; rfl, fun x hx => ?_⟩
  unfold insI insAt at hx
  rcases List.mem_append.1 hx with hx | hx
  · have := h.lt x (List.mem_of_mem_take hx); omega
  · rcases List.mem_cons.1 hx with rfl | hx
    · omega
    · have := h.lt x (List.mem_of_mem_drop hx); omega
theorem PathI.done {s : SpecD} {l : List (List ByteArray)} {i : Nat} {out : List Nat} (h : PathI s l i out) (hi : l.length ≤ i) : pathsS s l = out := by
  have : i = l.length := by have := h.le; omega
  subst this
  exact h.core.symm
end Go.Proofs.YtfnkciboencifaaDoor
set_option linter.all false
namespace Go.Proofs.YtfnkciboencifaaDoor
open Go Go.RowKit
set_option linter.unusedSimpArgs false
set_option linter.unusedVariables false
set_option maxRecDepth 20000
set_option maxHeartbeats 400000
theorem vProc.row {P : Program} {S : St} {f : FuncId} {vals args : List PV} {els els' : List PV} {r : PV} {K : PV → Eff → Prop} (i sz : Nat) (hpr : Proc P f args [⟨sz, els⟩] r [some ⟨sz, els'⟩] []) (ho : S.obj i = some ⟨sz, els⟩)
    (hp : pureL els = true) (hp' : pureL els' = true) (hr : r.pure = true) (hv : vals.map (sealed S.obj (fun j => [i].contains j) 4) = args.map (PV.ren (rmap [i] S.nx))) (hf : r.flatB = true) (hf' : els'.all PV.flatB = true) (hk : K r ⟨[], [], [(i, ⟨sz, els'⟩)], []⟩) : vProc P S f vals K := by
  refine ⟨[i], 4, args, [⟨sz, els⟩], r, [some ⟨sz, els'⟩], [], hpr, ⟨by simp, rfl, hv, fun j o hj => ?_⟩, .inr ⟨hf, rfl, by simp [flatO, hf']⟩, ?_⟩
  · cases j with
    | zero => obtain rfl : AO.mk sz els = o := by simpa using hj
              exact ⟨_, by simpa [rmap] using ho, rfl, by show els.map _ = els.map _; rw [map_sealed_pure _ _ _ hp, map_ren_pure _ hp]⟩
    | succ j => simp at hj
  · simpa [procDel, procSet, AO.ren, ren_pure _ r hr, map_ren_pure _ hp'] using hk
theorem ResP.row {S : St} {sz : Nat} {els els' : List PV} {o : AO} (h0 : S.obj 0 = some ⟨sz, els⟩) (he : els = els') (hp : pureL els' = true) (hs : o.sz = sz) (hg : S.gh = [.ob 0 sz 0 0]) : ResP S [] (.tup []) [o] [some ⟨sz, els'⟩] [] := by
  subst he
  subst hs
  refine ⟨[0], 4, by simp [retV, sealed, PV.ren, renL], fun p hp => by simp at hp, fun p hpm o' ho' => ?_, rfl, by simp, by rw [hg]; rfl, fun i h _ => ?_⟩
  · obtain rfl : p = (0, some ⟨o.sz, els⟩) := by simpa [objEnv] using hpm
    obtain rfl : AO.mk o.sz els = o' := by simpa using ho'
    exact ⟨Nat.zero_lt_one, _, by simpa [rmap] using h0, rfl, by show els.map _ = els.map _; rw [map_sealed_pure _ _ _ hp, map_ren_pure _ hp]⟩
  · match i, h with
    | 0, _ => simp [hg, marks, sealed, PV.ren, rmap]
def swp (d : List Int) (j : Nat) : List Int := (d.set j (li d (j - 1))).set (j - 1) (li d j)
def sink (lt : Int → Int → Bool) (a : Nat) : Nat → List Int → List Int
  | 0, d => d
  | j + 1, d => if a < j + 1 ∧ lt (li d (j + 1)) (li d j) = true then sink lt a j (swp d (j + 1)) else d
def isort (lt : Int → Int → Bool) (a : Nat) : Nat → Nat → List Int → List Int
  | 0, _, d => d
  | n + 1, i, d => isort lt a n (i + 1) (sink lt a i d)
theorem swp_len (d : List Int) (j : Nat) : (swp d j).length = d.length := by simp [swp]
theorem swp_mem {d : List Int} {j : Nat} (hj : j < d.length) {x : Int} (h : x ∈ swp d j) : x ∈ d := by
  rcases List.mem_or_eq_of_mem_set h with h | rfl
  · rcases List.mem_or_eq_of_mem_set h with h | rfl
    · exact h
    · exact li_mem (by omega)
  · exact li_mem hj
structure SinkI (lt : Int → Int → Bool) (l : List Int) (a i : Nat) (d0 d : List Int) (j : Nat) : Prop where
  lo : a ≤ j
  hi : j ≤ i
  len : d.length = l.length
  mem : ∀ x, x ∈ d → x ∈ l
  core : sink lt a i d0 = sink lt a j d
theorem SinkI.step {lt : Int → Int → Bool} {l : List Int} {a i : Nat} {d0 d : List Int} {j : Nat} (h : SinkI lt l a i d0 d j) (hi : i < l.length) (hj : a < j) (hc : lt (li d j) (li d (j - 1)) = true) : SinkI lt l a i d0 (swp d j) (j - 1) := by
  obtain ⟨k, rfl⟩ : ∃ k, j = k + 1 := ⟨j - 1, by omega⟩
  have h1 := h.hi
  have h2 := h.len
  refine ⟨by omega, by omega, by rw [swp_len]; exact h.len, fun x hx => h.mem x (swp_mem (by omega) hx), ?_⟩
  rw [h.core, sink, if_pos ⟨hj, hc⟩]; rfl
theorem SinkI.stop {lt : Int → Int → Bool} {l : List Int} {a i : Nat} {d0 d : List Int} {j : Nat} (h : SinkI lt l a i d0 d j) (hc : ¬ (a < j ∧ lt (li d j) (li d (j - 1)) = true)) : sink lt a i d0 = d := by
  rw [h.core]
  cases j with
  | zero => rfl
  | succ k => rw [sink, if_neg (by simpa using hc)]
structure InsI (lt : Int → Int → Bool) (l : List Int) (a b : Nat) (d : List Int) (i : Nat) : Prop where
  lo : a + 1 ≤ i
  len : d.length = l.length
  mem : ∀ x, x ∈ d → x ∈ l
  core : isort lt a (b - (a + 1)) (a + 1) l = isort lt a (b - i) i d
theorem InsI.start (lt : Int → Int → Bool) (l : List Int) (a b : Nat) : InsI lt l a b l (a + 1) := ⟨Nat.le_refl _, rfl, fun _ h => h, rfl⟩
theorem InsI.sink {lt : Int → Int → Bool} {l : List Int} {a b : Nat} {d : List Int} {i : Nat} (h : InsI lt l a b d i) : SinkI lt l a i d d i := ⟨by have := h.lo; omega, Nat.le_refl _, h.len, h.mem, rfl⟩
theorem InsI.next {lt : Int → Int → Bool} {l : List Int} {a b : Nat} {d d' : List Int} {i j : Nat} (h : InsI lt l a b d i) (hi : i < b) (hs : SinkI lt l a i d d' j) (hc : ¬ (a < j ∧ lt (li d' j) (li d' (j - 1)) = true)) : InsI lt l a b d' (i + 1) := by
  refine ⟨by have := h.lo; omega, hs.len, hs.mem, ?_⟩
  have e : b - i = (b - (i + 1)) + 1 := by omega
  rw [h.core, e, isort, hs.stop hc]
theorem InsI.stop {lt : Int → Int → Bool} {l : List Int} {a b : Nat} {d : List Int} {i : Nat} (h : InsI lt l a b d i) (hi : b ≤ i) : isort lt a (b - (a + 1)) (a + 1) l = d := by
  rw [h.core, Nat.sub_eq_zero_of_le hi]; rfl
end Go.Proofs.YtfnkciboencifaaDoor
set_option linter.all false
namespace Go.Proofs.YtfnkciboencifaaDoor
open Go Go.RowKit
set_option linter.unusedSimpArgs false
set_option linter.unusedVariables false
set_option maxRecDepth 20000
set_option maxHeartbeats 400000
end Go.Proofs.YtfnkciboencifaaDoor
set_option linter.all false
namespace Go.Proofs.YtfnkciboencifaaDoor
open Go Go.RowKit
set_option linter.unusedSimpArgs false
set_option linter.unusedVariables false
set_option maxRecDepth 20000
set_option maxHeartbeats 400000
def Short2 (K : List (List Int)) : Prop := ∀ x, x ∈ K → x.length ≤ 9223372036854775807
theorem Short2.at {K : List (List Int)} (h : Short2 K) (k : Nat) : (K.getD k []).length ≤ 9223372036854775807 := by
  by_cases hk : k < K.length
  · have : K.getD k [] = K[k] := by simp [List.getD_eq_getElem?_getD, hk]
    rw [this]; exact h _ (List.getElem_mem hk)
  · have : K.getD k [] = [] := by simp [List.getD_eq_getElem?_getD, hk]
    rw [this]; exact Nat.zero_le _
end Go.Proofs.YtfnkciboencifaaDoor
set_option linter.all false
namespace Go.Proofs.YtfnkciboencifaaDoor
open Go Go.RowKit
set_option linter.unusedSimpArgs false
set_option linter.unusedVariables false
set_option maxRecDepth 20000
set_option maxHeartbeats 400000
end Go.Proofs.YtfnkciboencifaaDoor
set_option linter.all false
namespace Go.Proofs.YtfnkciboencifaaDoor
open Go Go.RowKit
set_option linter.unusedSimpArgs false
set_option linter.unusedVariables false
end Go.Proofs.YtfnkciboencifaaDoor
set_option linter.all false
namespace Go.Proofs.YtfnkciboencifaaDoor
open Go Go.RowKit
set_option linter.unusedVariables false
end Go.Proofs.YtfnkciboencifaaDoor
set_option linter.all false
namespace Go.Proofs.YtfnkciboencifaaDoor
open Go Go.RowKit
set_option linter.unusedSimpArgs false
set_option linter.unusedVariables false
set_option maxRecDepth 20000
set_option maxHeartbeats 400000
theorem lexi_self : ∀ l : List Int, lexi l l = 0
  | [] => rfl
  | x :: l => by
    have : lexi (x :: l) (x :: l) = if x < x then -1 else if x < x then 1 else lexi l l := rfl
    rw [this, if_neg (Int.lt_irrefl _), if_neg (Int.lt_irrefl _), lexi_self l]
end Go.Proofs.YtfnkciboencifaaDoor
set_option linter.all false
namespace Go.Proofs.YtfnkciboencifaaDoor
open Go Go.RowKit
set_option linter.unusedSimpArgs false
set_option linter.unusedVariables false
set_option maxRecDepth 20000
set_option maxHeartbeats 2000000
theorem leqW17 {p : Prop} (h : p := by (refine ⟨4, ?_, ?_, rfl, by simp, rfl, fun _ h _ => absurd h (Nat.not_lt_zero _)⟩ <;> (simp only [List.forall_mem_cons]; repeat' (first | refine And.intro ?_ ?_ | (intro p hp; exact absurd hp List.not_mem_nil) | rfl | exact (sealed_pure _ _ _ (pure_ints _)).trans (ren_ints _ _).symm | exact (sealed_pure _ _ _ (pure_strs _)).trans (ren_strs _ _).symm | exact sp (by assumption) | (intro o ho; cases ho; refine ⟨by decide, ?_⟩; first | (refine LeqS.row rfl ?_ ?_; (next => (first | rfl | (simp only [List.map_append, List.map_cons, List.map_nil, List.append_nil, List.nil_append, List.append_assoc, List.cons_append, encI, encS, ints, strs]; done) | (simp [encI, encS, ints, strs]; done))); (next => (first | rfl | exact pureL_encI _ | exact pureL_encS _ | exact pureL_ints _ | exact pureL_strs _ | (simp [pureL_append, pureL_encI, pureL_encS, pureL_ints, pureL_strs, pureL, PV.pure, pure_ints, pure_strs]; done))); done) | refine ⟨_, rfl, rfl, ?_⟩) | (simp [St.born, St.known, retV, St.get, St.obj, lk, sealed, PV.ren, renL, rmap, AO.ren, ints, strs, encI, encS, map_sealed_encI, map_sealed_encS, map_sealed_ints, map_sealed_strs, map_ren_encI, map_ren_encS, map_ren_ints, map_ren_strs, renL_encI, renL_encS, renL_ints, renL_strs] <;> omega))))) : p := h
theorem atI_lo {l : List Int} {i m : Int} (hm : 0 < m) : 0 ≤ atI l i m := by
  unfold atI; split
  · omega
  · exact around_lo hm
theorem atI_hi {l : List Int} {i m : Int} (hm : 0 < m) : atI l i m < m := by
  unfold atI; split
  · omega
  · exact around_hi hm
def wordL : List ByteArray := [⟨#[116, 104, 101]⟩, ⟨#[84, 104, 101]⟩, ⟨#[97]⟩, ⟨#[111, 102]⟩, ⟨#[107, 105, 110, 103]⟩, ⟨#[75, 105, 110, 103]⟩, ⟨#[110, 101, 119]⟩, ⟨#[110, 101, 119, 97, 114, 107]⟩, ⟨#[121, 111, 114, 107]⟩, ⟨#[49]⟩, ⟨#[49, 48]⟩, ⟨#[57]⟩, ⟨#[48, 48, 55]⟩, ⟨#[120, 45, 49]⟩, ⟨#[98, 50, 99]⟩, ⟨#[66, 50, 99]⟩, ⟨#[63]⟩, ⟨#[111, 100, 101]⟩, ⟨#[79, 100, 101]⟩, ⟨#[116, 104, 101, 49]⟩]
def spS : ByteArray := ⟨#[32]⟩
def sp1 (i : Nat) (k : Int) (o : ByteArray) : ByteArray := if 0 < i ∨ 21 < k then o ++ spS else o
def sp2 (k : Int) (o : ByteArray) : ByteArray := if 20 < k then o ++ spS else o
theorem sp1_pos {i : Nat} {k : Int} {o : ByteArray} (h : 0 < i ∨ 21 < k) : sp1 i k o = o ++ spS := if_pos h
theorem sp1_neg {i : Nat} {k : Int} {o : ByteArray} (h : ¬ (0 < i ∨ 21 < k)) : sp1 i k o = o := if_neg h
theorem sp2_pos {k : Int} {o : ByteArray} (h : 20 < k) : sp2 k o = o ++ spS := if_pos h
theorem sp2_neg {k : Int} {o : ByteArray} (h : ¬ 20 < k) : sp2 k o = o := if_neg h
theorem sp1_size (i : Nat) (k : Int) (o : ByteArray) : (sp1 i k o).size ≤ o.size + 1 := by unfold sp1; split <;> simp [spS, ByteArray.size_append] <;> decide
theorem sp2_size (k : Int) (o : ByteArray) : (sp2 k o).size ≤ o.size + 1 := by unfold sp2; split <;> simp [spS, ByteArray.size_append] <;> decide
theorem wordL_size (k : Nat) : (ls wordL k).size ≤ 6 := by
  by_cases h : k < 20
  · have hall : ∀ k, k < 20 → (ls wordL k).size ≤ 6 := by decide
    exact hall k h
  · have : ls wordL k = ByteArray.empty := by
      unfold ls; rw [List.getD_eq_getElem?_getD, List.getElem?_eq_none (by show wordL.length ≤ k; have : wordL.length = 20 := rfl; omega)]; rfl
    rw [this]; decide
def textN (l : List Int) (a : Int) : Nat → ByteArray
  | 0 => ByteArray.empty
  | i + 1 => sp2 (atI l (a + 1 + i) 24) (sp1 i (atI l (a + 1 + i) 24) (textN l a i)) ++ ls wordL ((atI l (a + 1 + i) 24).tmod 20).toNat
theorem textN_size (l : List Int) (a : Int) : ∀ i, (textN l a i).size ≤ 8 * i
  | 0 => by simp [textN]
  | i + 1 => by
    have h0 := textN_size l a i
    have h1 := sp1_size i (atI l (a + 1 + i) 24) (textN l a i)
    have h2 := sp2_size (atI l (a + 1 + i) 24) (sp1 i (atI l (a + 1 + i) 24) (textN l a i))
    have h3 := wordL_size ((atI l (a + 1 + i) 24).tmod 20).toNat
    simp only [textN, ByteArray.size_append]; omega
def textS (l : List Int) (a : Int) : ByteArray := textN l a (atI l a 5).toNat
theorem textS_size (l : List Int) (a : Int) : (textS l a).size ≤ 40 := by
  have h := textN_size l a (atI l a 5).toNat
  have h2 := atI_hi (l := l) (i := a) (m := 5) (by decide)
  unfold textS; omega
theorem Text_pure (l : List Int) (a : Int) (hl : Fits l) (h0 : 0 ≤ a) (h1 : a ≤ 1000000000) : Pure Tryd.prog 34 [ints l, encI a] (encS (textS l a)) [] := by
  have hsp : (ByteArray.mk #[32]).size = 1 := rfl
  have hn0 := atI_lo (l := l) (i := a) (m := 5) (by decide)
  have hn1 := atI_hi (l := l) (i := a) (m := 5) (by decide)
  refine Pure.intro (ts := [4]) Tryd.func34 (by kernel_rfl) rfl rfl rfl (Nat.le_of_ble_eq_true rfl) ?_ ?_
  · simp [pure_ints, pure_strs, encI, encS, PV.pure, pureL]
  refine sY [0, 1] (fun P S K => K ⟨[(0, S.get 0), (1, S.get 1)], S.hp, S.nx, S.gh⟩) ?_
  all_goals
  refine sZ [0, 1, 5] (fun P S K => XvBuildS P 25 20 S.nx [(0, (.atom (.string { data := #[116, 104, 101] }))), (1, (.atom (.string { data := #[84, 104, 101] }))), (2, (.atom (.string { data := #[97] }))), (3, (.atom (.string { data := #[111, 102] }))), (4, (.atom (.string { data := #[107, 105, 110, 103] }))), (5, (.atom (.string { data := #[75, 105, 110, 103] }))), (6, (.atom (.string { data := #[110, 101, 119] }))), (7, (.atom (.string { data := #[110, 101, 119, 97, 114, 107] }))), (8, (.atom (.string { data := #[121, 111, 114, 107] }))), (9, (.atom (.string { data := #[49] }))), (10, (.atom (.string { data := #[49, 48] }))), (11, (.atom (.string { data := #[57] }))), (12, (.atom (.string { data := #[48, 48, 55] }))), (13, (.atom (.string { data := #[120, 45, 49] }))), (14, (.atom (.string { data := #[98, 50, 99] }))), (15, (.atom (.string { data := #[66, 50, 99] }))), (16, (.atom (.string { data := #[63] }))), (17, (.atom (.string { data := #[111, 100, 101] }))), (18, (.atom (.string { data := #[79, 100, 101] }))), (19, (.atom (.string { data := #[116, 104, 101, 49] })))] (fun r0 e0 => K ⟨[(0, S.get 0), (1, S.get 1), (5, r0)], (Eff.hp e0 S.nx S.hp), (S.nx + e0.add.length), S.gh⟩)) fun K hK => ?_
  repeat' (first | (refine hK _ ?_; clear hK K) | ((first | refine xG_intro (fun hg => ?_) (fun hg => ?_) | refine fun (hg : (_ : Prop)) => ?_) <;> ((try simp only [BQ] at hg); try (exfalso; omega))) | refine And.intro ?_ ?_ | exact cl | refine one_take ?_ _ | refine one_drop ?_ _ | (refine st ?_; try simp only [spS]) | simp only [spS])
  all_goals
  refine sY [0, 1, 5, 6] (fun P S K => K ⟨[(0, S.get 0), (1, S.get 1), (5, S.get 5), (6, (.atom (.string { data := #[] })))], S.hp, S.nx, S.gh⟩) ?_
  all_goals
  refine sZ [0, 1, 5, 6, 7] (fun P S K => XvFnIV P (M S.hp S.nx) (.fn 50 []) [(S.get 0), (S.get 1), (.atom (.int .i64 5))] (fun r2 e2 => K ⟨[(0, S.get 0), (1, S.get 1), (5, S.get 5), (6, S.get 6), (7, r2)], (Eff.hp e2 S.nx S.hp), (S.nx + e2.add.length), S.gh⟩)) fun K hK => ?_
  repeat' (first | (refine hK _ ?_; clear hK K) | ((first | refine xG_intro (fun hg => ?_) (fun hg => ?_) | refine fun (hg : (_ : Prop)) => ?_) <;> ((try simp only [BQ] at hg); try (exfalso; omega))) | refine And.intro ?_ ?_ | exact cl | refine one_take ?_ _ | refine one_drop ?_ _ | refine .inl ⟨_, _, At_pure l a 5 hl (by unfold I64; omega) (by decide), ?_⟩ | refine ⟨_, _, At_pure l a 5 hl (by unfold I64; omega) (by decide), ?_⟩ | refine .inl ⟨_, _, At_pure l (a + 1 + i) 24 hl (by unfold I64; omega) (by decide), ?_⟩ | refine ⟨_, _, At_pure l (a + 1 + i) 24 hl (by unfold I64; omega) (by decide), ?_⟩ | (refine st ?_; try simp only [spS]) | simp only [spS])
  all_goals
  refine Tri.seq ?_
  refine sY [0, 1, 5, 6, 7, 8] (fun P S K => K ⟨[(0, S.get 0), (1, S.get 1), (5, S.get 5), (6, S.get 6), (7, S.get 7), (8, (.atom (.int .i64 0)))], S.hp, S.nx, S.gh⟩) ?_
  all_goals
  refine Tri.block ?_
  refine Tri.loop (α := (i : Nat) ×' ((i : Int) ≤ atI l a 5)) (fun z => (fun (i : Nat) => (⟨[(0, ints l), (1, encI a), (5, .ob 0 1 0 20), (6, encS (textN l a i)), (7, encI (atI l a 5)), (8, encI i)], [(0, some ⟨1, wordL.map encS⟩)], 1, []⟩ : St)) z.1) (fun z => (fun (i : Nat) => 5 - i) z.1) ⟨0, hn0⟩ [0] ?_ ?_
  ·exact leqW17
  ·rintro ⟨i, hi⟩
   refine Tri.seq ?_
   refine sY [0, 1, 5, 6, 7, 8, 16] (fun P S K => XvBinOV P .lss 3 (.tmp 15) (S.get 8) (S.get 7) (fun r2 _ => K ⟨[(0, S.get 0), (1, S.get 1), (5, S.get 5), (6, S.get 6), (7, S.get 7), (8, S.get 8), (16, r2)], S.hp, S.nx, S.gh⟩)) ?_
   all_goals
   refine Tri.cond rfl (fun h16 => ?_) (fun h16 => ?_)
   ·try (cases h16; done)
    all_goals (try simp only [CQ] at h16)
    all_goals
    refine Tri.skip ?_
    refine Tri.seq ?_
    refine Tri.block ?_
    have hw1 : IntKind.i64.wrap (a + 1) = a + 1 := wrap_id (by omega) (by omega)
    have hw2 : IntKind.i64.wrap (a + 1 + i) = a + 1 + i := wrap_id (by omega) (by omega)
    have hsz := textN_size l a i
    refine sZ [0, 1, 5, 6, 7, 8, 9] (fun P S K => XvBinOV P .add 3 (.const (.int .i64 1)) (S.get 1) (.atom (.int .i64 1)) (fun r2 _ => XvBinOV P .add 3 (.tmp 22) r2 (S.get 8) (fun r4 _ => XvFnIV P (M S.hp S.nx) (.fn 50 []) [(S.get 0), r4, (.atom (.int .i64 24))] (fun r5 e5 => K ⟨[(0, S.get 0), (1, S.get 1), (5, S.get 5), (6, S.get 6), (7, S.get 7), (8, S.get 8), (9, r5)], (Eff.hp e5 S.nx S.hp), (S.nx + e5.add.length), S.gh⟩)))) fun K hK => ?_
    repeat' (first | (refine hK _ ?_; clear hK K) | ((first | refine xG_intro (fun hg => ?_) (fun hg => ?_) | refine fun (hg : (_ : Prop)) => ?_) <;> ((try simp only [BQ] at hg); try (exfalso; omega))) | refine And.intro ?_ ?_ | exact cl | refine one_take ?_ _ | refine one_drop ?_ _ | refine .inl ⟨_, _, At_pure l a 5 hl (by unfold I64; omega) (by decide), ?_⟩ | refine ⟨_, _, At_pure l a 5 hl (by unfold I64; omega) (by decide), ?_⟩ | refine .inl ⟨_, _, At_pure l (a + 1 + i) 24 hl (by unfold I64; omega) (by decide), ?_⟩ | refine ⟨_, _, At_pure l (a + 1 + i) 24 hl (by unfold I64; omega) (by decide), ?_⟩ | (refine st ?_; try simp only [spS, hw1, hw2]) | simp only [spS, hw1, hw2])
    all_goals try simp (disch := omega) only [wrap_id, wrap8_id]
    have hk0 := atI_lo (l := l) (i := a + 1 + i) (m := 24) (by decide)
    have hk1 := atI_hi (l := l) (i := a + 1 + i) (m := 24) (by decide)
    all_goals
    refine Tri.cut (α := Unit) (fun ⟨⟩ => ⟨[(0, ints l), (1, encI a), (5, .ob 0 1 0 20), (6, encS (sp1 i (atI l (a + 1 + i) 24) (textN l a i))), (7, encI (atI l a 5)), (8, encI i), (9, encI (atI l (a + 1 + i) 24))], [(0, some ⟨1, wordL.map encS⟩)], 1, []⟩) ?_ ?_
    ·skip
     refine sZ [0, 1, 5, 6, 7, 8, 9, 30] (fun P S K => XvBinOV P .gtr 3 (.const (.int .i64 0)) (S.get 8) (.atom (.int .i64 0)) (fun r1 _ => Xgq r1 false (fun k => k (S.get 9)) (fun g3 r3 => Xgq g3 false (fun k => XvBinOV P .gtr 3 (.const (.int .i64 21)) r3 (.atom (.int .i64 21)) (fun r4 _ => k r4)) (fun g4 r4 => XvPick g4 (.atom (.bool true)) r4 (fun r5 _ => K ⟨[(0, S.get 0), (1, S.get 1), (5, S.get 5), (6, S.get 6), (7, S.get 7), (8, S.get 8), (9, S.get 9), (30, r5)], S.hp, S.nx, S.gh⟩))))) fun K hK => ?_
     repeat' (first | (refine hK _ ?_; clear hK K) | ((first | refine xG_intro (fun hg => ?_) (fun hg => ?_) | refine fun (hg : (_ : Prop)) => ?_) <;> ((try simp only [BQ] at hg); try (exfalso; omega))) | refine And.intro ?_ ?_ | exact cl | refine one_take ?_ _ | refine one_drop ?_ _ | (refine st ?_; try simp only [spS]) | simp only [spS])
     all_goals
     refine Tri.cond rfl (fun h30 => ?_) (fun h30 => ?_)
     ·try (cases h30; done)
      all_goals (try simp only [CQ] at h30)
      all_goals
      refine rY [0, 1, 5, 6, 7, 8, 9] (fun P S K => XvBinOV P .add 9 (.const (.string { data := #[32] })) (S.get 6) (.atom (.string { data := #[32] })) (fun r1 _ => K ⟨[(0, S.get 0), (1, S.get 1), (5, S.get 5), (6, r1), (7, S.get 7), (8, S.get 8), (9, S.get 9)], S.hp, S.nx, S.gh⟩)) ?_
      all_goals try simp (disch := omega) only [wrap_id, wrap8_id]
      all_goals
      first | rw [sp1_pos (by omega)] | rw [sp1_neg (by omega)]
      refine ⟨(), [0], ?_⟩
      exact leqW17
     ·try (cases h30; done)
      all_goals (try simp only [CQ] at h30)
      all_goals
      refine Tri.skip ?_
      first | rw [sp1_pos (by omega)] | rw [sp1_neg (by omega)]
      refine ⟨(), [0], ?_⟩
      exact leqW17
    ·rintro ⟨⟩
     refine Tri.cut (α := Unit) (fun ⟨⟩ => ⟨[(0, ints l), (1, encI a), (5, .ob 0 1 0 20), (6, encS (sp2 (atI l (a + 1 + i) 24) (sp1 i (atI l (a + 1 + i) 24) (textN l a i)))), (7, encI (atI l a 5)), (8, encI i), (9, encI (atI l (a + 1 + i) 24))], [(0, some ⟨1, wordL.map encS⟩)], 1, []⟩) ?_ ?_
     ·skip
      have hs1 := sp1_size i (atI l (a + 1 + i) 24) (textN l a i)
      refine sY [0, 1, 5, 6, 7, 8, 9, 34] (fun P S K => XvBinOV P .gtr 3 (.const (.int .i64 20)) (S.get 9) (.atom (.int .i64 20)) (fun r1 _ => K ⟨[(0, S.get 0), (1, S.get 1), (5, S.get 5), (6, S.get 6), (7, S.get 7), (8, S.get 8), (9, S.get 9), (34, r1)], S.hp, S.nx, S.gh⟩)) ?_
      all_goals
      refine Tri.cond rfl (fun h34 => ?_) (fun h34 => ?_)
      ·try (cases h34; done)
       all_goals (try simp only [CQ] at h34)
       all_goals
       refine rY [0, 1, 5, 6, 7, 8, 9] (fun P S K => XvBinOV P .add 9 (.const (.string { data := #[32] })) (S.get 6) (.atom (.string { data := #[32] })) (fun r1 _ => K ⟨[(0, S.get 0), (1, S.get 1), (5, S.get 5), (6, r1), (7, S.get 7), (8, S.get 8), (9, S.get 9)], S.hp, S.nx, S.gh⟩)) ?_
       all_goals try simp (disch := omega) only [wrap_id, wrap8_id]
       all_goals
       first | rw [sp2_pos (by omega)] | rw [sp2_neg (by omega)]
       refine ⟨(), [0], ?_⟩
       exact leqW17
      ·try (cases h34; done)
       all_goals (try simp only [CQ] at h34)
       all_goals
       refine Tri.skip ?_
       first | rw [sp2_pos (by omega)] | rw [sp2_neg (by omega)]
       refine ⟨(), [0], ?_⟩
       exact leqW17
     ·rintro ⟨⟩
      have hs1 := sp1_size i (atI l (a + 1 + i) 24) (textN l a i)
      have hs2 := sp2_size (atI l (a + 1 + i) 24) (sp1 i (atI l (a + 1 + i) 24) (textN l a i))
      have ht0 : 0 ≤ (atI l (a + 1 + i) 24).tmod 20 := Int.tmod_nonneg _ (by omega)
      have ht1 : (atI l (a + 1 + i) 24).tmod 20 < 20 := Int.tmod_lt_of_pos _ (by decide)
      have hwl : wordL.length = 20 := rfl
      have hix : ((atI l (a + 1 + i) 24).tmod 20).toNat < wordL.length := by omega
      have hws := wordL_size ((atI l (a + 1 + i) 24).tmod 20).toNat
      refine rZ [0, 1, 5, 6, 7, 8] (fun P S K => XvBinOV P .rem 3 (.const (.int .i64 20)) (S.get 9) (.atom (.int .i64 20)) (fun r3 _ => XvIndexAddr P 25 (S.get 5) r3 (fun r4 _ => XvLoad P 9 (M S.hp S.nx) r4 (fun r5 _ => XvBinOV P .add 9 (.tmp 42) (S.get 6) r5 (fun r6 _ => K ⟨[(0, S.get 0), (1, S.get 1), (5, S.get 5), (6, r6), (7, S.get 7), (8, S.get 8)], S.hp, S.nx, S.gh⟩))))) fun K hK => ?_
      repeat' (first | (refine hK _ ?_; clear hK K) | ((first | refine xG_intro (fun hg => ?_) (fun hg => ?_) | refine fun (hg : (_ : Prop)) => ?_) <;> ((try simp only [BQ] at hg); try (exfalso; omega))) | refine And.intro ?_ ?_ | exact cl | refine one_take ?_ _ | refine one_drop ?_ _ | (refine st ?_; try simp only [spS, hwl, getD_encS hix]) | simp only [spS, hwl, getD_encS hix])
      all_goals try simp (disch := omega) only [wrap_id, wrap8_id]
      all_goals
      refine rY [0, 1, 5, 6, 7, 8] (fun P S K => XvBinOV P .add 3 (.const (.int .i64 1)) (S.get 8) (.atom (.int .i64 1)) (fun r1 _ => K ⟨[(0, S.get 0), (1, S.get 1), (5, S.get 5), (6, S.get 6), (7, S.get 7), (8, r1)], S.hp, S.nx, S.gh⟩)) ?_
      all_goals try simp (disch := omega) only [wrap_id, wrap8_id]
      all_goals
      refine ⟨⟨i + 1, by omega⟩, [0], by dsimp only; omega, ?_⟩
      exact leqW17
   ·try (cases h16; done)
    all_goals (try simp only [CQ] at h16)
    all_goals
    refine Tri.exit ?_
    refine sY [4] (fun P S K => K ⟨[(4, (S.get 6))], S.hp, S.nx, S.gh⟩) ?_
    all_goals
    refine Tri.ret ?_
    show ResOk _ _ _ _
    have hin : (atI l a 5).toNat = i := by omega
    exact ResOk.val (aS (by unfold textS; rw [hin])) rfl
end Go.Proofs.YtfnkciboencifaaDoor
set_option linter.all false
namespace Go.Proofs.YtfnkciboencifaaDoor
open Go Go.RowKit
set_option linter.unusedVariables false
theorem HeapSim.swap {w0 : Home} {F0 D : Nat → Prop} {μ : Nat → Option Nat} {F : Nat → Prop} {H : Nat → Option AO} {w : World} (h : HeapSim w0 F0 D μ F H w) (i : Nat) (o o' : AO) (hi : H i = some o) (hs : Stands D μ F w o (μ i) → Stands D μ F w o' (μ i)) :
    HeapSim w0 F0 D μ F (upd H i (some o')) w := by
  refine h.step (Stay.refl _ _) (fun j hj => ⟨hj, rfl⟩) (fun _ hb => hb) h.ext h.f0 h.fsz fun j oj hj => ?_
  by_cases hji : j = i
  · subst hji
    rw [upd_same] at hj
    obtain rfl := Option.some.inj hj
    have ho := h.objs _ _ hi
    refine .inr ⟨ho.1, hs ho.2, fun b hb => ⟨(h.own _ _ b hi hb).1, (h.own _ _ b hi hb).2, fun k o2 hk hk2 hkb => ?_⟩⟩
    rw [upd_other _ _ hk] at hk2
    exact hk (h.inj k _ _ _ b hk2 hi hkb hb)
  · rw [upd_other _ _ hji] at hj
    exact .inl ⟨hj, fun b hb => ⟨rfl, (h.own _ _ b hj hb).2⟩⟩
theorem Tri.bornF {P : Program} {n : Nat} {c : Code} {S : St} {Q : Exit → St → Prop} (i k sz osz : Nat) (cs : List PV) (h : S.obj i = some ⟨osz, [.agg cs]⟩) (hk : cs[k]? = some (.atom (.slice none 0 0)))
    (ht : Tri P n c ⟨S.env, (i, some ⟨osz, [.agg (cs.set k (.ob S.nx sz 0 0))]⟩) :: (S.nx, some ⟨sz, []⟩) :: S.hp, S.nx + 1, S.gh⟩ Q) : Tri P n c S Q := fun w0 F0 D μ F G a w hS => by
  have hn : ¬ D S.nx := fun hd => Nat.lt_irrefl _ (hS.ids _ hd)
  have hold := also_ok (D := D) (μ := μ) (none : Option Nat) hn
  have hDi := (hS.heap.objs _ _ h).1
  have hin : i ≠ S.nx := fun e => hn (e ▸ hDi)
  refine ht w0 F0 (also D S.nx) (upd μ S.nx none) F G a w ⟨hS.defers, hS.size, fun s => (hS.env s).stay (Stay.refl _ _) hold (fun _ h => h), ?_, fun j hj => ?_, hS.ghl, fun j hj => (hS.gh j hj).stay (Stay.refl _ _) hold (fun _ h => h)⟩
  · have h1 := HeapSim.add hS.heap S.nx hn ⟨sz, []⟩ none (Stay.refl _ _) hS.heap.ext (Nat.le_refl _) rfl (fun b hb => by cases hb) (fun _ _ _ _ _ => rfl)
    have h2 := h1.swap i ⟨osz, [.agg cs]⟩ ⟨osz, [.agg (cs.set k (.ob S.nx sz 0 0))]⟩ (by rw [upd_other _ _ hin]; exact h) (fun hst => by
      cases hm : upd μ S.nx none i with
      | none => rw [hm] at hst; have : ([.agg cs] : List PV) = [] := hst; cases this
      | some b =>
        rw [hm] at hst
        obtain ⟨A, e, g1, g2, g3, g4⟩ := (hst : ObjOk _ _ _ _ b _)
        show ObjOk (also D S.nx) (upd μ S.nx none) F w b ⟨osz, [.agg (cs.set k (.ob S.nx sz 0 0))]⟩
        refine ⟨A, e, g1, g2, fun m hm2 => ?_, fun m hm2 c hc => ?_⟩
        · have : m = 0 := by simp at hm2; omega
          subst this
          have := g3 0 (by simp)
          simpa [PV.cells] using this
        · have : m = 0 := by simp at hm2; omega
          subst this
          have hc' : c < cs.length := by simpa [PV.cells] using hc
          have hr := g4 0 (by simp) c (by simpa [PV.cells] using hc')
          simp only [List.getElem_cons_zero, PV.cells] at hr ⊢
          rw [List.getElem_set]
          split
          · rename_i hkc
            subst hkc
            have e1 : cs[k] = .atom (.slice none 0 0) := by
              have := List.getElem?_eq_getElem hc'
              rw [hk] at this; exact (Option.some.inj this).symm
            rw [e1] at hr
            rw [nil_val hr]
            exact .obn S.nx sz (.inr rfl) (upd_same ..)
          · exact hr)
    have e : (St.mk S.env ((i, some ⟨osz, [.agg (cs.set k (.ob S.nx sz 0 0))]⟩) :: (S.nx, some ⟨sz, []⟩) :: S.hp) (S.nx + 1) S.gh).obj = upd (upd S.obj S.nx (some ⟨sz, []⟩)) i (some ⟨osz, [.agg (cs.set k (.ob S.nx sz 0 0))]⟩) := by
      funext j
      show (lk ((i, _) :: (S.nx, some ⟨sz, []⟩) :: S.hp) j).join = _
      unfold lk upd
      by_cases hj : i = j
      · rw [if_pos hj, if_pos hj.symm]; rfl
      · rw [if_neg hj, if_neg (Ne.symm hj)]
        unfold lk
        by_cases hj2 : S.nx = j
        · rw [if_pos hj2, if_pos hj2.symm]; rfl
        · rw [if_neg hj2, if_neg (Ne.symm hj2)]; rfl
    rw [e]; exact h2
  · rcases hj with hj | rfl
    · exact Nat.lt_succ_of_lt (hS.ids j hj)
    · exact Nat.lt_succ_self _
end Go.Proofs.YtfnkciboencifaaDoor
set_option linter.all false
namespace Go.Proofs.YtfnkciboencifaaDoor
open Go Go.RowKit
set_option linter.unusedSimpArgs false
set_option linter.unusedVariables false
set_option maxRecDepth 20000
set_option maxHeartbeats 400000
theorem leqW21 {p : Prop} (h : p := by (refine ⟨4, ?_, ?_, rfl, by simp, rfl, fun _ h _ => absurd h (Nat.not_lt_zero _)⟩ <;> (simp only [List.forall_mem_cons]; repeat' (first | refine And.intro ?_ ?_ | (intro p hp; exact absurd hp List.not_mem_nil) | rfl | exact sp (pure_madeV _) | exact (sealed_pure _ _ _ (pure_ints _)).trans (ren_ints _ _).symm | exact (sealed_pure _ _ _ (pure_strs _)).trans (ren_strs _ _).symm | exact sp (by assumption) | (intro o ho; cases ho; refine ⟨by decide, ?_⟩; first | (refine LeqS.row rfl ?_ ?_; (next => (first | rfl | (simp only [List.map_append, List.map_cons, List.map_nil, List.append_nil, List.nil_append, List.append_assoc, List.cons_append, encI, encS, ints, strs]; done) | (simp [encI, encS, ints, strs]; done))); (next => (first | rfl | exact pureL_encI _ | exact pureL_encS _ | exact pureL_ints _ | exact pureL_strs _ | (simp [pureL_append, pureL_encI, pureL_encS, pureL_ints, pureL_strs, pureL, PV.pure, pure_ints, pure_strs, pure_madeV]; done))); done) | refine ⟨_, rfl, rfl, ?_⟩) | (simp [St.born, St.known, retV, St.get, St.obj, lk, sealed, PV.ren, renL, rmap, AO.ren, ints, strs, encI, encS, map_sealed_encI, map_sealed_encS, map_sealed_ints, map_sealed_strs, map_ren_encI, map_ren_encS, map_ren_ints, map_ren_strs, renL_encI, renL_encS, renL_ints, renL_strs, ren_madeV, sealed_madeV, theS, ofS, aS1, kingS, orderN_0] <;> omega))))) : p := h
def theS : ByteArray := ⟨#[116, 104, 101]⟩
def ofS : ByteArray := ⟨#[111, 102]⟩
def aS1 : ByteArray := ⟨#[97]⟩
def kingS : ByteArray := ⟨#[107, 105, 110, 103]⟩
def madeSk (k : Int) : List ByteArray := if k = 0 then [] else if k = 1 then [theS] else if k = 2 then [theS, ofS] else [aS1, theS, kingS]
def madeV (k : Int) : PV := if k = 0 then .atom (.slice none 0 0) else strs (madeSk k)
theorem pure_madeV (k : Int) : (madeV k).pure = true := by unfold madeV; split <;> simp [PV.pure, pure_strs]
theorem ren_madeV (ρ : Nat → Nat) (k : Int) : (madeV k).ren ρ = madeV k := ren_pure ρ _ (pure_madeV k)
theorem sealed_madeV (H : Nat → Option AO) (keep : Nat → Bool) (n : Nat) (k : Int) : sealed H keep n (madeV k) = madeV k := sealed_pure _ _ _ (pure_madeV k)
theorem one_madeV (k : Int) : (madeV k).one = true := by unfold madeV; split <;> rfl
theorem as_madeV (k : Int) : AsSl 1 ((madeSk k).map encS) (madeV k) := by
  unfold madeV madeSk
  split
  · exact .inr ⟨rfl, rfl⟩
  · exact .inl rfl
theorem madeV_0 {k : Int} (h : k = 0) : madeV k = .atom (.slice none 0 0) := by subst h; rfl
theorem madeV_1 {k : Int} (h : k = 1) : madeV k = .sl 1 [.atom (.string theS)] := by subst h; rfl
theorem madeV_2 {k : Int} (h : k = 2) : madeV k = .sl 1 [.atom (.string theS), .atom (.string ofS)] := by subst h; rfl
theorem madeV_3 {k : Int} (h : k = 3) : madeV k = .sl 1 [.atom (.string aS1), .atom (.string theS), .atom (.string kingS)] := by subst h; rfl
def oneB (n : Int) : ByteArray := ⟨[UInt8.ofNat n.toNat].toArray⟩
theorem oneB_eq (n : Int) : (⟨#[pvByte (.atom (.int .u8 n))]⟩ : ByteArray) = oneB n := rfl
theorem oneB_size (n : Int) : (oneB n).size = 1 := rfl
def kOf (kind : Int) (i : Nat) : Int := if kind.tmod 2 = 1 then 25 - i else i
theorem kOf_pos {kind : Int} {i : Nat} (h : kind.tmod 2 = 1) : kOf kind i = 25 - i := if_pos h
theorem kOf_neg {kind : Int} {i : Nat} (h : ¬ kind.tmod 2 = 1) : kOf kind i = i := if_neg h
theorem kOf_range {kind : Int} {i : Nat} (h : i < 26) : 0 ≤ kOf kind i ∧ kOf kind i ≤ 25 := by unfold kOf; split <;> omega
def orderN (kind : Int) : Nat → List ByteArray
  | 0 => []
  | i + 1 => orderN kind i ++ (if kind < 2 then [oneB (97 + kOf kind i) ++ oneB (65 + kOf kind i)] else [oneB (65 + kOf kind i), oneB (97 + kOf kind i)])
theorem orderN_0 (kind : Int) : orderN kind 0 = [] := rfl
theorem orderN_lt {kind : Int} {i : Nat} (h : kind < 2) : orderN kind (i + 1) = orderN kind i ++ [oneB (97 + kOf kind i) ++ oneB (65 + kOf kind i)] := by rw [orderN, if_pos h]
theorem orderN_ge {kind : Int} {i : Nat} (h : ¬ kind < 2) : orderN kind (i + 1) = orderN kind i ++ [oneB (65 + kOf kind i), oneB (97 + kOf kind i)] := by rw [orderN, if_neg h]
theorem orderN_len (kind : Int) : ∀ i, (orderN kind i).length ≤ 2 * i
  | 0 => by simp [orderN]
  | i + 1 => by have := orderN_len kind i; rw [orderN]; split <;> simp <;> omega
def digS : ByteArray := ⟨#[48, 49, 50, 51, 52, 53, 54, 55, 56, 57]⟩
def dig3 : List ByteArray := [⟨#[48, 49]⟩, ⟨#[50]⟩, ⟨#[51, 52, 53, 54, 55, 56, 57, 45]⟩]
def madeO (kind d : Int) : List ByteArray := if d = 1 then digS :: orderN kind 26 else if d = 2 then orderN kind 26 ++ dig3 else orderN kind 26
theorem ResR.cell1 {P : Program} {S : St} {rv : ResultVar} {r : PV} (x : PV) (h : resVs P S [rv] = some [x]) (hs : sealed S.obj (fun _ => false) 5 x = r) (hp : r.pure = true) : ResR P S [rv] r [] :=
  ⟨[x], h, ResOk.frz 5 (by rw [retV_resSt]; exact hs) hp⟩
def madeS (l : List Int) : SpecD := ⟨decide (atI l 0 2 = 0), madeSk (atI l 2 4), decide (atI l 1 2 = 0), madeO (atI l 3 4) (atI l 4 3)⟩
def madeP (l : List Int) : PV := .agg [.atom (.bool (decide (atI l 0 2 = 0))), madeV (atI l 2 4), .atom (.bool (decide (atI l 1 2 = 0))), strs (madeO (atI l 3 4) (atI l 4 3))]
theorem made_spec (l : List Int) : IsSpec (madeS l) (madeP l) := ⟨_, _, rfl, as_madeV _, .inl rfl⟩
theorem Made_pure (l : List Int) (hl : Fits l) : Pure Tryd.prog 33 [ints l] (madeP l) [] := by
  have ha0 := atI_lo (l := l) (i := 2) (m := 4) (by decide)
  have ha1 := atI_hi (l := l) (i := 2) (m := 4) (by decide)
  have hb0 := atI_lo (l := l) (i := 3) (m := 4) (by decide)
  have hb1 := atI_hi (l := l) (i := 3) (m := 4) (by decide)
  have hc0 := atI_lo (l := l) (i := 4) (m := 3) (by decide)
  have hc1 := atI_hi (l := l) (i := 4) (m := 3) (by decide)
  refine Pure.introR (rv := [.cell 2 35]) Tryd.func33 (by kernel_rfl) rfl rfl rfl (Nat.le_of_ble_eq_true rfl) ?_ ?_
  · simp [pure_ints, pure_strs, encI, encS, PV.pure, pureL]
  refine sZ [0, 2] (fun P S K => XvAlloc P 35 S.nx (fun r0 e0 => K ⟨[(0, S.get 0), (2, r0)], (Eff.hp e0 S.nx S.hp), (S.nx + e0.add.length), S.gh⟩)) fun K hK => ?_
  repeat' (first | (refine hK _ ?_; clear hK K) | ((first | refine xG_intro (fun hg => ?_) (fun hg => ?_) | refine fun (hg : (_ : Prop)) => ?_) <;> ((try simp only [BQ] at hg); try (exfalso; omega))) | refine And.intro ?_ ?_ | exact cl | exact one_madeV _ | refine one_take ?_ _ | refine one_drop ?_ _ | (refine st ?_; try simp only [oneB_eq, oneB_size]) | simp only [oneB_eq, oneB_size])
  all_goals
  refine sZ [0, 2, 3] (fun P S K => XvFnIV P (M S.hp S.nx) (.fn 50 []) [(S.get 0), (.atom (.int .i64 0)), (.atom (.int .i64 2))] (fun r1 e1 => XvBinOV P .eql 3 (.const (.int .i64 0)) r1 (.atom (.int .i64 0)) (fun r2 _ => XvFnIV P (M (Eff.hp e1 S.nx S.hp) (S.nx + e1.add.length)) (.fn 50 []) [(S.get 0), (.atom (.int .i64 1)), (.atom (.int .i64 2))] (fun r4 e4 => XvBinOV P .eql 3 (.const (.int .i64 0)) r4 (.atom (.int .i64 0)) (fun r5 _ => XvBuild P 35 [(0, r2), (2, r5)] (fun r6 _ => XvAlloc P 35 ((S.nx + e1.add.length) + e4.add.length) (fun r7 e7 => XvStore P 35 (M (Eff.hp e7 ((S.nx + e1.add.length) + e4.add.length) (Eff.hp e4 (S.nx + e1.add.length) (Eff.hp e1 S.nx S.hp))) (((S.nx + e1.add.length) + e4.add.length) + e7.add.length)) r7 r6 (fun r8 e8 => K ⟨[(0, S.get 0), (2, S.get 2), (3, r7)], (Eff.hp e8 (((S.nx + e1.add.length) + e4.add.length) + e7.add.length) (Eff.hp e7 ((S.nx + e1.add.length) + e4.add.length) (Eff.hp e4 (S.nx + e1.add.length) (Eff.hp e1 S.nx S.hp)))), ((((S.nx + e1.add.length) + e4.add.length) + e7.add.length) + e8.add.length), S.gh⟩)))))))) fun K hK => ?_
  repeat' (first | (refine hK _ ?_; clear hK K) | ((first | refine xG_intro (fun hg => ?_) (fun hg => ?_) | refine fun (hg : (_ : Prop)) => ?_) <;> ((try simp only [BQ] at hg); try (exfalso; omega))) | refine And.intro ?_ ?_ | exact cl | exact one_madeV _ | refine one_take ?_ _ | refine one_drop ?_ _ | refine .inl ⟨_, _, At_pure l 0 2 hl (by unfold I64; omega) (by decide), ?_⟩ | refine ⟨_, _, At_pure l 0 2 hl (by unfold I64; omega) (by decide), ?_⟩ | refine .inl ⟨_, _, At_pure l 1 2 hl (by unfold I64; omega) (by decide), ?_⟩ | refine ⟨_, _, At_pure l 1 2 hl (by unfold I64; omega) (by decide), ?_⟩ | refine .inl ⟨_, _, At_pure l 2 4 hl (by unfold I64; omega) (by decide), ?_⟩ | refine ⟨_, _, At_pure l 2 4 hl (by unfold I64; omega) (by decide), ?_⟩ | refine .inl ⟨_, _, At_pure l 3 4 hl (by unfold I64; omega) (by decide), ?_⟩ | refine ⟨_, _, At_pure l 3 4 hl (by unfold I64; omega) (by decide), ?_⟩ | refine .inl ⟨_, _, At_pure l 4 3 hl (by unfold I64; omega) (by decide), ?_⟩ | refine ⟨_, _, At_pure l 4 3 hl (by unfold I64; omega) (by decide), ?_⟩ | (refine st ?_; try simp only [oneB_eq, oneB_size]) | simp only [oneB_eq, oneB_size])
  all_goals
  refine Tri.cut (α := Unit) (fun ⟨⟩ => ⟨[(0, ints l), (2, .ptr 0 4 0 0), (3, .ptr 1 4 0 0)], [(0, some ⟨4, [.agg [.atom (.bool false), .atom (.slice none 0 0), .atom (.bool false), .atom (.slice none 0 0)]]⟩), (1, some ⟨4, [.agg [.atom (.bool (decide (atI l 0 2 = 0))), madeV (atI l 2 4), .atom (.bool (decide (atI l 1 2 = 0))), .atom (.slice none 0 0)]]⟩)], 2, []⟩) ?_ ?_
  ·skip
   obtain hsk | hsk | hsk | hsk : atI l 2 4 = 0 ∨ atI l 2 4 = 1 ∨ atI l 2 4 = 2 ∨ atI l 2 4 = 3 := by omega
   all_goals
   refine rZ [0, 2, 3] (fun P S K => XvBuildS P 25 1 S.nx [(0, (.atom (.string { data := #[116, 104, 101] })))] (fun r0 e0 => XvBuildS P 25 2 (S.nx + e0.add.length) [(0, (.atom (.string { data := #[116, 104, 101] }))), (1, (.atom (.string { data := #[111, 102] })))] (fun r1 e1 => XvBuildS P 25 3 ((S.nx + e0.add.length) + e1.add.length) [(0, (.atom (.string { data := #[97] }))), (1, (.atom (.string { data := #[116, 104, 101] }))), (2, (.atom (.string { data := #[107, 105, 110, 103] })))] (fun r2 e2 => XvBuildS P 47 4 (((S.nx + e0.add.length) + e1.add.length) + e2.add.length) [(0, (.atom (.slice none 0 0))), (1, r0), (2, r1), (3, r2)] (fun r3 e3 => XvFnIV P (M (Eff.hp e3 (((S.nx + e0.add.length) + e1.add.length) + e2.add.length) (Eff.hp e2 ((S.nx + e0.add.length) + e1.add.length) (Eff.hp e1 (S.nx + e0.add.length) (Eff.hp e0 S.nx S.hp)))) ((((S.nx + e0.add.length) + e1.add.length) + e2.add.length) + e3.add.length)) (.fn 50 []) [(S.get 0), (.atom (.int .i64 2)), (.atom (.int .i64 4))] (fun r5 e5 => XvIndexAddr P 47 r3 r5 (fun r6 _ => XvLoad P 25 (M (Eff.hp e5 ((((S.nx + e0.add.length) + e1.add.length) + e2.add.length) + e3.add.length) (Eff.hp e3 (((S.nx + e0.add.length) + e1.add.length) + e2.add.length) (Eff.hp e2 ((S.nx + e0.add.length) + e1.add.length) (Eff.hp e1 (S.nx + e0.add.length) (Eff.hp e0 S.nx S.hp))))) (((((S.nx + e0.add.length) + e1.add.length) + e2.add.length) + e3.add.length) + e5.add.length)) r6 (fun r7 _ => XvFieldAddr P 35 1 (S.get 3) (fun r8 _ => XvStore P 25 (M (Eff.hp e5 ((((S.nx + e0.add.length) + e1.add.length) + e2.add.length) + e3.add.length) (Eff.hp e3 (((S.nx + e0.add.length) + e1.add.length) + e2.add.length) (Eff.hp e2 ((S.nx + e0.add.length) + e1.add.length) (Eff.hp e1 (S.nx + e0.add.length) (Eff.hp e0 S.nx S.hp))))) (((((S.nx + e0.add.length) + e1.add.length) + e2.add.length) + e3.add.length) + e5.add.length)) r8 r7 (fun r9 e9 => K ⟨[(0, S.get 0), (2, S.get 2), (3, S.get 3)], (Eff.hp e9 (((((S.nx + e0.add.length) + e1.add.length) + e2.add.length) + e3.add.length) + e5.add.length) (Eff.hp e5 ((((S.nx + e0.add.length) + e1.add.length) + e2.add.length) + e3.add.length) (Eff.hp e3 (((S.nx + e0.add.length) + e1.add.length) + e2.add.length) (Eff.hp e2 ((S.nx + e0.add.length) + e1.add.length) (Eff.hp e1 (S.nx + e0.add.length) (Eff.hp e0 S.nx S.hp)))))), ((((((S.nx + e0.add.length) + e1.add.length) + e2.add.length) + e3.add.length) + e5.add.length) + e9.add.length), S.gh⟩)))))))))) fun K hK => ?_
   repeat' (first | (refine hK _ ?_; clear hK K) | ((first | refine xG_intro (fun hg => ?_) (fun hg => ?_) | refine fun (hg : (_ : Prop)) => ?_) <;> ((try simp only [BQ] at hg); try (exfalso; omega))) | refine And.intro ?_ ?_ | exact cl | exact one_madeV _ | refine one_take ?_ _ | refine one_drop ?_ _ | refine .inl ⟨_, _, At_pure l 0 2 hl (by unfold I64; omega) (by decide), ?_⟩ | refine ⟨_, _, At_pure l 0 2 hl (by unfold I64; omega) (by decide), ?_⟩ | refine .inl ⟨_, _, At_pure l 1 2 hl (by unfold I64; omega) (by decide), ?_⟩ | refine ⟨_, _, At_pure l 1 2 hl (by unfold I64; omega) (by decide), ?_⟩ | refine .inl ⟨_, _, At_pure l 2 4 hl (by unfold I64; omega) (by decide), ?_⟩ | refine ⟨_, _, At_pure l 2 4 hl (by unfold I64; omega) (by decide), ?_⟩ | refine .inl ⟨_, _, At_pure l 3 4 hl (by unfold I64; omega) (by decide), ?_⟩ | refine ⟨_, _, At_pure l 3 4 hl (by unfold I64; omega) (by decide), ?_⟩ | refine .inl ⟨_, _, At_pure l 4 3 hl (by unfold I64; omega) (by decide), ?_⟩ | refine ⟨_, _, At_pure l 4 3 hl (by unfold I64; omega) (by decide), ?_⟩ | (refine st ?_; try simp only [oneB_eq, oneB_size, hsk]) | simp only [oneB_eq, oneB_size, hsk])
   all_goals
   first | rw [madeV_0 rfl] | rw [madeV_1 rfl] | rw [madeV_2 rfl] | rw [madeV_3 rfl]
   refine ⟨(), [0, 1], ?_⟩
   exact leqW21
  ·rintro ⟨⟩
   refine sZ [0, 2, 3, 4] (fun P S K => XvFnIV P (M S.hp S.nx) (.fn 50 []) [(S.get 0), (.atom (.int .i64 3)), (.atom (.int .i64 4))] (fun r1 e1 => K ⟨[(0, S.get 0), (2, S.get 2), (3, S.get 3), (4, r1)], (Eff.hp e1 S.nx S.hp), (S.nx + e1.add.length), S.gh⟩)) fun K hK => ?_
   repeat' (first | (refine hK _ ?_; clear hK K) | ((first | refine xG_intro (fun hg => ?_) (fun hg => ?_) | refine fun (hg : (_ : Prop)) => ?_) <;> ((try simp only [BQ] at hg); try (exfalso; omega))) | refine And.intro ?_ ?_ | exact cl | exact one_madeV _ | refine one_take ?_ _ | refine one_drop ?_ _ | refine .inl ⟨_, _, At_pure l 0 2 hl (by unfold I64; omega) (by decide), ?_⟩ | refine ⟨_, _, At_pure l 0 2 hl (by unfold I64; omega) (by decide), ?_⟩ | refine .inl ⟨_, _, At_pure l 1 2 hl (by unfold I64; omega) (by decide), ?_⟩ | refine ⟨_, _, At_pure l 1 2 hl (by unfold I64; omega) (by decide), ?_⟩ | refine .inl ⟨_, _, At_pure l 2 4 hl (by unfold I64; omega) (by decide), ?_⟩ | refine ⟨_, _, At_pure l 2 4 hl (by unfold I64; omega) (by decide), ?_⟩ | refine .inl ⟨_, _, At_pure l 3 4 hl (by unfold I64; omega) (by decide), ?_⟩ | refine ⟨_, _, At_pure l 3 4 hl (by unfold I64; omega) (by decide), ?_⟩ | refine .inl ⟨_, _, At_pure l 4 3 hl (by unfold I64; omega) (by decide), ?_⟩ | refine ⟨_, _, At_pure l 4 3 hl (by unfold I64; omega) (by decide), ?_⟩ | (refine st ?_; try simp only [oneB_eq, oneB_size]) | simp only [oneB_eq, oneB_size])
   all_goals
   refine Tri.seq ?_
   refine sZ [0, 2, 3, 4, 5] (fun P S K => K ⟨[(0, S.get 0), (2, S.get 2), (3, S.get 3), (4, S.get 4), (5, (.atom (.int .i64 0)))], S.hp, S.nx, S.gh⟩) fun K hK => ?_
   repeat' (first | (refine hK _ ?_; clear hK K) | ((first | refine xG_intro (fun hg => ?_) (fun hg => ?_) | refine fun (hg : (_ : Prop)) => ?_) <;> ((try simp only [BQ] at hg); try (exfalso; omega))) | refine And.intro ?_ ?_ | exact cl | exact one_madeV _ | refine one_take ?_ _ | refine one_drop ?_ _ | (refine st ?_; try simp only [oneB_eq, oneB_size]) | simp only [oneB_eq, oneB_size])
   refine Tri.bornF 1 3 1 4 _ rfl rfl ?_
   all_goals
   refine Tri.block ?_
   refine Tri.loop (α := (i : Nat) ×' (i ≤ 26)) (fun z => (fun (i : Nat) => (⟨[(0, ints l), (2, .ptr 0 4 0 0), (3, .ptr 1 4 0 0), (4, encI (atI l 3 4)), (5, encI i)], [(0, some ⟨4, [.agg [.atom (.bool false), .atom (.slice none 0 0), .atom (.bool false), .atom (.slice none 0 0)]]⟩), (1, some ⟨4, [.agg [.atom (.bool (decide (atI l 0 2 = 0))), madeV (atI l 2 4), .atom (.bool (decide (atI l 1 2 = 0))), .ob 2 1 0 (orderN (atI l 3 4) i).length]]⟩), (2, some ⟨1, (orderN (atI l 3 4) i).map encS⟩)], 3, []⟩ : St)) z.1) (fun z => (fun (i : Nat) => 26 - i) z.1) ⟨0, by omega⟩ [0, 1, 2] ?_ ?_
   ·exact leqW21
   ·rintro ⟨i, hi⟩
    refine Tri.seq ?_
    refine sZ [0, 2, 3, 4, 5, 29] (fun P S K => XvBinOV P .lss 3 (.const (.int .i64 26)) (S.get 5) (.atom (.int .i64 26)) (fun r1 _ => K ⟨[(0, S.get 0), (2, S.get 2), (3, S.get 3), (4, S.get 4), (5, S.get 5), (29, r1)], S.hp, S.nx, S.gh⟩)) fun K hK => ?_
    repeat' (first | (refine hK _ ?_; clear hK K) | ((first | refine xG_intro (fun hg => ?_) (fun hg => ?_) | refine fun (hg : (_ : Prop)) => ?_) <;> ((try simp only [BQ] at hg); try (exfalso; omega))) | refine And.intro ?_ ?_ | exact cl | exact one_madeV _ | refine one_take ?_ _ | refine one_drop ?_ _ | (refine st ?_; try simp only [oneB_eq, oneB_size]) | simp only [oneB_eq, oneB_size])
    all_goals
    refine Tri.cond rfl (fun h29 => ?_) (fun h29 => ?_)
    ·try (cases h29; done)
     all_goals (try simp only [CQ] at h29)
     all_goals
     refine Tri.skip ?_
     refine Tri.seq ?_
     refine Tri.block ?_
     refine sZ [0, 2, 3, 4, 5, 6] (fun P S K => K ⟨[(0, S.get 0), (2, S.get 2), (3, S.get 3), (4, S.get 4), (5, S.get 5), (6, (S.get 5))], S.hp, S.nx, S.gh⟩) fun K hK => ?_
     repeat' (first | (refine hK _ ?_; clear hK K) | ((first | refine xG_intro (fun hg => ?_) (fun hg => ?_) | refine fun (hg : (_ : Prop)) => ?_) <;> ((try simp only [BQ] at hg); try (exfalso; omega))) | refine And.intro ?_ ?_ | exact cl | exact one_madeV _ | refine one_take ?_ _ | refine one_drop ?_ _ | (refine st ?_; try simp only [oneB_eq, oneB_size]) | simp only [oneB_eq, oneB_size])
     all_goals
     refine Tri.cut (α := Unit) (fun ⟨⟩ => ⟨[(0, ints l), (2, .ptr 0 4 0 0), (3, .ptr 1 4 0 0), (4, encI (atI l 3 4)), (5, encI i), (6, encI (kOf (atI l 3 4) i))], [(0, some ⟨4, [.agg [.atom (.bool false), .atom (.slice none 0 0), .atom (.bool false), .atom (.slice none 0 0)]]⟩), (1, some ⟨4, [.agg [.atom (.bool (decide (atI l 0 2 = 0))), madeV (atI l 2 4), .atom (.bool (decide (atI l 1 2 = 0))), .ob 2 1 0 (orderN (atI l 3 4) i).length]]⟩), (2, some ⟨1, (orderN (atI l 3 4) i).map encS⟩)], 3, []⟩) ?_ ?_
     ·skip
      refine sZ [0, 2, 3, 4, 5, 6, 35] (fun P S K => XvBinOV P .rem 3 (.const (.int .i64 2)) (S.get 4) (.atom (.int .i64 2)) (fun r1 _ => XvBinOV P .eql 3 (.const (.int .i64 1)) r1 (.atom (.int .i64 1)) (fun r2 _ => K ⟨[(0, S.get 0), (2, S.get 2), (3, S.get 3), (4, S.get 4), (5, S.get 5), (6, S.get 6), (35, r2)], S.hp, S.nx, S.gh⟩))) fun K hK => ?_
      repeat' (first | (refine hK _ ?_; clear hK K) | ((first | refine xG_intro (fun hg => ?_) (fun hg => ?_) | refine fun (hg : (_ : Prop)) => ?_) <;> ((try simp only [BQ] at hg); try (exfalso; omega))) | refine And.intro ?_ ?_ | exact cl | exact one_madeV _ | refine one_take ?_ _ | refine one_drop ?_ _ | (refine st ?_; try simp only [oneB_eq, oneB_size]) | simp only [oneB_eq, oneB_size])
      all_goals
      refine Tri.cond rfl (fun h35 => ?_) (fun h35 => ?_)
      ·try (cases h35; done)
       all_goals (try simp only [CQ] at h35)
       all_goals
       refine rZ [0, 2, 3, 4, 5, 6] (fun P S K => XvBinOV P .sub 3 (.tmp 36) (.atom (.int .i64 25)) (S.get 5) (fun r1 _ => K ⟨[(0, S.get 0), (2, S.get 2), (3, S.get 3), (4, S.get 4), (5, S.get 5), (6, r1)], S.hp, S.nx, S.gh⟩)) fun K hK => ?_
       repeat' (first | (refine hK _ ?_; clear hK K) | ((first | refine xG_intro (fun hg => ?_) (fun hg => ?_) | refine fun (hg : (_ : Prop)) => ?_) <;> ((try simp only [BQ] at hg); try (exfalso; omega))) | refine And.intro ?_ ?_ | exact cl | exact one_madeV _ | refine one_take ?_ _ | refine one_drop ?_ _ | (refine st ?_; try simp only [oneB_eq, oneB_size]) | simp only [oneB_eq, oneB_size])
       all_goals try simp (disch := omega) only [wrap_id, wrap8_id]
       all_goals
       first | rw [kOf_pos h35] | rw [kOf_neg h35]
       refine ⟨(), [0, 1, 2], ?_⟩
       exact leqW21
      ·try (cases h35; done)
       all_goals (try simp only [CQ] at h35)
       all_goals
       refine Tri.skip ?_
       first | rw [kOf_pos h35] | rw [kOf_neg h35]
       refine ⟨(), [0, 1, 2], ?_⟩
       exact leqW21
     ·rintro ⟨⟩
      have hkr := kOf_range (kind := atI l 3 4) (i := i) (by omega)
      have hol := orderN_len (atI l 3 4) i
      refine sZ [0, 2, 3, 4, 5, 6, 7] (fun P S K => XvBinOV P .add 3 (.tmp 38) (.atom (.int .i64 97)) (S.get 6) (fun r1 _ => XvConvert P 3 5 (M S.hp S.nx) r1 (fun r2 e2 => XvBuildS P 28 1 (S.nx + e2.add.length) [(0, r2)] (fun r3 e3 => XvConvert P 28 9 (M (Eff.hp e3 (S.nx + e2.add.length) (Eff.hp e2 S.nx S.hp)) ((S.nx + e2.add.length) + e3.add.length)) r3 (fun r4 e4 => K ⟨[(0, S.get 0), (2, S.get 2), (3, S.get 3), (4, S.get 4), (5, S.get 5), (6, S.get 6), (7, r4)], (Eff.hp e4 ((S.nx + e2.add.length) + e3.add.length) (Eff.hp e3 (S.nx + e2.add.length) (Eff.hp e2 S.nx S.hp))), (((S.nx + e2.add.length) + e3.add.length) + e4.add.length), S.gh⟩))))) fun K hK => ?_
      repeat' (first | (refine hK _ ?_; clear hK K) | ((first | refine xG_intro (fun hg => ?_) (fun hg => ?_) | refine fun (hg : (_ : Prop)) => ?_) <;> ((try simp only [BQ] at hg); try (exfalso; omega))) | refine And.intro ?_ ?_ | exact cl | exact one_madeV _ | refine one_take ?_ _ | refine one_drop ?_ _ | (refine st ?_; try simp only [oneB_eq, oneB_size]) | simp only [oneB_eq, oneB_size])
      all_goals try simp (disch := omega) only [wrap_id, wrap8_id]
      all_goals
      refine sZ [0, 2, 3, 4, 5, 7, 8] (fun P S K => XvBinOV P .add 3 (.tmp 43) (.atom (.int .i64 65)) (S.get 6) (fun r1 _ => XvConvert P 3 5 (M S.hp S.nx) r1 (fun r2 e2 => XvBuildS P 28 1 (S.nx + e2.add.length) [(0, r2)] (fun r3 e3 => XvConvert P 28 9 (M (Eff.hp e3 (S.nx + e2.add.length) (Eff.hp e2 S.nx S.hp)) ((S.nx + e2.add.length) + e3.add.length)) r3 (fun r4 e4 => K ⟨[(0, S.get 0), (2, S.get 2), (3, S.get 3), (4, S.get 4), (5, S.get 5), (7, S.get 7), (8, r4)], (Eff.hp e4 ((S.nx + e2.add.length) + e3.add.length) (Eff.hp e3 (S.nx + e2.add.length) (Eff.hp e2 S.nx S.hp))), (((S.nx + e2.add.length) + e3.add.length) + e4.add.length), S.gh⟩))))) fun K hK => ?_
      repeat' (first | (refine hK _ ?_; clear hK K) | ((first | refine xG_intro (fun hg => ?_) (fun hg => ?_) | refine fun (hg : (_ : Prop)) => ?_) <;> ((try simp only [BQ] at hg); try (exfalso; omega))) | refine And.intro ?_ ?_ | exact cl | exact one_madeV _ | refine one_take ?_ _ | refine one_drop ?_ _ | (refine st ?_; try simp only [oneB_eq, oneB_size]) | simp only [oneB_eq, oneB_size])
      all_goals try simp (disch := omega) only [wrap_id, wrap8_id]
      all_goals
      refine sZ [0, 2, 3, 4, 5, 7, 8, 49] (fun P S K => XvBinOV P .lss 3 (.const (.int .i64 2)) (S.get 4) (.atom (.int .i64 2)) (fun r1 _ => K ⟨[(0, S.get 0), (2, S.get 2), (3, S.get 3), (4, S.get 4), (5, S.get 5), (7, S.get 7), (8, S.get 8), (49, r1)], S.hp, S.nx, S.gh⟩)) fun K hK => ?_
      repeat' (first | (refine hK _ ?_; clear hK K) | ((first | refine xG_intro (fun hg => ?_) (fun hg => ?_) | refine fun (hg : (_ : Prop)) => ?_) <;> ((try simp only [BQ] at hg); try (exfalso; omega))) | refine And.intro ?_ ?_ | exact cl | exact one_madeV _ | refine one_take ?_ _ | refine one_drop ?_ _ | (refine st ?_; try simp only [oneB_eq, oneB_size]) | simp only [oneB_eq, oneB_size])
      all_goals
      refine Tri.cond rfl (fun h49 => ?_) (fun h49 => ?_)
      ·try (cases h49; done)
       all_goals (try simp only [CQ] at h49)
       all_goals
       refine rZ [0, 2, 3, 4, 5] (fun P S K => XvFieldAddr P 35 3 (S.get 3) (fun r0 _ => XvLoad P 25 (M S.hp S.nx) r0 (fun r1 _ => XvBinOV P .add 9 (.tmp 53) (S.get 7) (S.get 8) (fun r4 _ => XvBuildS P 25 1 S.nx [(0, r4)] (fun r5 e5 => (25 = 25 ∧ XvAppend P 25 (M (Eff.hp e5 S.nx S.hp) (S.nx + e5.add.length)) r1 r5 (fun r6 e6 => XvFieldAddr P 35 3 (S.get 3) (fun r7 _ => XvStore P 25 (M (Eff.hp e6 (S.nx + e5.add.length) (Eff.hp e5 S.nx S.hp)) ((S.nx + e5.add.length) + e6.add.length)) r7 r6 (fun r8 e8 => K ⟨[(0, S.get 0), (2, S.get 2), (3, S.get 3), (4, S.get 4), (5, S.get 5)], (Eff.hp e8 ((S.nx + e5.add.length) + e6.add.length) (Eff.hp e6 (S.nx + e5.add.length) (Eff.hp e5 S.nx S.hp))), (((S.nx + e5.add.length) + e6.add.length) + e8.add.length), S.gh⟩))))))))) fun K hK => ?_
       repeat' (first | (refine hK _ ?_; clear hK K) | ((first | refine xG_intro (fun hg => ?_) (fun hg => ?_) | refine fun (hg : (_ : Prop)) => ?_) <;> ((try simp only [BQ] at hg); try (exfalso; omega))) | refine And.intro ?_ ?_ | exact cl | exact one_madeV _ | refine one_take ?_ _ | refine one_drop ?_ _ | (refine st ?_; try simp only [oneB_eq, oneB_size]) | simp only [oneB_eq, oneB_size])
       all_goals try simp (disch := omega) only [wrap_id, wrap8_id]
       all_goals
       refine rZ [0, 2, 3, 4, 5] (fun P S K => XvBinOV P .add 3 (.const (.int .i64 1)) (S.get 5) (.atom (.int .i64 1)) (fun r1 _ => K ⟨[(0, S.get 0), (2, S.get 2), (3, S.get 3), (4, S.get 4), (5, r1)], S.hp, S.nx, S.gh⟩)) fun K hK => ?_
       repeat' (first | (refine hK _ ?_; clear hK K) | ((first | refine xG_intro (fun hg => ?_) (fun hg => ?_) | refine fun (hg : (_ : Prop)) => ?_) <;> ((try simp only [BQ] at hg); try (exfalso; omega))) | refine And.intro ?_ ?_ | exact cl | exact one_madeV _ | refine one_take ?_ _ | refine one_drop ?_ _ | (refine st ?_; try simp only [oneB_eq, oneB_size]) | simp only [oneB_eq, oneB_size])
       all_goals try simp (disch := omega) only [wrap_id, wrap8_id]
       all_goals
       first
       | (refine ⟨⟨i + 1, by omega⟩, [0, 1, 6], by dsimp only; omega, ?_⟩
          dsimp only
          rw [orderN_lt h49]
          exact leqW21)
       | (refine ⟨⟨i + 1, by omega⟩, [0, 1, 6], by dsimp only; omega, ?_⟩
          dsimp only
          rw [orderN_ge h49]
          exact leqW21)
      ·try (cases h49; done)
       all_goals (try simp only [CQ] at h49)
       all_goals
       refine rZ [0, 2, 3, 4, 5] (fun P S K => XvFieldAddr P 35 3 (S.get 3) (fun r0 _ => XvLoad P 25 (M S.hp S.nx) r0 (fun r1 _ => XvBuildS P 25 2 S.nx [(0, (S.get 8)), (1, (S.get 7))] (fun r4 e4 => (25 = 25 ∧ XvAppend P 25 (M (Eff.hp e4 S.nx S.hp) (S.nx + e4.add.length)) r1 r4 (fun r5 e5 => XvFieldAddr P 35 3 (S.get 3) (fun r6 _ => XvStore P 25 (M (Eff.hp e5 (S.nx + e4.add.length) (Eff.hp e4 S.nx S.hp)) ((S.nx + e4.add.length) + e5.add.length)) r6 r5 (fun r7 e7 => K ⟨[(0, S.get 0), (2, S.get 2), (3, S.get 3), (4, S.get 4), (5, S.get 5)], (Eff.hp e7 ((S.nx + e4.add.length) + e5.add.length) (Eff.hp e5 (S.nx + e4.add.length) (Eff.hp e4 S.nx S.hp))), (((S.nx + e4.add.length) + e5.add.length) + e7.add.length), S.gh⟩)))))))) fun K hK => ?_
       repeat' (first | (refine hK _ ?_; clear hK K) | ((first | refine xG_intro (fun hg => ?_) (fun hg => ?_) | refine fun (hg : (_ : Prop)) => ?_) <;> ((try simp only [BQ] at hg); try (exfalso; omega))) | refine And.intro ?_ ?_ | exact cl | exact one_madeV _ | refine one_take ?_ _ | refine one_drop ?_ _ | (refine st ?_; try simp only [oneB_eq, oneB_size]) | simp only [oneB_eq, oneB_size])
       all_goals
       refine rZ [0, 2, 3, 4, 5] (fun P S K => XvBinOV P .add 3 (.const (.int .i64 1)) (S.get 5) (.atom (.int .i64 1)) (fun r1 _ => K ⟨[(0, S.get 0), (2, S.get 2), (3, S.get 3), (4, S.get 4), (5, r1)], S.hp, S.nx, S.gh⟩)) fun K hK => ?_
       repeat' (first | (refine hK _ ?_; clear hK K) | ((first | refine xG_intro (fun hg => ?_) (fun hg => ?_) | refine fun (hg : (_ : Prop)) => ?_) <;> ((try simp only [BQ] at hg); try (exfalso; omega))) | refine And.intro ?_ ?_ | exact cl | exact one_madeV _ | refine one_take ?_ _ | refine one_drop ?_ _ | (refine st ?_; try simp only [oneB_eq, oneB_size]) | simp only [oneB_eq, oneB_size])
       all_goals try simp (disch := omega) only [wrap_id, wrap8_id]
       all_goals
       first
       | (refine ⟨⟨i + 1, by omega⟩, [0, 1, 6], by dsimp only; omega, ?_⟩
          dsimp only
          rw [orderN_lt h49]
          exact leqW21)
       | (refine ⟨⟨i + 1, by omega⟩, [0, 1, 6], by dsimp only; omega, ?_⟩
          dsimp only
          rw [orderN_ge h49]
          exact leqW21)
    ·try (cases h29; done)
     all_goals (try simp only [CQ] at h29)
     all_goals
     refine Tri.exit ?_
     have hi26 : i = 26 := by omega
     subst hi26
     have hol := orderN_len (atI l 3 4) 26
     generalize ho : orderN (atI l 3 4) 26 = o at hol ⊢
     refine sZ [2, 3, 9] (fun P S K => XvFnIV P (M S.hp S.nx) (.fn 50 []) [(S.get 0), (.atom (.int .i64 4)), (.atom (.int .i64 3))] (fun r1 e1 => K ⟨[(2, S.get 2), (3, S.get 3), (9, r1)], (Eff.hp e1 S.nx S.hp), (S.nx + e1.add.length), S.gh⟩)) fun K hK => ?_
     repeat' (first | (refine hK _ ?_; clear hK K) | ((first | refine xG_intro (fun hg => ?_) (fun hg => ?_) | refine fun (hg : (_ : Prop)) => ?_) <;> ((try simp only [BQ] at hg); try (exfalso; omega))) | refine And.intro ?_ ?_ | exact cl | exact one_madeV _ | refine one_take ?_ _ | refine one_drop ?_ _ | refine .inl ⟨_, _, At_pure l 0 2 hl (by unfold I64; omega) (by decide), ?_⟩ | refine ⟨_, _, At_pure l 0 2 hl (by unfold I64; omega) (by decide), ?_⟩ | refine .inl ⟨_, _, At_pure l 1 2 hl (by unfold I64; omega) (by decide), ?_⟩ | refine ⟨_, _, At_pure l 1 2 hl (by unfold I64; omega) (by decide), ?_⟩ | refine .inl ⟨_, _, At_pure l 2 4 hl (by unfold I64; omega) (by decide), ?_⟩ | refine ⟨_, _, At_pure l 2 4 hl (by unfold I64; omega) (by decide), ?_⟩ | refine .inl ⟨_, _, At_pure l 3 4 hl (by unfold I64; omega) (by decide), ?_⟩ | refine ⟨_, _, At_pure l 3 4 hl (by unfold I64; omega) (by decide), ?_⟩ | refine .inl ⟨_, _, At_pure l 4 3 hl (by unfold I64; omega) (by decide), ?_⟩ | refine ⟨_, _, At_pure l 4 3 hl (by unfold I64; omega) (by decide), ?_⟩ | (refine st ?_; try simp only [oneB_eq, oneB_size]) | simp only [oneB_eq, oneB_size])
     all_goals
     refine Tri.seq ?_
     refine sZ [2, 3, 9, 68] (fun P S K => XvBinOV P .eql 3 (.const (.int .i64 1)) (S.get 9) (.atom (.int .i64 1)) (fun r1 _ => K ⟨[(2, S.get 2), (3, S.get 3), (9, S.get 9), (68, r1)], S.hp, S.nx, S.gh⟩)) fun K hK => ?_
     repeat' (first | (refine hK _ ?_; clear hK K) | ((first | refine xG_intro (fun hg => ?_) (fun hg => ?_) | refine fun (hg : (_ : Prop)) => ?_) <;> ((try simp only [BQ] at hg); try (exfalso; omega))) | refine And.intro ?_ ?_ | exact cl | exact one_madeV _ | refine one_take ?_ _ | refine one_drop ?_ _ | (refine st ?_; try simp only [oneB_eq, oneB_size]) | simp only [oneB_eq, oneB_size])
     all_goals
     refine Tri.cond rfl (fun h68 => ?_) (fun h68 => ?_)
     ·try (cases h68; done)
      all_goals (try simp only [CQ] at h68)
      all_goals
      refine rZ [2, 3, 9] (fun P S K => XvBuildS P 25 1 S.nx [(0, (.atom (.string { data := #[48, 49, 50, 51, 52, 53, 54, 55, 56, 57] })))] (fun r0 e0 => XvFieldAddr P 35 3 (S.get 3) (fun r1 _ => XvLoad P 25 (M (Eff.hp e0 S.nx S.hp) (S.nx + e0.add.length)) r1 (fun r2 _ => (25 = 25 ∧ XvAppend P 25 (M (Eff.hp e0 S.nx S.hp) (S.nx + e0.add.length)) r0 r2 (fun r3 e3 => XvFieldAddr P 35 3 (S.get 3) (fun r4 _ => XvStore P 25 (M (Eff.hp e3 (S.nx + e0.add.length) (Eff.hp e0 S.nx S.hp)) ((S.nx + e0.add.length) + e3.add.length)) r4 r3 (fun r5 e5 => K ⟨[(2, S.get 2), (3, S.get 3), (9, S.get 9)], (Eff.hp e5 ((S.nx + e0.add.length) + e3.add.length) (Eff.hp e3 (S.nx + e0.add.length) (Eff.hp e0 S.nx S.hp))), (((S.nx + e0.add.length) + e3.add.length) + e5.add.length), S.gh⟩)))))))) fun K hK => ?_
      repeat' (first | (refine hK _ ?_; clear hK K) | ((first | refine xG_intro (fun hg => ?_) (fun hg => ?_) | refine fun (hg : (_ : Prop)) => ?_) <;> ((try simp only [BQ] at hg); try (exfalso; omega))) | refine And.intro ?_ ?_ | exact cl | exact one_madeV _ | refine one_take ?_ _ | refine one_drop ?_ _ | (refine st ?_; try simp only [oneB_eq, oneB_size]) | simp only [oneB_eq, oneB_size])
      all_goals
      refine Tri.seq ?_
      refine sZ [2, 3, 75] (fun P S K => XvBinOV P .eql 3 (.const (.int .i64 2)) (S.get 9) (.atom (.int .i64 2)) (fun r1 _ => K ⟨[(2, S.get 2), (3, S.get 3), (75, r1)], S.hp, S.nx, S.gh⟩)) fun K hK => ?_
      repeat' (first | (refine hK _ ?_; clear hK K) | ((first | refine xG_intro (fun hg => ?_) (fun hg => ?_) | refine fun (hg : (_ : Prop)) => ?_) <;> ((try simp only [BQ] at hg); try (exfalso; omega))) | refine And.intro ?_ ?_ | exact cl | exact one_madeV _ | refine one_take ?_ _ | refine one_drop ?_ _ | (refine st ?_; try simp only [oneB_eq, oneB_size]) | simp only [oneB_eq, oneB_size])
      all_goals
      refine Tri.cond rfl (fun h75 => ?_) (fun h75 => ?_)
      ·try (cases h75; done)
       all_goals (try simp only [CQ] at h75)
       all_goals
       refine rZ [2, 3] (fun P S K => XvFieldAddr P 35 3 (S.get 3) (fun r0 _ => XvLoad P 25 (M S.hp S.nx) r0 (fun r1 _ => XvBuildS P 25 3 S.nx [(0, (.atom (.string { data := #[48, 49] }))), (1, (.atom (.string { data := #[50] }))), (2, (.atom (.string { data := #[51, 52, 53, 54, 55, 56, 57, 45] })))] (fun r2 e2 => (25 = 25 ∧ XvAppend P 25 (M (Eff.hp e2 S.nx S.hp) (S.nx + e2.add.length)) r1 r2 (fun r3 e3 => XvFieldAddr P 35 3 (S.get 3) (fun r4 _ => XvStore P 25 (M (Eff.hp e3 (S.nx + e2.add.length) (Eff.hp e2 S.nx S.hp)) ((S.nx + e2.add.length) + e3.add.length)) r4 r3 (fun r5 e5 => K ⟨[(2, S.get 2), (3, S.get 3)], (Eff.hp e5 ((S.nx + e2.add.length) + e3.add.length) (Eff.hp e3 (S.nx + e2.add.length) (Eff.hp e2 S.nx S.hp))), (((S.nx + e2.add.length) + e3.add.length) + e5.add.length), S.gh⟩)))))))) fun K hK => ?_
       repeat' (first | (refine hK _ ?_; clear hK K) | ((first | refine xG_intro (fun hg => ?_) (fun hg => ?_) | refine fun (hg : (_ : Prop)) => ?_) <;> ((try simp only [BQ] at hg); try (exfalso; omega))) | refine And.intro ?_ ?_ | exact cl | exact one_madeV _ | refine one_take ?_ _ | refine one_drop ?_ _ | (refine st ?_; try simp only [oneB_eq, oneB_size]) | simp only [oneB_eq, oneB_size])
       all_goals
       refine sZ [2] (fun P S K => XvLoad P 35 (M S.hp S.nx) (S.get 3) (fun r0 _ => XvStore P 35 (M S.hp S.nx) (S.get 2) r0 (fun r1 e1 => K ⟨[(2, S.get 2)], (Eff.hp e1 S.nx S.hp), (S.nx + e1.add.length), S.gh⟩))) fun K hK => ?_
       repeat' (first | (refine hK _ ?_; clear hK K) | ((first | refine xG_intro (fun hg => ?_) (fun hg => ?_) | refine fun (hg : (_ : Prop)) => ?_) <;> ((try simp only [BQ] at hg); try (exfalso; omega))) | refine And.intro ?_ ?_ | exact cl | exact one_madeV _ | refine one_take ?_ _ | refine one_drop ?_ _ | (refine st ?_; try simp only [oneB_eq, oneB_size]) | simp only [oneB_eq, oneB_size])
       all_goals
       refine Tri.ret ?_
       show ResR _ _ _ _ _
       have hfin : madeO (atI l 3 4) (atI l 4 3) = (if atI l 4 3 = 1 then digS :: o else if atI l 4 3 = 2 then o ++ dig3 else o) := by rw [← ho]; rfl
       unfold madeP
       rw [hfin]
       refine ResR.cell1 (PV.agg [_, _, _, _]) rfl ?_ ?_
       · simp [sealed, sealed_madeV, St.obj, lk, strs, encS, digS, dig3, h68, h75, List.take_of_length_le, Nat.add_comm 1]
       · simp [PV.pure, pureL, pure_madeV, pure_strs]
      ·try (cases h75; done)
       all_goals (try simp only [CQ] at h75)
       all_goals
       refine Tri.skip ?_
       refine sZ [2] (fun P S K => XvLoad P 35 (M S.hp S.nx) (S.get 3) (fun r0 _ => XvStore P 35 (M S.hp S.nx) (S.get 2) r0 (fun r1 e1 => K ⟨[(2, S.get 2)], (Eff.hp e1 S.nx S.hp), (S.nx + e1.add.length), S.gh⟩))) fun K hK => ?_
       repeat' (first | (refine hK _ ?_; clear hK K) | ((first | refine xG_intro (fun hg => ?_) (fun hg => ?_) | refine fun (hg : (_ : Prop)) => ?_) <;> ((try simp only [BQ] at hg); try (exfalso; omega))) | refine And.intro ?_ ?_ | exact cl | exact one_madeV _ | refine one_take ?_ _ | refine one_drop ?_ _ | (refine st ?_; try simp only [oneB_eq, oneB_size]) | simp only [oneB_eq, oneB_size])
       all_goals
       refine Tri.ret ?_
       show ResR _ _ _ _ _
       have hfin : madeO (atI l 3 4) (atI l 4 3) = (if atI l 4 3 = 1 then digS :: o else if atI l 4 3 = 2 then o ++ dig3 else o) := by rw [← ho]; rfl
       unfold madeP
       rw [hfin]
       refine ResR.cell1 (PV.agg [_, _, _, _]) rfl ?_ ?_
       · simp [sealed, sealed_madeV, St.obj, lk, strs, encS, digS, dig3, h68, h75, List.take_of_length_le, Nat.add_comm 1]
       · simp [PV.pure, pureL, pure_madeV, pure_strs]
     ·try (cases h68; done)
      all_goals (try simp only [CQ] at h68)
      all_goals
      refine Tri.skip ?_
      refine Tri.seq ?_
      refine sZ [2, 3, 75] (fun P S K => XvBinOV P .eql 3 (.const (.int .i64 2)) (S.get 9) (.atom (.int .i64 2)) (fun r1 _ => K ⟨[(2, S.get 2), (3, S.get 3), (75, r1)], S.hp, S.nx, S.gh⟩)) fun K hK => ?_
      repeat' (first | (refine hK _ ?_; clear hK K) | ((first | refine xG_intro (fun hg => ?_) (fun hg => ?_) | refine fun (hg : (_ : Prop)) => ?_) <;> ((try simp only [BQ] at hg); try (exfalso; omega))) | refine And.intro ?_ ?_ | exact cl | exact one_madeV _ | refine one_take ?_ _ | refine one_drop ?_ _ | (refine st ?_; try simp only [oneB_eq, oneB_size]) | simp only [oneB_eq, oneB_size])
      all_goals
      refine Tri.cond rfl (fun h75 => ?_) (fun h75 => ?_)
      ·try (cases h75; done)
       all_goals (try simp only [CQ] at h75)
       all_goals
       refine rZ [2, 3] (fun P S K => XvFieldAddr P 35 3 (S.get 3) (fun r0 _ => XvLoad P 25 (M S.hp S.nx) r0 (fun r1 _ => XvBuildS P 25 3 S.nx [(0, (.atom (.string { data := #[48, 49] }))), (1, (.atom (.string { data := #[50] }))), (2, (.atom (.string { data := #[51, 52, 53, 54, 55, 56, 57, 45] })))] (fun r2 e2 => (25 = 25 ∧ XvAppend P 25 (M (Eff.hp e2 S.nx S.hp) (S.nx + e2.add.length)) r1 r2 (fun r3 e3 => XvFieldAddr P 35 3 (S.get 3) (fun r4 _ => XvStore P 25 (M (Eff.hp e3 (S.nx + e2.add.length) (Eff.hp e2 S.nx S.hp)) ((S.nx + e2.add.length) + e3.add.length)) r4 r3 (fun r5 e5 => K ⟨[(2, S.get 2), (3, S.get 3)], (Eff.hp e5 ((S.nx + e2.add.length) + e3.add.length) (Eff.hp e3 (S.nx + e2.add.length) (Eff.hp e2 S.nx S.hp))), (((S.nx + e2.add.length) + e3.add.length) + e5.add.length), S.gh⟩)))))))) fun K hK => ?_
       repeat' (first | (refine hK _ ?_; clear hK K) | ((first | refine xG_intro (fun hg => ?_) (fun hg => ?_) | refine fun (hg : (_ : Prop)) => ?_) <;> ((try simp only [BQ] at hg); try (exfalso; omega))) | refine And.intro ?_ ?_ | exact cl | exact one_madeV _ | refine one_take ?_ _ | refine one_drop ?_ _ | (refine st ?_; try simp only [oneB_eq, oneB_size]) | simp only [oneB_eq, oneB_size])
       all_goals
       refine sZ [2] (fun P S K => XvLoad P 35 (M S.hp S.nx) (S.get 3) (fun r0 _ => XvStore P 35 (M S.hp S.nx) (S.get 2) r0 (fun r1 e1 => K ⟨[(2, S.get 2)], (Eff.hp e1 S.nx S.hp), (S.nx + e1.add.length), S.gh⟩))) fun K hK => ?_
       repeat' (first | (refine hK _ ?_; clear hK K) | ((first | refine xG_intro (fun hg => ?_) (fun hg => ?_) | refine fun (hg : (_ : Prop)) => ?_) <;> ((try simp only [BQ] at hg); try (exfalso; omega))) | refine And.intro ?_ ?_ | exact cl | exact one_madeV _ | refine one_take ?_ _ | refine one_drop ?_ _ | (refine st ?_; try simp only [oneB_eq, oneB_size]) | simp only [oneB_eq, oneB_size])
       all_goals
       refine Tri.ret ?_
       show ResR _ _ _ _ _
       have hfin : madeO (atI l 3 4) (atI l 4 3) = (if atI l 4 3 = 1 then digS :: o else if atI l 4 3 = 2 then o ++ dig3 else o) := by rw [← ho]; rfl
       unfold madeP
       rw [hfin]
       refine ResR.cell1 (PV.agg [_, _, _, _]) rfl ?_ ?_
       · simp [sealed, sealed_madeV, St.obj, lk, strs, encS, digS, dig3, h68, h75, List.take_of_length_le, Nat.add_comm 1]
       · simp [PV.pure, pureL, pure_madeV, pure_strs]
      ·try (cases h75; done)
       all_goals (try simp only [CQ] at h75)
       all_goals
       refine Tri.skip ?_
       refine sZ [2] (fun P S K => XvLoad P 35 (M S.hp S.nx) (S.get 3) (fun r0 _ => XvStore P 35 (M S.hp S.nx) (S.get 2) r0 (fun r1 e1 => K ⟨[(2, S.get 2)], (Eff.hp e1 S.nx S.hp), (S.nx + e1.add.length), S.gh⟩))) fun K hK => ?_
       repeat' (first | (refine hK _ ?_; clear hK K) | ((first | refine xG_intro (fun hg => ?_) (fun hg => ?_) | refine fun (hg : (_ : Prop)) => ?_) <;> ((try simp only [BQ] at hg); try (exfalso; omega))) | refine And.intro ?_ ?_ | exact cl | exact one_madeV _ | refine one_take ?_ _ | refine one_drop ?_ _ | (refine st ?_; try simp only [oneB_eq, oneB_size]) | simp only [oneB_eq, oneB_size])
       all_goals
       refine Tri.ret ?_
       show ResR _ _ _ _ _
       have hfin : madeO (atI l 3 4) (atI l 4 3) = (if atI l 4 3 = 1 then digS :: o else if atI l 4 3 = 2 then o ++ dig3 else o) := by rw [← ho]; rfl
       unfold madeP
       rw [hfin]
       refine ResR.cell1 (PV.agg [_, _, _, _]) rfl ?_ ?_
       · simp [sealed, sealed_madeV, St.obj, lk, strs, encS, digS, dig3, h68, h75, List.take_of_length_le, Nat.add_comm 1]
       · simp [PV.pure, pureL, pure_madeV, pure_strs]
end Go.Proofs.YtfnkciboencifaaDoor
