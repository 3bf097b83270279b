/-
  The law CollateRelations: for every input it answers true.
-/
import Derived.Test.YtfnkciboencifaaDoorOW1
import Derived.Test.YtfnkciboencifaaDoorOV17
import Derived.Test.YtfnkciboencifaaDoorOL4
import Derived.Test.YtfnkciboencifaaDoorOW8
set_option linter.all false
namespace Go.Proofs.YtfnkciboencifaaDoor
open Go Go.RowKit
set_option linter.unusedSimpArgs false
set_option linter.unusedVariables false
set_option maxRecDepth 20000
set_option maxHeartbeats 2000000
def AsSl (sz : Nat) (l : List PV) (x : PV) : Prop := x = .sl sz l ∨ (l = [] ∧ x = .atom (.slice none 0 0))
theorem AsSl.rep {sz : Nat} {l : List PV} {x : PV} (h : AsSl sz l x) {D : Nat → Prop} {μ : Nat → Option Nat} {F : Nat → Prop} {w : World} {v : Value} (hr : Rep D μ F w x v) : Rep D μ F w (.sl sz l) v := by
  rcases h with rfl | ⟨rfl, rfl⟩
  · exact hr
  · rw [nil_val hr]
    exact .sl0 sz none 0 (by unfold maxLen; omega) (fun _ => rfl) (fun x hx => by cases hx)
theorem Pure.sub {P : Program} {f : FuncId} {args args' : List PV} {r : PV} {os : List AO} (hp : Pure P f args r os) (hl : args'.length = args.length)
    (h : ∀ i (h1 : i < args.length) (h2 : i < args'.length) (D : Nat → Prop) (μ : Nat → Option Nat) (F : Nat → Prop) (w : World) (v : Value), Rep D μ F w args'[i] v → Rep D μ F w args[i] v) : Pure P f args' r os :=
  ⟨hp.1, fun D μ F w vs h1 h2 h3 => hp.2 D μ F w vs (h1.trans hl) (fun i hi => h i hi (by omega) D μ F w _ (h2 i (by omega))) h3⟩
theorem AsSl.pure {sz : Nat} {l : List PV} {x : PV} (h : AsSl sz l x) (hl : pureL l = true) : x.pure = true := by
  rcases h with rfl | ⟨rfl, rfl⟩
  · exact hl
  · rfl
theorem dec_self {α : Type} [DecidableEq α] (a : α) : decide (a = a) = true := decide_eq_true rfl
end Go.Proofs.YtfnkciboencifaaDoor
set_option linter.all false
namespace Go.Proofs.YtfnkciboencifaaDoor
open Go Go.RowKit
set_option linter.unusedVariables false
set_option linter.unusedSimpArgs false
theorem strsAt_rep {D : Nat → Prop} {μ : Nat → Option Nat} {F : Nat → Prop} {w : World} {l : List ByteArray} {v : Value} (h : Rep D μ F w (strs l) v) (hl : ∀ x, x ∈ l → x.size ≤ 9223372036854775807) : Elder.StrsAt w v l := by
  refine ⟨?_, Elder.Sizes.of hl⟩
  unfold strs at h
  generalize hm : l.map encS = m at h
  have hlen : m.length = l.length := by rw [← hm, List.length_map]
  cases h with
  | sl0 _ a cap hc hn hs =>
    have hl0 : l.length = 0 := by simpa using hlen.symm
    refine ⟨a, cap, by rw [hl0], by omega, hc, fun e => ⟨hl0, hn e⟩, fun x hx => ⟨hs x hx, fun i hi => by omega⟩⟩
  | sl _ _ b off cap g hF hlc hc hcell h1 h2 =>
    refine ⟨some ⟨b, off, none⟩, cap, by rw [hlen], by omega, hc, fun e => (by cases e), ?_⟩
    rintro x ⟨⟩
    refine ⟨rfl, fun i hi => ?_⟩
    have hi' : i < m.length := by omega
    have e0 : m[i] = encS (ls l i) := by subst hm; simp [ls, List.getD_eq_getElem?_getD, hi]
    have e1 : m[i].cells = [encS (ls l i)] := by rw [e0]; rfl
    have hc0 : 0 < m[i].cells.length := by rw [e1]; exact Nat.zero_lt_one
    have hr := h2 i hi' 0 hc0
    have e2 : m[i].cells[0] = encS (ls l i) := by rw [gl e1 hc0]; rfl
    rw [e2] at hr
    have := hr.atomEq
    have hcc := hcell (i * 1) (by omega)
    rw [Nat.mul_one] at hcc
    rw [Nat.mul_one, Nat.add_zero] at this
    rw [this] at hcc
    exact hcc
structure Tame (s : SpecD) : Prop where
  skips : ∀ x, x ∈ s.skip → x.size ≤ 9223372036854775807
  orders : ∀ x, x ∈ s.order → x.size ≤ 9223372036854775807
theorem Sane.tame {s : SpecD} (h : Sane s) : Tame s := ⟨fun x hx => Nat.le_trans (h.skips x hx) (by decide), fun x hx => Nat.le_trans (h.orders x hx) (by decide)⟩
theorem specAt_rep {D : Nat → Prop} {μ : Nat → Option Nat} {F : Nat → Prop} {w : World} {s : SpecD} {v : Value} (h : Rep D μ F w (encSpec s) v) (hs : Tame s) : Elder.SpecAt w v (toE s) := by
  unfold encSpec at h
  cases h with
  | agg _ vs hn hr =>
    have hn4 : vs.size = 4 := hn
    have h0 := (hr 0 (by simp)).atomEq
    have h1 := hr 1 (by simp)
    have h2 := (hr 2 (by simp)).atomEq
    have h3 := hr 3 (by simp)
    refine ⟨vs.getD 1 undef, vs.getD 3 undef, ?_, strsAt_rep h1 hs.skips, strsAt_rep h3 hs.orders⟩
    congr 1
    refine Array.ext (by rw [hn4]; rfl) fun i g1 g2 => ?_
    have e : vs[i] = vs.getD i undef := by simp [Array.getD, g1]
    rw [e]
    match i, g2 with
    | 0, _ => exact h0
    | 1, _ => rfl
    | 2, _ => exact h2
    | 3, _ => rfl
theorem args_eq {vs : Array Value} {l : List Value} (hn : vs.size = l.length) (h : ∀ i, i < l.length → vs.getD i undef = l.getD i undef) : vs = l.toArray := by
  refine Array.ext (by simpa using hn) fun i g1 g2 => ?_
  have hi : i < l.length := by simpa using g2
  have := h i hi
  simpa [Array.getD, g1, List.getD_eq_getElem?_getD, hi] using this
theorem cValid_pure (s : SpecD) (hs : Tame s) : Pure Tryd.prog 13 [encSpec s] (encI (validE s)) [] := by
  refine ⟨enters_of Tryd.func13 (by kernel_rfl) rfl, fun D μ F w vs hvs hargs hF => ?_⟩
  have e : vs = [vs.getD 0 undef].toArray := args_eq hvs (fun i hi => by
    match i, hi with
    | 0, _ => rfl)
  have h0 := hargs 0 (by simp)
  rw [e]
  refine (Elder.Valid_any _ _ w (specAt_rep h0 hs)).mono fun e w' he => ?_
  obtain ⟨rfl, hb⟩ := he
  rw [validD_eq]
  exact ⟨_, rfl, hb, ResIs.atom _⟩
theorem ownI_rep {w w' : World} {v : Value} {l : List Int} (h : Elder.OwnI w' w.heap.size v l) : Rep (fun i => i < ([] : List AO).length) (fun _ => none) (fun b => w.heap.size ≤ b ∧ b < w'.heap.size) w' (ints l) v := by
  obtain ⟨hlen, h | ⟨g, cap, cur, rfl, hg, hgg, h1, h2, h3, h4⟩⟩ := h
  · obtain ⟨rfl, hn⟩ := h
    have : l = [] := List.length_eq_zero_iff.1 hn
    subst this
    exact .sl0 1 none 0 (Nat.zero_le _) (fun _ => rfl) (fun x hx => by cases hx)
  · by_cases hz : l.length = 0
    · have hz' : l = [] := List.length_eq_zero_iff.1 hz
      subst hz'
      exact .sl0 1 _ cap h2 (fun e => by cases e) (fun x hx => by cases hx; rfl)
    · have hlt : g < w'.heap.size := by
        rcases Nat.lt_or_ge g w'.heap.size with hh | hh
        · exact hh
        · rw [Array.getElem?_eq_none hh] at hgg; cases hgg
      have := Rep.sl (D := fun i => i < ([] : List AO).length) (μ := fun _ => none) (F := fun b => w.heap.size ≤ b ∧ b < w'.heap.size) (w := w') 1 (l.map encI) g 0 cap (fun j => .int .i64 (li l j)) ⟨hg, hlt⟩ (by simpa using h1) h2
        (fun j hj => by
          have hj' : j < l.length := by simpa using hj
          have hcur : cur[j]? = some (.int .i64 (li l j)) := by
            have e : (cur.toList.take (l.length * 1))[j]? = (Elder.ints l)[j]? := by rw [h4]
            rw [List.getElem?_take, if_pos (by omega)] at e
            rw [← Array.getElem?_toList, e]
            simp [Elder.ints, li, List.getD_eq_getElem?_getD, hj']
          have hb : w'.cell? ⟨g, 0 + j, none⟩ = some (.int .i64 (li l j)) := by
            rw [Nat.zero_add]
            simp only [World.cell?, hgg]
            simpa using hcur
          exact hb) (fun k hk => by simp [encI, PV.cells]) (fun k hk c hcc => by
          have hk' : k < l.length := by simpa using hk
          have e0 : ((l.map encI)[k]).cells = [encI (li l k)] := by simp [encI, PV.cells, li, List.getD_eq_getElem?_getD, hk']
          have hc0 : c = 0 := by rw [e0] at hcc; simpa using hcc
          subst hc0
          rw [gl e0 hcc]
          simp only [List.getElem_cons_zero, Nat.mul_one, Nat.add_zero]
          exact Rep.atom _)
      rw [List.length_map] at this
      exact this
def IsSpec (s : SpecD) (x : PV) : Prop := ∃ sv ov, x = .agg [.atom (.bool s.words), sv, .atom (.bool s.numbers), ov] ∧ AsSl 1 (s.skip.map encS) sv ∧ AsSl 1 (s.order.map encS) ov
theorem IsSpec.rep {s : SpecD} {x : PV} (h : IsSpec s x) {D : Nat → Prop} {μ : Nat → Option Nat} {F : Nat → Prop} {w : World} {v : Value} (hr : Rep D μ F w x v) : Rep D μ F w (encSpec s) v := by
  obtain ⟨sv, ov, rfl, h1, h2⟩ := h
  cases hr with
  | agg _ vs hn hr =>
    exact .agg _ vs hn fun i hi => by
      match i, hi with
      | 0, _ => exact hr 0 (by simp)
      | 1, _ => exact h1.rep (hr 1 (by simp))
      | 2, _ => exact hr 2 (by simp)
      | 3, _ => exact h2.rep (hr 3 (by simp))
theorem IsSpec.self (s : SpecD) : IsSpec s (encSpec s) := ⟨_, _, rfl, .inl rfl, .inl rfl⟩
theorem IsSpec.pure {s : SpecD} {x : PV} (h : IsSpec s x) : x.pure = true := by
  obtain ⟨sv, ov, rfl, h1, h2⟩ := h
  have a := h1.pure (pureL_encS _)
  have b := h2.pure (pureL_encS _)
  simp [PV.pure, pureL, a, b]
theorem Pure.spec {P : Program} {f : FuncId} {s : SpecD} {x : PV} {rest : List PV} {r : PV} {os : List AO} (hp : Pure P f (encSpec s :: rest) r os) (h : IsSpec s x) : Pure P f (x :: rest) r os :=
  hp.sub rfl fun i h1 h2 D μ F w v hr => by
    match i, h1 with
    | 0, _ => exact h.rep hr
    | i + 1, _ => exact hr
end Go.Proofs.YtfnkciboencifaaDoor
set_option linter.all false
namespace Go.Proofs.YtfnkciboencifaaDoor
open Go Go.RowKit
set_option linter.unusedSimpArgs false
set_option linter.unusedVariables false
set_option maxRecDepth 20000
set_option maxHeartbeats 2000000
theorem leqW9 {p : Prop} (h : p := by (refine ⟨4, ?_, ?_, rfl, by simp, rfl, fun _ h _ => absurd h (Nat.not_lt_zero _)⟩ <;> (simp only [List.forall_mem_cons]; repeat' (first | refine And.intro ?_ ?_ | (intro p hp; exact absurd hp List.not_mem_nil) | rfl | exact sp (pure_spec _) | exact sp (pure_paths _) | exact (sealed_pure _ _ _ (pure_ints _)).trans (ren_ints _ _).symm | exact (sealed_pure _ _ _ (pure_strs _)).trans (ren_strs _ _).symm | exact sp (by assumption) | (intro o ho; cases ho; refine ⟨by decide, ?_⟩; first | (refine LeqS.row rfl ?_ ?_; (next => (first | rfl | (simp only [List.map_append, List.map_cons, List.map_nil, List.append_nil, List.nil_append, List.append_assoc, List.cons_append, encI, encS, ints, strs]; done) | (simp [encI, encS, ints, strs, insI, nI]; done))); (next => (first | rfl | exact pureL_encI _ | exact pureL_encS _ | exact pureL_ints _ | exact pureL_strs _ | (simp [pureL_append, pureL_encI, pureL_encS, pureL_ints, pureL_strs, pureL, PV.pure, pure_ints, pure_strs, pure_spec, pure_paths]; done))); done) | refine ⟨_, rfl, rfl, ?_⟩) | (simp [St.born, St.known, retV, St.get, St.obj, lk, sealed, PV.ren, renL, rmap, AO.ren, ints, strs, encI, encS, map_sealed_encI, map_sealed_encS, map_sealed_ints, map_sealed_strs, map_ren_encI, map_ren_encS, map_ren_ints, map_ren_strs, renL_encI, renL_encS, renL_ints, renL_strs, ren_spec, ren_paths, paths] <;> omega))))) : p := h
theorem lsrW9 {p : Prop} (h : p := by (first | rfl | (simp [St.born, St.known, retV, St.get, St.obj, lk, sealed, PV.ren, renL, rmap, AO.ren, ints, strs, encI, encS, map_sealed_encI, map_sealed_encS, map_sealed_ints, map_sealed_strs, map_ren_encI, map_ren_encS, map_ren_ints, map_ren_strs, renL_encI, renL_encS, renL_ints, renL_strs, ren_spec, ren_paths, paths]; done))) : p := h
theorem lpvW9 {p : Prop} (h : p := by (first | rfl | (simp [pure_ints, pure_strs, PV.pure, pureL, pureL_encI, pureL_encS, pureL_ints, pureL_strs, pure_spec, pure_paths]; done))) : p := h
def paths (l : List (List ByteArray)) : PV := .sl 1 (l.map strs)
theorem pure_paths (l : List (List ByteArray)) : (paths l).pure = true := pureL_map strs pure_strs l
theorem ren_paths (ρ : Nat → Nat) (l : List (List ByteArray)) : (paths l).ren ρ = paths l := ren_pure ρ _ (pure_paths l)
def lexL : List (List Int) → List (List Int) → Int
  | [], [] => 0
  | [], _ :: _ => -1
  | _ :: _, [] => 1
  | a :: x, b :: y => if lexi a b ≠ 0 then lexi a b else lexL x y
theorem lexL_len {a b : List (List Int)} (h : a = [] ∨ b = []) : lexL a b = if a.length < b.length then -1 else if b.length < a.length then 1 else 0 := by
  cases a <;> cases b <;> simp_all [lexL]
theorem lexL_end {a b : List (List Int)} {k : Nat} (hk : a.length ≤ k ∨ b.length ≤ k) (ha : k ≤ a.length) (hb : k ≤ b.length) : lexL (a.drop k) (b.drop k) = if a.length < b.length then -1 else if b.length < a.length then 1 else 0 := by
  rw [lexL_len (by rcases hk with h | h; exact .inl (List.drop_eq_nil_of_le h); exact .inr (List.drop_eq_nil_of_le h))]
  simp only [List.length_drop]
  split <;> split <;> first | rfl | omega | (split <;> first | rfl | omega)
theorem keyOf_len (s : SpecD) (t : ByteArray) (ht : t.size ≤ 4096) : (keyOf s t).length ≤ 9223372036854775807 := by
  have h1 := keyL_len s t (counted s t) true (fun x hx => words_size t x (counted_sub s t x hx))
  have h2 := counted_len s t
  have a : (counted s t).length * (3 * t.size + 1) ≤ 4097 * 12289 := Nat.mul_le_mul (by omega) (by omega)
  have b : (counted s t).length * t.size ≤ 4097 * 4096 := Nat.mul_le_mul (by omega) (by omega)
  unfold keyOf
  simp only [List.length_append, List.length_cons, List.length_nil]
  omega
theorem drop_map_key (s : SpecD) {l : List ByteArray} {k : Nat} (h : k < l.length) : (l.map (keyOf s)).drop k = keyOf s (ls l k) :: (l.map (keyOf s)).drop (k + 1) := by
  rw [← List.map_drop, ← List.map_drop, drop_ls h]; rfl
theorem ComparePaths_pure (s : SpecD) (a b : List ByteArray) (hs : Sane s) (ha : a.length ≤ 1000000000) (hb : b.length ≤ 1000000000) (haz : ∀ x, x ∈ a → x.size ≤ 4096) (hbz : ∀ x, x ∈ b → x.size ≤ 4096) :
    Pure Tryd.prog 55 [encSpec s, strs a, strs b] (encI (lexL (a.map (keyOf s)) (b.map (keyOf s)))) [] := by
  refine Pure.intro (ts := [6]) Tryd.func55 (by kernel_rfl) rfl rfl rfl (Nat.le_of_ble_eq_true rfl) ?_ ?_
  · simp [encB, encS, encSpec, PV.pure, pureL, pure_strs]
  refine sZ [1, 2, 3] (fun P S K => XvBox S.nx (S.get 0) (fun r0 e0 => K ⟨[(1, S.get 1), (2, S.get 2), (3, r0)], (Eff.hp e0 S.nx S.hp), (S.nx + e0.add.length), S.gh⟩)) fun K hK => ?_
  repeat' (first | (refine hK _ ?_; clear hK K) | ((first | refine xG_intro (fun hg => ?_) (fun hg => ?_) | refine fun (hg : (_ : Prop)) => ?_) <;> ((try simp only [BQ] at hg); try (exfalso; omega))) | refine And.intro ?_ ?_ | exact cl | refine one_take ?_ _ | refine one_drop ?_ _ | (refine st ?_; try simp only [encSpec]) | simp only [encSpec])
  all_goals
  refine Tri.seq ?_
  refine sY [1, 2, 3, 7] (fun P S K => K ⟨[(1, S.get 1), (2, S.get 2), (3, S.get 3), (7, (.atom (.int .i64 0)))], S.hp, S.nx, S.gh⟩) ?_
  all_goals
  refine Tri.block ?_
  refine Tri.loop (α := (k : Nat) ×' ((k ≤ a.length ∧ k ≤ b.length) ∧ lexL (a.map (keyOf s)) (b.map (keyOf s)) = lexL ((a.map (keyOf s)).drop k) ((b.map (keyOf s)).drop k))) (fun z => (fun (k : Nat) => (⟨[(1, strs a), (2, strs b), (3, .ptr 0 4 0 0), (7, encI k)], [(0, some ⟨4, [encSpec s]⟩)], 1, []⟩ : St)) z.1) (fun z => (fun (k : Nat) => a.length - k) z.1) ⟨0, ⟨by omega, rfl⟩⟩ [0] ?_ ?_
  ·exact leqW9
  ·rintro ⟨k, ⟨⟨hk, hk2⟩, hkj⟩⟩
   refine Tri.seq ?_
   refine sZ [1, 2, 3, 7, 18] (fun P S K => XvLen P 25 (S.get 1) (fun r2 _ => XvBinOV P .lss 3 (.tmp 11) (S.get 7) r2 (fun r3 _ => Xgq r3 true (fun k => k (S.get 7)) (fun g5 r5 => Xgq g5 true (fun k => k (S.get 2)) (fun g6 r6 => Xgq g6 true (fun k => XvLen P 25 r6 (fun r7 _ => k r7)) (fun g7 r7 => Xgq g7 true (fun k => XvBinOV P .lss 3 (.tmp 16) r5 r7 (fun r8 _ => k r8)) (fun g8 r8 => XvPick g8 r8 (.atom (.bool false)) (fun r9 _ => K ⟨[(1, S.get 1), (2, S.get 2), (3, S.get 3), (7, S.get 7), (18, r9)], S.hp, S.nx, S.gh⟩)))))))) fun K hK => ?_
   repeat' (first | (refine hK _ ?_; clear hK K) | ((first | refine xG_intro (fun hg => ?_) (fun hg => ?_) | refine fun (hg : (_ : Prop)) => ?_) <;> ((try simp only [BQ] at hg); try (exfalso; omega))) | refine And.intro ?_ ?_ | exact cl | refine one_take ?_ _ | refine one_drop ?_ _ | (refine st ?_; try simp only [encSpec]) | simp only [encSpec])
   all_goals
   refine Tri.cond rfl (fun h18 => ?_) (fun h18 => ?_)
   ·try (cases h18; done)
    all_goals (try simp only [CQ] at h18)
    all_goals
    refine Tri.skip ?_
    refine Tri.seq ?_
    refine Tri.block ?_
    have hka : k < a.length := by omega
    have hkb : k < b.length := by omega
    have hza := haz _ (ls_mem hka)
    have hzb := hbz _ (ls_mem hkb)
    have hl : lexL (a.map (keyOf s)) (b.map (keyOf s)) = if lexi (keyOf s (ls a k)) (keyOf s (ls b k)) ≠ 0 then lexi (keyOf s (ls a k)) (keyOf s (ls b k)) else lexL ((a.map (keyOf s)).drop (k + 1)) ((b.map (keyOf s)).drop (k + 1)) := by rw [hkj, drop_map_key s hka, drop_map_key s hkb]; rfl
    refine sD 14 [1, 2, 3, 7, 8] (fun P GD S K => XvLoad P 35 (M S.hp S.nx) (S.get 3) (fun r0 e0 => XvIndexAddr P 25 (S.get 1) (S.get 7) (fun r3 e3 => XvLoad P 9 (M S.hp S.nx) r3 (fun r4 e4 => XvFnV P (M S.hp S.nx) (.fn 47 []) [r0, r4] (fun r5 e5 => XvLoad P 35 (M (Eff.hp e5 S.nx S.hp) (S.nx + e5.add.length)) (S.get 3) (fun r6 e6 => XvIndexAddr P 25 (S.get 2) (S.get 7) (fun r9 e9 => XvLoad P 9 (M (Eff.hp e5 S.nx S.hp) (S.nx + e5.add.length)) r9 (fun r10 e10 => XvFnV P (M (Eff.hp e5 S.nx S.hp) (S.nx + e5.add.length)) (.fn 47 []) [r6, r10] (fun r11 e11 => XvFnV P (M (Eff.hp e11 (S.nx + e5.add.length) (Eff.hp e5 S.nx S.hp)) ((S.nx + e5.add.length) + e11.add.length)) (.fn 49 []) [r5, r11] (fun r12 e12 => (trOk S.nx GD [⟨S.nx, 0, e0.rd, [], []⟩, ⟨S.nx, 0, [], [], []⟩, ⟨S.nx, 0, [], [], []⟩, ⟨S.nx, 0, e3.rd, [], []⟩, ⟨S.nx, 0, e4.rd, [], []⟩, (Eff.tr e5 S.nx), ⟨(S.nx + e5.add.length), 0, e6.rd, [], []⟩, ⟨(S.nx + e5.add.length), 0, [], [], []⟩, ⟨(S.nx + e5.add.length), 0, [], [], []⟩, ⟨(S.nx + e5.add.length), 0, e9.rd, [], []⟩, ⟨(S.nx + e5.add.length), 0, e10.rd, [], []⟩, (Eff.tr e11 (S.nx + e5.add.length)), (Eff.tr e12 ((S.nx + e5.add.length) + e11.add.length)), ⟨(((S.nx + e5.add.length) + e11.add.length) + e12.add.length), 0, [], [], []⟩] = true ∧ K ⟨[(1, S.get 1), (2, S.get 2), (3, S.get 3), (7, S.get 7), (8, r12)], (Eff.hp e12 ((S.nx + e5.add.length) + e11.add.length) (Eff.hp e11 (S.nx + e5.add.length) (Eff.hp e5 S.nx S.hp))), (((S.nx + e5.add.length) + e11.add.length) + e12.add.length), S.gh⟩))))))))))) fun K hK => ?_
    repeat' (first | (refine hK _ ?_; clear hK K) | (refine (?_ : trOk _ _ _ = true); kernel_rfl) | ((first | refine xG_intro (fun hg => ?_) (fun hg => ?_) | refine fun (hg : (_ : Prop)) => ?_) <;> ((try simp only [BQ] at hg); try (exfalso; omega))) | refine And.intro ?_ ?_ | exact cl | refine one_take ?_ _ | refine one_drop ?_ _ | refine .inl ⟨_, _, made_pure s (ls a k) hs hza, ?_⟩ | refine ⟨_, _, made_pure s (ls a k) hs hza, ?_⟩ | refine .inl ⟨_, _, made_pure s (ls b k) hs hzb, ?_⟩ | refine ⟨_, _, made_pure s (ls b k) hs hzb, ?_⟩ | refine .inl ⟨_, _, Lexical_pure (keyOf s (ls a k)) (keyOf s (ls b k)) (keyOf_len _ _ hza) (keyOf_len _ _ hzb), ?_⟩ | refine ⟨_, _, Lexical_pure (keyOf s (ls a k)) (keyOf s (ls b k)) (keyOf_len _ _ hza) (keyOf_len _ _ hzb), ?_⟩ | (refine st ?_; try simp only [encSpec, getD_encS hka, getD_encS hkb]) | simp only [encSpec, getD_encS hka, getD_encS hkb])
    all_goals
    refine sY [1, 2, 3, 7, 8, 35] (fun P S K => XvBinOV P .neq 3 (.const (.int .i64 0)) (S.get 8) (.atom (.int .i64 0)) (fun r1 _ => K ⟨[(1, S.get 1), (2, S.get 2), (3, S.get 3), (7, S.get 7), (8, S.get 8), (35, r1)], S.hp, S.nx, S.gh⟩)) ?_
    all_goals
    refine Tri.cond rfl (fun h35 => ?_) (fun h35 => ?_)
    ·try (cases h35; done)
     all_goals (try simp only [CQ] at h35)
     all_goals
     refine sY [6] (fun P S K => K ⟨[(6, (S.get 8))], S.hp, S.nx, S.gh⟩) ?_
     all_goals
     refine Tri.ret ?_
     show ResOk _ _ _ _
     rw [hl, if_pos h35]
     exact ResOk.val lsrW9 lpvW9
    ·try (cases h35; done)
     all_goals (try simp only [CQ] at h35)
     all_goals
     refine Tri.skip ?_
     refine rY [1, 2, 3, 7] (fun P S K => XvBinOV P .add 3 (.const (.int .i64 1)) (S.get 7) (.atom (.int .i64 1)) (fun r1 _ => K ⟨[(1, S.get 1), (2, S.get 2), (3, S.get 3), (7, r1)], S.hp, S.nx, S.gh⟩)) ?_
     all_goals try simp (disch := omega) only [wrap_id, wrap8_id]
     all_goals
     refine ⟨⟨k + 1, by omega, by rw [hl, if_neg (by simpa using h35)]⟩, [0], by dsimp only; omega, ?_⟩
     exact leqW9
   ·try (cases h18; done)
    all_goals (try simp only [CQ] at h18)
    all_goals
    refine Tri.exit ?_
    refine Tri.seq ?_
    have hend := lexL_end (a := a.map (keyOf s)) (b := b.map (keyOf s)) (k := k) (by simp only [List.length_map]; omega) (by simpa using hk) (by simpa using hk2)
    rw [← hkj] at hend
    simp only [List.length_map] at hend
    refine sZ [1, 2, 41] (fun P S K => XvLen P 25 (S.get 1) (fun r1 _ => XvLen P 25 (S.get 2) (fun r3 _ => XvBinOV P .lss 3 (.tmp 40) r1 r3 (fun r4 _ => K ⟨[(1, S.get 1), (2, S.get 2), (41, r4)], S.hp, S.nx, S.gh⟩)))) fun K hK => ?_
    repeat' (first | (refine hK _ ?_; clear hK K) | ((first | refine xG_intro (fun hg => ?_) (fun hg => ?_) | refine fun (hg : (_ : Prop)) => ?_) <;> ((try simp only [BQ] at hg); try (exfalso; omega))) | refine And.intro ?_ ?_ | exact cl | refine one_take ?_ _ | refine one_drop ?_ _ | (refine st ?_; try simp only [encSpec]) | simp only [encSpec])
    all_goals
    refine Tri.cond rfl (fun h41 => ?_) (fun h41 => ?_)
    ·try (cases h41; done)
     all_goals (try simp only [CQ] at h41)
     all_goals
     refine sY [6] (fun P S K => K ⟨[(6, (.atom (.int .i64 (-1))))], S.hp, S.nx, S.gh⟩) ?_
     all_goals
     refine Tri.ret ?_
     show ResOk _ _ _ _
     rw [hend, if_pos (by omega)]
     exact ResOk.val lsrW9 lpvW9
    ·try (cases h41; done)
     all_goals (try simp only [CQ] at h41)
     all_goals
     refine Tri.skip ?_
     refine Tri.seq ?_
     refine sZ [46] (fun P S K => XvLen P 25 (S.get 1) (fun r1 _ => XvLen P 25 (S.get 2) (fun r3 _ => XvBinOV P .gtr 3 (.tmp 45) r1 r3 (fun r4 _ => K ⟨[(46, r4)], S.hp, S.nx, S.gh⟩)))) fun K hK => ?_
     repeat' (first | (refine hK _ ?_; clear hK K) | ((first | refine xG_intro (fun hg => ?_) (fun hg => ?_) | refine fun (hg : (_ : Prop)) => ?_) <;> ((try simp only [BQ] at hg); try (exfalso; omega))) | refine And.intro ?_ ?_ | exact cl | refine one_take ?_ _ | refine one_drop ?_ _ | (refine st ?_; try simp only [encSpec]) | simp only [encSpec])
     all_goals
     refine Tri.cond rfl (fun h46 => ?_) (fun h46 => ?_)
     ·try (cases h46; done)
      all_goals (try simp only [CQ] at h46)
      all_goals
      refine sY [6] (fun P S K => K ⟨[(6, (.atom (.int .i64 1)))], S.hp, S.nx, S.gh⟩) ?_
      all_goals
      refine Tri.ret ?_
      show ResOk _ _ _ _
      rw [hend, if_neg (by omega), if_pos (by omega)]
      exact ResOk.val lsrW9 lpvW9
     ·try (cases h46; done)
      all_goals (try simp only [CQ] at h46)
      all_goals
      refine Tri.skip ?_
      refine sY [6] (fun P S K => K ⟨[(6, (.atom (.int .i64 0)))], S.hp, S.nx, S.gh⟩) ?_
      all_goals
      refine Tri.ret ?_
      show ResOk _ _ _ _
      rw [hend, if_neg (by omega), if_neg (by omega)]
      exact ResOk.val lsrW9 lpvW9
end Go.Proofs.YtfnkciboencifaaDoor
set_option linter.all false
namespace Go.Proofs.YtfnkciboencifaaDoor
open Go Go.RowKit
set_option linter.unusedSimpArgs false
set_option linter.unusedVariables false
set_option maxRecDepth 20000
set_option maxHeartbeats 2000000
theorem leqW10 {p : Prop} (h : p := by (refine ⟨4, ?_, ?_, rfl, by simp, rfl, fun _ h _ => absurd h (Nat.not_lt_zero _)⟩ <;> (simp only [List.forall_mem_cons]; repeat' (first | refine And.intro ?_ ?_ | (intro p hp; exact absurd hp List.not_mem_nil) | rfl | exact sp (pure_spec _) | exact sp (pure_paths _) | exact (sealed_pure _ _ _ (pure_ints _)).trans (ren_ints _ _).symm | exact (sealed_pure _ _ _ (pure_strs _)).trans (ren_strs _ _).symm | exact sp (by assumption) | (intro o ho; cases ho; refine ⟨by decide, ?_⟩; first | (refine LeqS.row rfl ?_ ?_; (next => (first | rfl | (simp only [List.map_append, List.map_cons, List.map_nil, List.append_nil, List.nil_append, List.append_assoc, List.cons_append, encI, encS, ints, strs]; done) | (simp [encI, encS, ints, strs, insI, nI]; done))); (next => (first | rfl | exact pureL_encI _ | exact pureL_encS _ | exact pureL_ints _ | exact pureL_strs _ | (simp [pureL_append, pureL_encI, pureL_encS, pureL_ints, pureL_strs, pureL, PV.pure, pure_ints, pure_strs, pure_spec, pure_paths]; done))); done) | refine ⟨_, rfl, rfl, ?_⟩) | (simp [St.born, St.known, retV, St.get, St.obj, lk, sealed, PV.ren, renL, rmap, AO.ren, ints, strs, encI, encS, map_sealed_encI, map_sealed_encS, map_sealed_ints, map_sealed_strs, map_ren_encI, map_ren_encS, map_ren_ints, map_ren_strs, renL_encI, renL_encS, renL_ints, renL_strs, ren_spec, ren_paths, paths] <;> omega))))) : p := h
theorem lstW10 {p : Prop} (h : p := by (first | rfl | (simp [St.born, St.known, retV, St.get, St.obj, lk, sealed, PV.ren, renL, rmap, AO.ren, ints, strs, encI, encS, map_sealed_encI, map_sealed_encS, map_sealed_ints, map_sealed_strs, map_ren_encI, map_ren_encS, map_ren_ints, map_ren_strs, renL_encI, renL_encS, renL_ints, renL_strs, ren_spec, ren_paths, paths, take_map_len, List.take_length]; done))) : p := h
theorem lpvW10 {p : Prop} (h : p := by (first | rfl | (simp [pure_ints, pure_strs, PV.pure, pureL, pureL_encI, pureL_encS, pureL_ints, pureL_strs, pure_spec, pure_paths]; done))) : p := h
theorem dec_yes {p : Prop} [Decidable p] (h : p) : decide p = true := decide_eq_true h
theorem dec_no {p : Prop} [Decidable p] (h : ¬ p) : decide p = false := decide_eq_false h
theorem ls_get {l : List ByteArray} {k : Nat} (h : k < l.length) : ls l k = l[k] := by simp [ls, List.getD_eq_getElem?_getD, h]
def nI (l : List Nat) : List Int := l.map (fun (n : Nat) => (n : Int))
theorem getD_nI {l : List Nat} {j : Nat} (h : j < l.length) : ((nI l).map encI).getD j .junk = encI ((l.getD j 0 : Nat) : Int) := by
  simp [nI, encI, List.getD_eq_getElem?_getD, h]
theorem nI_len (l : List Nat) : (nI l).length = l.length := by simp [nI]
def down (p : Nat → Bool) : Nat → Nat
  | 0 => 0
  | k + 1 => if p k then down p k else k + 1
structure DownI (p : Nat → Bool) (n k : Nat) : Prop where
  le : k ≤ n
  core : down p n = down p k
theorem DownI.step {p : Nat → Bool} {n k : Nat} (h : DownI p n k) (hk : 0 < k) (hc : p (k - 1) = true) : DownI p n (k - 1) := by
  obtain ⟨k, rfl⟩ : ∃ j, k = j + 1 := ⟨k - 1, by omega⟩
  simp only [Nat.add_sub_cancel] at hc ⊢
  refine ⟨by have := h.le; omega, ?_⟩
  rw [h.core, down, if_pos hc]
theorem DownI.stop {p : Nat → Bool} {n k : Nat} (h : DownI p n k) (hc : k = 0 ∨ p (k - 1) = false) : down p n = k := by
  rw [h.core]
  cases k with
  | zero => rfl
  | succ k =>
    simp only [Nat.add_sub_cancel] at hc
    have := hc.resolve_left (by omega)
    rw [down, if_neg (by rw [this]; decide)]
noncomputable def pk (s : SpecD) (l : List (List ByteArray)) (i : Nat) : List (List Int) := (l.getD i []).map (keyOf s)
noncomputable def pless (s : SpecD) (l : List (List ByteArray)) (i : Nat) (out : List Nat) (j : Nat) : Bool := decide (lexL (pk s l i) (pk s l (out.getD j 0)) < 0)
noncomputable def insI (s : SpecD) (l : List (List ByteArray)) (out : List Nat) (i : Nat) : List Nat := insAt out (down (pless s l i out) out.length) i
noncomputable def pathsS (s : SpecD) (l : List (List ByteArray)) : List Nat := (List.range l.length).foldl (insI s l) []
noncomputable def pathsE (s : SpecD) (l : List (List ByteArray)) : Int := if validE s ≠ 0 then validE s else if 1000 < l.length then 4 else tI (∃ p, p ∈ l ∧ ∃ x, x ∈ p ∧ 4096 < x.size) 4 0
noncomputable def pathsR (s : SpecD) (l : List (List ByteArray)) : List Int := if pathsE s l = 0 then nI (pathsS s l) else []
theorem pathsE_bad {s : SpecD} {l : List (List ByteArray)} (h : validE s ≠ 0) : pathsE s l = validE s ∧ pathsR s l = [] := by
  have e : pathsE s l = validE s := if_pos h
  exact ⟨e, if_neg (by rw [e]; exact h)⟩
theorem pathsE_many {s : SpecD} {l : List (List ByteArray)} (h : validE s = 0) (hl : 1000 < l.length) : pathsE s l = 4 ∧ pathsR s l = [] := by
  have e : pathsE s l = 4 := by unfold pathsE; rw [if_neg (by rw [h]; decide), if_pos hl]
  exact ⟨e, if_neg (by rw [e]; decide)⟩
theorem pathsE_long {s : SpecD} {l : List (List ByteArray)} (h : validE s = 0) (hl : ¬ 1000 < l.length) (hx : ∃ p, p ∈ l ∧ ∃ x, x ∈ p ∧ 4096 < x.size) : pathsE s l = 4 ∧ pathsR s l = [] := by
  have e : pathsE s l = 4 := by unfold pathsE; rw [if_neg (by rw [h]; decide), if_neg hl, tI_yes hx]
  exact ⟨e, if_neg (by rw [e]; decide)⟩
theorem pathsE_ok {s : SpecD} {l : List (List ByteArray)} (h : validE s = 0) (hl : ¬ 1000 < l.length) (hx : ¬ ∃ p, p ∈ l ∧ ∃ x, x ∈ p ∧ 4096 < x.size) : pathsE s l = 0 ∧ pathsR s l = nI (pathsS s l) := by
  have e : pathsE s l = 0 := by unfold pathsE; rw [if_neg (by rw [h]; decide), if_neg hl, tI_no hx]
  exact ⟨e, if_pos e⟩
structure PathI (s : SpecD) (l : List (List ByteArray)) (i : Nat) (out : List Nat) : Prop where
  le : i ≤ l.length
  len : out.length = i
  core : out = (List.range i).foldl (insI s l) []
  lt : ∀ x, x ∈ out → x < i
theorem PathI.start (s : SpecD) (l : List (List ByteArray)) : PathI s l 0 [] := ⟨Nat.zero_le _, rfl, rfl, fun x hx => by simp at hx⟩
theorem PathI.next {s : SpecD} {l : List (List ByteArray)} {i : Nat} {out : List Nat} (h : PathI s l i out) (hi : i < l.length) : PathI s l (i + 1) (insI s l out i) := by
  refine ⟨hi, by unfold insI; rw [insAt_len, h.len], by rw [List.range_succ, List.foldl_append, ← h.core]; rfl, fun x hx => ?_⟩
  unfold insI insAt at hx
  rcases List.mem_append.1 hx with hx | hx
  · have := h.lt x (List.mem_of_mem_take hx); omega
  · rcases List.mem_cons.1 hx with rfl | hx
    · omega
    · have := h.lt x (List.mem_of_mem_drop hx); omega
theorem PathI.done {s : SpecD} {l : List (List ByteArray)} {i : Nat} {out : List Nat} (h : PathI s l i out) (hi : l.length ≤ i) : pathsS s l = out := by
  have : i = l.length := by have := h.le; omega
  subst this
  exact h.core.symm
theorem getD_mem {l : List (List ByteArray)} {i : Nat} (h : i < l.length) : l.getD i [] ∈ l := by
  have : l.getD i [] = l[i] := by simp [List.getD_eq_getElem?_getD, h]
  rw [this]; exact List.getElem_mem h
theorem getDN_mem {l : List Nat} {i : Nat} (h : i < l.length) : l.getD i 0 ∈ l := by
  have : l.getD i 0 = l[i] := by simp [List.getD_eq_getElem?_getD, h]
  rw [this]; exact List.getElem_mem h
theorem rPaths_pure (s : SpecD) (l : List (List ByteArray)) (hs : Sane s) (hl : l.length ≤ 1000000000) (hll : ∀ p, p ∈ l → p.length ≤ 1000000000) (hlz : ∀ p, p ∈ l → ∀ x, x ∈ p → x.size ≤ 4294967296) :
    Pure Tryd.prog 26 [encSpec s, paths l] (.tup [ints (pathsR s l), encI (pathsE s l)]) [] := by
  refine Pure.intro (ts := [4, 5]) Tryd.func26 (by kernel_rfl) rfl rfl rfl (Nat.le_of_ble_eq_true rfl) ?_ ?_
  · simp [encB, encS, encSpec, PV.pure, pureL, pure_strs, pure_paths]
  refine sZ [1, 2] (fun P S K => XvBox S.nx (S.get 0) (fun r0 e0 => K ⟨[(1, S.get 1), (2, r0)], (Eff.hp e0 S.nx S.hp), (S.nx + e0.add.length), S.gh⟩)) fun K hK => ?_
  repeat' (first | (refine hK _ ?_; clear hK K) | ((first | refine xG_intro (fun hg => ?_) (fun hg => ?_) | refine fun (hg : (_ : Prop)) => ?_) <;> ((try simp only [BQ] at hg); try (exfalso; omega))) | refine And.intro ?_ ?_ | exact cl | refine one_take ?_ _ | refine one_drop ?_ _ | (refine st ?_; try simp only [encSpec, paths]) | simp only [encSpec, paths])
  all_goals
  refine sZ [1, 2, 6] (fun P S K => XvLoad P 35 (M S.hp S.nx) (S.get 2) (fun r0 _ => XvFnIV P (M S.hp S.nx) (.fn 15 []) [r0] (fun r1 e1 => K ⟨[(1, S.get 1), (2, S.get 2), (6, r1)], (Eff.hp e1 S.nx S.hp), (S.nx + e1.add.length), S.gh⟩))) fun K hK => ?_
  repeat' (first | (refine hK _ ?_; clear hK K) | ((first | refine xG_intro (fun hg => ?_) (fun hg => ?_) | refine fun (hg : (_ : Prop)) => ?_) <;> ((try simp only [BQ] at hg); try (exfalso; omega))) | refine And.intro ?_ ?_ | exact cl | refine one_take ?_ _ | refine one_drop ?_ _ | refine .inl ⟨_, _, rValid_pure s hs, ?_⟩ | refine ⟨_, _, rValid_pure s hs, ?_⟩ | (refine st ?_; try simp only [encSpec, paths]) | simp only [encSpec, paths])
  all_goals
  refine Tri.seq ?_
  refine sY [1, 2, 6, 15] (fun P S K => XvBinOV P .neq 30 (.const (.int .i64 0)) (S.get 6) (.atom (.int .i64 0)) (fun r1 _ => K ⟨[(1, S.get 1), (2, S.get 2), (6, S.get 6), (15, r1)], S.hp, S.nx, S.gh⟩)) ?_
  all_goals
  refine Tri.cond rfl (fun h15 => ?_) (fun h15 => ?_)
  ·try (cases h15; done)
   all_goals (try simp only [CQ] at h15)
   all_goals
   refine sY [4, 5] (fun P S K => K ⟨[(4, (.atom (.slice none 0 0))), (5, (S.get 6))], S.hp, S.nx, S.gh⟩) ?_
   refine Tri.asSl 4 1 rfl ?_
   all_goals
   refine Tri.ret ?_
   show ResOk _ _ _ _
   rw [(pathsE_bad h15).1, (pathsE_bad h15).2]
   exact ResOk.frz 5 lstW10 lpvW10
  ·try (cases h15; done)
   all_goals (try simp only [CQ] at h15)
   all_goals
   refine Tri.skip ?_
   refine Tri.seq ?_
   refine sZ [1, 2, 19] (fun P S K => XvLen P 47 (S.get 1) (fun r1 _ => XvBinOV P .gtr 3 (.const (.int .i64 1000)) r1 (.atom (.int .i64 1000)) (fun r2 _ => K ⟨[(1, S.get 1), (2, S.get 2), (19, r2)], S.hp, S.nx, S.gh⟩))) fun K hK => ?_
   repeat' (first | (refine hK _ ?_; clear hK K) | ((first | refine xG_intro (fun hg => ?_) (fun hg => ?_) | refine fun (hg : (_ : Prop)) => ?_) <;> ((try simp only [BQ] at hg); try (exfalso; omega))) | refine And.intro ?_ ?_ | exact cl | refine one_take ?_ _ | refine one_drop ?_ _ | (refine st ?_; try simp only [encSpec, paths]) | simp only [encSpec, paths])
   all_goals
   refine Tri.cond rfl (fun h19 => ?_) (fun h19 => ?_)
   ·try (cases h19; done)
    all_goals (try simp only [CQ] at h19)
    all_goals
    refine sY [4, 5] (fun P S K => K ⟨[(4, (.atom (.slice none 0 0))), (5, (.atom (.int .i64 4)))], S.hp, S.nx, S.gh⟩) ?_
    refine Tri.asSl 4 1 rfl ?_
    all_goals
    refine Tri.ret ?_
    show ResOk _ _ _ _
    rw [(pathsE_many h15 (by omega)).1, (pathsE_many h15 (by omega)).2]
    exact ResOk.frz 5 lstW10 lpvW10
   ·try (cases h19; done)
    all_goals (try simp only [CQ] at h19)
    all_goals
    refine Tri.skip ?_
    refine sY [1, 2, 7] (fun P S K => K ⟨[(1, S.get 1), (2, S.get 2), (7, (.atom (.slice none 0 0)))], S.hp, S.nx, S.gh⟩) ?_
    refine Tri.born 7 1 rfl ?_
    all_goals
    refine Tri.seq ?_
    refine sY [1, 2, 7, 8] (fun P S K => K ⟨[(1, S.get 1), (2, S.get 2), (7, S.get 7), (8, (.atom (.int .i64 0)))], S.hp, S.nx, S.gh⟩) ?_
    all_goals
    refine Tri.block ?_
    refine Tri.loop (α := (i : Nat) ×' (i ≤ l.length ∧ ∀ j, j < i → ∀ x, x ∈ l.getD j [] → x.size ≤ 4096)) (fun z => (fun (i : Nat) => (⟨[(1, paths l), (2, .ptr 0 4 0 0), (7, .ob 1 1 0 0), (8, encI i)], [(0, some ⟨4, [encSpec s]⟩), (1, some ⟨1, []⟩)], 2, []⟩ : St)) z.1) (fun z => (fun (i : Nat) => l.length - i) z.1) ⟨0, ⟨by omega, by omega⟩⟩ [0, 1] ?_ ?_
    ·exact leqW10
    ·rintro ⟨i, ⟨hi, hsm⟩⟩
     refine Tri.seq ?_
     refine sZ [1, 2, 7, 8, 23] (fun P S K => XvLen P 47 (S.get 1) (fun r2 _ => XvBinOV P .lss 3 (.tmp 22) (S.get 8) r2 (fun r3 _ => K ⟨[(1, S.get 1), (2, S.get 2), (7, S.get 7), (8, S.get 8), (23, r3)], S.hp, S.nx, S.gh⟩))) fun K hK => ?_
     repeat' (first | (refine hK _ ?_; clear hK K) | ((first | refine xG_intro (fun hg => ?_) (fun hg => ?_) | refine fun (hg : (_ : Prop)) => ?_) <;> ((try simp only [BQ] at hg); try (exfalso; omega))) | refine And.intro ?_ ?_ | exact cl | refine one_take ?_ _ | refine one_drop ?_ _ | (refine st ?_; try simp only [encSpec, paths]) | simp only [encSpec, paths])
     all_goals
     refine Tri.cond rfl (fun h23 => ?_) (fun h23 => ?_)
     ·try (cases h23; done)
      all_goals (try simp only [CQ] at h23)
      all_goals
      refine Tri.skip ?_
      refine Tri.seq ?_
      refine Tri.block ?_
      have hil : i < l.length := by omega
      have hpl := hll _ (getD_mem hil)
      refine sY [1, 2, 7, 8, 9] (fun P S K => K ⟨[(1, S.get 1), (2, S.get 2), (7, S.get 7), (8, S.get 8), (9, (.atom (.int .i64 0)))], S.hp, S.nx, S.gh⟩) ?_
      all_goals
      refine Tri.block ?_
      refine Tri.loop (α := (j : Nat) ×' (j ≤ (l.getD i []).length ∧ ∀ x, x < j → (ls (l.getD i []) x).size ≤ 4096)) (fun z => (fun (j : Nat) => (⟨[(1, paths l), (2, .ptr 0 4 0 0), (7, .ob 1 1 0 0), (8, encI i), (9, encI j)], [(0, some ⟨4, [encSpec s]⟩), (1, some ⟨1, []⟩)], 2, []⟩ : St)) z.1) (fun z => (fun (j : Nat) => (l.getD i []).length - j) z.1) ⟨0, ⟨by omega, by omega⟩⟩ [0, 1] ?_ ?_
      ·exact leqW10
      ·rintro ⟨j, ⟨hj, hsj⟩⟩
       refine Tri.seq ?_
       refine sZ [1, 2, 7, 8, 9, 32] (fun P S K => XvIndexAddr P 47 (S.get 1) (S.get 8) (fun r3 _ => XvLoad P 25 (M S.hp S.nx) r3 (fun r4 _ => XvLen P 25 r4 (fun r5 _ => XvBinOV P .lss 3 (.tmp 31) (S.get 9) r5 (fun r6 _ => K ⟨[(1, S.get 1), (2, S.get 2), (7, S.get 7), (8, S.get 8), (9, S.get 9), (32, r6)], S.hp, S.nx, S.gh⟩))))) fun K hK => ?_
       repeat' (first | (refine hK _ ?_; clear hK K) | ((first | refine xG_intro (fun hg => ?_) (fun hg => ?_) | refine fun (hg : (_ : Prop)) => ?_) <;> ((try simp only [BQ] at hg); try (exfalso; omega))) | refine And.intro ?_ ?_ | exact cl | refine one_take ?_ _ | refine one_drop ?_ _ | (refine st ?_; try simp only [encSpec, paths, getD_strs hil]) | simp only [encSpec, paths, getD_strs hil])
       all_goals
       refine Tri.cond rfl (fun h32 => ?_) (fun h32 => ?_)
       ·try (cases h32; done)
        all_goals (try simp only [CQ] at h32)
        all_goals
        refine Tri.skip ?_
        refine Tri.seq ?_
        refine Tri.block ?_
        have hjl : j < (l.getD i []).length := by omega
        refine sZ [1, 2, 7, 8, 9, 43] (fun P S K => XvIndexAddr P 47 (S.get 1) (S.get 8) (fun r2 _ => XvLoad P 25 (M S.hp S.nx) r2 (fun r3 _ => XvIndexAddr P 25 r3 (S.get 9) (fun r5 _ => XvLoad P 9 (M S.hp S.nx) r5 (fun r6 _ => XvLen P 9 r6 (fun r7 _ => XvBinOV P .gtr 3 (.const (.int .i64 4096)) r7 (.atom (.int .i64 4096)) (fun r8 _ => K ⟨[(1, S.get 1), (2, S.get 2), (7, S.get 7), (8, S.get 8), (9, S.get 9), (43, r8)], S.hp, S.nx, S.gh⟩))))))) fun K hK => ?_
        repeat' (first | (refine hK _ ?_; clear hK K) | ((first | refine xG_intro (fun hg => ?_) (fun hg => ?_) | refine fun (hg : (_ : Prop)) => ?_) <;> ((try simp only [BQ] at hg); try (exfalso; omega))) | refine And.intro ?_ ?_ | exact cl | refine one_take ?_ _ | refine one_drop ?_ _ | (refine st ?_; try simp only [encSpec, paths, getD_strs hil, getD_encS hjl]) | simp only [encSpec, paths, getD_strs hil, getD_encS hjl])
        all_goals
        refine Tri.cond rfl (fun h43 => ?_) (fun h43 => ?_)
        ·try (cases h43; done)
         all_goals (try simp only [CQ] at h43)
         all_goals
         refine sY [4, 5] (fun P S K => K ⟨[(4, (.atom (.slice none 0 0))), (5, (.atom (.int .i64 4)))], S.hp, S.nx, S.gh⟩) ?_
         refine Tri.asSl 4 1 rfl ?_
         all_goals
         refine Tri.ret ?_
         show ResOk _ _ _ _
         have hx : ∃ p, p ∈ l ∧ ∃ x, x ∈ p ∧ 4096 < x.size := ⟨_, getD_mem hil, _, ls_mem hjl, by omega⟩
         rw [(pathsE_long h15 (by omega) hx).1, (pathsE_long h15 (by omega) hx).2]
         exact ResOk.frz 5 lstW10 lpvW10
        ·try (cases h43; done)
         all_goals (try simp only [CQ] at h43)
         all_goals
         refine Tri.skip ?_
         refine rY [1, 2, 7, 8, 9] (fun P S K => XvBinOV P .add 3 (.const (.int .i64 1)) (S.get 9) (.atom (.int .i64 1)) (fun r1 _ => K ⟨[(1, S.get 1), (2, S.get 2), (7, S.get 7), (8, S.get 8), (9, r1)], S.hp, S.nx, S.gh⟩)) ?_
         all_goals try simp (disch := omega) only [wrap_id, wrap8_id]
         all_goals
         refine ⟨⟨j + 1, by omega, fun x hx => ?_⟩, [0, 1], by dsimp only; omega, ?_⟩
         · rcases Nat.lt_succ_iff_lt_or_eq.1 hx with hx | rfl
           · exact hsj x hx
           · omega
         · exact leqW10
       ·try (cases h32; done)
        all_goals (try simp only [CQ] at h32)
        all_goals
        refine Tri.exit ?_
        refine rY [1, 2, 7, 8] (fun P S K => XvBinOV P .add 3 (.const (.int .i64 1)) (S.get 8) (.atom (.int .i64 1)) (fun r1 _ => K ⟨[(1, S.get 1), (2, S.get 2), (7, S.get 7), (8, r1)], S.hp, S.nx, S.gh⟩)) ?_
        all_goals try simp (disch := omega) only [wrap_id, wrap8_id]
        all_goals
        refine ⟨⟨i + 1, by omega, fun j' hj' x hx => ?_⟩, [0, 1], by dsimp only; omega, ?_⟩
        · rcases Nat.lt_succ_iff_lt_or_eq.1 hj' with hj' | rfl
          · exact hsm j' hj' x hx
          · obtain ⟨n, hn, rfl⟩ := List.getElem_of_mem hx
            have := hsj n (by omega)
            rw [ls_get hn] at this
            exact this
        · exact leqW10
     ·try (cases h23; done)
      all_goals (try simp only [CQ] at h23)
      all_goals
      refine Tri.exit ?_
      refine Tri.seq ?_
      have hsmall : ∀ p, p ∈ l → ∀ x, x ∈ p → x.size ≤ 4096 := fun p hp => by
        obtain ⟨n, hn, rfl⟩ := List.getElem_of_mem hp
        have := hsm n (by omega)
        have e : l.getD n [] = l[n] := by simp [List.getD_eq_getElem?_getD, hn]
        rw [e] at this
        exact this
      have hnx : ¬ ∃ p, p ∈ l ∧ ∃ x, x ∈ p ∧ 4096 < x.size := fun ⟨p, hp, x, hx, h⟩ => by have := hsmall p hp x hx; omega
      refine sY [1, 2, 7, 10] (fun P S K => K ⟨[(1, S.get 1), (2, S.get 2), (7, S.get 7), (10, (.atom (.int .i64 0)))], S.hp, S.nx, S.gh⟩) ?_
      all_goals
      refine Tri.block ?_
      refine Tri.loop (α := (out : List Nat) ×' (i : Nat) ×' (PathI s l i out)) (fun z => (fun (out : List Nat) (i : Nat) => (⟨[(1, paths l), (2, .ptr 0 4 0 0), (7, .ob 1 1 0 out.length), (10, encI i)], [(0, some ⟨4, [encSpec s]⟩), (1, some ⟨1, (nI out).map encI⟩)], 2, []⟩ : St)) z.1 z.2.1) (fun z => (fun (out : List Nat) (i : Nat) => l.length - i) z.1 z.2.1) ⟨[], 0, PathI.start s l⟩ [0, 1] ?_ ?_
      ·exact leqW10
      ·rintro ⟨out, i, hI⟩
       refine Tri.seq ?_
       refine sZ [1, 2, 7, 10, 47] (fun P S K => XvLen P 47 (S.get 1) (fun r2 _ => XvBinOV P .lss 3 (.tmp 46) (S.get 10) r2 (fun r3 _ => K ⟨[(1, S.get 1), (2, S.get 2), (7, S.get 7), (10, S.get 10), (47, r3)], S.hp, S.nx, S.gh⟩))) fun K hK => ?_
       repeat' (first | (refine hK _ ?_; clear hK K) | ((first | refine xG_intro (fun hg => ?_) (fun hg => ?_) | refine fun (hg : (_ : Prop)) => ?_) <;> ((try simp only [BQ] at hg); try (exfalso; omega))) | refine And.intro ?_ ?_ | exact cl | refine one_take ?_ _ | refine one_drop ?_ _ | (refine st ?_; try simp only [encSpec, paths]) | simp only [encSpec, paths])
       all_goals
       refine Tri.cond rfl (fun h47 => ?_) (fun h47 => ?_)
       ·try (cases h47; done)
        all_goals (try simp only [CQ] at h47)
        all_goals
        refine Tri.skip ?_
        refine Tri.seq ?_
        refine Tri.block ?_
        have hil : i < l.length := by omega
        have hlen := hI.len
        refine sZ [1, 2, 7, 10, 11] (fun P S K => XvLen P 22 (S.get 7) (fun r1 _ => K ⟨[(1, S.get 1), (2, S.get 2), (7, S.get 7), (10, S.get 10), (11, r1)], S.hp, S.nx, S.gh⟩)) fun K hK => ?_
        repeat' (first | (refine hK _ ?_; clear hK K) | ((first | refine xG_intro (fun hg => ?_) (fun hg => ?_) | refine fun (hg : (_ : Prop)) => ?_) <;> ((try simp only [BQ] at hg); try (exfalso; omega))) | refine And.intro ?_ ?_ | exact cl | refine one_take ?_ _ | refine one_drop ?_ _ | (refine st ?_; try simp only [encSpec, paths]) | simp only [encSpec, paths])
        all_goals
        refine Tri.seq ?_
        refine Tri.block ?_
        refine Tri.loop (α := (k : Nat) ×' (DownI (pless s l i out) out.length k)) (fun z => (fun (k : Nat) => (⟨[(1, paths l), (2, .ptr 0 4 0 0), (7, .ob 1 1 0 out.length), (10, encI i), (11, encI k)], [(0, some ⟨4, [encSpec s]⟩), (1, some ⟨1, (nI out).map encI⟩)], 2, []⟩ : St)) z.1) (fun z => (fun (k : Nat) => k) z.1) ⟨out.length, ⟨Nat.le_refl _, rfl⟩⟩ [0, 1] ?_ ?_
        ·exact leqW10
        ·rintro ⟨k, hP⟩
         have hkl := hP.le
         have hko : 0 < k → out.getD (k - 1) 0 < l.length := fun h => by have := hI.lt _ (getDN_mem (show k - 1 < out.length by omega)); omega
         refine Tri.seq ?_
         rcases Nat.eq_zero_or_pos k with hk0 | hk0
         all_goals
         refine sD 19 [1, 2, 7, 10, 11, 70] (fun P GD S K => XvBinOV P .gtr 3 (.const (.int .i64 0)) (S.get 11) (.atom (.int .i64 0)) (fun r1 e1 => Xge r1 true (fun k => XvLoad P 35 (M S.hp S.nx) (S.get 2) k) (fun g3 r3 e3 => Xge g3 true (fun k => k (S.get 1) e0) (fun g4 r4 e4 => Xge g4 true (fun k => k (S.get 10) e0) (fun g5 r5 e5 => Xge g5 true (fun k => XvIndexAddr P 47 r4 r5 k) (fun g6 r6 e6 => Xge g6 true (fun k => XvLoad P 25 (M S.hp S.nx) r6 k) (fun g7 r7 e7 => Xge g7 true (fun k => k (S.get 1) e0) (fun g8 r8 e8 => Xge g8 true (fun k => k (S.get 7) e0) (fun g9 r9 e9 => Xge g9 true (fun k => k (S.get 11) e0) (fun g10 r10 e10 => Xge g10 true (fun k => XvBinOV P .sub 3 (.const (.int .i64 1)) r10 (.atom (.int .i64 1)) k) (fun g11 r11 e11 => Xge g11 true (fun k => XvIndexAddr P 22 r9 r11 k) (fun g12 r12 e12 => Xge g12 true (fun k => XvLoad P 3 (M S.hp S.nx) r12 k) (fun g13 r13 e13 => Xge g13 true (fun k => XvIndexAddr P 47 r8 r13 k) (fun g14 r14 e14 => Xge g14 true (fun k => XvLoad P 25 (M S.hp S.nx) r14 k) (fun g15 r15 e15 => Xge g15 true (fun k => XvFnV P (M S.hp S.nx) (.fn 55 []) [r3, r7, r15] k) (fun g16 r16 e16 => Xge g16 true (fun k => XvBinOV P .lss 3 (.const (.int .i64 0)) r16 (.atom (.int .i64 0)) k) (fun g17 r17 e17 => XvPick g17 r17 (.atom (.bool false)) (fun r18 e18 => (trOk S.nx GD [⟨S.nx, 0, [], [], []⟩, ⟨S.nx, 0, e1.rd, [], []⟩, ⟨S.nx, 0, [], [], []⟩, ⟨S.nx, 0, e3.rd, [], []⟩, ⟨S.nx, 0, e4.rd, [], []⟩, ⟨S.nx, 0, e5.rd, [], []⟩, ⟨S.nx, 0, e6.rd, [], []⟩, ⟨S.nx, 0, e7.rd, [], []⟩, ⟨S.nx, 0, e8.rd, [], []⟩, ⟨S.nx, 0, e9.rd, [], []⟩, ⟨S.nx, 0, e10.rd, [], []⟩, ⟨S.nx, 0, e11.rd, [], []⟩, ⟨S.nx, 0, e12.rd, [], []⟩, ⟨S.nx, 0, e13.rd, [], []⟩, ⟨S.nx, 0, e14.rd, [], []⟩, ⟨S.nx, 0, e15.rd, [], []⟩, (Eff.tr e16 S.nx), ⟨(S.nx + e16.add.length), 0, e17.rd, [], []⟩, ⟨(S.nx + e16.add.length), 0, e18.rd, [], []⟩] = true ∧ K ⟨[(1, S.get 1), (2, S.get 2), (7, S.get 7), (10, S.get 10), (11, S.get 11), (70, r18)], (Eff.hp e16 S.nx S.hp), (S.nx + e16.add.length), S.gh⟩))))))))))))))))))) fun K hK => ?_
         repeat' (first | (refine hK _ ?_; clear hK K) | (refine (?_ : trOk _ _ _ = true); kernel_rfl) | ((first | refine xG_intro (fun hg => ?_) (fun hg => ?_) | refine fun (hg : (_ : Prop)) => ?_) <;> ((try simp only [BQ] at hg); try (exfalso; omega))) | refine And.intro ?_ ?_ | exact cl | refine one_take ?_ _ | refine one_drop ?_ _ | refine .inl ⟨_, _, ComparePaths_pure s (l.getD i []) (l.getD (out.getD (k - 1) 0) []) hs (hll _ (getD_mem hil)) (hll _ (getD_mem (by have := hI.lt _ (getDN_mem (show k - 1 < out.length by omega)); omega))) (hsmall _ (getD_mem hil)) (hsmall _ (getD_mem (by have := hI.lt _ (getDN_mem (show k - 1 < out.length by omega)); omega))), ?_⟩ | refine ⟨_, _, ComparePaths_pure s (l.getD i []) (l.getD (out.getD (k - 1) 0) []) hs (hll _ (getD_mem hil)) (hll _ (getD_mem (by have := hI.lt _ (getDN_mem (show k - 1 < out.length by omega)); omega))) (hsmall _ (getD_mem hil)) (hsmall _ (getD_mem (by have := hI.lt _ (getDN_mem (show k - 1 < out.length by omega)); omega))), ?_⟩ | simp (maxSteps := 2000000) only [↓SD, push_cast, Nat.reduceAdd, Nat.reduceSub, Nat.reduceMul, Nat.reduceLT, Nat.reduceLeDiff, Nat.reduceEqDiff, Int.reduceToNat, reduceIte, reduceCtorEq, Int.reduceLE, Int.reduceLT, Int.reduceNeg, ints, strs, encI, encS, encSpec, paths, dec_yes (show (0 : Int) < (k : Int) by omega), wrap_id (x := ((k : Int) - 1)) (by omega) (by omega), toNat_pred hk0, getD_strs hil, nI_len, getD_nI (show k - 1 < out.length by omega), getD_strs (hko hk0)] | simp (maxSteps := 2000000) only [↓SD, push_cast, Nat.reduceAdd, Nat.reduceSub, Nat.reduceMul, Nat.reduceLT, Nat.reduceLeDiff, Nat.reduceEqDiff, Int.reduceToNat, reduceIte, reduceCtorEq, Int.reduceLE, Int.reduceLT, Int.reduceNeg, ints, strs, encI, encS, encSpec, paths, dec_no (show ¬ (0 : Int) < (k : Int) by omega)])
         all_goals try simp (disch := omega) only [wrap_id, wrap8_id]
         all_goals
         refine Tri.cond rfl (fun h70 => ?_) (fun h70 => ?_)
         ·try (cases h70; done)
          all_goals (try simp only [CQ] at h70)
          all_goals
          refine Tri.skip ?_
          refine Tri.block ?_
          refine rZ [1, 2, 7, 10, 11] (fun P S K => XvBinOV P .sub 3 (.const (.int .i64 1)) (S.get 11) (.atom (.int .i64 1)) (fun r1 _ => K ⟨[(1, S.get 1), (2, S.get 2), (7, S.get 7), (10, S.get 10), (11, r1)], S.hp, S.nx, S.gh⟩)) fun K hK => ?_
          repeat' (first | (refine hK _ ?_; clear hK K) | ((first | refine xG_intro (fun hg => ?_) (fun hg => ?_) | refine fun (hg : (_ : Prop)) => ?_) <;> ((try simp only [BQ] at hg); try (exfalso; omega))) | refine And.intro ?_ ?_ | exact cl | refine one_take ?_ _ | refine one_drop ?_ _ | (refine st ?_; try simp only [encSpec, paths, nI_len, wrap_id (x := ((k : Int) - 1)) (by omega) (by omega)]) | simp only [encSpec, paths, nI_len, wrap_id (x := ((k : Int) - 1)) (by omega) (by omega)])
          all_goals try simp (disch := omega) only [wrap_id, wrap8_id]
          all_goals
          refine ⟨⟨k - 1, hP.step hk0 (dec_yes h70)⟩, [0, 1], by dsimp only; omega, ?_⟩
          have ek : ((k - 1 : Nat) : Int) = (k : Int) - 1 := by omega
          dsimp only
          rw [ek]
          exact leqW10
         ·try (cases h70; done)
          all_goals (try simp only [CQ] at h70)
          all_goals
          refine Tri.exit ?_
          refine rD 13 [1, 2, 7, 10] (fun P GD S K => XvBuildS P 22 0 S.nx [] (fun r0 e0 => XvSliceV P 22 (S.get 7) none (some (S.get 11)) (fun r3 e3 => (22 = 22 ∧ XvAppend P 22 (M (Eff.hp e0 S.nx S.hp) (S.nx + e0.add.length)) r0 r3 (fun r4 e4 => XvBuildS P 22 1 ((S.nx + e0.add.length) + e4.add.length) [(0, (S.get 10))] (fun r6 e6 => (22 = 22 ∧ XvAppend P 22 (M (Eff.hp e6 ((S.nx + e0.add.length) + e4.add.length) (Eff.hp e4 (S.nx + e0.add.length) (Eff.hp e0 S.nx S.hp))) (((S.nx + e0.add.length) + e4.add.length) + e6.add.length)) r4 r6 (fun r7 e7 => XvSliceV P 22 (S.get 7) (some (S.get 11)) none (fun r10 e10 => (22 = 22 ∧ XvAppend P 22 (M (Eff.hp e7 (((S.nx + e0.add.length) + e4.add.length) + e6.add.length) (Eff.hp e6 ((S.nx + e0.add.length) + e4.add.length) (Eff.hp e4 (S.nx + e0.add.length) (Eff.hp e0 S.nx S.hp)))) ((((S.nx + e0.add.length) + e4.add.length) + e6.add.length) + e7.add.length)) r7 r10 (fun r11 e11 => (trOk S.nx GD [(Eff.tr e0 S.nx), ⟨(S.nx + e0.add.length), 0, [], [], []⟩, ⟨(S.nx + e0.add.length), 0, [], [], []⟩, ⟨(S.nx + e0.add.length), 0, e3.rd, [], []⟩, (Eff.tr e4 (S.nx + e0.add.length)), ⟨((S.nx + e0.add.length) + e4.add.length), 0, [], [], []⟩, (Eff.tr e6 ((S.nx + e0.add.length) + e4.add.length)), (Eff.tr e7 (((S.nx + e0.add.length) + e4.add.length) + e6.add.length)), ⟨((((S.nx + e0.add.length) + e4.add.length) + e6.add.length) + e7.add.length), 0, [], [], []⟩, ⟨((((S.nx + e0.add.length) + e4.add.length) + e6.add.length) + e7.add.length), 0, [], [], []⟩, ⟨((((S.nx + e0.add.length) + e4.add.length) + e6.add.length) + e7.add.length), 0, e10.rd, [], []⟩, (Eff.tr e11 ((((S.nx + e0.add.length) + e4.add.length) + e6.add.length) + e7.add.length)), ⟨(((((S.nx + e0.add.length) + e4.add.length) + e6.add.length) + e7.add.length) + e11.add.length), 0, [], [], []⟩] = true ∧ K ⟨[(1, S.get 1), (2, S.get 2), (7, r11), (10, S.get 10)], (Eff.hp e11 ((((S.nx + e0.add.length) + e4.add.length) + e6.add.length) + e7.add.length) (Eff.hp e7 (((S.nx + e0.add.length) + e4.add.length) + e6.add.length) (Eff.hp e6 ((S.nx + e0.add.length) + e4.add.length) (Eff.hp e4 (S.nx + e0.add.length) (Eff.hp e0 S.nx S.hp))))), (((((S.nx + e0.add.length) + e4.add.length) + e6.add.length) + e7.add.length) + e11.add.length), S.gh⟩)))))))))))) fun K hK => ?_
          repeat' (first | (refine hK _ ?_; clear hK K) | (refine (?_ : trOk _ _ _ = true); kernel_rfl) | ((first | refine xG_intro (fun hg => ?_) (fun hg => ?_) | refine fun (hg : (_ : Prop)) => ?_) <;> ((try simp only [BQ] at hg); try (exfalso; omega))) | refine And.intro ?_ ?_ | exact cl | refine one_take ?_ _ | refine one_drop ?_ _ | (refine st ?_; try simp only [encSpec, paths, nI_len, ite_take out ((nI out).map encI) k (by simp [nI]), ite_drop out ((nI out).map encI) k (by simp [nI])]) | simp only [encSpec, paths, nI_len, ite_take out ((nI out).map encI) k (by simp [nI]), ite_drop out ((nI out).map encI) k (by simp [nI])])
          all_goals
          refine rY [1, 2, 7, 10] (fun P S K => XvBinOV P .add 3 (.const (.int .i64 1)) (S.get 10) (.atom (.int .i64 1)) (fun r1 _ => K ⟨[(1, S.get 1), (2, S.get 2), (7, S.get 7), (10, r1)], S.hp, S.nx, S.gh⟩)) ?_
          all_goals try simp (disch := omega) only [wrap_id, wrap8_id]
          all_goals
          have hpos := hP.stop (by first | exact .inl (by omega) | exact .inr (dec_no h70))
          have e : insI s l out i = out.take k ++ i :: out.drop k := by unfold insI; rw [hpos]; rfl
          refine ⟨⟨insI s l out i, i + 1, hI.next hil⟩, [0, 6], by dsimp only; omega, ?_⟩
          dsimp only
          rw [e]
          first
            | (have hdk : out.drop k = [] := List.drop_eq_nil_of_le (by omega)
               have hk1 : 0 < k := by omega
               rw [hdk]
               exact leqW10)
            | (have hk0 : k = 0 := by omega
               subst hk0
               exact leqW10)
            | exact leqW10
       ·try (cases h47; done)
        all_goals (try simp only [CQ] at h47)
        all_goals
        refine Tri.exit ?_
        refine sY [4, 5] (fun P S K => K ⟨[(4, (S.get 7)), (5, (.atom (.int .i64 0)))], S.hp, S.nx, S.gh⟩) ?_
        all_goals
        refine Tri.ret ?_
        show ResOk _ _ _ _
        rw [(pathsE_ok h15 (by omega) hnx).1, (pathsE_ok h15 (by omega) hnx).2, hI.done (by omega)]
        rw [← nI_len out]
        exact ResOk.frz 5 lstW10 lpvW10
end Go.Proofs.YtfnkciboencifaaDoor
