/-
  lives of the group.
-/
import Derived.Test.YtfnkciboencifaaDoorKL3
import Derived.Test.YtfnkciboencifaaDoorKW1
import Derived.Test.YtfnkciboencifaaDoorKV17
import Derived.Test.YtfnkciboencifaaDoorKW18
import Derived.Test.YtfnkciboencifaaDoorKW5
set_option linter.all false
namespace Go.Proofs.YtfnkciboencifaaDoor
open Go Go.RowKit
set_option maxRecDepth 100000
def tb7 : CallT := tblAdd 23 [uS, .ob 2 1 0 4] shp sres tb6
def tb8 : CallT := tblAdd 25 [uS, .ob 2 1 0 4] php pres tb7
theorem tb7_ok : CallOk Tryd.prog tb7 := callOk_put tb6_ok (gRun_ok tb3_ok mixed 20 _ _ _ _ _ _ (sameR_eq run_sort))
theorem tb8_ok : CallOk Tryd.prog tb8 := callOk_put tb7_ok (gRun_ok tb3_ok mixed 20 _ _ _ _ _ _ (sameR_eq run_paths))
theorem run_lives : sameR (gRun Tryd.prog tb8 [] 20 19 [] []) (.atom (.bool true), [], []) = true := by kernel_rfl
/-- The examples of the section are right. -/
theorem lives_pure : Pure Tryd.prog 19 [] (.atom (.bool true)) [] := run_pure (x := (.atom (.bool true), [], [])) tb8_ok mixed run_lives rfl
end Go.Proofs.YtfnkciboencifaaDoor
set_option linter.all false
namespace Go.Proofs.YtfnkciboencifaaDoor
open Go Go.RowKit
set_option linter.unusedSimpArgs false
set_option linter.unusedVariables false
set_option maxRecDepth 20000
set_option maxHeartbeats 2000000
/-- Nil, or a row: the same to whoever only reads. -/
def AsSl (sz : Nat) (l : List PV) (x : PV) : Prop := x = .sl sz l ∨ (l = [] ∧ x = .atom (.slice none 0 0))
theorem AsSl.rep {sz : Nat} {l : List PV} {x : PV} (h : AsSl sz l x) {D : Nat → Prop} {μ : Nat → Option Nat} {F : Nat → Prop} {w : World} {v : Value} (hr : Rep D μ F w x v) : Rep D μ F w (.sl sz l) v := by
  rcases h with rfl | ⟨rfl, rfl⟩
  · exact hr
  · rw [nil_val hr]
    exact .sl0 sz none 0 (by unfold maxLen; omega) (fun _ => rfl) (fun x hx => by cases hx)
theorem Pure.sub {P : Program} {f : FuncId} {args args' : List PV} {r : PV} {os : List AO} (hp : Pure P f args r os) (hl : args'.length = args.length)
    (h : ∀ i (h1 : i < args.length) (h2 : i < args'.length) (D : Nat → Prop) (μ : Nat → Option Nat) (F : Nat → Prop) (w : World) (v : Value), Rep D μ F w args'[i] v → Rep D μ F w args[i] v) : Pure P f args' r os :=
  ⟨hp.1, fun D μ F w vs h1 h2 h3 => hp.2 D μ F w vs (h1.trans hl) (fun i hi => h i hi (by omega) D μ F w _ (h2 i (by omega))) h3⟩
theorem AsSl.pure {sz : Nat} {l : List PV} {x : PV} (h : AsSl sz l x) (hl : pureL l = true) : x.pure = true := by
  rcases h with rfl | ⟨rfl, rfl⟩
  · exact hl
  · rfl
theorem dec_self {α : Type} [DecidableEq α] (a : α) : decide (a = a) = true := decide_eq_true rfl
end Go.Proofs.YtfnkciboencifaaDoor
set_option linter.all false
namespace Go.Proofs.YtfnkciboencifaaDoor
open Go Go.RowKit
set_option linter.unusedVariables false
set_option linter.unusedSimpArgs false
theorem strsAt_rep {D : Nat → Prop} {μ : Nat → Option Nat} {F : Nat → Prop} {w : World} {l : List ByteArray} {v : Value} (h : Rep D μ F w (strs l) v) (hl : ∀ x, x ∈ l → x.size ≤ 9223372036854775807) : Elder.StrsAt w v l := by
  refine ⟨?_, Elder.Sizes.of hl⟩
  unfold strs at h
  generalize hm : l.map encS = m at h
  have hlen : m.length = l.length := by rw [← hm, List.length_map]
  cases h with
  | sl0 _ a cap hc hn hs =>
    have hl0 : l.length = 0 := by simpa using hlen.symm
    refine ⟨a, cap, by rw [hl0], by omega, hc, fun e => ⟨hl0, hn e⟩, fun x hx => ⟨hs x hx, fun i hi => by omega⟩⟩
  | sl _ _ b off cap g hF hlc hc hcell h1 h2 =>
    refine ⟨some ⟨b, off, none⟩, cap, by rw [hlen], by omega, hc, fun e => (by cases e), ?_⟩
    rintro x ⟨⟩
    refine ⟨rfl, fun i hi => ?_⟩
    have hi' : i < m.length := by omega
    have e0 : m[i] = encS (ls l i) := by subst hm; simp [ls, List.getD_eq_getElem?_getD, hi]
    have e1 : m[i].cells = [encS (ls l i)] := by rw [e0]; rfl
    have hc0 : 0 < m[i].cells.length := by rw [e1]; exact Nat.zero_lt_one
    have hr := h2 i hi' 0 hc0
    have e2 : m[i].cells[0] = encS (ls l i) := by rw [gl e1 hc0]; rfl
    rw [e2] at hr
    have := hr.atomEq
    have hcc := hcell (i * 1) (by omega)
    rw [Nat.mul_one] at hcc
    rw [Nat.mul_one, Nat.add_zero] at this
    rw [this] at hcc
    exact hcc
/-- Sizes as the package asks them. -/
structure Tame (s : SpecD) : Prop where
  skips : ∀ x, x ∈ s.skip → x.size ≤ 9223372036854775807
  orders : ∀ x, x ∈ s.order → x.size ≤ 9223372036854775807
theorem Sane.tame {s : SpecD} (h : Sane s) : Tame s := ⟨fun x hx => Nat.le_trans (h.skips x hx) (by decide), fun x hx => Nat.le_trans (h.orders x hx) (by decide)⟩
theorem specAt_rep {D : Nat → Prop} {μ : Nat → Option Nat} {F : Nat → Prop} {w : World} {s : SpecD} {v : Value} (h : Rep D μ F w (encSpec s) v) (hs : Tame s) : Elder.SpecAt w v (toE s) := by
  unfold encSpec at h
  cases h with
  | agg _ vs hn hr =>
    have hn4 : vs.size = 4 := hn
    have h0 := (hr 0 (by simp)).atomEq
    have h1 := hr 1 (by simp)
    have h2 := (hr 2 (by simp)).atomEq
    have h3 := hr 3 (by simp)
    refine ⟨vs.getD 1 undef, vs.getD 3 undef, ?_, strsAt_rep h1 hs.skips, strsAt_rep h3 hs.orders⟩
    congr 1
    refine Array.ext (by rw [hn4]; rfl) fun i g1 g2 => ?_
    have e : vs[i] = vs.getD i undef := by simp [Array.getD, g1]
    rw [e]
    match i, g2 with
    | 0, _ => exact h0
    | 1, _ => rfl
    | 2, _ => exact h2
    | 3, _ => rfl
theorem args_eq {vs : Array Value} {l : List Value} (hn : vs.size = l.length) (h : ∀ i, i < l.length → vs.getD i undef = l.getD i undef) : vs = l.toArray := by
  refine Array.ext (by simpa using hn) fun i g1 g2 => ?_
  have hi : i < l.length := by simpa using g2
  have := h i hi
  simpa [Array.getD, g1, List.getD_eq_getElem?_getD, hi] using this
theorem cCompare_pure (s : SpecD) (a b : ByteArray) (hs : Tame s) (ha : a.size ≤ 9223372036854775807) (hb : b.size ≤ 9223372036854775807) : Pure Tryd.prog 20 [encSpec s, encS a, encS b] (.tup [encI (cmpR s a b), encI (cmpE s a b)]) [] := by
  refine ⟨enters_of Tryd.func20 (by kernel_rfl) rfl, fun D μ F w vs hvs hargs hF => ?_⟩
  have h0 := hargs 0 (by simp)
  have h1 := (hargs 1 (by simp)).atomEq
  have h2 := (hargs 2 (by simp)).atomEq
  have e : vs = [vs.getD 0 undef, .string a, .string b].toArray := args_eq hvs (fun i hi => by
    match i, hi with
    | 0, _ => rfl
    | 1, _ => exact h1
    | 2, _ => exact h2)
  rw [e]
  refine (Elder.Compare_any _ _ a b w (specAt_rep h0 hs) ha hb).mono fun e w' he => ?_
  obtain ⟨rfl, hbl⟩ := he
  rw [exam2_eq, eCmp_eq]
  refine ⟨_, rfl, hbl, fun _ => none, fun _ => False, ?_, fun i o hi => by simp at hi, fun i b hi => by simp at hi, fun i j b hi => by simp at hi, fun b hb' => hb'.elim⟩
  exact .tup _ _ rfl fun i hi => by
    match i, hi with
    | 0, _ => exact .atom _
    | 1, _ => exact .atom _
/-- A collation whose rows may be nil. -/
def IsSpec (s : SpecD) (x : PV) : Prop := ∃ sv ov, x = .agg [.atom (.bool s.words), sv, .atom (.bool s.numbers), ov] ∧ AsSl 1 (s.skip.map encS) sv ∧ AsSl 1 (s.order.map encS) ov
theorem IsSpec.rep {s : SpecD} {x : PV} (h : IsSpec s x) {D : Nat → Prop} {μ : Nat → Option Nat} {F : Nat → Prop} {w : World} {v : Value} (hr : Rep D μ F w x v) : Rep D μ F w (encSpec s) v := by
  obtain ⟨sv, ov, rfl, h1, h2⟩ := h
  cases hr with
  | agg _ vs hn hr =>
    exact .agg _ vs hn fun i hi => by
      match i, hi with
      | 0, _ => exact hr 0 (by simp)
      | 1, _ => exact h1.rep (hr 1 (by simp))
      | 2, _ => exact hr 2 (by simp)
      | 3, _ => exact h2.rep (hr 3 (by simp))
theorem IsSpec.self (s : SpecD) : IsSpec s (encSpec s) := ⟨_, _, rfl, .inl rfl, .inl rfl⟩
theorem IsSpec.pure {s : SpecD} {x : PV} (h : IsSpec s x) : x.pure = true := by
  obtain ⟨sv, ov, rfl, h1, h2⟩ := h
  have a := h1.pure (pureL_encS _)
  have b := h2.pure (pureL_encS _)
  simp [PV.pure, pureL, a, b]
theorem Pure.spec {P : Program} {f : FuncId} {s : SpecD} {x : PV} {rest : List PV} {r : PV} {os : List AO} (hp : Pure P f (encSpec s :: rest) r os) (h : IsSpec s x) : Pure P f (x :: rest) r os :=
  hp.sub rfl fun i h1 h2 D μ F w v hr => by
    match i, h1 with
    | 0, _ => exact h.rep hr
    | i + 1, _ => exact hr
end Go.Proofs.YtfnkciboencifaaDoor
set_option linter.all false
namespace Go.Proofs.YtfnkciboencifaaDoor
open Go Go.RowKit
set_option linter.unusedSimpArgs false
set_option linter.unusedVariables false
set_option maxRecDepth 20000
set_option maxHeartbeats 400000
theorem leqW21 {p : Prop} (h : p := by (refine ⟨4, ?_, ?_, rfl, by simp, rfl, fun _ h _ => absurd h (Nat.not_lt_zero _)⟩ <;> (simp only [List.forall_mem_cons]; repeat' (first | refine And.intro ?_ ?_ | (intro p hp; exact absurd hp List.not_mem_nil) | rfl | exact sp (pure_madeV _) | exact (sealed_pure _ _ _ (pure_ints _)).trans (ren_ints _ _).symm | exact (sealed_pure _ _ _ (pure_strs _)).trans (ren_strs _ _).symm | (intro o ho; cases ho; refine ⟨by decide, ?_⟩; first | (refine LeqS.row rfl ?_ ?_; (next => (first | rfl | (simp only [List.map_append, List.map_cons, List.map_nil, List.append_nil, List.nil_append, List.append_assoc, List.cons_append, encI, encS, ints, strs]; done) | (simp [encI, encS, ints, strs]; done))); (next => (first | rfl | exact pureL_encI _ | exact pureL_encS _ | exact pureL_ints _ | exact pureL_strs _ | (simp [pureL_append, pureL_encI, pureL_encS, pureL_ints, pureL_strs, pureL, PV.pure, pure_ints, pure_strs, pure_madeV]; done))); done) | refine ⟨_, rfl, rfl, ?_⟩) | (simp [St.born, St.known, retV, St.get, St.obj, lk, sealed, PV.ren, renL, rmap, AO.ren, ints, strs, encI, encS, map_sealed_encI, map_sealed_encS, map_sealed_ints, map_sealed_strs, map_ren_encI, map_ren_encS, map_ren_ints, map_ren_strs, renL_encI, renL_encS, renL_ints, renL_strs, ren_madeV, sealed_madeV, theS, ofS, aS1, kingS, orderN_0] <;> omega))))) : p := h
def theS : ByteArray := ⟨#[116, 104, 101]⟩
def ofS : ByteArray := ⟨#[111, 102]⟩
def aS1 : ByteArray := ⟨#[97]⟩
def kingS : ByteArray := ⟨#[107, 105, 110, 103]⟩
def madeSk (k : Int) : List ByteArray := if k = 0 then [] else if k = 1 then [theS] else if k = 2 then [theS, ofS] else [aS1, theS, kingS]
def madeV (k : Int) : PV := if k = 0 then .atom (.slice none 0 0) else strs (madeSk k)
theorem pure_madeV (k : Int) : (madeV k).pure = true := by unfold madeV; split <;> simp [PV.pure, pure_strs]
theorem ren_madeV (ρ : Nat → Nat) (k : Int) : (madeV k).ren ρ = madeV k := ren_pure ρ _ (pure_madeV k)
theorem sealed_madeV (H : Nat → Option AO) (keep : Nat → Bool) (n : Nat) (k : Int) : sealed H keep n (madeV k) = madeV k := sealed_pure _ _ _ (pure_madeV k)
theorem one_madeV (k : Int) : (madeV k).one = true := by unfold madeV; split <;> rfl
theorem as_madeV (k : Int) : AsSl 1 ((madeSk k).map encS) (madeV k) := by
  unfold madeV madeSk
  split
  · exact .inr ⟨rfl, rfl⟩
  · exact .inl rfl
theorem madeV_0 {k : Int} (h : k = 0) : madeV k = .atom (.slice none 0 0) := by subst h; rfl
theorem madeV_1 {k : Int} (h : k = 1) : madeV k = .sl 1 [.atom (.string theS)] := by subst h; rfl
theorem madeV_2 {k : Int} (h : k = 2) : madeV k = .sl 1 [.atom (.string theS), .atom (.string ofS)] := by subst h; rfl
theorem madeV_3 {k : Int} (h : k = 3) : madeV k = .sl 1 [.atom (.string aS1), .atom (.string theS), .atom (.string kingS)] := by subst h; rfl
def oneB (n : Int) : ByteArray := ⟨[UInt8.ofNat n.toNat].toArray⟩
theorem oneB_eq (n : Int) : (⟨#[pvByte (.atom (.int .u8 n))]⟩ : ByteArray) = oneB n := rfl
theorem oneB_size (n : Int) : (oneB n).size = 1 := rfl
def kOf (kind : Int) (i : Nat) : Int := if kind.tmod 2 = 1 then 25 - i else i
theorem kOf_pos {kind : Int} {i : Nat} (h : kind.tmod 2 = 1) : kOf kind i = 25 - i := if_pos h
theorem kOf_neg {kind : Int} {i : Nat} (h : ¬ kind.tmod 2 = 1) : kOf kind i = i := if_neg h
theorem kOf_range {kind : Int} {i : Nat} (h : i < 26) : 0 ≤ kOf kind i ∧ kOf kind i ≤ 25 := by unfold kOf; split <;> omega
def orderN (kind : Int) : Nat → List ByteArray
  | 0 => []
  | i + 1 => orderN kind i ++ (if kind < 2 then [oneB (97 + kOf kind i) ++ oneB (65 + kOf kind i)] else [oneB (65 + kOf kind i), oneB (97 + kOf kind i)])
theorem orderN_0 (kind : Int) : orderN kind 0 = [] := rfl
theorem orderN_lt {kind : Int} {i : Nat} (h : kind < 2) : orderN kind (i + 1) = orderN kind i ++ [oneB (97 + kOf kind i) ++ oneB (65 + kOf kind i)] := by rw [orderN, if_pos h]
theorem orderN_ge {kind : Int} {i : Nat} (h : ¬ kind < 2) : orderN kind (i + 1) = orderN kind i ++ [oneB (65 + kOf kind i), oneB (97 + kOf kind i)] := by rw [orderN, if_neg h]
theorem orderN_len (kind : Int) : ∀ i, (orderN kind i).length ≤ 2 * i
  | 0 => by simp [orderN]
  | i + 1 => by have := orderN_len kind i; rw [orderN]; split <;> simp <;> omega
def digS : ByteArray := ⟨#[48, 49, 50, 51, 52, 53, 54, 55, 56, 57]⟩
def dig3 : List ByteArray := [⟨#[48, 49]⟩, ⟨#[50]⟩, ⟨#[51, 52, 53, 54, 55, 56, 57, 45]⟩]
def madeO (kind d : Int) : List ByteArray := if d = 1 then digS :: orderN kind 26 else if d = 2 then orderN kind 26 ++ dig3 else orderN kind 26
theorem ResR.cell1 {P : Program} {S : St} {rv : ResultVar} {r : PV} (x : PV) (h : resVs P S [rv] = some [x]) (hs : sealed S.obj (fun _ => false) 5 x = r) (hp : r.pure = true) : ResR P S [rv] r [] :=
  ⟨[x], h, ResOk.frz 5 (by rw [retV_resSt]; exact hs) hp⟩
/-- The collation made of numbers. -/
def madeS (l : List Int) : SpecD := ⟨decide (atI l 0 2 = 0), madeSk (atI l 2 4), decide (atI l 1 2 = 0), madeO (atI l 3 4) (atI l 4 3)⟩
def madeP (l : List Int) : PV := .agg [.atom (.bool (decide (atI l 0 2 = 0))), madeV (atI l 2 4), .atom (.bool (decide (atI l 1 2 = 0))), strs (madeO (atI l 3 4) (atI l 4 3))]
theorem made_spec (l : List Int) : IsSpec (madeS l) (madeP l) := ⟨_, _, rfl, as_madeV _, .inl rfl⟩
theorem Made_pure (l : List Int) (hl : Fits l) : Pure Tryd.prog 33 [ints l] (madeP l) [] := by
  have ha0 := atI_lo (l := l) (i := 2) (m := 4) (by decide)
  have ha1 := atI_hi (l := l) (i := 2) (m := 4) (by decide)
  have hb0 := atI_lo (l := l) (i := 3) (m := 4) (by decide)
  have hb1 := atI_hi (l := l) (i := 3) (m := 4) (by decide)
  have hc0 := atI_lo (l := l) (i := 4) (m := 3) (by decide)
  have hc1 := atI_hi (l := l) (i := 4) (m := 3) (by decide)
  refine Pure.introR (rv := [.cell 2 35]) Tryd.func33 (by kernel_rfl) rfl rfl rfl (Nat.le_of_ble_eq_true rfl) ?_ ?_
  · simp [pure_ints, pure_strs, encI, encS, PV.pure, pureL]
  refine sZ [0, 2] (fun P S K => XvAlloc P 35 S.nx (fun r0 e0 => K ⟨[(0, S.get 0), (2, r0)], (Eff.hp e0 S.nx S.hp), (S.nx + e0.add.length), S.gh⟩)) fun K hK => ?_
  repeat' (first | (refine hK _ ?_; clear hK K) | ((first | refine xG_intro (fun hg => ?_) (fun hg => ?_) | refine fun (hg : (_ : Prop)) => ?_) <;> ((try simp only [BQ] at hg); try (exfalso; omega))) | refine And.intro ?_ ?_ | exact cl | exact one_madeV _ | refine one_take ?_ _ | refine one_drop ?_ _ | (refine st ?_; try simp only [oneB_eq, oneB_size]) | simp only [oneB_eq, oneB_size])
  all_goals try simp (disch := omega) only [wrap_id, wrap8_id]
  all_goals
   refine sZ [0, 2, 3] (fun P S K => XvFnIV P (M S.hp S.nx) (.fn 50 []) [(S.get 0), (.atom (.int .i64 0)), (.atom (.int .i64 2))] (fun r1 e1 => XvBinOV P .eql 3 (.const (.int .i64 0)) r1 (.atom (.int .i64 0)) (fun r2 _ => XvFnIV P (M (Eff.hp e1 S.nx S.hp) (S.nx + e1.add.length)) (.fn 50 []) [(S.get 0), (.atom (.int .i64 1)), (.atom (.int .i64 2))] (fun r4 e4 => XvBinOV P .eql 3 (.const (.int .i64 0)) r4 (.atom (.int .i64 0)) (fun r5 _ => XvBuild P 35 [(0, r2), (2, r5)] (fun r6 _ => XvAlloc P 35 ((S.nx + e1.add.length) + e4.add.length) (fun r7 e7 => XvStore P 35 (M (Eff.hp e7 ((S.nx + e1.add.length) + e4.add.length) (Eff.hp e4 (S.nx + e1.add.length) (Eff.hp e1 S.nx S.hp))) (((S.nx + e1.add.length) + e4.add.length) + e7.add.length)) r7 r6 (fun r8 e8 => K ⟨[(0, S.get 0), (2, S.get 2), (3, r7)], (Eff.hp e8 (((S.nx + e1.add.length) + e4.add.length) + e7.add.length) (Eff.hp e7 ((S.nx + e1.add.length) + e4.add.length) (Eff.hp e4 (S.nx + e1.add.length) (Eff.hp e1 S.nx S.hp)))), ((((S.nx + e1.add.length) + e4.add.length) + e7.add.length) + e8.add.length), S.gh⟩)))))))) fun K hK => ?_
   repeat' (first | (refine hK _ ?_; clear hK K) | ((first | refine xG_intro (fun hg => ?_) (fun hg => ?_) | refine fun (hg : (_ : Prop)) => ?_) <;> ((try simp only [BQ] at hg); try (exfalso; omega))) | refine And.intro ?_ ?_ | exact cl | exact one_madeV _ | refine one_take ?_ _ | refine one_drop ?_ _ | refine .inl ⟨_, _, At_pure l 0 2 hl (by unfold I64; omega) (by decide), ?_⟩ | refine ⟨_, _, At_pure l 0 2 hl (by unfold I64; omega) (by decide), ?_⟩ | refine .inl ⟨_, _, At_pure l 1 2 hl (by unfold I64; omega) (by decide), ?_⟩ | refine ⟨_, _, At_pure l 1 2 hl (by unfold I64; omega) (by decide), ?_⟩ | refine .inl ⟨_, _, At_pure l 2 4 hl (by unfold I64; omega) (by decide), ?_⟩ | refine ⟨_, _, At_pure l 2 4 hl (by unfold I64; omega) (by decide), ?_⟩ | refine .inl ⟨_, _, At_pure l 3 4 hl (by unfold I64; omega) (by decide), ?_⟩ | refine ⟨_, _, At_pure l 3 4 hl (by unfold I64; omega) (by decide), ?_⟩ | refine .inl ⟨_, _, At_pure l 4 3 hl (by unfold I64; omega) (by decide), ?_⟩ | refine ⟨_, _, At_pure l 4 3 hl (by unfold I64; omega) (by decide), ?_⟩ | (refine st ?_; try simp only [oneB_eq, oneB_size]) | simp only [oneB_eq, oneB_size])
   all_goals try simp (disch := omega) only [wrap_id, wrap8_id]
   all_goals
    refine Tri.cut (α := Unit) (fun ⟨⟩ => ⟨[(0, ints l), (2, .ptr 0 4 0 0), (3, .ptr 1 4 0 0)], [(0, some ⟨4, [.agg [.atom (.bool false), .atom (.slice none 0 0), .atom (.bool false), .atom (.slice none 0 0)]]⟩), (1, some ⟨4, [.agg [.atom (.bool (decide (atI l 0 2 = 0))), madeV (atI l 2 4), .atom (.bool (decide (atI l 1 2 = 0))), .atom (.slice none 0 0)]]⟩)], 2, []⟩) ?_ ?_
    ·
      obtain hsk | hsk | hsk | hsk : atI l 2 4 = 0 ∨ atI l 2 4 = 1 ∨ atI l 2 4 = 2 ∨ atI l 2 4 = 3 := by omega
      all_goals
        refine rZ [0, 2, 3] (fun P S K => XvBuildS P 25 1 S.nx [(0, (.atom (.string { data := #[116, 104, 101] })))] (fun r0 e0 => XvBuildS P 25 2 (S.nx + e0.add.length) [(0, (.atom (.string { data := #[116, 104, 101] }))), (1, (.atom (.string { data := #[111, 102] })))] (fun r1 e1 => XvBuildS P 25 3 ((S.nx + e0.add.length) + e1.add.length) [(0, (.atom (.string { data := #[97] }))), (1, (.atom (.string { data := #[116, 104, 101] }))), (2, (.atom (.string { data := #[107, 105, 110, 103] })))] (fun r2 e2 => XvBuildS P 47 4 (((S.nx + e0.add.length) + e1.add.length) + e2.add.length) [(0, (.atom (.slice none 0 0))), (1, r0), (2, r1), (3, r2)] (fun r3 e3 => XvFnIV P (M (Eff.hp e3 (((S.nx + e0.add.length) + e1.add.length) + e2.add.length) (Eff.hp e2 ((S.nx + e0.add.length) + e1.add.length) (Eff.hp e1 (S.nx + e0.add.length) (Eff.hp e0 S.nx S.hp)))) ((((S.nx + e0.add.length) + e1.add.length) + e2.add.length) + e3.add.length)) (.fn 50 []) [(S.get 0), (.atom (.int .i64 2)), (.atom (.int .i64 4))] (fun r5 e5 => XvIndexAddr P 47 r3 r5 (fun r6 _ => XvLoad P 25 (M (Eff.hp e5 ((((S.nx + e0.add.length) + e1.add.length) + e2.add.length) + e3.add.length) (Eff.hp e3 (((S.nx + e0.add.length) + e1.add.length) + e2.add.length) (Eff.hp e2 ((S.nx + e0.add.length) + e1.add.length) (Eff.hp e1 (S.nx + e0.add.length) (Eff.hp e0 S.nx S.hp))))) (((((S.nx + e0.add.length) + e1.add.length) + e2.add.length) + e3.add.length) + e5.add.length)) r6 (fun r7 _ => XvFieldAddr P 35 1 (S.get 3) (fun r8 _ => XvStore P 25 (M (Eff.hp e5 ((((S.nx + e0.add.length) + e1.add.length) + e2.add.length) + e3.add.length) (Eff.hp e3 (((S.nx + e0.add.length) + e1.add.length) + e2.add.length) (Eff.hp e2 ((S.nx + e0.add.length) + e1.add.length) (Eff.hp e1 (S.nx + e0.add.length) (Eff.hp e0 S.nx S.hp))))) (((((S.nx + e0.add.length) + e1.add.length) + e2.add.length) + e3.add.length) + e5.add.length)) r8 r7 (fun r9 e9 => K ⟨[(0, S.get 0), (2, S.get 2), (3, S.get 3)], (Eff.hp e9 (((((S.nx + e0.add.length) + e1.add.length) + e2.add.length) + e3.add.length) + e5.add.length) (Eff.hp e5 ((((S.nx + e0.add.length) + e1.add.length) + e2.add.length) + e3.add.length) (Eff.hp e3 (((S.nx + e0.add.length) + e1.add.length) + e2.add.length) (Eff.hp e2 ((S.nx + e0.add.length) + e1.add.length) (Eff.hp e1 (S.nx + e0.add.length) (Eff.hp e0 S.nx S.hp)))))), ((((((S.nx + e0.add.length) + e1.add.length) + e2.add.length) + e3.add.length) + e5.add.length) + e9.add.length), S.gh⟩)))))))))) fun K hK => ?_
        repeat' (first | (refine hK _ ?_; clear hK K) | ((first | refine xG_intro (fun hg => ?_) (fun hg => ?_) | refine fun (hg : (_ : Prop)) => ?_) <;> ((try simp only [BQ] at hg); try (exfalso; omega))) | refine And.intro ?_ ?_ | exact cl | exact one_madeV _ | refine one_take ?_ _ | refine one_drop ?_ _ | refine .inl ⟨_, _, At_pure l 0 2 hl (by unfold I64; omega) (by decide), ?_⟩ | refine ⟨_, _, At_pure l 0 2 hl (by unfold I64; omega) (by decide), ?_⟩ | refine .inl ⟨_, _, At_pure l 1 2 hl (by unfold I64; omega) (by decide), ?_⟩ | refine ⟨_, _, At_pure l 1 2 hl (by unfold I64; omega) (by decide), ?_⟩ | refine .inl ⟨_, _, At_pure l 2 4 hl (by unfold I64; omega) (by decide), ?_⟩ | refine ⟨_, _, At_pure l 2 4 hl (by unfold I64; omega) (by decide), ?_⟩ | refine .inl ⟨_, _, At_pure l 3 4 hl (by unfold I64; omega) (by decide), ?_⟩ | refine ⟨_, _, At_pure l 3 4 hl (by unfold I64; omega) (by decide), ?_⟩ | refine .inl ⟨_, _, At_pure l 4 3 hl (by unfold I64; omega) (by decide), ?_⟩ | refine ⟨_, _, At_pure l 4 3 hl (by unfold I64; omega) (by decide), ?_⟩ | (refine st ?_; try simp only [oneB_eq, oneB_size, hsk]) | simp only [oneB_eq, oneB_size, hsk])
        all_goals try simp (disch := omega) only [wrap_id, wrap8_id]
      all_goals
       first | rw [madeV_0 rfl] | rw [madeV_1 rfl] | rw [madeV_2 rfl] | rw [madeV_3 rfl]
       refine ⟨(), [0, 1], ?_⟩
       exact leqW21
    · rintro ⟨⟩
      refine sZ [0, 2, 3, 4] (fun P S K => XvFnIV P (M S.hp S.nx) (.fn 50 []) [(S.get 0), (.atom (.int .i64 3)), (.atom (.int .i64 4))] (fun r1 e1 => K ⟨[(0, S.get 0), (2, S.get 2), (3, S.get 3), (4, r1)], (Eff.hp e1 S.nx S.hp), (S.nx + e1.add.length), S.gh⟩)) fun K hK => ?_
      repeat' (first | (refine hK _ ?_; clear hK K) | ((first | refine xG_intro (fun hg => ?_) (fun hg => ?_) | refine fun (hg : (_ : Prop)) => ?_) <;> ((try simp only [BQ] at hg); try (exfalso; omega))) | refine And.intro ?_ ?_ | exact cl | exact one_madeV _ | refine one_take ?_ _ | refine one_drop ?_ _ | refine .inl ⟨_, _, At_pure l 0 2 hl (by unfold I64; omega) (by decide), ?_⟩ | refine ⟨_, _, At_pure l 0 2 hl (by unfold I64; omega) (by decide), ?_⟩ | refine .inl ⟨_, _, At_pure l 1 2 hl (by unfold I64; omega) (by decide), ?_⟩ | refine ⟨_, _, At_pure l 1 2 hl (by unfold I64; omega) (by decide), ?_⟩ | refine .inl ⟨_, _, At_pure l 2 4 hl (by unfold I64; omega) (by decide), ?_⟩ | refine ⟨_, _, At_pure l 2 4 hl (by unfold I64; omega) (by decide), ?_⟩ | refine .inl ⟨_, _, At_pure l 3 4 hl (by unfold I64; omega) (by decide), ?_⟩ | refine ⟨_, _, At_pure l 3 4 hl (by unfold I64; omega) (by decide), ?_⟩ | refine .inl ⟨_, _, At_pure l 4 3 hl (by unfold I64; omega) (by decide), ?_⟩ | refine ⟨_, _, At_pure l 4 3 hl (by unfold I64; omega) (by decide), ?_⟩ | (refine st ?_; try simp only [oneB_eq, oneB_size]) | simp only [oneB_eq, oneB_size])
      all_goals try simp (disch := omega) only [wrap_id, wrap8_id]
      all_goals
       refine Tri.seq ?_
       refine sZ [0, 2, 3, 4, 5] (fun P S K => K ⟨[(0, S.get 0), (2, S.get 2), (3, S.get 3), (4, S.get 4), (5, (.atom (.int .i64 0)))], S.hp, S.nx, S.gh⟩) fun K hK => ?_
       repeat' (first | (refine hK _ ?_; clear hK K) | ((first | refine xG_intro (fun hg => ?_) (fun hg => ?_) | refine fun (hg : (_ : Prop)) => ?_) <;> ((try simp only [BQ] at hg); try (exfalso; omega))) | refine And.intro ?_ ?_ | exact cl | exact one_madeV _ | refine one_take ?_ _ | refine one_drop ?_ _ | (refine st ?_; try simp only [oneB_eq, oneB_size]) | simp only [oneB_eq, oneB_size])
       all_goals try simp (disch := omega) only [wrap_id, wrap8_id]
       refine Tri.bornF 1 3 1 4 _ rfl rfl ?_
       all_goals
        refine Tri.block ?_
        refine Tri.loop (α := (i : Nat) ×' (i ≤ 26)) (fun z => (fun (i : Nat) => (⟨[(0, ints l), (2, .ptr 0 4 0 0), (3, .ptr 1 4 0 0), (4, encI (atI l 3 4)), (5, encI i)], [(0, some ⟨4, [.agg [.atom (.bool false), .atom (.slice none 0 0), .atom (.bool false), .atom (.slice none 0 0)]]⟩), (1, some ⟨4, [.agg [.atom (.bool (decide (atI l 0 2 = 0))), madeV (atI l 2 4), .atom (.bool (decide (atI l 1 2 = 0))), .ob 2 1 0 (orderN (atI l 3 4) i).length]]⟩), (2, some ⟨1, (orderN (atI l 3 4) i).map encS⟩)], 3, []⟩ : St)) z.1) (fun z => (fun (i : Nat) => 26 - i) z.1) ⟨0, by omega⟩ [0, 1, 2] ?_ ?_
        · exact leqW21
        · rintro ⟨i, hi⟩
          refine Tri.seq ?_
          refine sZ [0, 2, 3, 4, 5, 29] (fun P S K => XvBinOV P .lss 3 (.const (.int .i64 26)) (S.get 5) (.atom (.int .i64 26)) (fun r1 _ => K ⟨[(0, S.get 0), (2, S.get 2), (3, S.get 3), (4, S.get 4), (5, S.get 5), (29, r1)], S.hp, S.nx, S.gh⟩)) fun K hK => ?_
          repeat' (first | (refine hK _ ?_; clear hK K) | ((first | refine xG_intro (fun hg => ?_) (fun hg => ?_) | refine fun (hg : (_ : Prop)) => ?_) <;> ((try simp only [BQ] at hg); try (exfalso; omega))) | refine And.intro ?_ ?_ | exact cl | exact one_madeV _ | refine one_take ?_ _ | refine one_drop ?_ _ | (refine st ?_; try simp only [oneB_eq, oneB_size]) | simp only [oneB_eq, oneB_size])
          all_goals try simp (disch := omega) only [wrap_id, wrap8_id]
          all_goals
           refine Tri.cond rfl (fun h29 => ?_) (fun h29 => ?_)
           · try (cases h29; done)
             all_goals (try simp only [CQ] at h29)
             all_goals
              refine Tri.skip ?_
              refine Tri.seq ?_
              refine Tri.block ?_
              refine sZ [0, 2, 3, 4, 5, 6] (fun P S K => K ⟨[(0, S.get 0), (2, S.get 2), (3, S.get 3), (4, S.get 4), (5, S.get 5), (6, (S.get 5))], S.hp, S.nx, S.gh⟩) fun K hK => ?_
              repeat' (first | (refine hK _ ?_; clear hK K) | ((first | refine xG_intro (fun hg => ?_) (fun hg => ?_) | refine fun (hg : (_ : Prop)) => ?_) <;> ((try simp only [BQ] at hg); try (exfalso; omega))) | refine And.intro ?_ ?_ | exact cl | exact one_madeV _ | refine one_take ?_ _ | refine one_drop ?_ _ | (refine st ?_; try simp only [oneB_eq, oneB_size]) | simp only [oneB_eq, oneB_size])
              all_goals try simp (disch := omega) only [wrap_id, wrap8_id]
              all_goals
               refine Tri.cut (α := Unit) (fun ⟨⟩ => ⟨[(0, ints l), (2, .ptr 0 4 0 0), (3, .ptr 1 4 0 0), (4, encI (atI l 3 4)), (5, encI i), (6, encI (kOf (atI l 3 4) i))], [(0, some ⟨4, [.agg [.atom (.bool false), .atom (.slice none 0 0), .atom (.bool false), .atom (.slice none 0 0)]]⟩), (1, some ⟨4, [.agg [.atom (.bool (decide (atI l 0 2 = 0))), madeV (atI l 2 4), .atom (.bool (decide (atI l 1 2 = 0))), .ob 2 1 0 (orderN (atI l 3 4) i).length]]⟩), (2, some ⟨1, (orderN (atI l 3 4) i).map encS⟩)], 3, []⟩) ?_ ?_
               ·
                 refine sZ [0, 2, 3, 4, 5, 6, 35] (fun P S K => XvBinOV P .rem 3 (.const (.int .i64 2)) (S.get 4) (.atom (.int .i64 2)) (fun r1 _ => XvBinOV P .eql 3 (.const (.int .i64 1)) r1 (.atom (.int .i64 1)) (fun r2 _ => K ⟨[(0, S.get 0), (2, S.get 2), (3, S.get 3), (4, S.get 4), (5, S.get 5), (6, S.get 6), (35, r2)], S.hp, S.nx, S.gh⟩))) fun K hK => ?_
                 repeat' (first | (refine hK _ ?_; clear hK K) | ((first | refine xG_intro (fun hg => ?_) (fun hg => ?_) | refine fun (hg : (_ : Prop)) => ?_) <;> ((try simp only [BQ] at hg); try (exfalso; omega))) | refine And.intro ?_ ?_ | exact cl | exact one_madeV _ | refine one_take ?_ _ | refine one_drop ?_ _ | (refine st ?_; try simp only [oneB_eq, oneB_size]) | simp only [oneB_eq, oneB_size])
                 all_goals try simp (disch := omega) only [wrap_id, wrap8_id]
                 all_goals
                  refine Tri.cond rfl (fun h35 => ?_) (fun h35 => ?_)
                  · try (cases h35; done)
                    all_goals (try simp only [CQ] at h35)
                    all_goals
                     refine rZ [0, 2, 3, 4, 5, 6] (fun P S K => XvBinOV P .sub 3 (.tmp 36) (.atom (.int .i64 25)) (S.get 5) (fun r1 _ => K ⟨[(0, S.get 0), (2, S.get 2), (3, S.get 3), (4, S.get 4), (5, S.get 5), (6, r1)], S.hp, S.nx, S.gh⟩)) fun K hK => ?_
                     repeat' (first | (refine hK _ ?_; clear hK K) | ((first | refine xG_intro (fun hg => ?_) (fun hg => ?_) | refine fun (hg : (_ : Prop)) => ?_) <;> ((try simp only [BQ] at hg); try (exfalso; omega))) | refine And.intro ?_ ?_ | exact cl | exact one_madeV _ | refine one_take ?_ _ | refine one_drop ?_ _ | (refine st ?_; try simp only [oneB_eq, oneB_size]) | simp only [oneB_eq, oneB_size])
                     all_goals try simp (disch := omega) only [wrap_id, wrap8_id]
                     all_goals
                      first | rw [kOf_pos h35] | rw [kOf_neg h35]
                      refine ⟨(), [0, 1, 2], ?_⟩
                      exact leqW21
                  · try (cases h35; done)
                    all_goals (try simp only [CQ] at h35)
                    all_goals
                     refine Tri.skip ?_
                     first | rw [kOf_pos h35] | rw [kOf_neg h35]
                     refine ⟨(), [0, 1, 2], ?_⟩
                     exact leqW21
               · rintro ⟨⟩
                 have hkr := kOf_range (kind := atI l 3 4) (i := i) (by omega)
                 have hol := orderN_len (atI l 3 4) i
                 refine sZ [0, 2, 3, 4, 5, 6, 7] (fun P S K => XvBinOV P .add 3 (.tmp 38) (.atom (.int .i64 97)) (S.get 6) (fun r1 _ => XvConvert P 3 5 (M S.hp S.nx) r1 (fun r2 e2 => XvBuildS P 28 1 (S.nx + e2.add.length) [(0, r2)] (fun r3 e3 => XvConvert P 28 9 (M (Eff.hp e3 (S.nx + e2.add.length) (Eff.hp e2 S.nx S.hp)) ((S.nx + e2.add.length) + e3.add.length)) r3 (fun r4 e4 => K ⟨[(0, S.get 0), (2, S.get 2), (3, S.get 3), (4, S.get 4), (5, S.get 5), (6, S.get 6), (7, r4)], (Eff.hp e4 ((S.nx + e2.add.length) + e3.add.length) (Eff.hp e3 (S.nx + e2.add.length) (Eff.hp e2 S.nx S.hp))), (((S.nx + e2.add.length) + e3.add.length) + e4.add.length), S.gh⟩))))) fun K hK => ?_
                 repeat' (first | (refine hK _ ?_; clear hK K) | ((first | refine xG_intro (fun hg => ?_) (fun hg => ?_) | refine fun (hg : (_ : Prop)) => ?_) <;> ((try simp only [BQ] at hg); try (exfalso; omega))) | refine And.intro ?_ ?_ | exact cl | exact one_madeV _ | refine one_take ?_ _ | refine one_drop ?_ _ | (refine st ?_; try simp only [oneB_eq, oneB_size]) | simp only [oneB_eq, oneB_size])
                 all_goals try simp (disch := omega) only [wrap_id, wrap8_id]
                 all_goals
                  refine sZ [0, 2, 3, 4, 5, 7, 8] (fun P S K => XvBinOV P .add 3 (.tmp 43) (.atom (.int .i64 65)) (S.get 6) (fun r1 _ => XvConvert P 3 5 (M S.hp S.nx) r1 (fun r2 e2 => XvBuildS P 28 1 (S.nx + e2.add.length) [(0, r2)] (fun r3 e3 => XvConvert P 28 9 (M (Eff.hp e3 (S.nx + e2.add.length) (Eff.hp e2 S.nx S.hp)) ((S.nx + e2.add.length) + e3.add.length)) r3 (fun r4 e4 => K ⟨[(0, S.get 0), (2, S.get 2), (3, S.get 3), (4, S.get 4), (5, S.get 5), (7, S.get 7), (8, r4)], (Eff.hp e4 ((S.nx + e2.add.length) + e3.add.length) (Eff.hp e3 (S.nx + e2.add.length) (Eff.hp e2 S.nx S.hp))), (((S.nx + e2.add.length) + e3.add.length) + e4.add.length), S.gh⟩))))) fun K hK => ?_
                  repeat' (first | (refine hK _ ?_; clear hK K) | ((first | refine xG_intro (fun hg => ?_) (fun hg => ?_) | refine fun (hg : (_ : Prop)) => ?_) <;> ((try simp only [BQ] at hg); try (exfalso; omega))) | refine And.intro ?_ ?_ | exact cl | exact one_madeV _ | refine one_take ?_ _ | refine one_drop ?_ _ | (refine st ?_; try simp only [oneB_eq, oneB_size]) | simp only [oneB_eq, oneB_size])
                  all_goals try simp (disch := omega) only [wrap_id, wrap8_id]
                  all_goals
                   refine sZ [0, 2, 3, 4, 5, 7, 8, 49] (fun P S K => XvBinOV P .lss 3 (.const (.int .i64 2)) (S.get 4) (.atom (.int .i64 2)) (fun r1 _ => K ⟨[(0, S.get 0), (2, S.get 2), (3, S.get 3), (4, S.get 4), (5, S.get 5), (7, S.get 7), (8, S.get 8), (49, r1)], S.hp, S.nx, S.gh⟩)) fun K hK => ?_
                   repeat' (first | (refine hK _ ?_; clear hK K) | ((first | refine xG_intro (fun hg => ?_) (fun hg => ?_) | refine fun (hg : (_ : Prop)) => ?_) <;> ((try simp only [BQ] at hg); try (exfalso; omega))) | refine And.intro ?_ ?_ | exact cl | exact one_madeV _ | refine one_take ?_ _ | refine one_drop ?_ _ | (refine st ?_; try simp only [oneB_eq, oneB_size]) | simp only [oneB_eq, oneB_size])
                   all_goals try simp (disch := omega) only [wrap_id, wrap8_id]
                   all_goals
                    refine Tri.cond rfl (fun h49 => ?_) (fun h49 => ?_)
                    · try (cases h49; done)
                      all_goals (try simp only [CQ] at h49)
                      all_goals
                       refine rZ [0, 2, 3, 4, 5] (fun P S K => XvFieldAddr P 35 3 (S.get 3) (fun r0 _ => XvLoad P 25 (M S.hp S.nx) r0 (fun r1 _ => XvBinOV P .add 9 (.tmp 53) (S.get 7) (S.get 8) (fun r4 _ => XvBuildS P 25 1 S.nx [(0, r4)] (fun r5 e5 => (25 = 25 ∧ XvAppend P 25 (M (Eff.hp e5 S.nx S.hp) (S.nx + e5.add.length)) r1 r5 (fun r6 e6 => XvFieldAddr P 35 3 (S.get 3) (fun r7 _ => XvStore P 25 (M (Eff.hp e6 (S.nx + e5.add.length) (Eff.hp e5 S.nx S.hp)) ((S.nx + e5.add.length) + e6.add.length)) r7 r6 (fun r8 e8 => K ⟨[(0, S.get 0), (2, S.get 2), (3, S.get 3), (4, S.get 4), (5, S.get 5)], (Eff.hp e8 ((S.nx + e5.add.length) + e6.add.length) (Eff.hp e6 (S.nx + e5.add.length) (Eff.hp e5 S.nx S.hp))), (((S.nx + e5.add.length) + e6.add.length) + e8.add.length), S.gh⟩))))))))) fun K hK => ?_
                       repeat' (first | (refine hK _ ?_; clear hK K) | ((first | refine xG_intro (fun hg => ?_) (fun hg => ?_) | refine fun (hg : (_ : Prop)) => ?_) <;> ((try simp only [BQ] at hg); try (exfalso; omega))) | refine And.intro ?_ ?_ | exact cl | exact one_madeV _ | refine one_take ?_ _ | refine one_drop ?_ _ | (refine st ?_; try simp only [oneB_eq, oneB_size]) | simp only [oneB_eq, oneB_size])
                       all_goals try simp (disch := omega) only [wrap_id, wrap8_id]
                       all_goals
                        refine rZ [0, 2, 3, 4, 5] (fun P S K => XvBinOV P .add 3 (.const (.int .i64 1)) (S.get 5) (.atom (.int .i64 1)) (fun r1 _ => K ⟨[(0, S.get 0), (2, S.get 2), (3, S.get 3), (4, S.get 4), (5, r1)], S.hp, S.nx, S.gh⟩)) fun K hK => ?_
                        repeat' (first | (refine hK _ ?_; clear hK K) | ((first | refine xG_intro (fun hg => ?_) (fun hg => ?_) | refine fun (hg : (_ : Prop)) => ?_) <;> ((try simp only [BQ] at hg); try (exfalso; omega))) | refine And.intro ?_ ?_ | exact cl | exact one_madeV _ | refine one_take ?_ _ | refine one_drop ?_ _ | (refine st ?_; try simp only [oneB_eq, oneB_size]) | simp only [oneB_eq, oneB_size])
                        all_goals try simp (disch := omega) only [wrap_id, wrap8_id]
                        all_goals
                         first
                         | (refine ⟨⟨i + 1, by omega⟩, [0, 1, 6], by dsimp only; omega, ?_⟩
                            dsimp only
                            rw [orderN_lt h49]
                            exact leqW21)
                         | (refine ⟨⟨i + 1, by omega⟩, [0, 1, 6], by dsimp only; omega, ?_⟩
                            dsimp only
                            rw [orderN_ge h49]
                            exact leqW21)
                    · try (cases h49; done)
                      all_goals (try simp only [CQ] at h49)
                      all_goals
                       refine rZ [0, 2, 3, 4, 5] (fun P S K => XvFieldAddr P 35 3 (S.get 3) (fun r0 _ => XvLoad P 25 (M S.hp S.nx) r0 (fun r1 _ => XvBuildS P 25 2 S.nx [(0, (S.get 8)), (1, (S.get 7))] (fun r4 e4 => (25 = 25 ∧ XvAppend P 25 (M (Eff.hp e4 S.nx S.hp) (S.nx + e4.add.length)) r1 r4 (fun r5 e5 => XvFieldAddr P 35 3 (S.get 3) (fun r6 _ => XvStore P 25 (M (Eff.hp e5 (S.nx + e4.add.length) (Eff.hp e4 S.nx S.hp)) ((S.nx + e4.add.length) + e5.add.length)) r6 r5 (fun r7 e7 => K ⟨[(0, S.get 0), (2, S.get 2), (3, S.get 3), (4, S.get 4), (5, S.get 5)], (Eff.hp e7 ((S.nx + e4.add.length) + e5.add.length) (Eff.hp e5 (S.nx + e4.add.length) (Eff.hp e4 S.nx S.hp))), (((S.nx + e4.add.length) + e5.add.length) + e7.add.length), S.gh⟩)))))))) fun K hK => ?_
                       repeat' (first | (refine hK _ ?_; clear hK K) | ((first | refine xG_intro (fun hg => ?_) (fun hg => ?_) | refine fun (hg : (_ : Prop)) => ?_) <;> ((try simp only [BQ] at hg); try (exfalso; omega))) | refine And.intro ?_ ?_ | exact cl | exact one_madeV _ | refine one_take ?_ _ | refine one_drop ?_ _ | (refine st ?_; try simp only [oneB_eq, oneB_size]) | simp only [oneB_eq, oneB_size])
                       all_goals try simp (disch := omega) only [wrap_id, wrap8_id]
                       all_goals
                        refine rZ [0, 2, 3, 4, 5] (fun P S K => XvBinOV P .add 3 (.const (.int .i64 1)) (S.get 5) (.atom (.int .i64 1)) (fun r1 _ => K ⟨[(0, S.get 0), (2, S.get 2), (3, S.get 3), (4, S.get 4), (5, r1)], S.hp, S.nx, S.gh⟩)) fun K hK => ?_
                        repeat' (first | (refine hK _ ?_; clear hK K) | ((first | refine xG_intro (fun hg => ?_) (fun hg => ?_) | refine fun (hg : (_ : Prop)) => ?_) <;> ((try simp only [BQ] at hg); try (exfalso; omega))) | refine And.intro ?_ ?_ | exact cl | exact one_madeV _ | refine one_take ?_ _ | refine one_drop ?_ _ | (refine st ?_; try simp only [oneB_eq, oneB_size]) | simp only [oneB_eq, oneB_size])
                        all_goals try simp (disch := omega) only [wrap_id, wrap8_id]
                        all_goals
                         first
                         | (refine ⟨⟨i + 1, by omega⟩, [0, 1, 6], by dsimp only; omega, ?_⟩
                            dsimp only
                            rw [orderN_lt h49]
                            exact leqW21)
                         | (refine ⟨⟨i + 1, by omega⟩, [0, 1, 6], by dsimp only; omega, ?_⟩
                            dsimp only
                            rw [orderN_ge h49]
                            exact leqW21)
           · try (cases h29; done)
             all_goals (try simp only [CQ] at h29)
             all_goals
              refine Tri.exit ?_
              have hi26 : i = 26 := by omega
              subst hi26
              have hol := orderN_len (atI l 3 4) 26
              generalize ho : orderN (atI l 3 4) 26 = o at hol ⊢
              refine sZ [2, 3, 9] (fun P S K => XvFnIV P (M S.hp S.nx) (.fn 50 []) [(S.get 0), (.atom (.int .i64 4)), (.atom (.int .i64 3))] (fun r1 e1 => K ⟨[(2, S.get 2), (3, S.get 3), (9, r1)], (Eff.hp e1 S.nx S.hp), (S.nx + e1.add.length), S.gh⟩)) fun K hK => ?_
              repeat' (first | (refine hK _ ?_; clear hK K) | ((first | refine xG_intro (fun hg => ?_) (fun hg => ?_) | refine fun (hg : (_ : Prop)) => ?_) <;> ((try simp only [BQ] at hg); try (exfalso; omega))) | refine And.intro ?_ ?_ | exact cl | exact one_madeV _ | refine one_take ?_ _ | refine one_drop ?_ _ | refine .inl ⟨_, _, At_pure l 0 2 hl (by unfold I64; omega) (by decide), ?_⟩ | refine ⟨_, _, At_pure l 0 2 hl (by unfold I64; omega) (by decide), ?_⟩ | refine .inl ⟨_, _, At_pure l 1 2 hl (by unfold I64; omega) (by decide), ?_⟩ | refine ⟨_, _, At_pure l 1 2 hl (by unfold I64; omega) (by decide), ?_⟩ | refine .inl ⟨_, _, At_pure l 2 4 hl (by unfold I64; omega) (by decide), ?_⟩ | refine ⟨_, _, At_pure l 2 4 hl (by unfold I64; omega) (by decide), ?_⟩ | refine .inl ⟨_, _, At_pure l 3 4 hl (by unfold I64; omega) (by decide), ?_⟩ | refine ⟨_, _, At_pure l 3 4 hl (by unfold I64; omega) (by decide), ?_⟩ | refine .inl ⟨_, _, At_pure l 4 3 hl (by unfold I64; omega) (by decide), ?_⟩ | refine ⟨_, _, At_pure l 4 3 hl (by unfold I64; omega) (by decide), ?_⟩ | (refine st ?_; try simp only [oneB_eq, oneB_size]) | simp only [oneB_eq, oneB_size])
              all_goals try simp (disch := omega) only [wrap_id, wrap8_id]
              all_goals
               refine Tri.seq ?_
               refine sZ [2, 3, 9, 68] (fun P S K => XvBinOV P .eql 3 (.const (.int .i64 1)) (S.get 9) (.atom (.int .i64 1)) (fun r1 _ => K ⟨[(2, S.get 2), (3, S.get 3), (9, S.get 9), (68, r1)], S.hp, S.nx, S.gh⟩)) fun K hK => ?_
               repeat' (first | (refine hK _ ?_; clear hK K) | ((first | refine xG_intro (fun hg => ?_) (fun hg => ?_) | refine fun (hg : (_ : Prop)) => ?_) <;> ((try simp only [BQ] at hg); try (exfalso; omega))) | refine And.intro ?_ ?_ | exact cl | exact one_madeV _ | refine one_take ?_ _ | refine one_drop ?_ _ | (refine st ?_; try simp only [oneB_eq, oneB_size]) | simp only [oneB_eq, oneB_size])
               all_goals try simp (disch := omega) only [wrap_id, wrap8_id]
               all_goals
                refine Tri.cond rfl (fun h68 => ?_) (fun h68 => ?_)
                · try (cases h68; done)
                  all_goals (try simp only [CQ] at h68)
                  all_goals
                   refine rZ [2, 3, 9] (fun P S K => XvBuildS P 25 1 S.nx [(0, (.atom (.string { data := #[48, 49, 50, 51, 52, 53, 54, 55, 56, 57] })))] (fun r0 e0 => XvFieldAddr P 35 3 (S.get 3) (fun r1 _ => XvLoad P 25 (M (Eff.hp e0 S.nx S.hp) (S.nx + e0.add.length)) r1 (fun r2 _ => (25 = 25 ∧ XvAppend P 25 (M (Eff.hp e0 S.nx S.hp) (S.nx + e0.add.length)) r0 r2 (fun r3 e3 => XvFieldAddr P 35 3 (S.get 3) (fun r4 _ => XvStore P 25 (M (Eff.hp e3 (S.nx + e0.add.length) (Eff.hp e0 S.nx S.hp)) ((S.nx + e0.add.length) + e3.add.length)) r4 r3 (fun r5 e5 => K ⟨[(2, S.get 2), (3, S.get 3), (9, S.get 9)], (Eff.hp e5 ((S.nx + e0.add.length) + e3.add.length) (Eff.hp e3 (S.nx + e0.add.length) (Eff.hp e0 S.nx S.hp))), (((S.nx + e0.add.length) + e3.add.length) + e5.add.length), S.gh⟩)))))))) fun K hK => ?_
                   repeat' (first | (refine hK _ ?_; clear hK K) | ((first | refine xG_intro (fun hg => ?_) (fun hg => ?_) | refine fun (hg : (_ : Prop)) => ?_) <;> ((try simp only [BQ] at hg); try (exfalso; omega))) | refine And.intro ?_ ?_ | exact cl | exact one_madeV _ | refine one_take ?_ _ | refine one_drop ?_ _ | (refine st ?_; try simp only [oneB_eq, oneB_size]) | simp only [oneB_eq, oneB_size])
                   all_goals try simp (disch := omega) only [wrap_id, wrap8_id]
                   all_goals
                    refine Tri.seq ?_
                    refine sZ [2, 3, 75] (fun P S K => XvBinOV P .eql 3 (.const (.int .i64 2)) (S.get 9) (.atom (.int .i64 2)) (fun r1 _ => K ⟨[(2, S.get 2), (3, S.get 3), (75, r1)], S.hp, S.nx, S.gh⟩)) fun K hK => ?_
                    repeat' (first | (refine hK _ ?_; clear hK K) | ((first | refine xG_intro (fun hg => ?_) (fun hg => ?_) | refine fun (hg : (_ : Prop)) => ?_) <;> ((try simp only [BQ] at hg); try (exfalso; omega))) | refine And.intro ?_ ?_ | exact cl | exact one_madeV _ | refine one_take ?_ _ | refine one_drop ?_ _ | (refine st ?_; try simp only [oneB_eq, oneB_size]) | simp only [oneB_eq, oneB_size])
                    all_goals try simp (disch := omega) only [wrap_id, wrap8_id]
                    all_goals
                     refine Tri.cond rfl (fun h75 => ?_) (fun h75 => ?_)
                     · try (cases h75; done)
                       all_goals (try simp only [CQ] at h75)
                       all_goals
                        refine rZ [2, 3] (fun P S K => XvFieldAddr P 35 3 (S.get 3) (fun r0 _ => XvLoad P 25 (M S.hp S.nx) r0 (fun r1 _ => XvBuildS P 25 3 S.nx [(0, (.atom (.string { data := #[48, 49] }))), (1, (.atom (.string { data := #[50] }))), (2, (.atom (.string { data := #[51, 52, 53, 54, 55, 56, 57, 45] })))] (fun r2 e2 => (25 = 25 ∧ XvAppend P 25 (M (Eff.hp e2 S.nx S.hp) (S.nx + e2.add.length)) r1 r2 (fun r3 e3 => XvFieldAddr P 35 3 (S.get 3) (fun r4 _ => XvStore P 25 (M (Eff.hp e3 (S.nx + e2.add.length) (Eff.hp e2 S.nx S.hp)) ((S.nx + e2.add.length) + e3.add.length)) r4 r3 (fun r5 e5 => K ⟨[(2, S.get 2), (3, S.get 3)], (Eff.hp e5 ((S.nx + e2.add.length) + e3.add.length) (Eff.hp e3 (S.nx + e2.add.length) (Eff.hp e2 S.nx S.hp))), (((S.nx + e2.add.length) + e3.add.length) + e5.add.length), S.gh⟩)))))))) fun K hK => ?_
                        repeat' (first | (refine hK _ ?_; clear hK K) | ((first | refine xG_intro (fun hg => ?_) (fun hg => ?_) | refine fun (hg : (_ : Prop)) => ?_) <;> ((try simp only [BQ] at hg); try (exfalso; omega))) | refine And.intro ?_ ?_ | exact cl | exact one_madeV _ | refine one_take ?_ _ | refine one_drop ?_ _ | (refine st ?_; try simp only [oneB_eq, oneB_size]) | simp only [oneB_eq, oneB_size])
                        all_goals try simp (disch := omega) only [wrap_id, wrap8_id]
                        all_goals
                         refine sZ [2] (fun P S K => XvLoad P 35 (M S.hp S.nx) (S.get 3) (fun r0 _ => XvStore P 35 (M S.hp S.nx) (S.get 2) r0 (fun r1 e1 => K ⟨[(2, S.get 2)], (Eff.hp e1 S.nx S.hp), (S.nx + e1.add.length), S.gh⟩))) fun K hK => ?_
                         repeat' (first | (refine hK _ ?_; clear hK K) | ((first | refine xG_intro (fun hg => ?_) (fun hg => ?_) | refine fun (hg : (_ : Prop)) => ?_) <;> ((try simp only [BQ] at hg); try (exfalso; omega))) | refine And.intro ?_ ?_ | exact cl | exact one_madeV _ | refine one_take ?_ _ | refine one_drop ?_ _ | (refine st ?_; try simp only [oneB_eq, oneB_size]) | simp only [oneB_eq, oneB_size])
                         all_goals try simp (disch := omega) only [wrap_id, wrap8_id]
                         all_goals
                          refine Tri.ret ?_
                          show ResR _ _ _ _ _
                          have hfin : madeO (atI l 3 4) (atI l 4 3) = (if atI l 4 3 = 1 then digS :: o else if atI l 4 3 = 2 then o ++ dig3 else o) := by rw [← ho]; rfl
                          unfold madeP
                          rw [hfin]
                          refine ResR.cell1 (PV.agg [_, _, _, _]) rfl ?_ ?_
                          · simp [sealed, sealed_madeV, St.obj, lk, strs, encS, digS, dig3, h68, h75, List.take_of_length_le, Nat.add_comm 1]
                          · simp [PV.pure, pureL, pure_madeV, pure_strs]
                     · try (cases h75; done)
                       all_goals (try simp only [CQ] at h75)
                       all_goals
                        refine Tri.skip ?_
                        refine sZ [2] (fun P S K => XvLoad P 35 (M S.hp S.nx) (S.get 3) (fun r0 _ => XvStore P 35 (M S.hp S.nx) (S.get 2) r0 (fun r1 e1 => K ⟨[(2, S.get 2)], (Eff.hp e1 S.nx S.hp), (S.nx + e1.add.length), S.gh⟩))) fun K hK => ?_
                        repeat' (first | (refine hK _ ?_; clear hK K) | ((first | refine xG_intro (fun hg => ?_) (fun hg => ?_) | refine fun (hg : (_ : Prop)) => ?_) <;> ((try simp only [BQ] at hg); try (exfalso; omega))) | refine And.intro ?_ ?_ | exact cl | exact one_madeV _ | refine one_take ?_ _ | refine one_drop ?_ _ | (refine st ?_; try simp only [oneB_eq, oneB_size]) | simp only [oneB_eq, oneB_size])
                        all_goals try simp (disch := omega) only [wrap_id, wrap8_id]
                        all_goals
                         refine Tri.ret ?_
                         show ResR _ _ _ _ _
                         have hfin : madeO (atI l 3 4) (atI l 4 3) = (if atI l 4 3 = 1 then digS :: o else if atI l 4 3 = 2 then o ++ dig3 else o) := by rw [← ho]; rfl
                         unfold madeP
                         rw [hfin]
                         refine ResR.cell1 (PV.agg [_, _, _, _]) rfl ?_ ?_
                         · simp [sealed, sealed_madeV, St.obj, lk, strs, encS, digS, dig3, h68, h75, List.take_of_length_le, Nat.add_comm 1]
                         · simp [PV.pure, pureL, pure_madeV, pure_strs]
                · try (cases h68; done)
                  all_goals (try simp only [CQ] at h68)
                  all_goals
                   refine Tri.skip ?_
                   refine Tri.seq ?_
                   refine sZ [2, 3, 75] (fun P S K => XvBinOV P .eql 3 (.const (.int .i64 2)) (S.get 9) (.atom (.int .i64 2)) (fun r1 _ => K ⟨[(2, S.get 2), (3, S.get 3), (75, r1)], S.hp, S.nx, S.gh⟩)) fun K hK => ?_
                   repeat' (first | (refine hK _ ?_; clear hK K) | ((first | refine xG_intro (fun hg => ?_) (fun hg => ?_) | refine fun (hg : (_ : Prop)) => ?_) <;> ((try simp only [BQ] at hg); try (exfalso; omega))) | refine And.intro ?_ ?_ | exact cl | exact one_madeV _ | refine one_take ?_ _ | refine one_drop ?_ _ | (refine st ?_; try simp only [oneB_eq, oneB_size]) | simp only [oneB_eq, oneB_size])
                   all_goals try simp (disch := omega) only [wrap_id, wrap8_id]
                   all_goals
                    refine Tri.cond rfl (fun h75 => ?_) (fun h75 => ?_)
                    · try (cases h75; done)
                      all_goals (try simp only [CQ] at h75)
                      all_goals
                       refine rZ [2, 3] (fun P S K => XvFieldAddr P 35 3 (S.get 3) (fun r0 _ => XvLoad P 25 (M S.hp S.nx) r0 (fun r1 _ => XvBuildS P 25 3 S.nx [(0, (.atom (.string { data := #[48, 49] }))), (1, (.atom (.string { data := #[50] }))), (2, (.atom (.string { data := #[51, 52, 53, 54, 55, 56, 57, 45] })))] (fun r2 e2 => (25 = 25 ∧ XvAppend P 25 (M (Eff.hp e2 S.nx S.hp) (S.nx + e2.add.length)) r1 r2 (fun r3 e3 => XvFieldAddr P 35 3 (S.get 3) (fun r4 _ => XvStore P 25 (M (Eff.hp e3 (S.nx + e2.add.length) (Eff.hp e2 S.nx S.hp)) ((S.nx + e2.add.length) + e3.add.length)) r4 r3 (fun r5 e5 => K ⟨[(2, S.get 2), (3, S.get 3)], (Eff.hp e5 ((S.nx + e2.add.length) + e3.add.length) (Eff.hp e3 (S.nx + e2.add.length) (Eff.hp e2 S.nx S.hp))), (((S.nx + e2.add.length) + e3.add.length) + e5.add.length), S.gh⟩)))))))) fun K hK => ?_
                       repeat' (first | (refine hK _ ?_; clear hK K) | ((first | refine xG_intro (fun hg => ?_) (fun hg => ?_) | refine fun (hg : (_ : Prop)) => ?_) <;> ((try simp only [BQ] at hg); try (exfalso; omega))) | refine And.intro ?_ ?_ | exact cl | exact one_madeV _ | refine one_take ?_ _ | refine one_drop ?_ _ | (refine st ?_; try simp only [oneB_eq, oneB_size]) | simp only [oneB_eq, oneB_size])
                       all_goals try simp (disch := omega) only [wrap_id, wrap8_id]
                       all_goals
                        refine sZ [2] (fun P S K => XvLoad P 35 (M S.hp S.nx) (S.get 3) (fun r0 _ => XvStore P 35 (M S.hp S.nx) (S.get 2) r0 (fun r1 e1 => K ⟨[(2, S.get 2)], (Eff.hp e1 S.nx S.hp), (S.nx + e1.add.length), S.gh⟩))) fun K hK => ?_
                        repeat' (first | (refine hK _ ?_; clear hK K) | ((first | refine xG_intro (fun hg => ?_) (fun hg => ?_) | refine fun (hg : (_ : Prop)) => ?_) <;> ((try simp only [BQ] at hg); try (exfalso; omega))) | refine And.intro ?_ ?_ | exact cl | exact one_madeV _ | refine one_take ?_ _ | refine one_drop ?_ _ | (refine st ?_; try simp only [oneB_eq, oneB_size]) | simp only [oneB_eq, oneB_size])
                        all_goals try simp (disch := omega) only [wrap_id, wrap8_id]
                        all_goals
                         refine Tri.ret ?_
                         show ResR _ _ _ _ _
                         have hfin : madeO (atI l 3 4) (atI l 4 3) = (if atI l 4 3 = 1 then digS :: o else if atI l 4 3 = 2 then o ++ dig3 else o) := by rw [← ho]; rfl
                         unfold madeP
                         rw [hfin]
                         refine ResR.cell1 (PV.agg [_, _, _, _]) rfl ?_ ?_
                         · simp [sealed, sealed_madeV, St.obj, lk, strs, encS, digS, dig3, h68, h75, List.take_of_length_le, Nat.add_comm 1]
                         · simp [PV.pure, pureL, pure_madeV, pure_strs]
                    · try (cases h75; done)
                      all_goals (try simp only [CQ] at h75)
                      all_goals
                       refine Tri.skip ?_
                       refine sZ [2] (fun P S K => XvLoad P 35 (M S.hp S.nx) (S.get 3) (fun r0 _ => XvStore P 35 (M S.hp S.nx) (S.get 2) r0 (fun r1 e1 => K ⟨[(2, S.get 2)], (Eff.hp e1 S.nx S.hp), (S.nx + e1.add.length), S.gh⟩))) fun K hK => ?_
                       repeat' (first | (refine hK _ ?_; clear hK K) | ((first | refine xG_intro (fun hg => ?_) (fun hg => ?_) | refine fun (hg : (_ : Prop)) => ?_) <;> ((try simp only [BQ] at hg); try (exfalso; omega))) | refine And.intro ?_ ?_ | exact cl | exact one_madeV _ | refine one_take ?_ _ | refine one_drop ?_ _ | (refine st ?_; try simp only [oneB_eq, oneB_size]) | simp only [oneB_eq, oneB_size])
                       all_goals try simp (disch := omega) only [wrap_id, wrap8_id]
                       all_goals
                        refine Tri.ret ?_
                        show ResR _ _ _ _ _
                        have hfin : madeO (atI l 3 4) (atI l 4 3) = (if atI l 4 3 = 1 then digS :: o else if atI l 4 3 = 2 then o ++ dig3 else o) := by rw [← ho]; rfl
                        unfold madeP
                        rw [hfin]
                        refine ResR.cell1 (PV.agg [_, _, _, _]) rfl ?_ ?_
                        · simp [sealed, sealed_madeV, St.obj, lk, strs, encS, digS, dig3, h68, h75, List.take_of_length_le, Nat.add_comm 1]
                        · simp [PV.pure, pureL, pure_madeV, pure_strs]
end Go.Proofs.YtfnkciboencifaaDoor
